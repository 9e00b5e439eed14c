/- Polynomials over the field of 256 elements: what meets values. No condition. -/
import Derived.Test.YtboaekdecndckaaPAvSide
import Derived.Test.YtboaekdecndckaaRows
import Derived.WalkKit
set_option linter.unusedSimpArgs false
set_option linter.unusedVariables false
set_option maxRecDepth 100000
namespace Go.Proofs.Ytboaekdecndckaa
variable {F:ba} {o:aN} {r a b:AV} {K:Act->World->Prop} {listed:Array Bool} {E:Env} {f:FuncId} {x y:L3} {els:List (List AV)} {ups:List (Nat×Option Bk)} {m':List (Option Bk)} {as_ s:List AV} {acc:List Nat} {n k i c jn d m k0 j k' sz k1 i0:Nat} {σ:Nat->AV} {p:Nat->Nat} {g g':Nat->Option Bk} {ys:Nat->UInt8} {op:Oper} {P:Program} {v:Value} {w:World}
open Go.RowKit
abbrev aeM:=@Option.map_eq_some_iff
abbrev ae2:=@List.mem_map
abbrev ae4:=@List.length_set
abbrev afp:=@List.map_append
abbrev afA:=@List.take_of_length_le
abbrev af0:=@UInt8.xor_assoc
abbrev af1:=@of_decide_eq_true
abbrev af7:=@Classical.byContradiction
abbrev agf:=@UInt8.xor_comm
abbrev agh:=@UInt8.xor_zero
abbrev agz:=@UInt8.xor_self
inductive iW where
 |bh (id:Nat) (raw:Bool)
 |new (sz:Nat)
def newOf:List iW->Nat->Nat->Option Nat
 |[],_,_=>none
 | .bh i _::r,j,id=>bif Nat.beq i id then some j else newOf r (j+1) id
 | .new _::r,j,id=>newOf r (j+1) id
def jo (ρ:Nat->Option Nat):Nat->AV->AV
 |0,_=> .dead
 |d+1, .agg cs=> .agg (cs.map (jo ρ d))
 |d+1, .bm cs=> .bm (cs.map (jo ρ d))
 |d+1, .fn f cs=> .fn f (cs.map (jo ρ d))
 |d+1, .bf f cs=> .bf f (cs.map (jo ρ d))
 |d+1, .fw r cs=> .fw r (cs.map (jo ρ d))
 |_+1, .ref id sz i o=>match ρ id with
  |some j=> .ref j sz i o
  |none=> .dead
 |_+1, .own id sz off n=>match ρ id with
  |some j=> .own j sz off n
  |none=> .dead
 |_+1, .mp id=>match ρ id with
  |some j=> .mp j
  |none=> .dead
 |_+1,a=>a
def r7 (ρ:Nat->Option Nat) (B:Bk):Bk:=⟨B.sz,B.els.map fun cs=>cs.map (jo ρ 3)⟩
def n6 (m:List (Option Bk)) (src:List iW) (id:Nat):Option Nat:=bif (look m id).isSome then newOf src 0 id else none
def y6 (ρ:Nat->Option Nat) (src:List iW) (es:List (Nat×Nat)) (j:Nat) (a:AV):AV:=
 match a,es.lookup j with
 | .emp,some i=>match src[i]? with
  |some (.new sz)=> .own i sz 0 0
  |_=> .emp
 |a,_=>jo ρ 4 a
def m8 (m:List (Option Bk)) (src:List iW):iW->Option Bk
 | .bh i raw=>(look m i).map fun B=>bif raw then B else r7 (n6 m src) B
 | .new sz=>some ⟨sz,[]⟩
def srcOK (k0:Nat) (src:List iW):Bool:=
 (List.range src.length).all (fun i=>match src[i]? with
  |some (.bh id _)=>match newOf src 0 id with
   |some j=>Nat.beq j i
   |none=>false
  |some (.new sz)=>Nat.ble 1 sz
  |_=>true)&&(List.range k0).all fun i=>match src[i]? with
  |some (.bh id _)=>Nat.beq id i
  |_=>false
def Dh (k0:Nat) (live:List Nat) (src:List iW) (es:List (Nat×Nat)) (x:L3):Option L3:=
 bif srcOK k0 src then some ⟨live.map fun j=>(j,y6 (n6 x.m src) src es j (slot x.t j)),src.map (m8 x.m src)⟩ else none
def vW (ln:Nat->Nat):Option iW->Nat
 |some (.bh id _)=>ln id
 |_=>0
def tG (loc:Nat->Option Nat):Option iW->Option Nat
 |some (.bh id _)=>loc id
 |_=>none
theorem vX (h:aj E v .emp):∃A,v= .slice A 0 0:=by
 cases h with
 |emp=>exact ⟨_,rfl⟩
theorem Di:∀(src:List iW) (k id j:Nat),newOf src k id=some j->k<=j/\∃raw,src[j - k]? =some (.bh id raw)
 |[],k,id,j,h=>by simp [newOf] at h
 | .bh i raw::r,k,id,j,h=>by
  simp only [newOf] at h
  cases hb:Nat.beq i id with
  |true=>
   rw [hb] at h
   simp only [aeK,aeF] at h
   subst h
   have:=aeU hb
   subst this
   exact ⟨by omega,raw,by simp⟩
  |false=>
   rw [hb,ae0] at h
   obtain ⟨h1,h2⟩:=Di r (k+1) id j h
   refine ⟨by omega, ?_⟩
   rw [show j - k=(j - (k+1))+1 by omega,aft]
   exact h2
 | .new _::r,k,id,j,h=>by
  simp only [newOf] at h
  obtain ⟨h1,h2⟩:=Di r (k+1) id j h
  refine ⟨by omega, ?_⟩
  rw [show j - k=(j - (k+1))+1 by omega,aft]
  exact h2
theorem IS (G:Nat->AV):∀(live:List Nat) (i:Nat),slot (live.map fun j=>(j,G j)) i=G i\/slot (live.map fun j=>(j,G j)) i= .dead
 |[],i=> .inr rfl
 |j::r,i=>by
  simp only [aeR,slot]
  cases hb:Nat.beq i j with
  |true=>
   have:=aeU hb
   subst this
   exact .inl rfl
  |false=>exact IS G r i
theorem vY (m:List (Option Bk)) (src:List iW) (i:Nat):look (src.map (m8 m src)) i=(src[i]?).bind (m8 m src):=by
 unfold look
 rw [aeY]
 cases src[i]? <;>simp
section
variable {E E':Env} {ρ:Nat->Option Nat}
theorem QZ (hI:E'.I=E.I) (hw:E'.w=E.w) (hg:∀l,E.rg l->E'.rg l) (gR:∀id j,ρ id=some j->E'.kn j/\¬E'.dead j/\E'.loc j=E.loc id/\¬E.dead id/\E'.ln j=E.ln id):∀(d:Nat) {v:Value} {a:AV},aj E v a->aj E' v (jo ρ d a):=by
 have hp:∀{v:Value} {a:AV},aj E v a->Pu a->aj E' v a:=fun h hp=>h.pure (fun b hb=>⟨by rw [hI];exact hb,fun o=>by rw [hw]⟩) hp
 intro d
 induction d with
 |zero=>intro v a h;exact .dead
 |succ d ih=>
  have mW:∀{vs:Array Value} {cs:List AV},vs.size=cs.length->(∀(i:Nat) v c,vs[i]? =some v->cs[i]? =some c->aj E v c)->vs.size=(cs.map (jo ρ d)).length/\∀(i:Nat) v c,vs[i]? =some v->(cs.map (jo ρ d))[i]? =some c->aj E' v c:=by
   intro vs cs hl h
   refine ⟨by simpa using hl,fun i v c hv hc=> ?_⟩
   rw [aeY,aeM] at hc
   obtain ⟨c0,nR,rfl⟩:=hc
   exact ih (h i v c0 hv nR)
  intro v a h
  cases a with
  |v x=>exact hp h .v
  |agg cs=>cases h with|agg hl hh=>obtain ⟨q1,q2⟩:=mW hl hh;exact .agg q1 q2
  |bm cs=>cases h with|bm hl hh=>obtain ⟨q1,q2⟩:=mW hl hh;exact .bm q1 q2
  |fn f cs=>cases h with|fn hl hh=>obtain ⟨q1,q2⟩:=mW hl hh;exact .fn q1 q2
  |bf f cs=>cases h with|bf hl hh=>obtain ⟨q1,q2⟩:=mW hl hh;exact .bf q1 q2
  |fw r cs=>cases h with|fw h1 h2 h3 hl hh=>obtain ⟨q1,q2⟩:=mW hl hh;exact .fw (hg _ h1) (by rw [hI];exact h2) (by rw [hw];exact h3) q1 q2
  |aV sz els=>exact hp h .aV
  |db sz els=>exact hp h .db
  |emp=>exact hp h .emp
  |pim cs o=>exact hp h .pim
  |dP=>exact hp h .dP
  |dead=>exact .dead
  |ref id sz i o=>
   simp only [jo]
   cases hr:ρ id with
   |none=>exact .dead
   |some j=>
    obtain ⟨r1,r2,r3,r4,r5⟩:=gR id j hr
    cases h with
    |ref hi hd hb hq=>exact .ref r1 r2 (r3.trans hb) hq
    |gL hi hd ho=>exact absurd hd r4
  |own id sz off n=>
   simp only [jo]
   cases hr:ρ id with
   |none=>exact .dead
   |some j=>
    obtain ⟨r1,r2,r3,r4,r5⟩:=gR id j hr
    cases h with
    |own hi hd hb hq hs hm hl hc bJ=>exact .own r1 r2 (r3.trans hb) hq (by rw [hw];exact hs) hm hl hc (by rw [r5];exact bJ)
    |cK hi hd hb bJ=>exact .cK r1 r2 (r3.trans hb) (r5.trans bJ)
    |du hi hd ho=>exact absurd hd r4
  |mp id=>
   simp only [jo]
   cases hr:ρ id with
   |none=>exact .dead
   |some j=>
    obtain ⟨r1,r2,r3,r4,r5⟩:=gR id j hr
    cases h with
    |mp hi hd hb=>exact .mp r1 r2 (r3.trans hb)
    |k8 hi hd ho=>exact absurd hd r4
end
def pj (m:List (Option Bk)):List iW->Prop
 |[]=>True
 | .bh id true::r=>(∃(α:Type) (f:α->List AV) (xs:List α) (sz:Nat),look m id=some ⟨sz,xs.map f⟩/\∀y,(f y).all AV.pu1=true)/\pj m r
 |_::r=>pj m r
abbrev IT (m:List (Option Bk)) (id:Nat):Prop:=∃(α:Type) (f:α->List AV) (xs:List α) (sz:Nat),look m id=some ⟨sz,xs.map f⟩/\∀y,(f y).all AV.pu1=true
theorem pu {α:Type} {m:List (Option Bk)} {id:Nat} (sz:Nat) (f:α->List AV) (xs:List α) (h:look m id=some ⟨sz,xs.map f⟩) (hp:∀y,(f y).all AV.pu1=true):IT m id:=⟨α,f,xs,sz,h,hp⟩
theorem pj.get {m:List (Option Bk)}:∀{src:List iW},pj m src->∀(i id:Nat),src[i]? =some (.bh id true)->∀B,look m id=some B->∀cs,cs∈B.els->∀c,c∈cs->Pu c
 |[],_,i,id,h,B,hB,cs,hcs,c,hc=>by simp at h
 | .new _::r,hp,i,id,h,B,hB,cs,hcs,c,hc=>by
  cases i with
  |zero=>simp at h
  |succ i=>exact pj.get (src:=r) hp i id (by simpa using h) B hB cs hcs c hc
 | .bh _ false::r,hp,i,id,h,B,hB,cs,hcs,c,hc=>by
  cases i with
  |zero=>simp at h
  |succ i=>exact pj.get (src:=r) hp i id (by simpa using h) B hB cs hcs c hc
 | .bh _ true::r,hp,i,id,h,B,hB,cs,hcs,c,hc=>by
  cases i with
  |zero=>
   simp only [afg,aeF,iW.bh.injEq,and_true] at h
   subst h
   obtain ⟨⟨α,f,xs,sz,h1,h2⟩,_⟩:=hp
   rw [h1] at hB
   simp only [aeF] at hB
   subst hB
   simp only [ae2] at hcs
   obtain ⟨y,_,rfl⟩:=hcs
   have:=h2 y
   simp only [aeJ] at this
   exact AV.vH (this c hc)
  |succ i=>exact pj.get (src:=r) hp.2 i id (by simpa using h) B hB cs hcs c hc
theorem Mk.same {E':Env} (hI:E'.I=E.I) (hw:E'.w=E.w) {lo:Nat} {ds:List Deferred} (h:Mk E lo ds):Mk E' lo ds:=by
 induction h with
 |nil=>exact .nil
 |cons h1 hD hh aI t ih=>exact .cons (by rw [hI];exact h1) hD (by rw [hw];exact hh) aI ih
theorem norm_le {live:List Nat} {src:List iW} {es:List (Nat×Nat)} (h:Dh k0 live src es x=some y) (Dj:pj x.m src):x.s.Le k0 n y.s:=by
 have hp:=Dj.get
 unfold Dh at h
 cases hok:srcOK k0 src with
 |false=>rw [hok] at h;simp at h
 |true=>
 rw [hok,aeK,aeF] at h
 subst h
 simp only [srcOK,aeH,aeJ,ae6] at hok
 obtain ⟨IU,Q0⟩:=hok
 have inj:∀i id raw,src[i]? =some (.bh id raw)->newOf src 0 id=some i:=by
  intro i id raw hi
  have hlt:i<src.length:=(aeN.1 hi).1
  have:=IU i hlt
  rw [hi] at this
  simp only at this
  cases hn:newOf src 0 id with
  |none=>rw [hn] at this;simp at this
  |some j=>rw [hn] at this;simp only at this;rw [aeU this]
 have low:∀i,i<k0->∃raw,src[i]? =some (.bh i raw):=by
  intro i hi
  have:=Q0 i hi
  cases hs:src[i]? with
  |none=>rw [hs] at this;simp at this
  |some q=>
   cases q with
   |bh id raw=>rw [hs] at this;simp only at this;exact ⟨raw,by rw [aeU this]⟩
   |new sz=>rw [hs] at this;simp at this
 intro E0 J base w0 a w hk hr
 obtain ⟨E,rfl,hle,hs,hm,bK,hmk⟩:=hr.ex
 let E':Env:={ w:=E.w,kn:=fun i=>i<src.length,loc:=fun i=>tG E.loc (src[i]?),dead:=fun i=>look (src.map (m8 x.m src)) i=none,I:=E.I,ln:=fun i=>vW E.ln (src[i]?),rg:=E.rg,X:=E.X }
 have qp:∀id,look x.m id≠none->E.kn id/\¬E.dead id:=fun id hid=>by
  obtain ⟨B,hB⟩:=Option.ne_none_iff_exists'.1 hid
  exact (hm.live id).2 ⟨B,hB⟩
 have gR:∀id j,n6 x.m src id=some j->E'.kn j/\¬E'.dead j/\E'.loc j=E.loc id/\¬E.dead id/\E'.ln j=E.ln id:=by
  intro id j hj
  unfold n6 at hj
  cases hB:look x.m id with
  |none=>rw [hB] at hj;simp at hj
  |some B=>
   rw [hB] at hj
   simp only [Option.isSome_some,aeK] at hj
   obtain ⟨_,raw,h2⟩:=Di src 0 id j hj
   simp only [Nat.sub_zero] at h2
   refine ⟨(aeN.1 h2).1, ?_, ?_,(qp id (by rw [hB];simp)).2,by show vW E.ln (src[j]?)=_;rw [h2];rfl⟩
   ·show ¬look _ j=none
    rw [vY,h2];simp [m8,hB]
   ·show tG E.loc (src[j]?)=_
    rw [h2];rfl
 have hR:∀(d:Nat) {v:Value} {a:AV},aj E v a->aj E' v (jo (n6 x.m src) d a):=QZ (E:=E) (E':=E') rfl rfl (fun _ h=>h) gR
 have gN:∀i B',look (src.map (m8 x.m src)) i=some B'->(∃id raw B,src[i]? =some (.bh id raw)/\look x.m id=some B/\B'=(bif raw then B else r7 (n6 x.m src) B)/\E'.loc i=E.loc id)\/(∃sz,src[i]? =some (.new sz)/\B'=⟨sz,[]⟩/\E'.loc i=none):=by
  intro i B' aW
  rw [vY] at aW
  cases hsi:src[i]? with
  |none=>rw [hsi] at aW;simp at aW
  |some q=>
   rw [hsi] at aW
   cases q with
   |bh id raw=>
    simp only [afV,m8,aeM] at aW
    obtain ⟨B,hB,rfl⟩:=aW
    refine .inl ⟨id,raw,B,rfl,hB,rfl, ?_⟩
    show tG E.loc (src[i]?)=_
    rw [hsi];rfl
   |new sz=>
    simp only [afV,m8,aeF] at aW
    subst aW
    refine .inr ⟨sz,rfl,rfl, ?_⟩
    show tG E.loc (src[i]?)=_
    rw [hsi];rfl
 have hM:aS E' J base (look (src.map (m8 x.m src))):=by
  refine ⟨fun i=> ?_,fun i B' aW=> ?_,fun i i' b B1 B2 h1 h2 h3 h4=> ?_,fun i b B' aW hl=> ?_,hm.low,hm.size,fun i B' aW dQ=> ?_,hm.ku,fun b hb=>⟨(hm.xo b hb).1,(hm.xo b hb).2.1,fun i B' aW he=> ?_⟩⟩
  ·show (i<src.length/\¬look _ i=none)↔_
   constructor
   ·rintro ⟨_,h2⟩
    exact Option.ne_none_iff_exists'.1 h2
   ·rintro ⟨B,hB⟩
    refine ⟨?_,by rw [hB];simp⟩
    rw [vY] at hB
    cases hsi:src[i]? with
    |none=>rw [hsi] at hB;simp at hB
    |some q=>exact (aeN.1 hsi).1
  ·rcases gN i B' aW with ⟨id,raw,B,e1,e2,oX,e4⟩|⟨sz,e1,rfl,e3⟩
   ·rw [e4]
    have:=hm.at_ id B e2
    have aZ:B'.sz=B.sz/\B'.els.length=B.els.length:=by subst oX;cases raw<;>simp [r7]
    have ib:∀(i:Nat) cs',B'.els[i]? =some cs'->∃cs,B.els[i]? =some cs/\cs'.length=cs.length/\∀(j:Nat) c',cs'[j]? =some c'->∃c,cs[j]? =some c/\∀u,aj E u c->aj E' u c':=by
     subst oX
     cases raw with
     |true=>
      intro i' cs hi
      refine ⟨cs,hi,rfl,fun j c hj=>⟨c,hj,fun u hu=> ?_⟩⟩
      exact aj.pure (E:=E) (E':=E') (fun b hb=>⟨hb,fun _=>rfl⟩) hu (hp i id e1 B e2 cs (afd hi) c (afd hj))
     |false=>
      intro i' cs' hi
      simp only [ae0,r7,aeY,aeM] at hi
      obtain ⟨cs,hcs,rfl⟩:=hi
      refine ⟨cs,hcs,by simp,fun j c' hj=> ?_⟩
      rw [aeY,aeM] at hj
      obtain ⟨c,hc,rfl⟩:=hj
      exact ⟨c,hc,fun u hu=>hR 3 hu⟩
    cases hl:E.loc id with
    |none=>
     rw [hl] at this
     show B'.els=[]
     have h0:B.els=[]:=this
     have:=aZ.2
     rw [h0] at this
     exact afQ this
    |some b=>
     rw [hl] at this
     obtain ⟨q1,⟨hz,arr,t,q2,q3,q4⟩|⟨hz,Q1,clock,q2,q3,q4⟩⟩:=this
     ·refine .lU ⟨q1,arr,t,q2,by rw [aZ.1,aZ.2];exact q3,fun i cs' hi=> ?_⟩ (by rw [aZ.1];exact hz)
      obtain ⟨cs,hcs,hlen,k9⟩:=ib i cs' hi
      obtain ⟨p1,p2⟩:=q4 i cs hcs
      refine ⟨by rw [hlen,aZ.1];exact p1,fun j c' hj=> ?_⟩
      obtain ⟨c,hc,dA⟩:=k9 j c' hj
      obtain ⟨u,u1,u2,u3⟩:=p2 j c hc
      exact ⟨u,by rw [aZ.1];exact u1,u2,dA u u3⟩
     ·refine .ofMap ⟨q1,Q1,clock,q2,by rw [aZ.2];exact q3,fun i' e cs' he hi=> ?_⟩ (by rw [aZ.1];exact hz)
      subst oX
      cases raw with
      |true=>
       obtain ⟨y,k1,k2,k3⟩:=q4 i' e cs' he hi
       refine ⟨y,k1,k2,aj.pure (E:=E) (E':=E') (fun b hb=>⟨hb,fun _=>rfl⟩) k3 (hp i id e1 B e2 cs' (afd hi) y (by rw [k1];simp))⟩
      |false=>
       simp only [ae0,r7,aeY,aeM] at hi
       obtain ⟨cs,hcs,rfl⟩:=hi
       obtain ⟨y,rfl,k2,k3⟩:=q4 i' e cs he hcs
       exact ⟨jo (n6 x.m src) 3 y,rfl,k2,hR 3 k3⟩
   ·rw [e3];rfl
  ·rcases gN i B1 h1 with ⟨id,raw,B,e1,e2,_,e4⟩|⟨sz,_,_,e3⟩
   ·rcases gN i' B2 h2 with ⟨dh,Q2,B',f1,f2,_,f4⟩|⟨sz,_,_,f3⟩
    ·rw [e4] at h3;rw [f4] at h4
     have:=hm.apart id dh b B B' e2 f2 h3 h4
     subst this
     have a1:=inj i id raw e1
     have a2:=inj i' id Q2 f1
     rw [a1] at a2
     exact Option.some.inj a2
    ·rw [f3] at h4;simp at h4
   ·rw [e3] at h3;simp at h3
  ·rcases gN i B' aW with ⟨id,raw,B,e1,e2,_,e4⟩|⟨sz,_,_,e3⟩
   ·rw [e4] at hl;exact hm.out id b B e2 hl
   ·rw [e3] at hl;simp at hl
  ·show _=vW E.ln (src[i]?)
   rcases gN i B' aW with ⟨id,raw,B,e1,e2,e3,e4⟩|⟨sz,e1,e2,e3⟩
   ·rw [e1];show _=E.ln id
    rw [<-hm.len id B e2 (by subst e3;cases raw<;>simpa [r7] using dQ),e3];cases raw<;>simp [r7]
   ·rw [e1,e2];rfl
  ·rcases gN i B' aW with ⟨id,raw,B,e1,e2,_,e4⟩|⟨sz,_,_,e3⟩
   ·rw [e4] at he;exact (hm.xo b hb).2.2 id B e2 he
   ·rw [e3] at he;simp at he
 have Q3:E0.Le E':=by
  have Q4:∀id,E0.kn id->E'.loc id=E.loc id:=fun id hid=>by
   show tG E.loc (src[id]?)=_
   obtain ⟨raw,hl⟩:=low id (hk id hid)
   rw [hl];rfl
  have y7:∀id,E0.kn id->E.dead id->E'.dead id:=fun id hid hd=>by
   show look _ id=none
   obtain ⟨raw,hl⟩:=low id (hk id hid)
   rw [vY,hl]
   cases hB:look x.m id with
   |none=>simp [m8,hB]
   |some B=>exact absurd hd (qp id (by rw [hB];simp)).2
  refine ⟨fun id hid=>(low id (hk id hid)).elim fun _ hl=>(aeN.1 hl).1,hle.gB,fun id hid hd=>y7 id hid (hle.dead id hid hd),fun id hid hd=> ?_,fun id b hid hd hb=> ?_,fun id hid hd=> ?_,hle.rg,hle.fx⟩
  ·rcases hle.loc id hid hd with h|h
   ·exact .inl (y7 id hid h)
   ·exact .inr ((Q4 id hid).trans h)
  ·rcases hle.shape id b hid hd hb with h|h
   ·exact .inl (y7 id hid h)
   ·exact .inr h
  ·rcases hle.ln id hid hd with h|h
   ·exact .inl (y7 id hid h)
   ·refine .inr (Eq.trans ?_ h)
    show vW E.ln (src[id]?)=_
    obtain ⟨raw,hl⟩:=low id (hk id hid)
    rw [hl];rfl
 have Q5:Mk E' w0.heap.size a.defers:=Mk.same (E:=E) (E':=E') rfl rfl hmk
 refine ⟨⟨E',rfl,Q3,fun t=> ?_,hM,fun id hid=> ?_,Q5⟩,hr.size,hr.below,hr.gl⟩
 ·show aj E' _ (slot (live.map fun j=>(j,y6 (n6 x.m src) src es j (slot x.t j))) t)
  rcases IS (fun j=>y6 (n6 x.m src) src es j (slot x.t j)) live t with h|h
  ·rw [h]
   have ht:=hs t
   have y8:aj E (a.tmps.getD t undef) (slot x.t t):=ht
   have Q6:aj E' (a.tmps.getD t undef) (jo (n6 x.m src) 4 (slot x.t t)):=hR 4 y8
   unfold y6
   split
   ·rename_i i he hl
    rw [he] at y8
    split
    ·rename_i sz aZ
     obtain ⟨A,hA⟩:=vX y8
     rw [hA]
     have aW:look (src.map (m8 x.m src)) i=some ⟨sz,[]⟩:=by rw [vY,aZ];rfl
     have hz:sz≠0:=by
      have:=IU i (aeN.1 aZ).1
      rw [aZ] at this
      have:=afv this
      omega
     refine .cK (aeN.1 aZ).1 (by show ¬look _ i=none;rw [aW];simp) ?_ ?_
     ·show tG E.loc (src[i]?)=_
      rw [aZ];rfl
     ·show vW E.ln (src[i]?)=_
      rw [aZ];rfl
    ·obtain ⟨A,hA⟩:=vX y8
     rw [hA]
     exact .emp
   ·exact Q6
  ·rw [h];exact .dead
 ·show id<(src.map _).length
  rw [aeS];exact hid
section
variable {P:Program} {n k0:Nat} {x:L3} {Q:Ex->L3->Prop}
end
section
variable {g:Nat->Option Bk}
end
def cH (a b:AV):Prop:=∀(E:Env) (v:Value),aj E v a->aj E v b
theorem cH.refl:cH a a:=fun _ _ h=>h
theorem cH.of_eq (h:a=b):cH a b:=h▸cH.refl
theorem cH.trans {c:AV} (h:cH a b) (k:cH b c):cH a c:=fun E v r=>k E v (h E v r)
theorem cH.emp {sz:Nat}:cH .emp (.aV sz []):=fun E v h=>by
 obtain ⟨A,rfl⟩:=vX h
 exact .fy (by omega)
inductive eP:List AV->List AV->Prop
 |nil:eP [] []
 |cons {a b:AV} {r s:List AV} (h:cH a b) (t:eP r s):eP (a::r) (b::s)
theorem eP.get {r:List AV} (h:eP r s):r.length=s.length/\∀(i:Nat) b,s[i]? =some b->∃a,r[i]? =some a/\cH a b:=by
 induction h with
 |nil=>exact ⟨rfl,fun i b h=>by simp at h⟩
 |cons h t ih=>
  refine ⟨by simp [ih.1],fun i b hb=> ?_⟩
  cases i with
  |zero=>simp only [afg,aeF] at hb;subst hb;exact ⟨_,by simp,h⟩
  |succ i=>exact ih.2 i b (by simpa using hb)
theorem cH.bm {r s:List AV} (h:eP r s):cH (.bm r) (.bm s):=fun E v hv=>by
 cases hv with
 |bm hl hh=>exact .bm (hl.trans h.get.1) fun i u c hu hc=>let ⟨a,ha,m9⟩:=h.get.2 i c hc;m9 _ _ (hh i u a hu ha)
theorem cH.agg {r s:List AV} (h:eP r s):cH (.agg r) (.agg s):=fun E v hv=>by
 cases hv with
 |agg hl hh=>exact .agg (hl.trans h.get.1) fun i u c hu hc=>let ⟨a,ha,m9⟩:=h.get.2 i c hc;m9 _ _ (hh i u a hu ha)
theorem Fn.args {cR:List AV} (h:Fn P f as_ r) (ha:eP cR as_):Fn P f cR r:=fun w J vs hJ hG di=>
 h w J vs hJ hG ⟨di.1.trans ha.get.1,fun i u c hu hc=>let ⟨a,h1,h2⟩:=ha.get.2 i c hc;h2 _ _ (di.2 i u a hu h1)⟩
theorem IV (hF:cFunc P f=some F) (hl:as_.length<=F.n)
  (h:EW P F.n 0 F.code ⟨dL as_,fun _=>none,0⟩ fun x s'=>(x= .normal\/x= .ret)/\∃r',((ig s'.σ F.res).bind ph).run s'.g=some r'/\cH r' r):Fn P f as_ r:=by
 intro w J vs hJ hG di
 obtain ⟨fn,c,h1,h2,h3,h4,h5⟩:=IA hF
 have hm:aS (E0 w J) J w.heap.size (fun _=>none):=⟨fun id=>by simp [E0],fun id B hg=>by simp at hg,fun id dh b B B' hg=>by simp at hg,fun id b B hg=>by simp at hg,fun b hb=>⟨hJ b hb, .inl hb⟩,aeO _,fun id B hg=>by simp at hg,fun _ h=>h.elim,fun _ h=>h.elim⟩
 refine ID h1 h2 (wpIn_mono (h none c (E0 w J) J w.heap.size w _ w (fun _=>rfl) h4 (fun id hid=>hid.elim) ⟨⟨E0 w J,rfl,Env.Le.refl _,IB di _,hm,fun id hid=>hid.elim, .nil⟩, ?_,afy _ _,hG⟩) ?_)
 ·simp only [Array.size_append,Array.size_replicate,di.1];omega
 ·rintro e a' w' ⟨x,s',⟨hx,r',hr,Q7⟩,rfl,hrel⟩
  obtain ⟨E1,rfl,hle,tH,mS,hk,hmk⟩:=hrel.ex
  refine ⟨by rcases hx with rfl|rfl<;>simp [Ex.up],C8 _ E1 hmk fun E' hS=> ?_⟩
  have hM:=hS.mem mS
  have hs:=fun t=>hS.rep (tH t)
  obtain ⟨r0,iN,eQ⟩:=dW hr
  obtain ⟨v,e1,e2⟩:=Iz hM hs h3 iN
  have hI:∀ids b,Handed E' s'.g ids b->J b\/(w.heap.size<=b/\b<E'.w.heap.size):=by
   intro ids b hb
   rcases hb with hb|⟨id,B,_,hg,hl⟩
   ·have:=hM.low b hb
    rcases this.2 with h|h
    ·exact .inl h
    ·exact .inr ⟨h,this.1⟩
   ·have:=hM.at_ id B hg
    rw [hl] at this
    exact .inr this.lt
  have dA:aj (Proofs.Ytboaekdecndckaa.E0 E'.w fun b=>J b\/(w.heap.size<=b/\b<E'.w.heap.size)) v r:=by
   refine Q7 _ _ ?_
   cases r0 with
   |bm us=>
    simp only [ph] at eQ
    obtain ⟨l,m1,m2⟩:=dW eQ
    simp only [RM.run,aeF] at m2;subst m2
    obtain ⟨k1,k2⟩:=yV hM _ m1 (hI _)
    cases e2 with
    |bm hl h=>
     refine .bm (by rw [k1];exact hl) fun i v c hv hc=> ?_
     have hi:i<us.length:=by rw [<-k1];exact (aeN.1 hc).1
     exact k2 i v us[i] c (h i v _ hv (aeL hi)) (aeL hi) hc
   |_=>exact Ic hM _ e2 eQ (hI _)
  exact ⟨v,e1,v,rfl,dA,hS.below (aeO _) hrel.below⟩
theorem fW (hF:cFunc P f=some F) (hl:as_.length<=F.n)
  (h:EL P F.n 0 F.code (start as_) fun e x=>(e= .normal\/e= .ret)/\∃r',((ig (slot x.t) F.res).bind ph).run (look x.m)=some r'/\cH r' r):Fn P f as_ r:=by
 refine IV hF hl (EW.lx (IH as_ _ _) (EW.kJ h ?_))
 rintro e s ⟨x',rfl,h1,h2⟩
 exact ⟨h1,h2⟩
theorem Dk (hF:cFunc P f=some F) (hl:as_.length<=F.n)
  (h:EW P F.n k F.code ⟨dL as_,g,k⟩ fun x s'=>(x= .normal\/x= .ret)/\∃y:S3,s'.Le k F.n y/\(ig y.σ F.res).run y.g=some r/\y.g=g'/\y.k=k'):Fi P f as_ g k r g' k':=by
 intro E J base vs hG hm bK di
 obtain ⟨fn,c,h1,h2,h3,h4,h5⟩:=IA hF
 refine ID h1 h2 (wpIn_mono (h none c E J base E.w _ E.w (fun _=>rfl) h4 bK ⟨⟨E,rfl,Env.Le.refl E,IB di _,hm,bK, .nil⟩, ?_,afy _ _,hG⟩) ?_)
 ·simp only [Array.size_append,Array.size_replicate,di.1];omega
 ·rintro e a' w' ⟨x,s',⟨hx,y,hy,hr,rfl,rfl⟩,rfl,Q8⟩
  have hrel:=hy E J base E.w a' w' bK Q8
  obtain ⟨E',rfl,hle,hs,hM,hk,hmk⟩:=hrel.ex
  refine ⟨by rcases hx with rfl|rfl<;>simp [Ex.up],C8 _ E' hmk fun E2 hS=> ?_⟩
  have y9:=hS.mem hM
  obtain ⟨v,e1,e2⟩:=Iz y9 (fun t=>hS.rep (hs t)) h3 hr
  exact ⟨v,e1,v,E2,rfl,rfl,hS.le hle (fun b hb=>(hm.low b hb).1) (fun b hb=>(hm.xo b hb).1),e2,y9,hS.below hm.size hrel.below,fun id hid=>hk id (by rw [<-hS.eqs.1];exact hid)⟩
theorem fV (hF:cFunc P f=some F) (hl:as_.length<=F.n) {m:List (Option Bk)}
  (h:EL P F.n m.length F.code ⟨qz 0 as_,m⟩ fun e x=>(e= .normal\/e= .ret)/\∃y:L3,x.s.Le m.length F.n y.s/\(ig (slot y.t) F.res).run (look y.m)=some r/\y.m=m'):Fi P f as_ (look m) m.length r (look m') m'.length:=by
 refine Dk hF hl (EW.lx (IH as_ _ _) (EW.kJ h ?_))
 rintro e s ⟨x',rfl,h1,y,h2,h3,rfl⟩
 exact ⟨h1,y.s,h2,h3,rfl,rfl⟩
theorem Q9 (h:Fi P f as_ (look []) 0 (.own 0 sz 0 els.length) (look [some ⟨sz,els⟩]) 1):Fo P f as_ sz els:=by
 intro w J vs hJ hG di
 have hm:aS (E0 w J) J w.heap.size (look []):=⟨fun id=>by simp [E0,look],fun id B hg=>by simp [look] at hg,fun id dh b B B' hg=>by simp [look] at hg,fun id b B hg=>by simp [look] at hg,fun b hb=>⟨hJ b hb, .inl hb⟩,aeO _,fun id B hg=>by simp [look] at hg,fun _ h=>h.elim,fun _ h=>h.elim⟩
 refine (h (E0 w J) J w.heap.size vs hG hm (fun id hid=>hid.elim) di).mono ?_
 rintro e w' ⟨v,E',he,hw,hle,hr,hM,hb,hk⟩
 have hg:look [some (⟨sz,els⟩:Bk)] 0=some ⟨sz,els⟩:=rfl
 obtain ⟨k1,k2⟩:=(hM.live 0).2 ⟨_,hg⟩
 exact ⟨v,E',he,hw,hb,hr,k1,k2,hM.at_ 0 _ hg,(hM.len 0 _ hg (hr.s9 k2)).symm⟩
section
variable {P:Program} {n k0:Nat} {x:L3} {K:L3->Prop} {R:List aN} {k:Nat}
end
section
variable {o:aN} {x:L3}
end
theorem Ra {x c:Int} (h:0<=x):x.tmod c=x%c:=Int.tmod_eq_emod_of_nonneg h
open Go.RowKit
def za (sz:Nat):List aN:=[⟨some 8, .mov (.s 0),none⟩,⟨some 9, .mov (.s 1),none⟩,⟨some 10, .mov (.s 2),none⟩,⟨some 11, .mov (.s 0),none⟩,⟨some 12, .len false (.s 11),none⟩,⟨some 13, .slc sz (.s 8) (some (.s 9)) (some (.s 10)) (some (.s 12)),none⟩]
def Rb:List aN:=[⟨some 14, .mov (.s 1),none⟩,⟨some 15, .mov (.s 2),none⟩,⟨some 16, .bin false .eql (.s 14) (.s 15),none⟩]
def Rc:List aN:=[⟨some 17, .mov (.s 0),none⟩,⟨some 6, .mov (.s 17),none⟩]
def zb:List aN:=[⟨some 18, .mov (.s 0),none⟩,⟨some 19, .len false (.s 18),none⟩,⟨some 7, .mov (.s 19),none⟩]
def Rd (sz by_:Nat):List aN:=[⟨some 20, .mov (.s 0),none⟩,⟨some 21, .mov (.s 1),none⟩,⟨some 22, .slc sz (.s 20) none (some (.s 21)) none,none⟩,⟨some 23, .mov (.s 0),none⟩,⟨some 24, .mov (.s 2),none⟩,⟨some 25, .slc sz (.s 23) (some (.s 24)) none none,none⟩,⟨some 26, .app sz by_ (.s 22) (.s 25),none⟩,⟨some 0, .mov (.s 26),none⟩]
def zc (sz:Nat) (zs:List AV):List aN:=[⟨some 27, .mov (.s 0),none⟩,⟨some 28, .mov (.s 0),none⟩,⟨some 29, .len false (.s 28),none⟩,⟨some 30, .mov (.s 7),none⟩,⟨some 31, .slc sz (.s 27) (some (.s 29)) (some (.s 30)) none,none⟩,⟨none, .clr zs (.s 31),none⟩]
def Re:List aN:=[⟨some 32, .mov (.s 0),none⟩,⟨some 6, .mov (.s 32),none⟩]
def Rf:List (List Nat):=[[],[],[0,1],[],[],[3,4],[2,5,0,1,3,4],[6,0,1,2,3,4,5]]
def Dl (sz by_:Nat) (zs:List AV):ba:=⟨33,[.tmp 6],
 .seq (.cC [⟨some 6, .mov (.c .emp),none⟩] none)
 (.seq (.cC (za sz) none)
 (.seq (.seq (.cC Rb none)
 (.cond (.s 16)
  (.seq (.cC Rc none)
  (.ret))
  (.skip)))
 (.seq (.cC zb none)
 (.seq (.cC (Rd sz by_) (some Rf))
 (.seq (.cC (zc sz zs) none)
 (.seq (.cC Re none)
 (.ret)))))))⟩
def pk (m:List (Option Bk)) (id:Nat) (B:Bk):List (Option Bk):=m.set id none++[none,some B]
theorem Rg {id t0:Nat} (hB:look x.m id=some ⟨sz,els⟩) (hc:c<=els.length) (hs:slot x.t t0= .own id sz 0 c) (hy:y.t=[(t0, .own x.m.length sz 0 c)]) (hm:y.m=x.m.set id none++[some ⟨sz,els.take c⟩]):x.s.Le k0 n y.s:=by
 intro E0 J base w0 a w hk hr
 obtain ⟨E,rfl,hle,c8,dV,bK,hmk⟩:=hr.ex
 have hid:id<x.m.length:=by
  rcases afq id x.m.length with h|h
  ·exact h
  ·unfold look at hB;rw [afM h] at hB;simp at hB
 have hf:¬E.kn x.m.length:=fun hh=>afL _ (bK _ hh)
 have eF:sz≠0:=(show aj E (a.tmps.getD t0 undef) (.own id sz 0 c) by rw [<-hs];exact c8 t0).s9 ((dV.live id).2 ⟨_,hB⟩).2
 obtain ⟨E',hw,hE,hM,k1,k2,k3,k4,k5⟩:=dV.move hf id ⟨sz,els⟩ ⟨sz,els.take c⟩ hB E.w (fun _ _=>rfl) rfl (fun _ _=>rfl) (fun E' hE hw=>by
  have:=(dV.at_ id _ hB)
  cases hl:E.loc id with
  |none=>
   rw [hl] at this
   have h0:els=[]:=this
   show els.take c=[]
   rw [h0];simp
  |some b=>
   rw [hl] at this
   obtain ⟨q1,arr,t,q2,q3,q4⟩:=this.cells eF
   refine .lU ⟨q1,arr,t,by rw [hw];exact q2, ?_,fun i cs hi=> ?_⟩ eF
   ·refine afb (afe _ ?_) q3
    simp only [afu];omega
   ·have aY:els[i]? =some cs:=by
     simp only [afT] at hi
     split at hi
     ·exact hi
     ·simp at hi
    refine ⟨(q4 i cs aY).1,fun j x hj=> ?_⟩
    obtain ⟨u,u1,u2,u3⟩:=(q4 i cs aY).2 j x hj
    exact ⟨u,u1,u2,u3.step hE⟩)
 have hg:aJ (look x.m) [(id,none),(x.m.length,some ⟨sz,els.take c⟩)]=look y.m:=by
  rw [hm]
  have e1:=C9 x.m id none (by omega)
  rw [aeG hid] at e1
  have e2:=C9 (x.m.set id none) x.m.length (some ⟨sz,els.take c⟩) (by simp)
  rw [aeE (by simp)] at e2
  rw [e2,e1]
  rfl
 have hM:=hg▸(show aS E' J base (aJ (look x.m) [(id,none),(x.m.length,some ⟨sz,els.take c⟩)]) from hM)
 refine ⟨⟨E',hw,hle.trans hE,fun t=> ?_,hM,fun j hj=> ?_,hmk.step hE⟩,hr.size,hr.below,hr.gl⟩
 ·show aj E' _ (slot y.t t)
  rw [hy]
  simp only [slot]
  cases hb:Nat.beq t t0 with
  |false=>exact .dead
  |true=>
   have:=aeU hb
   subst this
   have hv:=c8 t
   have hv':aj E (a.tmps.getD t undef) (.own id sz 0 c):=by rw [<-hs];exact hv
   have qp:=(dV.live id).2 ⟨_,hB⟩
   have hlen:c<=els.length:=hc
   simp only [aeK]
   obtain ⟨vv,dv⟩:∃vv,vv=a.tmps.getD t undef:=⟨_,rfl⟩
   rw [<-dv] at hv' ⊢
   cases hv' with
   |du hi hd=>exact absurd hd qp.2
   |own hi hd hb hq vT eZ hl hcc bJ=>
    refine .own k1 k2 (k3.trans hb) hq (by rw [hw];exact vT) eZ hl hcc (by rw [k5];simp only [afu];omega)
   |cK hi hd hb bJ=>exact .cK k1 k2 (k3.trans hb) (by rw [k5];simp)
 ·show j<y.m.length
  rw [hm]
  simp only [afK,ae4,agc,List.length_nil]
  rcases k4 j hj with h|h
  ·have h':j<x.m.length:=bK j h
   omega
  ·omega
section
variable {o:aN} {x:L3}
theorem r8 {a:Arg} (h:aR σ a=VI n):ee (aR σ) (some a)=some (some n):=by
 simp only [ee,h,natOf]
 rw [aeG (by omega)];simp
theorem IW (a:Arg) (lo hi:Option Arg) (sz id off n l h:Nat) (na aY:Option Nat) (B:Bk) (ho:o.ao= .slc sz a lo hi none) (hg:cB (slot x.t) o.guard=some true) (ha:aR (slot x.t) a= .own id sz off n) (jR:ee (aR (slot x.t)) lo=some na) (gO:ee (aR (slot x.t)) hi=some aY) (jT:bounds n na aY=some (l,h)) (hB:look x.m id=some B):
  fQ o x= .done (.own id sz (off+l) (h - l)) [] [id]:=by
 have hn:ee (aR (slot x.t)) none=some none:=rfl
 have hs:(AO.slc sz a lo hi none).aq x.m.length (aR (slot x.t))= .lv id (.ret (.done (.own id sz (off+l) (h - l)) [])):=by simp [AO.aq,ha,jR,gO,hn,jT,RM.opt]
 exact nZ _ (acc:=[]) (see:=[id]) ho hg (by rw [hs];simp [RM.run,hB]) (by rw [hs];rfl) (by rw [hs];rfl)
theorem Ri (a:Arg) (lo hi:Option Arg) (mx:Arg) (sz id off n l h mm:Nat) (na aY:Option Nat) (B:Bk) (ho:o.ao= .slc sz a lo hi (some mx)) (hg:cB (slot x.t) o.guard=some true) (ha:aR (slot x.t) a= .own id sz off n) (jR:ee (aR (slot x.t)) lo=some na) (gO:ee (aR (slot x.t)) hi=some aY) (kC:ee (aR (slot x.t)) (some mx)=some (some mm)) (jT:bounds n na aY=some (l,h)) (hB:look x.m id=some B) (h1:B.els.length<=off+mm) (h2:h<=mm/\mm<=n) (h3:mm≠l) (nQ:B.sz=sz:=by rfl):
  fQ o x= .done (.own id sz (off+l) (h - l)) [] [id,id]:=by
 have hs:(AO.slc sz a lo hi (some mx)).aq x.m.length (aR (slot x.t))= .lv id (.rd id fun B=>if B.sz=sz/\B.els.length<=off+mm then .ret (.done (.own id sz (off+l) (h - l)) []) else .fail):=by
  simp [AO.aq,ha,jR,gO,kC,jT,RM.opt,h2,h3]
 exact nZ _ (acc:=[id]) (see:=[id]) ho hg (by rw [hs];simp [RM.run,hB,h1,nQ]) (by rw [hs];simp [RM.acc,hB,h1,nQ]) (by rw [hs];simp [RM.see,hB,h1,nQ])
theorem Rj (a:Arg) (lo hi:Option Arg) (sz id off n l h:Nat) (na:Option Nat) (hh:Nat) (B:Bk) (ho:o.ao= .slc sz a lo hi none) (hg:cB (slot x.t) o.guard=some true) (ha:aR (slot x.t) a= .own id sz off n) (jR:ee (aR (slot x.t)) lo=some na) (gO:ee (aR (slot x.t)) hi=some (some hh)) (ij:bounds n na (some hh)=none) (hB:look x.m id=some B) (jT:bounds (B.els.length - off) na (some hh)=some (l,h)) (nQ:B.sz=sz:=by rfl):
  fQ o x= .done (.own id sz (off+l) (h - l)) [] [id,id]:=by
 have hn:ee (aR (slot x.t)) none=some none:=rfl
 have hs:(AO.slc sz a lo hi none).aq x.m.length (aR (slot x.t))= .lv id (.rd id fun B=>if B.sz=sz then .opt ((bounds (B.els.length - off) na (some hh)).map fun b=> .done (.own id sz (off+b.1) (b.2 - b.1)) []) else .fail):=by simp [AO.aq,ha,jR,gO,hn,ij]
 exact nZ _ (acc:=[id]) (see:=[id]) ho hg (by rw [hs];simp [RM.run,RM.opt,hB,jT,nQ]) (by rw [hs];simp [RM.acc,RM.opt,hB,jT,nQ]) (by rw [hs];simp [RM.see,RM.opt,hB,jT,nQ])
theorem Rk (s a:Arg) (sz by_ id off n:Nat) (els ys:List (List AV)) (w:AV) (acc:List Nat) (ho:o.ao= .app sz by_ s a) (hg:cB (slot x.t) o.guard=some true) (hs:aR (slot x.t) s= .own id sz off n) (ha:aR (slot x.t) a=w) (c1:(content sz w).run (look x.m)=some ys) (c2:(content sz w).acc (look x.m)=acc) (c3:(content sz w).see (look x.m)=[])
  (hB:look x.m id=some ⟨sz,els⟩) (ij:¬(off=0/\n=els.length)) (hfit:off+n+ys.length<=els.length):
  fQ o x= .done (.own id sz off (n+ys.length)) [(id,some ⟨sz,els.take (off+n)++ys++els.drop (off+n+ys.length)⟩),(x.m.length,none)] (acc++[id]):=by
 let F:List (List AV)->RM Out:=fun ys=> .rd id fun B=>if sz=sz/\B.sz=sz/\off=0/\n=B.els.length/\(n+ys.length)*by_<=140737488355328 then .ret (.done (.own x.m.length sz 0 (n+ys.length)) [(id,none),(x.m.length,some ⟨sz,B.els++ys⟩)])
  else if sz=sz/\B.sz=sz/\off+n+ys.length<=B.els.length then .ret (.done (.own id sz off (n+ys.length)) [(id,some ⟨B.sz,B.els.take (off+n)++ys++B.els.drop (off+n+ys.length)⟩),(x.m.length,none)]) else .fail
 have dX:(AO.app sz by_ s a).aq x.m.length (aR (slot x.t))=(content sz w).bind F:=by simp [AO.aq,hs,ha,F]
 obtain ⟨r1,r2,r3⟩:=run_bind (f:=F) _ c1
 have Dm:¬(off=0/\n=els.length/\(n+ys.length)*by_<=140737488355328):=fun h=>ij ⟨h.1,h.2.1⟩
 have Rl:(F ys).run (look x.m)=some (.done (.own id sz off (n+ys.length)) [(id,some ⟨sz,els.take (off+n)++ys++els.drop (off+n+ys.length)⟩),(x.m.length,none)]):=by
  simp only [F,RM.run,hB,true_and];rw [aeE Dm,aeG hfit];rfl
 have Rm:(F ys).acc (look x.m)=[id]:=by
  simp only [F,RM.acc,hB,true_and];rw [aeE Dm,aeG hfit];rfl
 have Rn:(F ys).see (look x.m)=[]:=by
  simp only [F,RM.see,hB,true_and];rw [aeE Dm,aeG hfit];rfl
 have:=nZ (AO.app sz by_ s a) (o:=o) (x:=x) (acc:=acc++[id]) (see:=[]) ho hg (by rw [dX,r1];exact Rl) (by rw [dX,r2,c2,Rm]) (by rw [dX,r3,c3,Rn];rfl)
 simpa using this
theorem Ro (zs:List AV) (a:Arg) (sz id off n:Nat) (els:List (List AV)) (ho:o.ao= .clr zs a) (hg:cB (slot x.t) o.guard=some true) (hz:zs.length=sz) (ha:aR (slot x.t) a= .own id sz off n) (hB:look x.m id=some ⟨sz,els⟩) (hfit:off+n<=els.length):
  fQ o x= .done (.v undef) [(id,some ⟨sz,els.take off++List.replicate n zs++els.drop (off+n)⟩)] [id]:=by
 subst hz
 have hs:(AO.clr zs a).aq x.m.length (aR (slot x.t))= .rd id fun B=>if B.sz=zs.length/\off+n<=B.els.length then .ret (.done (.v undef) [(id,some ⟨B.sz,B.els.take off++List.replicate n zs++B.els.drop (off+n)⟩)]) else .fail:=by simp [AO.aq,ha]
 exact nZ _ (acc:=[id]) (see:=[]) ho hg (by rw [hs];simp [RM.run,hB,hfit]) (by rw [hs];simp [RM.acc,hB,hfit]) (by rw [hs];simp [RM.see,hB,hfit])
end
section
variable {P:Program} {sz by_:Nat} {zs:List AV} {m:List (Option Bk)} {id i:Nat} {els:List (List AV)}
theorem Rp {B:Bk} (hB:look m id=some B):id<m.length:=by
 rcases afq id m.length with h|h
 ·exact h
 ·unfold look at hB;rw [afM h] at hB;simp at hB
theorem Rq (hF:cFunc P f=some (Dl sz by_ zs)) (hz:zs.length=sz) (hB:look m id=some ⟨sz,els⟩) (hi:i<els.length) (hb:els.length<=4611686018427387904):
  Fi P f [.own id sz 0 els.length,VI i,VI (i+1:Nat)] (look m) m.length (.own (m.length+1) sz 0 (els.length - 1)) (look (pk m id ⟨sz,els.eraseIdx i⟩)) (pk m id ⟨sz,els.eraseIdx i⟩).length:=by
 have hid:=Rp hB
 have e1:((i:Int)).toNat=i:=by omega
 have e2:(((i+1:Nat):Int)).toNat=i+1:=by omega
 have e3:((els.length:Int)).toNat=els.length:=by omega
 have p1:(0:Int)<=(i:Int):=by omega
 have p2:(0:Int)<=((i+1:Nat):Int):=by omega
 have p3:(0:Int)<=(els.length:Int):=by omega
 refine fV hF (by show 3<=33;omega) ?_
 refine EL.qA ?_
 refine OW.last 1 [0,1,2] (x':=⟨[(0, .own id sz 0 els.length),(1,VI i),(2,VI (i+1:Nat))],m⟩) (by kernel_rfl) (by kernel_rfl) ?_
 refine EL.qA ?_
 refine OW.run 4 (x':=⟨[(11, .own id sz 0 els.length),(10,VI (i+1:Nat)),(9,VI i),(8, .own id sz 0 els.length),(0, .own id sz 0 els.length),(1,VI i),(2,VI (i+1:Nat))],m⟩) (by kernel_rfl) ?_
 refine OW.m7 (v:=VI els.length) (u:=[]) (acc:=[id]) (x':=⟨[(12,VI els.length),(11, .own id sz 0 els.length),(10,VI (i+1:Nat)),(9,VI i),(8, .own id sz 0 els.length),(0, .own id sz 0 els.length),(1,VI i),(2,VI (i+1:Nat))],m⟩) (by kernel_rfl) (nZ _ (acc:=[]) (see:=[id]) rfl rfl (by simp [opD,za,AO.aq,aR,slot,RM.run,hB,goInt]) (by simp [opD,za,AO.aq,aR,slot,RM.acc]) (by simp [opD,za,AO.aq,aR,slot,RM.see])) (by kernel_rfl) ?_
 refine OW.m7 (v:= .own id sz (0+i) (i+1 - i)) (u:=[]) (acc:=[id,id]) (x':=⟨[(13, .own id sz (0+i) (i+1 - i)),(12,VI els.length),(11, .own id sz 0 els.length),(10,VI (i+1:Nat)),(9,VI i),(8, .own id sz 0 els.length),(0, .own id sz 0 els.length),(1,VI i),(2,VI (i+1:Nat))],m⟩) (by kernel_rfl)
  (Ri (.s 8) (some (.s 9)) (some (.s 10)) (.s 12) sz id 0 els.length i (i+1) els.length (some i) (some (i+1)) ⟨sz,els⟩ rfl rfl rfl (r8 (by rfl)) (r8 (by rfl)) (r8 (by rfl)) (by simp [bounds];omega) hB (by simp) ⟨by omega,by omega⟩ (by omega)) (by kernel_rfl) ?_
 refine OW.last 0 [0,1,2] (x':=⟨[(0, .own id sz 0 els.length),(1,VI i),(2,VI (i+1:Nat))],m⟩) (by kernel_rfl) (by kernel_rfl) ?_
 refine EL.seq ?_
 refine EL.qA ?_
 refine OW.last 3 [0,1,2,16] (x':=⟨[(16, .v (.bool ((i:Int)==((i+1:Nat):Int)))),(0, .own id sz 0 els.length),(1,VI i),(2,VI (i+1:Nat))],m⟩) (by kernel_rfl) (by kernel_rfl) ?_
 have aI:((i:Int)==((i+1:Nat):Int))=false:=by simp;omega
 rw [aI]
 refine EL.IQ (by kernel_rfl) ?_
 refine EL.skip ?_
 refine tN ?_
 refine EL.qA ?_
 refine OW.run 1 (x':=⟨[(18, .own id sz 0 els.length),(16, .v (.bool false)),(0, .own id sz 0 els.length),(1,VI i),(2,VI (i+1:Nat))],m⟩) (by kernel_rfl) ?_
 refine OW.m7 (v:=VI els.length) (u:=[]) (acc:=[id]) (x':=⟨[(19,VI els.length),(18, .own id sz 0 els.length),(16, .v (.bool false)),(0, .own id sz 0 els.length),(1,VI i),(2,VI (i+1:Nat))],m⟩) (by kernel_rfl) (nZ _ (acc:=[]) (see:=[id]) rfl rfl (by simp [opD,zb,AO.aq,aR,slot,RM.run,hB,goInt]) (by simp [opD,zb,AO.aq,aR,slot,RM.acc]) (by simp [opD,zb,AO.aq,aR,slot,RM.see])) (by kernel_rfl) ?_
 refine OW.last 1 [0,1,2,7] (x':=⟨[(7,VI els.length),(0, .own id sz 0 els.length),(1,VI i),(2,VI (i+1:Nat))],m⟩) (by kernel_rfl) (by kernel_rfl) ?_
 refine EL.QT ?_
 refine DW.run 2 (x':=⟨[(21,VI i),(20, .own id sz 0 els.length),(7,VI els.length),(0, .own id sz 0 els.length),(1,VI i),(2,VI (i+1:Nat))],m⟩) (by kernel_rfl) ?_
 refine DW.m7 (v:= .own id sz (0+0) (i - 0)) (u:=[]) (acc:=[id]) (x':=⟨[(22, .own id sz (0+0) (i - 0)),(21,VI i),(20, .own id sz 0 els.length),(7,VI els.length),(0, .own id sz 0 els.length),(1,VI i),(2,VI (i+1:Nat))],m⟩) (by kernel_rfl)
  (IW (.s 20) none (some (.s 21)) sz id 0 els.length 0 i none (some i) ⟨sz,els⟩ rfl rfl rfl rfl (r8 (by rfl)) (by simp [bounds];omega) hB) (by kernel_rfl) ?_
 refine DW.run 2 (x':=⟨[(24,VI (i+1:Nat)),(23, .own id sz 0 els.length),(22, .own id sz (0+0) (i - 0)),(21,VI i),(20, .own id sz 0 els.length),(7,VI els.length),(0, .own id sz 0 els.length),(1,VI i),(2,VI (i+1:Nat))],m⟩) (by kernel_rfl) ?_
 refine DW.m7 (v:= .own id sz (0+(i+1)) (els.length - (i+1))) (u:=[]) (acc:=[id]) (x':=⟨[(25, .own id sz (0+(i+1)) (els.length - (i+1))),(24,VI (i+1:Nat)),(23, .own id sz 0 els.length),(22, .own id sz (0+0) (i - 0)),(21,VI i),(20, .own id sz 0 els.length),(7,VI els.length),(0, .own id sz 0 els.length),(1,VI i),(2,VI (i+1:Nat))],m⟩) (by kernel_rfl)
  (IW (.s 23) (some (.s 24)) none sz id 0 els.length (i+1) els.length (some (i+1)) none ⟨sz,els⟩ rfl rfl rfl (r8 (by rfl)) rfl (by simp [bounds];omega) hB) (by kernel_rfl) ?_
 obtain ⟨ys,nS⟩:∃ys,ys=(els.drop (0+(i+1))).take (els.length - (i+1)):=⟨_,rfl⟩
 have Im:ys.length=els.length - (i+1):=by rw [nS];simp
 obtain ⟨jU,r9⟩:∃jU,jU=els.take (0+0+(i - 0))++ys++els.drop (0+0+(i - 0)+ys.length):=⟨_,rfl⟩
 have zd:jU.length=els.length:=by rw [r9];simp;omega
 obtain ⟨m2,mQ⟩:∃m2,m2=m.set id (some ⟨sz,jU⟩)++[none]:=⟨_,rfl⟩
 have gP:iD m [(id,some ⟨sz,jU⟩),(m.length,none)]=m2:=by
  simp only [iD]
  rw [aeG hid,aeE (by simp),mQ]
 have sa:m2.length=m.length+1:=by rw [mQ];simp
 have Dn:look m2 id=some ⟨sz,jU⟩:=by
  rw [mQ];unfold look
  rw [afk (by simpa using hid)]
  simp [hid]
 have n7:(content sz (.own id sz (0+(i+1)) (els.length - (i+1)))).run (look m)=some ys:=by
  simp only [content,RM.run,hB,true_and];rw [aeG (by omega),nS];rfl
 have Dp:(content sz (.own id sz (0+(i+1)) (els.length - (i+1)))).acc (look m)=[id]:=by
  simp only [content,RM.acc,hB,true_and];rw [aeG (by omega)];rfl
 have Dq:(content sz (.own id sz (0+(i+1)) (els.length - (i+1)))).see (look m)=[]:=by
  simp only [content,RM.see,hB,true_and];rw [aeG (by omega)];rfl
 have tI:upsOK m.length [(id,some (⟨sz,jU⟩:Bk)),(m.length,none)]=true:=by
  simp only [upsOK];rw [aeG hid];simp;omega
 refine DW.m7 (v:= .own id sz (0+0) (i - 0+ys.length)) (u:=[(id,some ⟨sz,jU⟩),(m.length,none)]) (acc:=[id]++[id]) (x':=⟨[(26, .own id sz (0+0) (i - 0+ys.length)),(25, .own id sz (0+(i+1)) (els.length - (i+1))),(24,VI (i+1:Nat)),(23, .own id sz 0 els.length),(22, .own id sz (0+0) (i - 0)),(21,VI i),(20, .own id sz 0 els.length),(7,VI els.length),(0, .own id sz 0 els.length),(1,VI i),(2,VI (i+1:Nat))],m2⟩) (by kernel_rfl)
  (by rw [r9];exact Rk (.s 22) (.s 25) sz by_ id (0+0) (i - 0) els ys _ [id] rfl rfl rfl rfl n7 Dp Dq hB (by rintro ⟨_,h⟩;omega) (by omega)) (by
   show (bif dstOK 33 (some 26)&&upsOK m.length [(id,some (⟨sz,jU⟩:Bk)),(m.length,none)] then _ else _)=_
   rw [tI,gP];rfl) ?_
 obtain ⟨t3,ht3⟩:∃t3:List (Nat×AV),t3=[(0, .own id sz (0+0) (i - 0+ys.length)),(2,VI (i+1:Nat)),(7,VI els.length)]:=⟨_,rfl⟩
 refine DW.last 1 [0,7] (x':=⟨[(0, .own id sz (0+0) (i - 0+ys.length)),(7,VI els.length)],m2⟩) (by kernel_rfl) (by kernel_rfl) ?_
 have q1:i - 0+ys.length=els.length - 1:=by omega
 rw [q1]
 refine EL.qA ?_
 refine OW.run 2 (x':=⟨[(28, .own id sz (0+0) (els.length - 1)),(27, .own id sz (0+0) (els.length - 1)),(0, .own id sz (0+0) (els.length - 1)),(7,VI els.length)],m2⟩) (by kernel_rfl) ?_
 refine OW.m7 (v:=VI (els.length - 1:Nat)) (u:=[]) (acc:=[id]) (x':=⟨[(29,VI (els.length - 1:Nat)),(28, .own id sz (0+0) (els.length - 1)),(27, .own id sz (0+0) (els.length - 1)),(0, .own id sz (0+0) (els.length - 1)),(7,VI els.length)],m2⟩) (by kernel_rfl) (nZ _ (acc:=[]) (see:=[id]) rfl rfl (by simp [opD,zc,AO.aq,aR,slot,RM.run,Dn,goInt]) (by simp [opD,zc,AO.aq,aR,slot,RM.acc]) (by simp [opD,zc,AO.aq,aR,slot,RM.see])) (by kernel_rfl) ?_
 refine OW.run 1 (x':=⟨[(30,VI els.length),(29,VI (els.length - 1:Nat)),(28, .own id sz (0+0) (els.length - 1)),(27, .own id sz (0+0) (els.length - 1)),(0, .own id sz (0+0) (els.length - 1)),(7,VI els.length)],m2⟩) (by kernel_rfl) ?_
 refine OW.m7 (v:= .own id sz (0+0+(els.length - 1)) (els.length - (els.length - 1))) (u:=[]) (acc:=[id,id]) (x':=⟨[(31, .own id sz (0+0+(els.length - 1)) (els.length - (els.length - 1))),(30,VI els.length),(29,VI (els.length - 1:Nat)),(28, .own id sz (0+0) (els.length - 1)),(27, .own id sz (0+0) (els.length - 1)),(0, .own id sz (0+0) (els.length - 1)),(7,VI els.length)],m2⟩) (by kernel_rfl)
  (Rj (.s 27) (some (.s 29)) (some (.s 30)) sz id (0+0) (els.length - 1) (els.length - 1) els.length (some (els.length - 1)) els.length ⟨sz,jU⟩ rfl rfl rfl (r8 (by rfl)) (r8 (by rfl)) (by simp only [bounds,afz];rw [aeE (by omega)]) Dn (by simp only [bounds,afz];rw [aeG ⟨by omega,by show _<=jU.length - (0+0);omega⟩])) (by kernel_rfl) ?_
 obtain ⟨iE,Dr⟩:∃iE,iE=jU.take (0+0+(els.length - 1))++List.replicate (els.length - (els.length - 1)) zs++jU.drop (0+0+(els.length - 1)+(els.length - (els.length - 1))):=⟨_,rfl⟩
 have IX:id<m2.length:=by omega
 have Rr:iD m2 [(id,some ⟨sz,iE⟩)]=m2.set id (some ⟨sz,iE⟩):=by
  simp only [iD];rw [aeG IX]
 have Rs:upsOK m2.length [(id,some (⟨sz,iE⟩:Bk))]=true:=by simp [upsOK];omega
 refine OW.m7 (v:= .v undef) (u:=[(id,some ⟨sz,iE⟩)]) (acc:=[id]) (x':=⟨[(31, .own id sz (0+0+(els.length - 1)) (els.length - (els.length - 1))),(30,VI els.length),(29,VI (els.length - 1:Nat)),(28, .own id sz (0+0) (els.length - 1)),(27, .own id sz (0+0) (els.length - 1)),(0, .own id sz (0+0) (els.length - 1)),(7,VI els.length)],m2.set id (some ⟨sz,iE⟩)⟩) (by kernel_rfl)
  (by rw [Dr];exact Ro zs (.s 31) sz id (0+0+(els.length - 1)) (els.length - (els.length - 1)) jU rfl rfl hz rfl Dn (by omega)) (by
   show (bif dstOK 33 none&&upsOK m2.length [(id,some (⟨sz,iE⟩:Bk))] then _ else _)=_
   rw [Rs,Rr];rfl) ?_
 refine OW.last 0 [0] (x':=⟨[(0, .own id sz (0+0) (els.length - 1))],m2.set id (some ⟨sz,iE⟩)⟩) (by kernel_rfl) (by kernel_rfl) ?_
 refine EL.qA ?_
 refine OW.last 2 [6] (x':=⟨[(6, .own id sz (0+0) (els.length - 1))],m2.set id (some ⟨sz,iE⟩)⟩) (by kernel_rfl) (by kernel_rfl) ?_
 refine EL.ret ?_
 have IY:iE.length=els.length:=by rw [Dr];simp;omega
 have Rt:look (m2.set id (some ⟨sz,iE⟩)) id=some ⟨sz,iE⟩:=by
  unfold look;simp [IX]
 have qB:iE.take (els.length - 1)=els.eraseIdx i:=by
  have h1:iE.take (els.length - 1)=jU.take (els.length - 1):=by
   rw [Dr,afY,List.take_append_of_le_length (by simp;omega),afE,aeW,List.take_take,Nat.min_self]
  rw [h1,r9]
  have h2:els.length - 1=i+ys.length:=by omega
  rw [h2,List.take_append_of_le_length (by simp;omega)]
  rw [afA (by simp;omega)]
  rw [List.eraseIdx_eq_take_drop_succ,nS]
  congr 1
  ·simp
  ·rw [aeW]
   exact afA (by simp)
 refine ⟨.inr rfl,⟨[(6, .own (m2.set id (some ⟨sz,iE⟩)).length sz 0 (els.length - 1))],(m2.set id (some ⟨sz,iE⟩)).set id none++[some ⟨sz,iE.take (els.length - 1)⟩]⟩,Rg (t0:=6) Rt (by omega) rfl rfl rfl, ?_, ?_⟩
 ·simp only [ae4,sa];rfl
 ·rw [qB,mQ]
  simp only [pk]
  rw [List.set_set,List.set_append,aeG (by simpa using hid),List.set_set]
  simp
theorem Ru {α:Type} {fe:α->List AV} {xs:List α} (hF:cFunc P f=some (Dl sz by_ zs)) (hz:zs.length=sz) (hB:look m id=some ⟨sz,xs.map fe⟩) {n:Int} (h0:0<=n) (h1:n<xs.length) (hb:xs.length<=1000000):
  Fi P f [.own id sz 0 xs.length,VI n,VI (n+1)] (look m) m.length (.own (m.length+1) sz 0 (xs.eraseIdx n.toNat).length) (look (pk m id ⟨sz,(xs.eraseIdx n.toNat).map fe⟩)) (pk m id ⟨sz,(xs.eraseIdx n.toNat).map fe⟩).length:=by
 have e0:((n.toNat:Nat):Int)=n:=by omega
 have e1:((n.toNat+1:Nat):Int)=n+1:=by omega
 have h:=Rq (P:=P) (f:=f) (i:=n.toNat) (els:=xs.map fe) hF hz hB (by simp;omega) (by simp;omega)
 rw [e0,e1,aeS] at h
 have e2:(xs.map fe).eraseIdx n.toNat=(xs.eraseIdx n.toNat).map fe:=by
  rw [List.eraseIdx_eq_take_drop_succ,List.eraseIdx_eq_take_drop_succ,afp,List.map_take,List.map_drop]
 have e3:(xs.eraseIdx n.toNat).length=xs.length - 1:=by rw [List.length_eraseIdx,aeG (by omega)]
 rw [e2] at h
 rw [e3]
 exact h
end
open Go.RowKit
section
variable {o:aN} {x:L3}
end
open Go.RowKit
def dx (hs:List (Option Nat)) (i:Nat):Bool:=match hs[i]? with|some (some _)=>true|_=>false
inductive ik (P:Program) (n:Nat):List aN->(Nat->AV)->(Nat->Option Bk)->Nat->List Rec->List (Option Nat)->(Nat->AV)->(Nat->Option Bk)->Nat->Prop
 |nil {σ:Nat->AV} {g:Nat->Option Bk} {k:Nat}:ik P n [] σ g k [] [] σ g k
 |cons {o:aN} {os:List aN} {σ σ':Nat->AV} {g g':Nat->Option Bk} {k k1 k':Nat} {val:AV} {ups:List (Nat×Option Bk)} {acc:List Nat} {rs:List Rec} {hs:List (Option Nat)} (h:fa P σ g k o val ups acc) (hk:k<=k1) (hu:∀id,id∈ups.map Prod.fst->id<k1)
   (hr:ik P n os (cy n o.dst val σ) (aJ g ups) k1 rs hs σ' g' k'):ik P n (o::os) σ g k (⟨o.dst,val,ups,acc,k⟩::rs) (none::hs) σ' g' k'
 |fi {o:aN} {os:List aN} {σ σ':Nat->AV} {g g':Nat->Option Bk} {k k1 k':Nat} {r:AV} {f:FuncId} {as_:List AV} {ups:List (Nat×Option Bk)} {rs:List Rec} {hs:List (Option Nat)} (hg:cB σ o.guard=some true) (hal:o.ao.allocs=false) (h:(o.ao.aq k (aR σ)).run g=some (.call f as_)) (hc:aX P f=true) (hf:Fi P f as_ g k r (aJ g ups) k1) (hk:k<=k1) (hu:∀id,id∈ups.map Prod.fst->id<k1)
   (hr:ik P n os (cy n o.dst r σ) (aJ g ups) k1 rs hs σ' g' k'):ik P n (o::os) σ g k (⟨o.dst,r,ups,[],k⟩::rs) (some k1::hs) σ' g' k'
def vZ (P:Program) (n:Nat) (σ:Nat->AV) (g:Nat->Option Bk) (rs:List Rec) (hs:List (Option Nat)) (i:Nat) (o:aN) (r:Rec):Prop:=
 (hs[i]? =some none/\fa P (cw n (upto i) rs σ) (cu (upto i) rs g) r.fr o r.val r.ups r.acc)\/
 ∃f as_ k1,hs[i]? =some (some k1)/\cB (cw n (upto i) rs σ) o.guard=some true/\o.ao.allocs=false/\(o.ao.aq r.fr (aR (cw n (upto i) rs σ))).run (cu (upto i) rs g)=some (.call f as_)/\aX P f=true/\Fi P f as_ (cu (upto i) rs g) r.fr r.val (aJ (cu (upto i) rs g) r.ups) k1
theorem ze {os:List aN} {σ':Nat->AV} {rs:List Rec} {hs:List (Option Nat)} (h:ik P n os σ g k rs hs σ' g' k'):
  (rs.length=os.length/\hs.length=os.length)/\k<=k'/\(∀(i:Nat) o,os[i]? =some o->∃r,rs[i]? =some r/\r.dst=o.dst/\vZ P n σ g rs hs i o r/\k<=r.fr)/\
   (∀(i j:Nat) ri rj,i<j->rs[i]? =some ri->rs[j]? =some rj->(∀id,id∈ri.keys->id<rj.fr)/\∀k1,hs[i]? =some (some k1)->k1<=rj.fr)/\(∀(i:Nat) r,rs[i]? =some r->(∀id,id∈r.keys->id<k')/\∀k1,hs[i]? =some (some k1)->k1<=k')/\σ'=cw n (fun _=>true) rs σ/\g'=cu (fun _=>true) rs g:=by
 induction h with
 |nil=>exact ⟨⟨rfl,rfl⟩,aeO _,fun i o ho=>by simp at ho,fun i j ri rj _ h=>by simp at h,fun i r h=>by simp at h,rfl,rfl⟩
 | @cons o os σ σ' g g' k k1 k' val ups acc rs hs h hk hu hr ih=>
  obtain ⟨⟨i1,Ds⟩,i2,i3,i4,i5,i6,i7⟩:=ih
  have e1:∀i,cw n (upto (i+1)) (⟨o.dst,val,ups,acc,k⟩::rs) σ=cw n (upto i) rs (cy n o.dst val σ):=by
   intro i;funext t
   show eO _ _ 1 rs _=_
   rw [lj]
   unfold cw
   congr 1
   ·funext j;simp [upto]
   ·rw [aeG (by simp [upto])];exact (pa n t ⟨o.dst,val,ups,acc,k⟩ σ).symm
  have e2:∀i,cu (upto (i+1)) (⟨o.dst,val,ups,acc,k⟩::rs) g=cu (upto i) rs (aJ g ups):=by
   intro i;funext id
   show eO _ _ 1 rs _=_
   rw [lj]
   unfold cu
   congr 1
   ·funext j;simp [upto]
   ·rw [aeG (by simp [upto]),nW];rfl
  refine ⟨⟨by simp [i1],by simp [Ds]⟩,afb hk i2,fun i o' ho=> ?_,fun i j ri rj bD hi hj=> ?_,fun i r' hr'=> ?_, ?_, ?_⟩
  ·cases i with
   |zero=>
    simp only [afg,aeF] at ho
    subst ho
    refine ⟨_,rfl,rfl, ?_,aeO _⟩
    have s0:cw n (upto 0) (⟨o.dst,val,ups,acc,k⟩::rs) σ=σ:=by funext t;exact mY _ 0 _ fun j r _ hl=>by simp [upto] at hl
    have g0:cu (upto 0) (⟨o.dst,val,ups,acc,k⟩::rs) g=g:=by funext t;exact mY _ 0 _ fun j r _ hl=>by simp [upto] at hl
    unfold vZ
    rw [s0,g0]
    exact .inl ⟨rfl,h⟩
   |succ i=>
    obtain ⟨r',r1,r2,r3,r4⟩:=i3 i o' (by simpa using ho)
    refine ⟨r',by simpa using r1,r2, ?_,afb hk r4⟩
    unfold vZ
    rw [e1,e2,aft];exact r3
  ·cases j with
   |zero=>omega
   |succ j=>
    simp only [aft] at hj
    cases i with
    |zero=>
     simp only [afg,aeF] at hi
     subst hi
     have bL:j<os.length:=by rw [<-i1];exact (aeN.1 hj).1
     obtain ⟨r',r1,_,_,r4⟩:=i3 j _ (aeL bL)
     rw [hj] at r1
     simp only [aeF] at r1
     subst r1
     exact ⟨fun id hid=>ae7 (hu id hid) r4,fun x hx=>by first|(simp at hx;done)|(simp at hx;subst hx;exact r4)⟩
    |succ i=>simp only [aft] at hi ⊢; exact i4 i j ri rj (by omega) hi hj
  ·cases i with
   |zero=>
    simp only [afg,aeF] at hr'
    subst hr'
    exact ⟨fun id hid=>ae7 (hu id hid) i2,fun x hx=>by first|(simp at hx;done)|(simp at hx;subst hx;exact i2)⟩
   |succ i=>simp only [aft] at hr' ⊢; exact i5 i r' hr'
  ·rw [i6]
   funext t
   unfold cw
   simp only [eO]
   rw [lj,aeI,pa n t ⟨o.dst,val,ups,acc,k⟩ σ]
  ·rw [i7]
   funext id
   unfold cu
   simp only [eO]
   rw [lj,aeI,nW]
   rfl
 | @fi o os σ σ' g g' k k1 k' r f as_ ups rs hs hg hal h hc hf hk hu hr ih=>
  obtain ⟨⟨i1,Ds⟩,i2,i3,i4,i5,i6,i7⟩:=ih
  have e1:∀i,cw n (upto (i+1)) (⟨o.dst,r,ups,[],k⟩::rs) σ=cw n (upto i) rs (cy n o.dst r σ):=by
   intro i;funext t
   show eO _ _ 1 rs _=_
   rw [lj]
   unfold cw
   congr 1
   ·funext j;simp [upto]
   ·rw [aeG (by simp [upto])];exact (pa n t ⟨o.dst,r,ups,[],k⟩ σ).symm
  have e2:∀i,cu (upto (i+1)) (⟨o.dst,r,ups,[],k⟩::rs) g=cu (upto i) rs (aJ g ups):=by
   intro i;funext id
   show eO _ _ 1 rs _=_
   rw [lj]
   unfold cu
   congr 1
   ·funext j;simp [upto]
   ·rw [aeG (by simp [upto]),nW];rfl
  refine ⟨⟨by simp [i1],by simp [Ds]⟩,afb hk i2,fun i o' ho=> ?_,fun i j ri rj bD hi hj=> ?_,fun i r' hr'=> ?_, ?_, ?_⟩
  ·cases i with
   |zero=>
    simp only [afg,aeF] at ho
    subst ho
    refine ⟨_,rfl,rfl, ?_,aeO _⟩
    have s0:cw n (upto 0) (⟨o.dst,r,ups,[],k⟩::rs) σ=σ:=by funext t;exact mY _ 0 _ fun j r _ hl=>by simp [upto] at hl
    have g0:cu (upto 0) (⟨o.dst,r,ups,[],k⟩::rs) g=g:=by funext t;exact mY _ 0 _ fun j r _ hl=>by simp [upto] at hl
    unfold vZ
    rw [s0,g0]
    exact .inr ⟨f,as_,k1,rfl,hg,hal,h,hc,hf⟩
   |succ i=>
    obtain ⟨r',r1,r2,r3,r4⟩:=i3 i o' (by simpa using ho)
    refine ⟨r',by simpa using r1,r2, ?_,afb hk r4⟩
    unfold vZ
    rw [e1,e2,aft];exact r3
  ·cases j with
   |zero=>omega
   |succ j=>
    simp only [aft] at hj
    cases i with
    |zero=>
     simp only [afg,aeF] at hi
     subst hi
     have bL:j<os.length:=by rw [<-i1];exact (aeN.1 hj).1
     obtain ⟨r',r1,_,_,r4⟩:=i3 j _ (aeL bL)
     rw [hj] at r1
     simp only [aeF] at r1
     subst r1
     exact ⟨fun id hid=>ae7 (hu id hid) r4,fun x hx=>by first|(simp at hx;done)|(simp at hx;subst hx;exact r4)⟩
    |succ i=>simp only [aft] at hi ⊢; exact i4 i j ri rj (by omega) hi hj
  ·cases i with
   |zero=>
    simp only [afg,aeF] at hr'
    subst hr'
    exact ⟨fun id hid=>ae7 (hu id hid) i2,fun x hx=>by first|(simp at hx;done)|(simp at hx;subst hx;exact i2)⟩
   |succ i=>simp only [aft] at hr' ⊢; exact i5 i r' hr'
  ·rw [i6]
   funext t
   unfold cw
   simp only [eO]
   rw [lj,aeI,pa n t ⟨o.dst,r,ups,[],k⟩ σ]
  ·rw [i7]
   funext id
   unfold cu
   simp only [eO]
   rw [lj,aeI,nW]
   rfl
section
variable {P:Program} {E0:Env} {n:Nat} {ops:Array Oper} {J:Nat->Prop} {base:Nat} {w0:World} {Q:Exit->Act->World->Prop} {os:List aN} {dep:List (List Nat)} {σ σ':Nat->AV} {g g':Nat->Option Bk} {k k':Nat} {rs:List Rec} {hs:List (Option Nat)}
theorem ik.snoc {val:AV} (h0:ik P n os σ g k rs hs σ' g' k') (h:fa P σ' g' k' o val ups acc) (hk:k'<=k1) (hu:∀id,id∈ups.map Prod.fst->id<k1):ik P n (os++[o]) σ g k (rs++[⟨o.dst,val,ups,acc,k'⟩]) (hs++[none]) (cy n o.dst val σ') (aJ g' ups) k1:=by
 induction h0 with
 |nil=>exact .cons h hk hu .nil
 |cons h1 h2 h3 h4 ih=>exact .cons h1 h2 h3 (ih h hk)
 |fi h1 h2 h3 h4 h5 h6 h7 h8 ih=>exact .fi h1 h2 h3 h4 h5 h6 h7 (ih h hk)
theorem ik.Rv (h0:ik P n os σ g k rs hs σ' g' k') (hg:cB σ' o.guard=some true) (hal:o.ao.allocs=false) (h:(o.ao.aq k' (aR σ')).run g'=some (.call f as_)) (hc:aX P f=true) (hf:Fi P f as_ g' k' r (aJ g' ups) k1) (hk:k'<=k1) (hu:∀id,id∈ups.map Prod.fst->id<k1):
  ik P n (os++[o]) σ g k (rs++[⟨o.dst,r,ups,[],k'⟩]) (hs++[some k1]) (cy n o.dst r σ') (aJ g' ups) k1:=by
 induction h0 with
 |nil=>exact .fi hg hal h hc hf hk hu .nil
 |cons h1 h2 h3 h4 ih=>exact .cons h1 h2 h3 (ih hg h hf hk)
 |fi h1 h2 h3 h4 h5 h6 h7 h8 ih=>exact .fi h1 h2 h3 h4 h5 h6 h7 (ih hg h hf hk)
end
section
variable {P:Program} {n k k0:Nat} {x:L3} {K:L3->Prop} {Q:Ex->L3->Prop} {R:List aN} {dep:List (List Nat)} {rs:List Rec} {hs:List (Option Nat)}
end
open Go.RowKit
def kK (o:aN):Bool:=match o.ao,o.guard with| .new _,none=>true|_,_=>false
def qC (dep:List (List Nat)) (i j:Nat):Bool:=dep.all fun d=> !d.contains j||d.contains i
def mg (jn:Nat) (rs:List Rec) (hs:List (Option Nat)) (dep:List (List Nat)):Bool:=
 (List.range rs.length).all fun j=>(List.range j).all fun i=>((dep[j]?).getD []).contains i||(match rs[i]?,rs[j]? with|some x,some y=> !(dx hs i&&dx hs j)&&((!dx hs i||(y.ups.isEmpty||(Nat.beq j jn&&qC dep i j)))&&(!dx hs j||x.ups.isEmpty))|_,_=>false)
theorem aj.Rw {Y:Nat->Prop} (h:aj E v a):aj { E with X:=Y } v a:=by
 induction h with
 |v h=>exact .v h
 |agg hl h ih=>exact .agg hl ih
 |bm hl h ih=>exact .bm hl ih
 |fy hc=>exact .fy hc
 |gA u hn hl hcc hb hz hu h1 h ih=>exact .gA u hn hl hcc hb hz hu h1 ih
 |db h ih=>exact .db ih
 |emp=>exact .emp
 |pim u hb hq hu h1 h ih=>exact .pim u hb hq hu h1 ih
 |ref hi hd hb hq=>exact .ref hi hd hb hq
 |own hi hd hb hq vT hm hl hcc bJ=>exact .own hi hd hb hq vT hm hl hcc bJ
 |cK hi hd hb bJ=>exact .cK hi hd hb bJ
 |gL hi hd ho=>exact .gL hi hd ho
 |du hi hd ho=>exact .du hi hd ho
 |mp hi hd hb=>exact .mp hi hd hb
 |k8 hi hd ho=>exact .k8 hi hd ho
 |fn hl h ih=>exact .fn hl ih
 |bf hl h ih=>exact .bf hl ih
 |fw hg hI hh e8 h ih=>exact .fw hg hI hh e8 ih
 |dP=>exact .dP
 |dead=>exact .dead
section
variable {E:Env} {J:Nat->Prop} {base:Nat} {g:Nat->Option Bk}
theorem aS.Rx (h:aS E J base g) (ob:Obj):∃E':Env,E'.w=E.w.alloc ob/\E.Le E'/\aS E' J base g/\(∀id,E'.kn id->E.kn id)/\E'.X E.w.heap.size:=by
 have hlt:∀id b B,g id=some B->E.loc id=some b->b<E.w.heap.size:=fun id b B hg hb=>by
  have:=h.at_ id B hg;rw [hb] at this;exact this.lt.2
 have hs:(E.w.alloc ob).heap.size=E.w.heap.size+1:=by simp
 let E':Env:={ E with w:=E.w.alloc ob,X:=fun b=>E.X b\/b=E.w.heap.size }
 have hE:E.Le E':=by
  refine ⟨fun _ h=>h,fun b hb=>⟨hb,agl _ _ _ (h.low b hb).1⟩,fun _ _ h=>h,fun _ _ _=> .inr rfl,fun id b hi hd hb=> .inr ?_,fun _ _ _=> .inr rfl,fun _ h=>h,fun b hb=>⟨.inl hb,agl _ _ _ (h.xo b hb).1⟩⟩
  obtain ⟨B',aW⟩:=(h.live id).1 ⟨hi,hd⟩
  show (E.w.alloc _).shape? b=_
  simp only [World.shape?]
  rw [agl _ _ _ (hlt id b B' aW hb)]
 refine ⟨E',rfl,hE,⟨h.live,fun id B hg=>(h.at_ id B hg).ct hE fun b hb=>agl _ _ _ (hlt id b B hg hb),h.apart,h.out,fun b hb=>⟨?_,(h.low b hb).2⟩, ?_,h.len,h.ku,fun b hb=> ?_⟩,fun _ h=>h, .inr rfl⟩
 ·have:=(h.low b hb).1
  show b<(E.w.alloc ob).heap.size
  omega
 ·have:=h.size
  show base<=(E.w.alloc ob).heap.size
  omega
 ·show b<(E.w.alloc ob).heap.size/\_
  rcases hb with hb|hb
  ·have:=h.xo b hb
   exact ⟨by omega,this.2⟩
  ·subst hb
   refine ⟨by omega,fun hI=> ?_,fun id B hg he=> ?_⟩
   ·have:=(h.low _ hI).1;omega
   ·have:=hlt id _ B hg he;omega
theorem aS.Ry (h:aS E J base g) (fr:Nat) (hf:¬E.kn fr) (b:Nat) (hX:E.X b) (B:Bk) (hB:∀E':Env,E'.w=E.w->dJ E' base B (some b)):
  ∃E':Env,E'.w=E.w/\(∀{v a},aj E v a->aj E' v a)/\aS E' J base (aJ g [(fr,some B)])/\(∀id,E'.kn id->E.kn id\/id=fr)/\E'.kn fr/\¬E'.dead fr/\E'.loc fr=some b/\(∀E0:Env,E0.Le E->¬E0.X b->E0.Le E')/\(∀b,E.I b->E'.I b):=by
 have aI:∀id,E.kn id->id≠fr:=fun id hi he=>hf (he▸hi)
 let E1:Env:={ E with X:=fun x=>E.X x/\x≠b }
 let E':Env:={ E1 with kn:=fun id=>E.kn id\/id=fr,loc:=fun id=>if id=fr then some b else E.loc id,dead:=fun id=>E.dead id/\id≠fr,ln:=fun id=>if id=fr then B.els.length else E.ln id }
 have lX:E1.Le E':=⟨fun _ h=> .inl h,fun b hb=>⟨hb,rfl⟩,fun id hi hd=>⟨hd,aI id hi⟩,fun id hi hd=> .inr (aeE (aI id hi)),fun _ _ _ _ _=> .inr rfl,fun id hi _=> .inr (aeE (aI id hi)),fun _ h=>h,fun b hb=>⟨hb,rfl⟩⟩
 have hR:∀{v a},aj E v a->aj E' v a:=fun hr=>(aj.Rw (Y:=fun x=>E.X x/\x≠b) hr).step lX
 have gP:∀k,aJ g [(fr,some B)] k=if k=fr then some B else g k:=fun k=>by simp only [aJ]
 refine ⟨E',rfl,hR,⟨fun k=> ?_,fun k Bk hk=> ?_,fun k k' b' B1 B2 h1 h2 h3 h4=> ?_,fun k b' B1 hk hb hI=> ?_,h.low,h.size,fun k B1 hk dQ=> ?_,h.ku,fun b' bQ=>⟨(h.xo b' bQ.1).1,(h.xo b' bQ.1).2.1,fun k B1 hk he=> ?_⟩⟩,fun _ h=>h, .inr rfl,fun hd=>hd.2 rfl,aeG rfl,fun E0 k Dt=> ?_,fun _ h=>h⟩
 ·rw [gP]
  by_cases h1:k=fr
  ·subst h1;simp [E']
  ·simp only [h1,ae9, <-h.live k]
   simp [E',E1,h1]
 ·rw [gP] at hk
  by_cases h1:k=fr
  ·subst h1
   simp only [aeI,aeF] at hk
   subst hk
   show dJ E' base _ (if k=k then _ else _)
   rw [aeG rfl]
   exact hB E' rfl
  ·rw [aeE h1] at hk
   show dJ E' base Bk (if k=fr then _ else _)
   rw [aeE h1]
   have:=h.at_ k Bk hk
   cases hl:E.loc k with
   |none=>rw [hl] at this;exact this
   |some c=>
    rw [hl] at this
    obtain ⟨h1,⟨hz,arr,t,h2,h3,h4⟩|⟨hz,es,clock,h2,h3,h4⟩⟩:=this
    ·refine ⟨h1, .inl ⟨hz,arr,t,h2,h3,fun i cs hi=>⟨(h4 i cs hi).1,fun j x hj=> ?_⟩⟩⟩
     obtain ⟨u,k1,k2,k3⟩:=(h4 i cs hi).2 j x hj
     exact ⟨u,k1,k2,hR k3⟩
    ·refine ⟨h1, .inr ⟨hz,es,clock,h2,h3,fun i e cs he hi=> ?_⟩⟩
     obtain ⟨x,k1,k2,k3⟩:=h4 i e cs he hi
     exact ⟨x,k1,k2,hR k3⟩
 ·rw [gP] at h1 h2
  have e3:(if k=fr then some b else E.loc k)=some b':=h3
  have e4:(if k'=fr then some b else E.loc k')=some b':=h4
  by_cases a1:k=fr<;>by_cases a2:k'=fr
  ·rw [a1,a2]
  ·rw [aeG a1] at e3;rw [aeE a2] at e4 h2
   exact absurd (e4.trans e3.symm) ((h.xo b hX).2.2 k' B2 h2)
  ·rw [aeE a1] at e3 h1;rw [aeG a2] at e4
   exact absurd (e3.trans e4.symm) ((h.xo b hX).2.2 k B1 h1)
  ·rw [aeE a1] at e3 h1;rw [aeE a2] at e4 h2
   exact h.apart k k' b' B1 B2 h1 h2 e3 e4
 ·rw [gP] at hk
  have e3:(if k=fr then some b else E.loc k)=some b':=hb
  by_cases a1:k=fr
  ·rw [aeG a1] at e3
   simp only [aeF] at e3
   exact (h.xo b hX).2.1 (e3▸hI)
  ·rw [aeE a1] at e3 hk
   exact h.out k b' B1 hk e3 hI
 ·rw [gP] at hk
  show _=if k=fr then _ else _
  by_cases a1:k=fr
  ·rw [aeG a1] at hk ⊢
   simp only [aeF] at hk;rw [<-hk]
  ·rw [aeE a1] at hk ⊢
   exact h.len k B1 hk dQ
 ·rw [gP] at hk
  have e3:(if k=fr then some b else E.loc k)=some b':=he
  by_cases a1:k=fr
  ·rw [aeG a1] at e3
   simp only [aeF] at e3
   exact bQ.2 e3.symm
  ·rw [aeE a1] at e3 hk
   exact (h.xo b' bQ.1).2.2 k B1 hk e3
 ·exact ⟨fun id hi=> .inl (k.kn id hi),fun b hb=>k.gB b hb,fun id hi hd=>⟨k.dead id hi hd,aI id (k.kn id hi)⟩,fun id hi hd=>(k.loc id hi hd).imp (fun q=>⟨q,aI id (k.kn id hi)⟩) fun q=>(aeE (aI id (k.kn id hi))).trans q,fun id b hi hd hb=>(k.shape id b hi hd hb).imp (fun q=>⟨q,aI id (k.kn id hi)⟩) fun q=>q,fun id hi hd=>(k.ln id hi hd).imp (fun q=>⟨q,aI id (k.kn id hi)⟩) fun q=>(aeE (aI id (k.kn id hi))).trans q,k.rg,fun b' bQ=>⟨⟨(k.fx b' bQ).1,fun e=>Dt (e▸bQ)⟩,(k.fx b' bQ).2⟩⟩
end
section
variable {P:Program} {E0:Env} {n:Nat} {ops:Array Oper} {J:Nat->Prop} {base:Nat} {w0:World} {Q:Exit->Act->World->Prop} {os:List aN} {dep:List (List Nat)} {σ σ':Nat->AV} {g g':Nat->Option Bk} {k k':Nat} {rs:List Rec} {hs:List (Option Nat)}
structure jq (E0:Env) (n:Nat) (ops:Array Oper) (dep:List (List Nat)) (J:Nat->Prop) (base:Nat) (w0:World) (σ:Nat->AV) (g:Nat->Option Bk) (k:Nat) (rs:List Rec) (hs:List (Option Nat)) (sx:Nat->Bool) (pd:Env->Act->Prop) (listed:Array Bool) (a:Act) (w:World):Prop where
 ex:∃E:Env,E.w=w/\E0.Le E/\(∀t,sx t=false->aj E (a.tmps.getD t undef) (cw n (fun j=>listed.getD j false) rs σ t))/\aS E J base (cu (fun j=>listed.getD j false) rs g)/\
  (∀id,E.kn id->id<k\/∃j r,listed.getD j false=true/\rs[j]? =some r/\(id∈r.keys\/∃k1,hs[j]? =some (some k1)/\id<k1))/\Mk E w0.heap.size a.defers/\pd E a
 size:a.tmps.size=n
 below:Below base w0 w
 gl:gM E0
 jm:listed.size=ops.size
 closed:∀(j:Nat),j<ops.size->listed.getD j false=true->∀e,e∈(dep[j]?).getD []->listed.getD e false=true
theorem IZ {rd:Option Nat} (fo:ik P n os σ g k rs hs σ' g' k') (hlen:os.length=ops.size) (c8:iU os dep=true) (hid:iC rs dep=true) (hcs:mg jn rs hs dep=true)
  {sx:Nat->Bool} {pd:Env->Act->Prop} {a:Act} (hI:jq E0 n ops dep J base w0 σ g k rs hs sx pd listed a w) (m2:ops[i]? =some op) (ho:os[i]? =some o) (l9:iS P ops op=some o) (dZ:listed.getD i false=false)
  (fq:∀e,e∈(dep[i]?).getD []->listed.getD e false=true) (hu:∀t,t∈o.l5->sx t=false) (hq:dx hs i=true->listed.getD jn false=true->i<jn->i∈(dep[jn]?).getD []) (tJ:i=jn->∀c,c<i->dx hs c=true->¬c∈(dep[i]?).getD []->listed.getD c false=true)
  (Rz:∀E E' v,pd E a->E.Le E'->pd E' (a.put o.dst v)) (hK:∀a' w',jq E0 n ops dep J base w0 σ g k rs hs sx pd (listed.setIfInBounds i true) a' w'->K a' w'):wpOpIn (dB rd) 0 P ops Q i K a w:=by
 obtain ⟨⟨c1,Du⟩,c2,c3,c4,c5,c6,c7⟩:=ze fo
 have cV:i<ops.size:=(afx.1 m2).1
 obtain ⟨r,dw,da,hrun,gj⟩:=c3 i o ho
 obtain ⟨E,rfl,hle,oT,h2,h3,hmk,RA⟩:=hI.ex
 have h1:∀t,aj E (a.tmps.getD t undef) ((fun t=>if sx t=true then AV.dead else cw n (fun j=>listed.getD j false) rs σ t) t):=fun t=>by
  show aj E _ (if sx t=true then AV.dead else _)
  cases ht:sx t with
  |true=>rw [aeG rfl];exact .dead
  |false=>rw [aeE (by simp)];exact oT t ht
 -- Ql is listed out of bU is free of this one
 have free:∀j rj oj,j≠i->rs[j]? =some rj->os[j]? =some oj->listed.getD j false≠upto i j->(l7 (if i<j then o else oj) (if i<j then oj else o)=true/\iT (if i<j then r else rj) (if i<j then rj else r)=true):=by
  intro j rj oj aI bn bZ hl
  have bL:j<os.length:=(aeN.1 bZ).1
  unfold iU at c8
  unfold iC at hid
  simp only [aeJ,ae6,ae8,afX] at c8 hid
  by_cases bD:i<j
  ·rw [aeG bD,aeG bD,aeG bD,aeG bD]
   have bo:listed.getD j false=true:=by
    have hu:upto i j=false:=by simp [upto];omega
    rw [hu] at hl
    simpa using hl
   have dC:i∉(dep[j]?).getD []:=by
    intro dR
    have l8:j<ops.size:=by omega
    have:=hI.closed j l8 bo i dR
    rw [dZ] at this;simp at this
   have s1:=(c8 j bL i bD).resolve_left dC
   have s2:=(hid j (by rw [c1];exact bL) i bD).resolve_left dC
   rw [ho,bZ] at s1;rw [dw,bn] at s2
   exact ⟨s1,s2⟩
  ·rw [aeE bD,aeE bD,aeE bD,aeE bD]
   have cv:j<i:=by omega
   have bo:listed.getD j false=false:=by
    have hu:upto i j=true:=by simp [upto];omega
    rw [hu] at hl
    simpa using hl
   have dC:j∉(dep[i]?).getD []:=by
    intro dR
    have:=fq j dR
    rw [bo] at this;simp at this
   have s1:=(c8 i (by omega) j cv).resolve_left dC
   have s2:=(hid i (by omega) j cv).resolve_left dC
   rw [ho,bZ] at s1;rw [dw,bn] at s2
   exact ⟨s1,s2⟩
 have jS:∀(j:Nat) rj,rs[j]? =some rj->∃oj,os[j]? =some oj/\rj.dst=oj.dst:=fun j rj bn=>by
  have bL:j<os.length:=by rw [<-c1];exact (aeN.1 bn).1
  obtain ⟨r',q1,q2,_,_⟩:=c3 j _ (aeL bL)
  rw [bn] at q1;simp only [aeF] at q1;subst q1
  exact ⟨_,aeL bL,q2⟩
 -- a slot vP it looks at is as it comes one behind mT other
 have hσ:∀t,t∈o.l5->(if sx t=true then AV.dead else cw n (fun j=>listed.getD j false) rs σ t)=cw n (upto i) rs σ t:=by
  intro t ht
  rw [aeE (by rw [hu t ht];simp)]
  refine mX _ 0 _ fun j rj bn hl=> ?_
  rw [aeW] at hl
  by_cases aI:j=i
  ·subst aI;rw [dZ] at hl;simp [upto] at hl
  ·obtain ⟨oj,bZ,dY⟩:=jS j rj bn
   have hf:=(free j rj oj aI bn bZ hl).1
   unfold l6
   rw [aeE]
   rintro ⟨eT,_⟩
   rw [dY] at eT
   unfold l7 at hf
   by_cases bD:i<j
   ·simp only [aeG bD,eT,aeH,ae1,afn,ae3] at hf
    exact hf.2 ht
   ·simp only [aeE bD,eT,aeH,ae1,afn,ae3] at hf
    exact hf.1.1 ht
 have hg:∀id,id∈r.acc->cu (fun j=>listed.getD j false) rs g id=cu (upto i) rs g id:=by
  intro id vQ
  refine mX _ 0 _ fun j rj bn hl=> ?_
  rw [aeW] at hl
  by_cases aI:j=i
  ·subst aI;rw [dZ] at hl;simp [upto] at hl
  ·obtain ⟨oj,bZ,dY⟩:=jS j rj bn
   have hf:=(free j rj oj aI bn bZ hl).2
   cases hw:wg id rj with
   |none=>rfl
   |some y=>
    exfalso
    have hk:id∈rj.keys:=o9 (by unfold wg at hw;rw [hw];simp)
    unfold iT at hf
    by_cases bD:i<j
    ·simp only [aeG bD,aeH,aeJ,ae1,afn,ae3] at hf
     exact hf.2 id hk vQ
    ·simp only [aeE bD,aeH,aeJ,ae1,afn,ae3] at hf
     exact (hf.1 id hk).1 vQ
 have Dv:∀{j x},hs[j]? =some (some x)->dx hs j=true:=fun h=>by unfold dx;rw [h]
 have Dw:∀j rj,j≠i->rs[j]? =some rj->listed.getD j false≠upto i j->(dx hs i&&dx hs j)=false/\(dx hs i=true->rj.ups=[])/\(dx hs j=true->r.ups=[]):=by
  intro j rj aI bn hl
  have bL:j<rs.length:=(aeN.1 bn).1
  unfold mg at hcs
  simp only [aeJ,ae6,ae8,afX] at hcs
  by_cases bD:i<j
  ·have bo:listed.getD j false=true:=by
    have hu:upto i j=false:=by simp [upto];omega
    rw [hu] at hl
    simpa using hl
   have dC:i∉(dep[j]?).getD []:=by
    intro dR
    have l8:j<ops.size:=by omega
    have:=hI.closed j l8 bo i dR
    rw [dZ] at this;simp at this
   have s2:=(hcs j bL i bD).resolve_left dC
   rw [dw,bn] at s2
   simp only [aeH,ae8,ae1,afI] at s2
   exact ⟨s2.1,fun h=>(s2.2.1.resolve_left (by rw [h];simp)).resolve_right fun q=>by
    have ej:=aeU q.1
    exact dC (by rw [ej];exact hq h (by rw [<-ej];exact bo) (by omega)),fun h=>s2.2.2.resolve_left (by rw [h];simp)⟩
  ·have cv:j<i:=by omega
   have bo:listed.getD j false=false:=by
    have hu:upto i j=true:=by simp [upto];omega
    rw [hu] at hl
    simpa using hl
   have dC:j∉(dep[i]?).getD []:=by
    intro dR
    have:=fq j dR
    rw [bo] at this;simp at this
   have s2:=(hcs i (by omega) j cv).resolve_left dC
   rw [dw,bn] at s2
   simp only [aeH,ae8,ae1,afI] at s2
   exact ⟨by rw [Bool.and_comm];exact s2.1,fun h=>s2.2.2.resolve_left (by rw [h];simp),fun h=>(s2.2.1.resolve_left (by rw [h];simp)).resolve_right fun q=>by
    have:=tJ (aeU q.1) j cv h dC
    rw [bo] at this;simp at this⟩
 have fin:∀v E',E.Le E'->aj E' v r.val->aS E' J base (aJ (cu (fun j=>listed.getD j false) rs g) r.ups)->Below base E.w E'.w->(∀id,E'.kn id->(E.kn id\/id∈r.keys)\/∃k1,hs[i]? =some (some k1)/\id<k1)->K (a.put o.dst v) E'.w:=by
  intro v E' hE hv hM hB bK
  -- it is listed now
  have eL:∀j,(listed.setIfInBounds i true).getD j false=if j=0+i then true else listed.getD j false:=by
   intro j
   rw [aeW]
   have kI:i<listed.size:=by rw [hI.jm];exact cV
   by_cases cv:j=i
   ·subst cv;simp [kI]
   ·rw [aeE cv,getD_set_ne false (Ne.symm cv)]
  have rZ:∀t,cw n (fun j=>(listed.setIfInBounds i true).getD j false) rs σ t=cy n o.dst r.val (cw n (fun j=>listed.getD j false) rs σ) t:=by
   intro t
   rw [<-da,pa]
   refine rV rs 0 i _ r dw (by rw [aeW];exact dZ) eL fun j rj bD bn bo=> ?_
   rw [aeW] at bo
   obtain ⟨oj,bZ,dY⟩:=jS j rj bn
   have hf:=(free j rj oj (by omega) bn bZ (by rw [bo];simp [upto];omega)).1
   unfold l7 at hf
   simp only [aeG bD] at hf
   by_cases iB:r.dst=some t
   ·left
    unfold l6
    rw [aeE]
    rintro ⟨eT,_⟩
    rw [da] at iB
    rw [dY] at eT
    simp only [iB,eT,aeH,bne_iff_ne,ne_eq] at hf
    exact hf.1.2 trivial
   ·right
    unfold l6
    rw [aeE]
    rintro ⟨eT,_⟩
    exact iB eT
  have ng:∀id,cu (fun j=>(listed.setIfInBounds i true).getD j false) rs g id=aJ (cu (fun j=>listed.getD j false) rs g) r.ups id:=by
   intro id
   rw [nW]
   refine rV rs 0 i _ r dw (by rw [aeW];exact dZ) eL fun j rj bD bn bo=> ?_
   rw [aeW] at bo
   obtain ⟨oj,bZ,dY⟩:=jS j rj bn
   have hf:=(free j rj oj (by omega) bn bZ (by rw [bo];simp [upto];omega)).2
   unfold iT at hf
   simp only [aeG bD,aeH,aeJ,ae1,afn,ae3] at hf
   cases hw:wg id r with
   |none=>exact .inr rfl
   |some y=>
    left
    cases hw2:wg id rj with
    |none=>rfl
    |some y2=>
     exfalso
     have k1:id∈r.keys:=o9 (by unfold wg at hw;rw [hw];simp)
     have k2:id∈rj.keys:=o9 (by unfold wg at hw2;rw [hw2];simp)
     exact (hf.1 id k1).2 k2
  refine hK _ _ ⟨⟨E',rfl,hle.trans hE,fun t ht=> ?_, ?_,fun id hh=> ?_, ?_,Rz E E' v RA hE⟩, ?_,hI.below.trans hB,hI.gl,by simpa using hI.jm,fun j hj bo e he=> ?_⟩
  ·rw [rZ t]
   have:=tv hE h1 hv o.dst t
   rw [hI.size] at this
   have e9:cy n o.dst r.val (fun t=>if sx t=true then AV.dead else cw n (fun j=>listed.getD j false) rs σ t) t=cy n o.dst r.val (cw n (fun j=>listed.getD j false) rs σ) t:=by
    unfold cy
    split
    ·rfl
    ·exact aeE (by rw [ht];simp)
   rw [<-e9]
   exact this
  ·rw [show cu (fun j=>(listed.setIfInBounds i true).getD j false) rs g=aJ (cu (fun j=>listed.getD j false) rs g) r.ups from funext ng]
   exact hM
  ·rcases bK id hh with (h|h)|h
   ·rcases h3 id h with h|⟨j,rj,q1,q2,q3⟩
    ·exact .inl h
    ·exact .inr ⟨j,rj,getD_set_true q1,q2,q3⟩
   ·refine .inr ⟨i,r, ?_,dw, .inl h⟩
    rw [eL i,aeW,aeG rfl]
   ·refine .inr ⟨i,r, ?_,dw, .inr h⟩
    rw [eL i,aeW,aeG rfl]
  ·rw [(kG a o.dst v).2];exact hmk.step hE
  ·rw [(kG a o.dst v).1];exact hI.size
  ·rw [eL j,aeW] at bo
   by_cases cv:j=i
   ·subst cv
    exact getD_set_true (fq e he)
   ·rw [aeE cv] at bo
    exact getD_set_true (hI.closed j hj bo e he)
 rcases hrun with ⟨tK,hrun⟩|⟨f,as_,k1,I1,dj,hal,dX,cX,RB⟩
 ·-- a name vP Qm has
  have vD:∃jQ,¬E.kn jQ/\(r.fr∈r.ups.map Prod.fst->jQ=r.fr):=by
   by_cases c9:r.fr∈r.ups.map Prod.fst
   ·refine ⟨r.fr,fun hk=> ?_,fun _=>rfl⟩
    rcases h3 _ hk with h|⟨j,rj,bo,bn,dS⟩
    ·omega
    ·by_cases aI:j=i
     ·subst aI;rw [dZ] at bo;simp at bo
     ·rcases dS with dS|⟨k1,dc,dS⟩
      rotate_left
      ·by_cases bD:i<j
       ·have:=(Dw j rj aI bn (by rw [bo];simp [upto];omega)).2.2 (Dv dc)
        rw [this] at c9;simp at c9
       ·have:=(c4 j i rj r (by omega) bn dw).2 k1 dc
        omega
      by_cases bD:i<j
      ·obtain ⟨oj,bZ,_⟩:=jS j rj bn
       have hf:=(free j rj oj aI bn bZ (by rw [bo];simp [upto];omega)).2
       unfold iT at hf
       simp only [aeG bD,aeH,aeJ,ae1,afn,ae3] at hf
       exact (hf.1 _ c9).2 dS
      ·have:=(c4 j i rj r (by omega) bn dw).1 _ dS
       exact afL _ this
   ·refine ⟨k',fun hk=> ?_,fun h=>absurd h c9⟩
    rcases h3 _ hk with h|⟨j,rj,bo,bn,dS|⟨k1,dc,dS⟩⟩
    ·omega
    ·exact afL _ ((c5 j rj bn).1 _ dS)
    ·exact afL _ (ae7 dS ((c5 j rj bn).2 k1 dc))
  obtain ⟨jQ,CW,CX⟩:=vD
  obtain ⟨CS,CY⟩:=hrun.local hσ hg CX
  exact CR (hI.gl.step hle) h1 h2 CW m2 l9 CY fun v E' hE hv hM hB bK=>fin v E' hE hv hM hB fun id h=> .inl (bK id h)
 ·have Dx:=Dv I1
  have Dy:cu (fun j=>listed.getD j false) rs g=cu (upto i) rs g:=by
   funext id
   refine mX _ 0 _ fun j rj bn hl=> ?_
   rw [aeW] at hl
   by_cases aI:j=i
   ·subst aI;rw [dZ] at hl;simp [upto] at hl
   ·unfold wg;rw [(Dw j rj aI bn hl).2.1 Dx];rfl
  have RF:∀id,E.kn id->id<r.fr:=by
   intro id hid
   rcases h3 id hid with h|⟨j,rj,bo,bn,dS⟩
   ·omega
   ·by_cases aI:j=i
    ·subst aI;rw [dZ] at bo;simp at bo
    ·by_cases bD:i<j
     ·have lZ:=Dw j rj aI bn (by rw [bo];simp [upto];omega)
      rcases dS with dS|⟨x,hx,dS⟩
      ·unfold Rec.keys at dS;rw [lZ.2.1 Dx] at dS;simp at dS
      ·have:=lZ.1;rw [Dx,Dv hx] at this;simp at this
     ·rcases dS with dS|⟨x,hx,dS⟩
      ·exact (c4 j i rj r (by omega) bn dw).1 _ dS
      ·have:=(c4 j i rj r (by omega) bn dw).2 x hx;omega
  have RG:cB (fun t=>if sx t=true then AV.dead else cw n (fun j=>listed.getD j false) rs σ t) o.guard=some true:=by
   rw [<-dj]
   cases hg0:o.guard with
   |none=>rfl
   |some p=>
    obtain ⟨t,w⟩:=p
    simp only [cB,hσ t (by simp [aN.l5,hg0])]
  have RH:(o.ao.aq r.fr (aR (fun t=>if sx t=true then AV.dead else cw n (fun j=>listed.getD j false) rs σ t))).run (cu (fun j=>listed.getD j false) rs g)=some (.call f as_):=by
   rw [Dy,Iq r.fr fun t ht=>hσ t (by simp [aN.l5,ht])];exact dX
  have hdd:=vL l9
  have Dz:∀e,op.semAt (dB rd).round e=execOp e op:=fun e=>agD (dB rd) _ _ (tt hdd.2)
  unfold wpOpIn
  simp only [m2]
  rw [o8 h1 l9 RG,aeG rfl]
  obtain ⟨vs,e1,e2⟩:=vF (fA.of (hI.gl.step hle) h1) hdd.2 RH cX
  unfold Oper.wpIn
  rw [Dz,e1,Oper.uponIn_enter]
  have yY:=h2
  rw [Dy] at yY
  refine ⟨nV,tr,vK ((RB E J base vs (hI.gl.step hle) yY RF e2).mono ?_)⟩
  rintro e w' ⟨v,E',rfl,rfl,q1,q2,q3,q4,q5⟩
  have qB:=fin v E' q1 q2 (by rw [Dy];exact q3) q4 fun id h=> .inr ⟨k1,I1,q5 id h⟩
  rw [hdd.1] at qB
  exact qB
theorem RI (fo:ik P n os σ g k rs hs σ' g' k') (hlen:os.length=ops.size) (c8:iU os dep=true) (hid:iC rs dep=true) (cX:∀(j:Nat),j<ops.size->listed.getD j false=true->∀e,e∈(dep[j]?).getD []->listed.getD e false=true) (eI:listed.size=ops.size)
 {r:Rec} (cV:i<ops.size) (ho:os[i]? =some o) (dw:rs[i]? =some r) (da:r.dst=o.dst) (dZ:listed.getD i false=false):
  (∀t,cw n (fun j=>(listed.setIfInBounds i true).getD j false) rs σ t=cy n o.dst r.val (cw n (fun j=>listed.getD j false) rs σ) t)/\(∀id,cu (fun j=>(listed.setIfInBounds i true).getD j false) rs g id=aJ (cu (fun j=>listed.getD j false) rs g) r.ups id)/\∀j rj,i<j->rs[j]? =some rj->listed.getD j false=true->¬i∈(dep[j]?).getD []/\iT r rj=true:=by
 obtain ⟨⟨c1,Du⟩,c2,c3,c4,c5,c6,c7⟩:=ze fo
 have jS:∀(j:Nat) rj,rs[j]? =some rj->∃oj,os[j]? =some oj/\rj.dst=oj.dst:=fun j rj bn=>by
  have bL:j<os.length:=by rw [<-c1];exact (aeN.1 bn).1
  obtain ⟨r',q1,q2,_,_⟩:=c3 j _ (aeL bL)
  rw [bn] at q1;simp only [aeF] at q1;subst q1
  exact ⟨_,aeL bL,q2⟩
 have ij:∀j,i<j->j<ops.size->listed.getD j false=true->¬i∈(dep[j]?).getD []:=fun j bD hj bo dR=>by
  have:=cX j hj bo i dR
  rw [dZ] at this;simp at this
 have free:∀j rj oj,i<j->rs[j]? =some rj->os[j]? =some oj->listed.getD j false=true->(l7 o oj=true/\iT r rj=true):=by
  intro j rj oj bD bn bZ bo
  have bL:j<os.length:=(aeN.1 bZ).1
  unfold iU at c8
  unfold iC at hid
  simp only [aeJ,ae6,ae8,afX] at c8 hid
  have dC:=ij j bD (by omega) bo
  have s1:=(c8 j bL i bD).resolve_left dC
  have s2:=(hid j (by rw [c1];exact bL) i bD).resolve_left dC
  rw [ho,bZ] at s1;rw [dw,bn] at s2
  exact ⟨s1,s2⟩
 -- it is listed now
 have eL:∀j,(listed.setIfInBounds i true).getD j false=if j=0+i then true else listed.getD j false:=by
  intro j
  rw [aeW]
  have kI:i<listed.size:=by rw [eI];exact cV
  by_cases cv:j=i
  ·subst cv;simp [kI]
  ·rw [aeE cv,getD_set_ne false (Ne.symm cv)]
 have rZ:∀t,cw n (fun j=>(listed.setIfInBounds i true).getD j false) rs σ t=cy n o.dst r.val (cw n (fun j=>listed.getD j false) rs σ) t:=by
  intro t
  rw [<-da,pa]
  refine rV rs 0 i _ r dw (by rw [aeW];exact dZ) eL fun j rj bD bn bo=> ?_
  rw [aeW] at bo
  obtain ⟨oj,bZ,dY⟩:=jS j rj bn
  have hf:=(free j rj oj bD bn bZ bo).1
  unfold l7 at hf
  by_cases iB:r.dst=some t
  ·left
   unfold l6
   rw [aeE]
   rintro ⟨eT,_⟩
   rw [da] at iB
   rw [dY] at eT
   simp only [iB,eT,aeH,bne_iff_ne,ne_eq] at hf
   exact hf.1.2 trivial
  ·right
   unfold l6
   rw [aeE]
   rintro ⟨eT,_⟩
   exact iB eT
 have ng:∀id,cu (fun j=>(listed.setIfInBounds i true).getD j false) rs g id=aJ (cu (fun j=>listed.getD j false) rs g) r.ups id:=by
  intro id
  rw [nW]
  refine rV rs 0 i _ r dw (by rw [aeW];exact dZ) eL fun j rj bD bn bo=> ?_
  rw [aeW] at bo
  obtain ⟨oj,bZ,dY⟩:=jS j rj bn
  have hf:=(free j rj oj bD bn bZ bo).2
  unfold iT at hf
  simp only [aeH,aeJ,ae1,afn,ae3] at hf
  cases hw:wg id r with
  |none=>exact .inr rfl
  |some y=>
   left
   cases hw2:wg id rj with
   |none=>rfl
   |some y2=>
    exfalso
    have k1:id∈r.keys:=o9 (by unfold wg at hw;rw [hw];simp)
    have k2:id∈rj.keys:=o9 (by unfold wg at hw2;rw [hw2];simp)
    exact (hf.1 id k1).2 k2
 refine ⟨rZ,ng,fun j rj bD bn bo=> ?_⟩
 obtain ⟨oj,bZ,_⟩:=jS j rj bn
 exact ⟨ij j bD (by rw [<-hlen];exact (aeN.1 bZ).1) bo,(free j rj oj bD bn bZ bo).2⟩
def RJ (w:World) (b:Nat) (zs:List AV):Prop:=∃(arr:Array Value) (t:TypeId),w.heap[b]? =some (.cells arr t (0,0))/\zs.length<=arr.size/\∀(j:Nat) x,zs[j]? =some x->∃u,arr[j]? =some u/\u.oneCell'=true/\∀E:Env,aj E u x
def tL (E0:Env) (n base b:Nat) (zs:List AV) (d:Option Nat) (E:Env) (a:Act):Prop:=E.X b/\¬E0.X b/\base<=b/\(∀t,d=some t->t<n->a.tmps.getD t undef= .pointer (some ⟨b,0,none⟩))/\RJ E.w b zs
def pn (n:Nat) (d:Option Nat) (t:Nat):Bool:=d==some t&&Nat.blt t n
theorem jq.cC (fo:ik P n os σ g k rs hs σ' g' k') (hlen:os.length=ops.size) (c8:iU os dep=true) (hid:iC rs dep=true) (hcs:mg jn rs hs dep=true) {r:Rec} {zs:List AV} {b:Nat} {a:Act}
  (hI:jq E0 n ops dep J base w0 σ g k rs hs (pn n o.dst) (tL E0 n base b zs o.dst) listed a w) (cV:jn<ops.size) (ho:os[jn]? =some o) (dw:rs[jn]? =some r) (da:r.dst=o.dst) (dZ:listed.getD jn false=false) (fq:∀e,e∈(dep[jn]?).getD []->listed.getD e false=true)
  (hz:0<zs.length) (sd:r.val= .ref r.fr zs.length 0 0) (tI:r.ups=[(r.fr,some ⟨zs.length,[zs]⟩)]) (gj:k<=r.fr):
  jq E0 n ops dep J base w0 σ g k rs hs (fun _=>false) (fun _ _=>True) (listed.setIfInBounds jn true) a w:=by
 obtain ⟨⟨c1,Du⟩,c2,c3,c4,c5,c6,c7⟩:=ze fo
 obtain ⟨rZ,ng,RL⟩:=RI fo hlen c8 hid hI.closed hI.jm cV ho dw da dZ
 obtain ⟨E,rfl,hle,h1,h2,h3,hmk,⟨p1,p2,p3,p4,arr,t0,p5,p6,p7⟩⟩:=hI.ex
 have hk:r.fr∈r.keys:=by unfold Rec.keys;rw [tI];simp
 have hf:¬E.kn r.fr:=fun bK=>by
  rcases h3 _ bK with h|⟨j,rj,bo,bn,dS⟩
  ·omega
  ·by_cases aI:j=jn
   ·subst aI;rw [dZ] at bo;simp at bo
   ·by_cases bD:jn<j
    ·obtain ⟨q1,q2⟩:=RL j rj bD bn bo
     rcases dS with dS|⟨k1,dc,_⟩
     ·unfold iT at q2
      simp only [aeH,aeJ,ae1,afn,ae3] at q2
      exact (q2.1 _ hk).2 dS
     ·have bL:j<rs.length:=(aeN.1 bn).1
      unfold mg at hcs
      simp only [aeJ,ae6,ae8,afX] at hcs
      have s2:=(hcs j bL jn bD).resolve_left q1
      rw [dw,bn] at s2
      simp only [aeH,ae8,ae1,afI] at s2
      have hc:dx hs j=true:=by unfold dx;rw [dc]
      have:=s2.2.2.resolve_left (by rw [hc];simp)
      rw [this] at tI;simp at tI
    ·have cv:j<jn:=by omega
     rcases dS with dS|⟨k1,dc,dS⟩
     ·exact afL _ ((c4 j jn rj r cv bn dw).1 _ dS)
     ·have:=(c4 j jn rj r cv bn dw).2 k1 dc
      omega
 obtain ⟨E',hw,hR,hM,q1,q2,q3,q4,q5,q6⟩:=h2.Ry r.fr hf b p1 ⟨zs.length,[zs]⟩ (fun qi hw=>by
  refine dJ.lU ⟨p3,arr,(t0,0),by rw [hw];exact p5,by simpa using p6,fun i cs hi=> ?_⟩ (by show zs.length≠0;omega)
  cases i with
  |zero=>
   simp only [afg,aeF] at hi
   subst hi
   refine ⟨rfl,fun j x hj=> ?_⟩
   obtain ⟨u,u1,u2,u3⟩:=p7 j x hj
   exact ⟨u,by simpa using u1,u2,u3 _⟩
  |succ i=>simp at hi)
 refine ⟨⟨E',hw,q5 E0 hle p2,fun t _=> ?_, ?_,fun id hh=> ?_,hmk.Ih fun b hb=>⟨q6 b hb,by rw [hw]⟩,trivial⟩,hI.size,hI.below,hI.gl,by simpa using hI.jm,fun j hj bo e he=> ?_⟩
 ·rw [rZ t]
  by_cases ht:o.dst=some t/\t<n
  ·rw [show cy n o.dst r.val (cw n (fun j=>listed.getD j false) rs σ) t=r.val from aeG ht,sd,p4 t ht.1 ht.2]
   exact .ref q2 q3 q4 (by simp) (by omega)
  ·rw [show cy n o.dst r.val (cw n (fun j=>listed.getD j false) rs σ) t=cw n (fun j=>listed.getD j false) rs σ t from aeE ht]
   refine hR (h1 t ?_)
   unfold pn
   rw [Bool.and_eq_false_iff]
   by_cases hd:o.dst=some t
   ·right
    have:¬t<n:=fun h=>ht ⟨hd,h⟩
    cases hb:Nat.blt t n with
    |false=>rfl
    |true=>exact absurd (afv hb) this
   ·left;simpa using hd
 ·rw [show cu (fun j=>(listed.setIfInBounds jn true).getD j false) rs g=aJ (cu (fun j=>listed.getD j false) rs g) r.ups from funext ng,tI]
  exact hM
 ·rcases q1 id hh with h|h
  ·rcases h3 id h with h|⟨j,rj,q1,q2,q3⟩
   ·exact .inl h
   ·exact .inr ⟨j,rj,getD_set_true q1,q2,q3⟩
  ·refine .inr ⟨jn,r, ?_,dw, .inl (h▸hk)⟩
   have kI:jn<listed.size:=by rw [hI.jm];exact cV
   simp [kI]
 ·by_cases cv:j=jn
  ·subst cv;exact getD_set_true (fq e he)
  ·rw [getD_set_ne false (Ne.symm cv)] at bo
   exact getD_set_true (hI.closed j hj bo e he)
theorem RN {o:Oper} {zs:List AV} (h:cF P o=some (.new zs)):∃t,o.op= .alloc t/\jL P t=some zs/\0<zs.length:=by
 obtain ⟨dst,op,type,pos,after,guard⟩:=o
 cases op
 case alloc t=>
  simp only [cF] at h
  split at h
  ·split at h
   ·simp only [aeF,AO.new.injEq] at h;subst h;exact ⟨t,rfl,by assumption,by assumption⟩
   ·simp at h
  ·simp at h
 all_goals
  exfalso
  simp only [cF] at h
  first
   |(simp at h;done)
   |((repeat' split at h)<;>simp at h<;>done)
   |((repeat' split at h)<;>simp_all)
theorem RO {rd:Option Nat} {a:Act} (hI:jq E0 n ops dep J base w0 σ g k rs hs (fun _=>false) (fun _ _=>True) listed a w) {zs:List AV} (m2:ops[i]? =some op) (l9:iS P ops op=some o) (hg:o.guard=none) (dM:o.ao= .new zs)
 (hK:∀a' w' b,0<zs.length->jq E0 n ops dep J base w0 σ g k rs hs (pn n o.dst) (tL E0 n base b zs o.dst) listed a' w'->K a' w'):wpOpIn (dB rd) 0 P ops Q i K a w:=by
 obtain ⟨E,rfl,hle,oT,h2,h3,hmk,_⟩:=hI.ex
 have h1:∀t,aj E (a.tmps.getD t undef) (cw n (fun j=>listed.getD j false) rs σ t):=fun t=>oT t rfl
 have hdd:=vL l9
 have Dz:∀e,op.semAt (dB rd).round e=execOp e op:=fun e=>agD (dB rd) _ _ (tt hdd.2)
 obtain ⟨t,cW,zf,eF⟩:=RN (hdd.2.trans (by rw [dM]))
 obtain ⟨ii,z,hi,hz,aZ,hcs,fk,dA⟩:=rH zf
 have hrun:(execOp a.eval op).run P E.w= .ok (.value (.pointer (some ⟨E.w.heap.size,0,none⟩))) (E.w.alloc (.cells z.cells t)):=by
  obtain ⟨dst,op,type,pos,after,guard⟩:=op
  simp only at cW
  subst cW
  simp [execOp,Instr.alloc,zeroValue,typeInfo,hi,hz,newVar,newRow]
 unfold wpOpIn
 simp only [m2]
 rw [o8 h1 l9 (b:=true) (by rw [hg];rfl),aeG rfl]
 unfold Oper.wpIn
 rw [Dz,hrun]
 obtain ⟨E',hw,hE,hM,bK,hX⟩:=h2.Rx (.cells z.cells t)
 have qB:K (a.put o.dst (.pointer (some ⟨E.w.heap.size,0,none⟩))) E'.w:=by
  refine hK _ _ E.w.heap.size eF ⟨⟨E',rfl,hle.trans hE,fun s hs=> ?_,hM,fun id h=>h3 id (bK id h),by rw [(kG a o.dst _).2];exact hmk.step hE,hX,fun Dt=> ?_,h2.size,fun s hd hn=> ?_,z.cells,t,by rw [hw];exact heap_alloc_new E.w _,by omega,fun j x hj=> ?_⟩,by rw [(kG a o.dst _).1];exact hI.size,by rw [hw];exact hI.below.alloc h2.size _,hI.gl,hI.jm,hI.closed⟩
  ·have:(a.put o.dst (.pointer (some ⟨E.w.heap.size,0,none⟩))).tmps.getD s undef=a.tmps.getD s undef:=by
    unfold pn at hs
    cases hd:o.dst with
    |none=>rfl
    |some d=>
     rw [hd] at hs
     simp only [Act.put]
     by_cases e:d=s
     ·subst e
      have hn:¬d<n:=fun h=>by
       have hb:Nat.blt d n=true:=Nat.ble_eq_true_of_le h
       rw [hb] at hs;simp at hs
      rw [<-hI.size] at hn
      simp [hn]
     ·simp [agx,agI,e]
   rw [this]
   exact (h1 s).step hE
  ·have:=(h2.xo _ (hle.fx _ Dt).1).1
   omega
  ·rw [hd]
   simp only [Act.put]
   rw [<-hI.size] at hn
   simp [hn]
  ·have kA:j<zs.length:=(aeN.1 hj).1
   have eJ:j<z.cells.size:=by omega
   have RP:=(dA E j z.cells[j] x (aeV eJ) hj).one (by simp only [aeJ] at fk;exact fk _ (afd hj))
   exact ⟨z.cells[j],aeV eJ,RP,fun qi=>dA qi j _ x (aeV eJ) hj⟩
 rw [hw] at qB
 rw [hdd.1] at qB
 exact ⟨nV,qB⟩
theorem zg {A:Array Bool} (h:i<A.size):(A.setIfInBounds i true).getD i false=true:=by simp [h]
theorem RQ {rd:Option Nat} (fo:ik P n os σ g k rs hs σ' g' k') (hlen:os.length=ops.size) (fP:∀(j:Nat) op,ops[j]? =some op->∃o,os[j]? =some o/\iS P ops op=some o)
  (hd:lu ops.toList dep=true) (c8:iU os dep=true) (hid:iC rs dep=true) (hcs:mg jn rs hs dep=true) (po:∀o,os[jn]? =some o->kK o=true) (hQ:∀a w,ic E0 J base w0 n σ' g' k' a w->Q .normal a w):
  ∀(fuel:Nat) (listed:Array Bool) (a:Act) (w:World),listed.size=ops.size->(∀(j:Nat) op,ops[j]? =some op->listed.getD j false=true->∀e,e∈fb op->listed.getD e false=true)->
   ((jq E0 n ops dep J base w0 σ g k rs hs (fun _=>false) (fun _ _=>True) listed a w/\(listed.getD jn false=true->∀c,c<jn->dx hs c=true->¬c∈(dep[jn]?).getD []->listed.getD c false=true))\/
    ∃(L:Array Bool) (o:aN) (zs:List AV) (b:Nat),os[jn]? =some o/\o.ao= .new zs/\0<zs.length/\listed.getD jn false=true/\(∀j,L.getD j false=(listed.getD j false&& !Nat.beq j jn))/\jq E0 n ops dep J base w0 σ g k rs hs (pn n o.dst) (tL E0 n base b zs o.dst) L a w/\∃c,c<jn/\dx hs c=true/\¬c∈(dep[jn]?).getD []/\qC dep c jn=true)->
   (∀m:List Nat,(∀j,j∈m->j<ops.size/\listed.getD j true=false)->m.Nodup->m.length<=fuel)->wpAnyIn (dB rd) 0 P .any ops Q fuel listed a w:=by
 have DA:=fo
 obtain ⟨⟨c1,Du⟩,c2,c3,c4,c5,c6,c7⟩:=ze fo
 have I2:∀(listed:Array Bool),listed.size=ops.size->Region.ready .any ops listed=[]->∀j,j<ops.size->listed.getD j false=true:=by
  intro listed eI se j
  induction j using Nat.strongRecOn with
  |_ j ih=>
   intro hj
   cases hl:listed.getD j false with
   |true=>rfl
   |false=>
    exfalso
    have pb:j<listed.size:=by rw [eI];exact hj
    have:j∈Region.ready .any ops listed:=by
     rw [mem_ready]
     refine ⟨by simp [pb] at hl ⊢; exact hl,ops[j],aeV hj,fun e he hb=> ?_⟩
     have dY:=hd
     unfold lu at dY
     simp only [aeH,aeJ,ae6,aff] at dY
     have eJ:=(dY.2 j (by simpa using hj)).1
     have rX:ops.toList[j]? =some ops[j]:=by simp [hj]
     simp only [rX,aeT,afz] at eJ
     have hlt:=eJ e.on (tx.2 ⟨e,he,hb,rfl⟩)
     exact ih e.on hlt (by omega)
    rw [se] at this
    simp at this
 have RR:∀j,j<ops.size->∀e,e∈(dep[j]?).getD []->e<j:=fun j hj e he=>by
  have dY:=hd
  unfold lu at dY
  simp only [aeH,aeJ,ae6,aff] at dY
  have:=((dY.2 j (by simpa using hj)).2 e he).1
  simpa using this
 -- mT block vP waits ad2 ad3 own where all calls ahead of it HR done
 have norm:∀(listed:Array Bool) (a:Act) (w:World),listed.size=ops.size->(∀(j:Nat) op,ops[j]? =some op->listed.getD j false=true->∀e,e∈fb op->listed.getD e false=true)->
   (∃(L:Array Bool) (o:aN) (zs:List AV) (b:Nat),os[jn]? =some o/\o.ao= .new zs/\0<zs.length/\listed.getD jn false=true/\(∀j,L.getD j false=(listed.getD j false&& !Nat.beq j jn))/\jq E0 n ops dep J base w0 σ g k rs hs (pn n o.dst) (tL E0 n base b zs o.dst) L a w/\∃c,c<jn/\dx hs c=true/\¬c∈(dep[jn]?).getD []/\qC dep c jn=true)->
   (∀c,c<jn->dx hs c=true->¬c∈(dep[jn]?).getD []->listed.getD c false=true)->
   jq E0 n ops dep J base w0 σ g k rs hs (fun _=>false) (fun _ _=>True) listed a w:=by
  rintro listed a w eI cX ⟨L,o,zs,b,ho,dM,hz,bo,hL,hI,_⟩ cA
  have cV:jn<ops.size:=by rw [<-hlen];exact (aeN.1 ho).1
  obtain ⟨r,dw,da,hrun,gj⟩:=c3 jn o ho
  have hg:o.guard=none:=by
   have:=po o ho
   unfold kK at this
   split at this
   ·assumption
   ·simp at this
  have I3:r.val= .ref r.fr zs.length 0 0/\r.ups=[(r.fr,some ⟨zs.length,[zs]⟩)]:=by
   rcases hrun with ⟨_,hrun⟩|⟨f,as_,k1,_,_,_,dX,_⟩
   ·generalize hv:r.val=v at hrun ⊢
    generalize hu:r.ups=u at hrun ⊢
    generalize ha:r.acc=ac at hrun
    cases hrun with
    |skip dj=>rw [hg] at dj;simp [cB] at dj
    |done dj h=>rw [dM] at h;simp [AO.aq,RM.run] at h;exact ⟨h.1.symm,h.2.symm⟩
    |call dj h=>rw [dM] at h;simp [AO.aq,RM.run] at h
    |rU dj h=>rw [dM] at h;simp [AO.aq,RM.run] at h
   ·rw [dM] at dX;simp [AO.aq,RM.run] at dX
  have RS:L.getD jn false=false:=by rw [hL];simp [Nat.beq_refl]
  have fq:∀e,e∈(dep[jn]?).getD []->L.getD e false=true:=fun e he=>by
   have hlt:=RR jn cV e he
   have h1:=rW hd cX jn ops[jn] (aeV cV) (cX jn _ (aeV cV) bo) e he
   rw [hL,h1]
   cases hb:Nat.beq e jn with
   |false=>rfl
   |true=>have:=aeU hb;omega
  have I4:=hI.cC DA hlen c8 hid hcs cV ho dw da RS fq hz I3.1 I3.2 gj
  have RT:L.size=listed.size:=by rw [hI.jm,eI]
  have:L.setIfInBounds jn true=listed:=by
   apply Array.ext
   ·simp [RT]
   ·intro i h1 h2
    have kF:i<L.size:=by simpa using h1
    have e1:(L.setIfInBounds jn true)[i]=(L.setIfInBounds jn true).getD i false:=by rw [agx,aeV h1];rfl
    have e2:listed[i]=listed.getD i false:=by rw [agx,aeV h2];rfl
    rw [e1,e2]
    by_cases e:jn=i
    ·subst e;rw [zg kF,bo]
    ·rw [getD_set_ne false e,hL]
     have:Nat.beq i jn=false:=by
      cases hb:Nat.beq i jn with
      |false=>rfl
      |true=>exact absurd (aeU hb).symm e
     rw [this];simp
  rw [this] at I4
  exact I4
 have done:∀(listed:Array Bool) (a:Act) (w:World),listed.size=ops.size->Region.ready .any ops listed=[]->jq E0 n ops dep J base w0 σ g k rs hs (fun _=>false) (fun _ _=>True) listed a w->Q .normal a w:=by
  intro listed a w eI se hI
  have cA:=I2 listed eI se
  obtain ⟨E,rfl,hle,h1,h2,h3,hmk,_⟩:=hI.ex
  have h1:∀t,aj E (a.tmps.getD t undef) (cw n (fun j=>listed.getD j false) rs σ t):=fun t=>h1 t rfl
  have e6:cw n (fun j=>listed.getD j false) rs σ=σ':=by
   rw [c6];funext t
   refine mX _ 0 _ fun j r hr hl=>absurd ?_ hl
   rw [aeW,cA j (by rw [<-hlen, <-c1];exact (aeN.1 hr).1)]
  have e7:cu (fun j=>listed.getD j false) rs g=g':=by
   rw [c7];funext t
   refine mX _ 0 _ fun j r hr hl=>absurd ?_ hl
   rw [aeW,cA j (by rw [<-hlen, <-c1];exact (aeN.1 hr).1)]
  rw [funext fun t=>congrFun e6 t] at h1
  rw [e7] at h2
  refine hQ a E.w ⟨⟨E,rfl,hle,h1,h2,fun id hh=> ?_,hmk⟩,hI.size,hI.below,hI.gl⟩
  rcases h3 id hh with h|⟨j,r,_,hr,hk|⟨k1,dc,hk⟩⟩
  ·exact ae7 h c2
  ·exact (c5 j r hr).1 id hk
  ·exact ae7 hk ((c5 j r hr).2 k1 dc)
 have I5:∀(listed:Array Bool) (a:Act) (w:World),listed.size=ops.size->(∀(j:Nat) op,ops[j]? =some op->listed.getD j false=true->∀e,e∈fb op->listed.getD e false=true)->_->Region.ready .any ops listed=[]->Q .normal a w:=fun listed a w eI cX hI se=>by
  have hI:(jq E0 n ops dep J base w0 σ g k rs hs (fun _=>false) (fun _ _=>True) listed a w/\(listed.getD jn false=true->∀c,c<jn->dx hs c=true->¬c∈(dep[jn]?).getD []->listed.getD c false=true))\/
    ∃(L:Array Bool) (o:aN) (zs:List AV) (b:Nat),os[jn]? =some o/\o.ao= .new zs/\0<zs.length/\listed.getD jn false=true/\(∀j,L.getD j false=(listed.getD j false&& !Nat.beq j jn))/\jq E0 n ops dep J base w0 σ g k rs hs (pn n o.dst) (tL E0 n base b zs o.dst) L a w/\∃c,c<jn/\dx hs c=true/\¬c∈(dep[jn]?).getD []/\qC dep c jn=true:=hI
  rcases hI with ⟨hI,_⟩|hI
  ·exact done listed a w eI se hI
  ·refine done listed a w eI se (norm listed a w eI cX hI fun c hc _ _=> ?_)
   obtain ⟨_,o,_,_,ho,_⟩:=hI
   exact I2 listed eI se c (by have:=(aeN.1 ho).1;omega)
 intro fuel
 induction fuel with
 |zero=>
  intro listed a w eI cX hI iV
  have hr:Region.ready .any ops listed=[]:=by
   cases hr:Region.ready .any ops listed with
   |nil=>rfl
   |cons x xs=>
    have hx:x∈Region.ready .any ops listed:=by rw [hr];simp
    obtain ⟨m1,o,m2,_⟩:=mem_ready.1 hx
    have:=iV [x] (fun j hj=>by simp at hj;subst hj;exact ⟨(afx.1 m2).1,m1⟩) (by simp)
    simp at this
  exact ⟨hr,I5 listed a w eI cX hI hr⟩
 |succ fuel ih=>
  intro listed a w eI cX hI iV
  refine ⟨I5 listed a w eI cX hI,fun i hi=> ?_⟩
  obtain ⟨m1,op,m2,m3⟩:=mem_ready.1 hi
  have cV:i<ops.size:=(afx.1 m2).1
  have kI:i<listed.size:=by rw [eI];exact cV
  have dZ:listed.getD i false=false:=by
   simp [kI] at m1 ⊢; exact m1
  have I6:∀e,e∈fb op->listed.getD e false=true:=fun e he=>by
   obtain ⟨x,hx,hb,rfl⟩:=tx.1 he
   exact m3 x hx hb
  have fq:∀e,e∈(dep[i]?).getD []->listed.getD e false=true:=fun e he=>rW hd cX i op m2 I6 e he
  obtain ⟨o,ho,l9⟩:=fP i op m2
  have DB:∀(j:Nat) op,ops[j]? =some op->(listed.setIfInBounds i true).getD j false=true->∀e,e∈fb op->(listed.setIfInBounds i true).getD e false=true:=fun j oj bZ bo e he=>by
   by_cases cv:j=i
   ·subst cv
    rw [m2] at bZ;simp only [aeF] at bZ;subst bZ
    exact getD_set_true (I6 e he)
   ·rw [getD_set_ne false (Ne.symm cv)] at bo
    exact getD_set_true (cX j oj bZ bo e he)
  have DC:∀m:List Nat,(∀j,j∈m->j<ops.size/\(listed.setIfInBounds i true).getD j true=false)->m.Nodup->m.length<=fuel:=fun m hm dC=>by
   have qt:i∉m:=fun dR=>by
    have:=(hm i dR).2
    simp [kI] at this
   have:=iV (i::m) (fun j hj=>by
    rcases aeQ.1 hj with rfl|hj
    ·exact ⟨cV,m1⟩
    ·refine ⟨(hm j hj).1, ?_⟩
     have h5:=(hm j hj).2
     have cv:i≠j:=fun e=>qt (e▸hj)
     rwa [getD_set_ne true cv] at h5) (af6.2 ⟨qt,dC⟩)
   simpa using this
  have DD:(listed.setIfInBounds i true).size=ops.size:=by simpa using eI
  -- either nothing waits, or a call ahead of mT block is still to be done
  have nU:(jq E0 n ops dep J base w0 σ g k rs hs (fun _=>false) (fun _ _=>True) listed a w/\(listed.getD jn false=true->∀c,c<jn->dx hs c=true->¬c∈(dep[jn]?).getD []->listed.getD c false=true))\/
    ((∃(L:Array Bool) (o:aN) (zs:List AV) (b:Nat),os[jn]? =some o/\o.ao= .new zs/\0<zs.length/\listed.getD jn false=true/\(∀j,L.getD j false=(listed.getD j false&& !Nat.beq j jn))/\jq E0 n ops dep J base w0 σ g k rs hs (pn n o.dst) (tL E0 n base b zs o.dst) L a w/\∃c,c<jn/\dx hs c=true/\¬c∈(dep[jn]?).getD []/\qC dep c jn=true)/\∃c,c<jn/\dx hs c=true/\¬c∈(dep[jn]?).getD []/\listed.getD c false=false):=by
   rcases hI with hI|hI
   ·exact .inl hI
   ·by_cases cA:∀c,c<jn->dx hs c=true->¬c∈(dep[jn]?).getD []->listed.getD c false=true
    ·exact .inl ⟨norm listed a w eI cX hI cA,fun _=>cA⟩
    ·right
     refine ⟨hI,af7 fun hx=>cA fun c q1 q2 q3=> ?_⟩
     cases hc:listed.getD c false with
     |true=>rfl
     |false=>exact absurd ⟨c,q1,q2,q3,hc⟩ hx
  clear hI
  rcases nU with ⟨hI,hq⟩|⟨⟨L,oj,zs,b,bZ,dM,hz,bo,hL,hI,DE⟩,c0,nR,n7,Dp,Dq⟩
  ·have plain:(i=jn->∀c,c<i->dx hs c=true->¬c∈(dep[i]?).getD []->listed.getD c false=true)->wpOpIn (dB rd) 0 P ops Q i (fun a w=>wpAnyIn (dB rd) 0 P .any ops Q fuel (listed.setIfInBounds i true) a w) a w:=fun tJ=>by
    refine IZ DA hlen c8 hid hcs hI m2 ho l9 dZ fq (fun _ _=>rfl) (fun hc hl hlt=> ?_) tJ (fun _ _ _ _ _=>trivial) fun a' w' m4=>ih _ a' w' DD DB (.inl ⟨m4,fun hl c q1 q2 q3=> ?_⟩) DC
    ·exact af7 fun hx=>by
      have:=hq hl i hlt hc hx
      rw [dZ] at this;simp at this
    ·by_cases e:i=jn
     ·have:=tJ e c (by omega) q2 (by rw [e];exact q3)
      exact getD_set_true this
     ·rw [getD_set_ne false e] at hl
      exact getD_set_true (hq hl c q1 q2 q3)
   by_cases e:i=jn
   ·by_cases cA:∀c,c<i->dx hs c=true->¬c∈(dep[i]?).getD []->listed.getD c false=true
    ·exact plain fun _=>cA
    ·have hnew:=po o (by rw [<-e];exact ho)
     obtain ⟨zs,dM,hg⟩:∃zs,o.ao= .new zs/\o.guard=none:=by
      unfold kK at hnew
      split at hnew
      ·rename_i zs h1 h2;exact ⟨zs,h1,h2⟩
      ·simp at hnew
     obtain ⟨r,dw,da,hrun,gj⟩:=c3 i o ho
     have sf:r.ups≠[]:=by
      rcases hrun with ⟨_,hrun⟩|⟨f,as_,k1,_,_,_,dX,_⟩
      ·generalize hu:r.ups=u at hrun
       generalize hv:r.val=v at hrun
       generalize ha:r.acc=ac at hrun
       cases hrun with
       |skip dj=>rw [hg] at dj;simp [cB] at dj
       |done dj h=>rw [dM] at h;simp [AO.aq,RM.run] at h;rw [<-h.2];simp
       |call dj h=>rw [dM] at h;simp [AO.aq,RM.run] at h
       |rU dj h=>rw [dM] at h;simp [AO.aq,RM.run] at h
      ·rw [dM] at dX;simp [AO.aq,RM.run] at dX
     have hex:∃c,c<i/\dx hs c=true/\¬c∈(dep[i]?).getD []:=af7 fun hx=>cA fun c q1 q2 q3=>absurd ⟨c,q1,q2,q3⟩ hx
     obtain ⟨c,q1,q2,q3⟩:=hex
     have DE:qC dep c i=true:=by
      have sh:=hcs
      unfold mg at sh
      simp only [aeJ,ae6,ae8,afX] at sh
      have RU:i<rs.length:=(aeN.1 dw).1
      have s2:=(sh i RU c q1).resolve_left q3
      have DF:rs[c]? =some (rs[c]'(by omega)):=aeL (by omega)
      rw [DF,dw] at s2
      simp only [aeH,ae8,ae1,afI] at s2
      exact ((s2.2.1.resolve_left (by rw [q2];simp)).resolve_left sf).2
     refine RO hI m2 l9 hg dM fun a' w' b hz m4=>ih _ a' w' DD DB (.inr ⟨listed,o,zs,b,by rw [<-e];exact ho,dM,hz,by rw [<-e];exact zg kI,fun j=> ?_,m4,c,by omega,q2,by rw [<-e];exact q3,by rw [<-e];exact DE⟩) DC
     by_cases ej:i=j
     ·subst ej;rw [dZ,e,Nat.beq_refl];simp
     ·rw [getD_set_ne false ej]
      have:Nat.beq j jn=false:=by
       cases hb:Nat.beq j jn with
       |false=>rfl
       |true=>exact absurd ((aeU hb).trans e.symm).symm ej
      rw [this];simp
   ·exact plain fun h=>absurd h e
  ·have cv:i≠jn:=fun e=>by rw [e,bo] at dZ;simp at dZ
   have I7:¬jn∈(dep[i]?).getD []:=fun dR=>by
    obtain ⟨c,q1,q2,q3,q4⟩:∃c,c<jn/\dx hs c=true/\¬c∈(dep[jn]?).getD []/\listed.getD c false=false:=⟨c0,nR,n7,Dp,Dq⟩
    have bL:jn<rs.length:=by rw [c1];exact (aeN.1 bZ).1
    obtain ⟨r,dw,da,hrun,gj⟩:=c3 jn oj bZ
    have hg:oj.guard=none:=by
     have:=po oj bZ
     unfold kK at this
     split at this
     ·assumption
     ·simp at this
    have sf:r.ups≠[]:=by
     rcases hrun with ⟨_,hrun⟩|⟨f,as_,k1,_,_,_,dX,_⟩
     ·generalize hu:r.ups=u at hrun
      generalize hv:r.val=v at hrun
      generalize ha:r.acc=ac at hrun
      cases hrun with
      |skip dj=>rw [hg] at dj;simp [cB] at dj
      |done dj h=>rw [dM] at h;simp [AO.aq,RM.run] at h;rw [<-h.2];simp
      |call dj h=>rw [dM] at h;simp [AO.aq,RM.run] at h
      |rU dj h=>rw [dM] at h;simp [AO.aq,RM.run] at h
     ·rw [dM] at dX;simp [AO.aq,RM.run] at dX
    have sh:=hcs
    unfold mg at sh
    simp only [aeJ,ae6,ae8,afX] at sh
    have s2:=(sh jn bL c q1).resolve_left q3
    have DF:rs[c]? =some (rs[c]'(by omega)):=aeL (by omega)
    rw [DF,dw] at s2
    simp only [aeH,ae8,ae1,afI] at s2
    have DG:=((s2.2.1.resolve_left (by rw [q2];simp)).resolve_left sf).2
    unfold qC at DG
    simp only [aeJ,ae8,ae1,afn,ae3,aff] at DG
    have v7:(dep[i]?).getD []∈dep:=by
     cases hx:dep[i]? with
     |none=>rw [hx] at dR;simp at dR
     |some d=>exact afd hx
    have:=fq c ((DG _ v7).resolve_left fun h=>h dR)
    rw [q4] at this;simp at this
   have RV:L.getD i false=false:=by rw [hL,dZ];simp
   have RW:∀e,e∈(dep[i]?).getD []->L.getD e false=true:=fun e he=>by
    rw [hL,fq e he]
    have:Nat.beq e jn=false:=by
     cases hb:Nat.beq e jn with
     |false=>rfl
     |true=>exact absurd ((aeU hb)▸he) I7
    rw [this];simp
   have RX:L.getD jn false=false:=by rw [hL];simp [Nat.beq_refl]
   have bL:jn<os.length:=(aeN.1 bZ).1
   have RY:i<os.length:=(aeN.1 ho).1
   -- mT slot of mT block vP waits is not looked at
   have I8:∀d,oj.dst=some d->¬d∈o.l5/\o.dst≠some d:=fun d iO=>by
    have zh:=c8
    unfold iU at zh
    simp only [aeJ,ae6,ae8,afX] at zh
    by_cases hlt:jn<i
    ·have s1:=(zh i RY jn hlt).resolve_left I7
     rw [bZ,ho] at s1
     unfold l7 at s1
     simp only [iO,aeH,ae1,afn,ae3,bne_iff_ne,ne_eq] at s1
     exact ⟨s1.1.1,fun h=>by rw [h] at s1;simp at s1⟩
    ·have yT:i<jn:=by omega
     have dC:¬i∈(dep[jn]?).getD []:=fun dR=>by
      have:=rW hd cX jn _ (aeV (by omega)) (cX jn _ (aeV (by omega)) bo) i dR
      rw [dZ] at this;simp at this
     have s1:=(zh jn bL i yT).resolve_left dC
     rw [bZ,ho] at s1
     unfold l7 at s1
     simp only [iO,aeH,ae1,afn,ae3,bne_iff_ne,ne_eq] at s1
     cases hx:o.dst with
     |none=>rw [hx] at s1;simp at s1;exact ⟨s1,by simp⟩
     |some d2=>
      rw [hx] at s1
      simp at s1
      exact ⟨s1.2,fun h=>s1.1.2 (Option.some.inj h).symm⟩
   refine IZ DA hlen c8 hid hcs hI m2 ho l9 RV RW (fun t ht=> ?_) (fun _ hl=>by rw [RX] at hl;simp at hl) (fun h=>absurd h cv) (fun E1 E2 v hp hE=> ?_) fun a' w' m4=>ih _ a' w' DD DB (.inr ⟨L.setIfInBounds i true,oj,zs,b,bZ,dM,hz,getD_set_true bo,fun j=> ?_,m4,DE⟩) DC
   ·unfold pn
    rw [Bool.and_eq_false_iff]
    left
    cases hx:oj.dst with
    |none=>rfl
    |some d=>
     have:=(I8 d hx).1
     simp only [beq_eq_false_iff_ne,ne_eq,aeF]
     intro e;subst e;exact this ht
   ·obtain ⟨p1,p2,p3,p4,arr,t0,p5,p6,p7⟩:=hp
    refine ⟨(hE.fx b p1).1,p2,p3,fun t ht hn=> ?_,arr,t0,by rw [(hE.fx b p1).2];exact p5,p6,p7⟩
    rw [<-p4 t ht hn]
    have aI:=(I8 t ht).2
    cases hx:o.dst with
    |none=>rfl
    |some d=>
     rw [hx] at aI
     have eT:d≠t:=fun e=>aI (by rw [e])
     simp only [Act.put]
     simp [agx,agI,eT]
   ·by_cases ej:i=j
    ·subst ej
     have hb:Nat.beq i jn=false:=by
      cases hb:Nat.beq i jn with
      |false=>rfl
      |true=>exact absurd (aeU hb) cv
     rw [zg (by rw [hI.jm];exact cV),zg kI,hb];rfl
    ·rw [getD_set_ne false ej,getD_set_ne false ej,hL]
theorem RZ {id:Nat} (C2:P.follows .mixedOrders=true) (fo:ik P n os σ g k rs hs σ' g' k') (hlen:os.length=ops.size) (fP:∀(j:Nat) op,ops[j]? =some op->∃o,os[j]? =some o/\iS P ops op=some o)
  (hd:lu ops.toList dep=true) (c8:iU os dep=true) (hid:iC rs dep=true) (hcs:mg jn rs hs dep=true) (po:∀o,os[jn]? =some o->kK o=true) (hQ:∀a w,ic E0 J base w0 n σ' g' k' a w->Q .normal a w) {a:Act} (hrel:ic E0 J base w0 n σ g k a w) {rd:Option Nat}:(Code.region id ops true).wpIn (dB rd) 0 P Q a w:=by
 refine wpIn_region_any C2 ?_
 obtain ⟨E,rfl,hle,h1,h2,h3,hmk⟩:=hrel.ex
 obtain ⟨E',hw,hE,hM,_,hk,_,_⟩:=h2.drew
 have dA:∀(j:Nat),(Array.replicate ops.size false).getD j false=false:=by
  intro j
  rcases afq j ops.size with h|h
  ·simp [h]
  ·simp [h]
 refine RQ fo hlen fP hd c8 hid hcs po hQ ops.size _ a _ (by simp) (fun j op cW hl=>by rw [dA] at hl;simp at hl) (.inl ⟨⟨⟨E',hw,hle.trans hE,fun t _=> ?_, ?_,fun id hh=> .inl (h3 id ((hk id).1 hh)),hmk.step hE,trivial⟩,hrel.size,hrel.below.drew,hrel.gl,by simp,fun j hj hl=>by rw [dA] at hl;simp at hl⟩,fun hl=>by rw [dA] at hl;simp at hl⟩) fun m hm dC=> ?_
 ·have:cw n (fun j=>(Array.replicate ops.size false).getD j false) rs σ t=σ t:=mY _ 0 _ fun j r _ hl=>by rw [dA] at hl;simp at hl
  rw [this];exact (h1 t).step hE
 ·have:cu (fun j=>(Array.replicate ops.size false).getD j false) rs g=g:=by funext id;exact mY _ 0 _ fun j r _ hl=>by rw [dA] at hl;simp at hl
  rw [this];exact hM
 ·exact CU _ _ dC fun j hj=>(hm j hj).1
inductive mh (P:Program) (n:Nat) (dep:List (List Nat)) (jn:Nat):List aN->(Nat->AV)->(Nat->Option Bk)->Nat->List Rec->List (Option Nat)->(Nat->AV)->(Nat->Option Bk)->Nat->Prop
 |nil {σ:Nat->AV} {g:Nat->Option Bk} {k:Nat} {rs:List Rec} {hs:List (Option Nat)} (hid:iC rs dep=true) (hcs:mg jn rs hs dep=true):mh P n dep jn [] σ g k rs hs σ g k
 |cons {o:aN} {os:List aN} {σ σ':Nat->AV} {g g':Nat->Option Bk} {k k1 k':Nat} {val:AV} {ups:List (Nat×Option Bk)} {acc:List Nat} {rs:List Rec} {hs:List (Option Nat)} (h:fa P σ g k o val ups acc) (hk:k<=k1) (hu:∀id,id∈ups.map Prod.fst->id<k1)
   (hr:mh P n dep jn os (cy n o.dst val σ) (aJ g ups) k1 (rs++[⟨o.dst,val,ups,acc,k⟩]) (hs++[none]) σ' g' k'):mh P n dep jn (o::os) σ g k rs hs σ' g' k'
 |fi {o:aN} {os:List aN} {σ σ':Nat->AV} {g g':Nat->Option Bk} {k k1 k':Nat} {r:AV} {f:FuncId} {as_:List AV} {ups:List (Nat×Option Bk)} {rs:List Rec} {hs:List (Option Nat)} (hg:cB σ o.guard=some true) (hal:o.ao.allocs=false) (h:(o.ao.aq k (aR σ)).run g=some (.call f as_)) (hc:aX P f=true) (hf:Fi P f as_ g k r (aJ g ups) k1) (hk:k<=k1) (hu:∀id,id∈ups.map Prod.fst->id<k1)
   (hr:mh P n dep jn os (cy n o.dst r σ) (aJ g ups) k1 (rs++[⟨o.dst,r,ups,[],k⟩]) (hs++[some k1]) σ' g' k'):mh P n dep jn (o::os) σ g k rs hs σ' g' k'
theorem mh.all {pre:List aN} {dL:Nat->AV} {g0:Nat->Option Bk} {kk:Nat} (h0:ik P n pre dL g0 kk rs hs σ g k) (h:mh P n dep jn os σ g k rs hs σ' g' k'):∃zj lY,ik P n (pre++os) dL g0 kk zj lY σ' g' k'/\iC zj dep=true/\mg jn zj lY dep=true:=by
 induction h generalizing pre with
 |nil h1 h2=>exact ⟨_,_,by rw [agm];exact h0,h1,h2⟩
 | @cons o os σ σ' g g' k k1 k' val ups acc rs hs h hk hu hr ih=>
  have:=ih (pre:=pre++[o]) (h0.snoc h hk hu)
  rwa [afY] at this
 | @fi o os σ σ' g g' k k1 k' r f as_ ups rs hs hg hal h hc hf hk hu hr ih=>
  have:=ih (pre:=pre++[o]) (h0.Rv hg hal h hc hf hk hu)
  rwa [afY] at this
theorem EW.R5 {s:S3} {Q:Ex->S3->Prop} {s':S3} (po:∀o,os[jn]? =some o->kK o=true) (h:mh P n dep jn os s.σ s.g s.k [] [] s'.σ s'.g s'.k) (hq:Q .normal s'):EW P n k0 (.cC os (some dep)) s Q:=by
 intro rd c E0 J base w0 a w da hc hk hr
 obtain ⟨id,ops,draw,rfl,h1,h2⟩:=yZ hc
 rcases h2 with ⟨rfl,hh⟩|⟨rfl,d,hd,h3,h4,h5⟩
 ·simp at hh
 ·simp only [aeF] at hd
  subst hd
  obtain ⟨k1,k2⟩:=vR h1
  obtain ⟨zj,lY,a1,a2,a3⟩:=mh.all .nil h
  rw [List.nil_append] at a1
  exact RZ h5 a1 (by rw [<-k1];simp) (fun j op hj=>k2 j op (by simpa using hj)) h3 h4 a2 a3 po (fun a' w' hr'=>⟨.normal,s',hq,rfl,hr'⟩) hr
end
abbrev cl (f:Nat) (as_:List Arg):AO:= .call (.c (.fn f [])) as_
abbrev lq (n k:Nat):AO:= .load (some n) (.s k)
abbrev zi (n:Int):AV:= .v (.int .i64 n)
abbrev zs:AV:= .v (.string ⟨#[]⟩)
abbrev ms (k:Nat):AO:= .mov (.s k)
abbrev fd (a k:Nat):AO:= .fad a (.s k)
abbrev rg (R:List aN):AC:= .cC R none
def cf (P:Program) (k:Nat):ba:=(cFunc P k).getD ⟨0,[], .skip⟩
theorem bz (h:(cFunc P k).isSome=true):cFunc P k=some (cf P k):=by
 unfold cf
 cases hc:cFunc P k with
 |none=>rw [hc] at h;cases h
 |some F=>rfl
noncomputable def F3:ba:=cf Try.prog 3
theorem R6:cFunc Try.prog 3=some F3:=bz (by kernel_rfl)
theorem R7:aX Try.prog 3=true:=by kernel_rfl
noncomputable def F6:ba:=cf Try.prog 6
theorem R8:cFunc Try.prog 6=some F6:=bz (by kernel_rfl)
theorem R9:aX Try.prog 6=true:=by kernel_rfl
noncomputable def F7:ba:=cf Try.prog 7
theorem Sa:cFunc Try.prog 7=some F7:=bz (by kernel_rfl)
theorem Sb:aX Try.prog 7=true:=by kernel_rfl
noncomputable def F8:ba:=cf Try.prog 8
theorem Sc:cFunc Try.prog 8=some F8:=bz (by kernel_rfl)
theorem Sd:aX Try.prog 8=true:=by kernel_rfl
noncomputable def F9:ba:=cf Try.prog 9
theorem Se:cFunc Try.prog 9=some F9:=bz (by kernel_rfl)
theorem Sf:aX Try.prog 9=true:=by kernel_rfl
noncomputable def Sg:ba:=cf Try.prog 10
theorem Sh:cFunc Try.prog 10=some Sg:=bz (by kernel_rfl)
theorem Si:aX Try.prog 10=true:=by kernel_rfl
noncomputable def Sj:ba:=cf Try.prog 11
theorem Sk:cFunc Try.prog 11=some Sj:=bz (by kernel_rfl)
theorem Sl:aX Try.prog 11=true:=by kernel_rfl
noncomputable def Sm:ba:=cf Try.prog 12
theorem Sn:cFunc Try.prog 12=some Sm:=bz (by kernel_rfl)
theorem So:aX Try.prog 12=true:=by kernel_rfl
noncomputable def Sp:ba:=cf Try.prog 13
theorem Sq:cFunc Try.prog 13=some Sp:=bz (by kernel_rfl)
theorem Sr:aX Try.prog 13=true:=by kernel_rfl
noncomputable def Ss:ba:=cf Try.prog 14
theorem St:cFunc Try.prog 14=some Ss:=bz (by kernel_rfl)
theorem Su:aX Try.prog 14=true:=by kernel_rfl
noncomputable def Sv:ba:=cf Try.prog 15
theorem Sw:cFunc Try.prog 15=some Sv:=bz (by kernel_rfl)
theorem Sx:aX Try.prog 15=true:=by kernel_rfl
noncomputable def Sy:ba:=cf Try.prog 16
theorem Sz:cFunc Try.prog 16=some Sy:=bz (by kernel_rfl)
theorem SA:aX Try.prog 16=true:=by kernel_rfl
noncomputable def SC:ba:=cf Try.prog 17
theorem SD:cFunc Try.prog 17=some SC:=bz (by kernel_rfl)
theorem SE:aX Try.prog 17=true:=by kernel_rfl
noncomputable def I9:ba:=cf Try.prog 18
theorem Ja:cFunc Try.prog 18=some I9:=bz (by kernel_rfl)
theorem Jb:aX Try.prog 18=true:=by kernel_rfl
noncomputable def Jc:ba:=cf Try.prog 19
theorem SF:cFunc Try.prog 19=some Jc:=bz (by kernel_rfl)
theorem SG:aX Try.prog 19=true:=by kernel_rfl
noncomputable def Jd:ba:=cf Try.prog 20
theorem Je:cFunc Try.prog 20=some Jd:=bz (by kernel_rfl)
theorem Jf:aX Try.prog 20=true:=by kernel_rfl
noncomputable def zk:ba:=cf Try.prog 21
theorem DH:cFunc Try.prog 21=some zk:=bz (by kernel_rfl)
theorem DI:aX Try.prog 21=true:=by kernel_rfl
noncomputable def Jg:ba:=cf Try.prog 22
theorem Jh:cFunc Try.prog 22=some Jg:=bz (by kernel_rfl)
theorem Ji:aX Try.prog 22=true:=by kernel_rfl
noncomputable def SH:ba:=cf Try.prog 23
theorem SI:cFunc Try.prog 23=some SH:=bz (by kernel_rfl)
theorem SJ:aX Try.prog 23=true:=by kernel_rfl
noncomputable def SK:ba:=cf Try.prog 24
theorem SL:cFunc Try.prog 24=some SK:=bz (by kernel_rfl)
theorem SM:aX Try.prog 24=true:=by kernel_rfl
noncomputable def SN:ba:=cf Try.prog 25
theorem SO:cFunc Try.prog 25=some SN:=bz (by kernel_rfl)
theorem SP:aX Try.prog 25=true:=by kernel_rfl
noncomputable def SQ:ba:=cf Try.prog 26
theorem SU:cFunc Try.prog 26=some SQ:=bz (by kernel_rfl)
theorem SW:aX Try.prog 26=true:=by kernel_rfl
noncomputable def SX:ba:=cf Try.prog 27
theorem SY:cFunc Try.prog 27=some SX:=bz (by kernel_rfl)
theorem SZ:aX Try.prog 27=true:=by kernel_rfl
noncomputable def S0:ba:=cf Try.prog 28
theorem S1:cFunc Try.prog 28=some S0:=bz (by kernel_rfl)
theorem S2:aX Try.prog 28=true:=by kernel_rfl
noncomputable def S4:ba:=cf Try.prog 29
theorem S5:cFunc Try.prog 29=some S4:=bz (by kernel_rfl)
theorem S6:aX Try.prog 29=true:=by kernel_rfl
noncomputable def S7:ba:=cf Try.prog 30
theorem S8:cFunc Try.prog 30=some S7:=bz (by kernel_rfl)
theorem S9:aX Try.prog 30=true:=by kernel_rfl
noncomputable def Ta:ba:=cf Try.prog 31
theorem Tb:cFunc Try.prog 31=some Ta:=bz (by kernel_rfl)
theorem Td:aX Try.prog 31=true:=by kernel_rfl
noncomputable def Te:ba:=cf Try.prog 32
theorem Tf:cFunc Try.prog 32=some Te:=bz (by kernel_rfl)
theorem Tg:aX Try.prog 32=true:=by kernel_rfl
noncomputable def Th:ba:=cf Try.prog 33
theorem Ti:cFunc Try.prog 33=some Th:=bz (by kernel_rfl)
theorem Tj:aX Try.prog 33=true:=by kernel_rfl
noncomputable def Tk:ba:=cf Try.prog 34
theorem Tl:cFunc Try.prog 34=some Tk:=bz (by kernel_rfl)
theorem Tm:aX Try.prog 34=true:=by kernel_rfl
noncomputable def Tn:ba:=cf Try.prog 35
theorem To:cFunc Try.prog 35=some Tn:=bz (by kernel_rfl)
theorem Tp:aX Try.prog 35=true:=by kernel_rfl
noncomputable def Tq:ba:=cf Try.prog 36
theorem Tr:cFunc Try.prog 36=some Tq:=bz (by kernel_rfl)
theorem Ts:aX Try.prog 36=true:=by kernel_rfl
noncomputable def Tt:ba:=cf Try.prog 37
theorem Tu:cFunc Try.prog 37=some Tt:=bz (by kernel_rfl)
theorem Tv:aX Try.prog 37=true:=by kernel_rfl
noncomputable def Tw:ba:=cf Try.prog 38
theorem Tx:cFunc Try.prog 38=some Tw:=bz (by kernel_rfl)
theorem Ty:aX Try.prog 38=true:=by kernel_rfl
noncomputable def DJ:ba:=cf Try.prog 39
theorem Jj:cFunc Try.prog 39=some DJ:=bz (by kernel_rfl)
theorem Jk:aX Try.prog 39=true:=by kernel_rfl
noncomputable def Jl:ba:=cf Try.prog 40
theorem Tz:cFunc Try.prog 40=some Jl:=bz (by kernel_rfl)
theorem TA:aX Try.prog 40=true:=by kernel_rfl
noncomputable def Jm:ba:=cf Try.prog 41
theorem TB:cFunc Try.prog 41=some Jm:=bz (by kernel_rfl)
theorem TC:aX Try.prog 41=true:=by kernel_rfl
noncomputable def TF:ba:=cf Try.prog 42
theorem TG:cFunc Try.prog 42=some TF:=bz (by kernel_rfl)
theorem TH:aX Try.prog 42=true:=by kernel_rfl
noncomputable def TI:ba:=cf Try.prog 43
theorem TJ:cFunc Try.prog 43=some TI:=bz (by kernel_rfl)
theorem TK:aX Try.prog 43=true:=by kernel_rfl
noncomputable def Jn:ba:=cf Try.prog 44
theorem Jo:cFunc Try.prog 44=some Jn:=bz (by kernel_rfl)
theorem Jp:aX Try.prog 44=true:=by kernel_rfl
noncomputable def TL:ba:=cf Try.prog 45
theorem TM:cFunc Try.prog 45=some TL:=bz (by kernel_rfl)
theorem TN:aX Try.prog 45=true:=by kernel_rfl
noncomputable def TO:ba:=cf Try.prog 46
theorem TP:cFunc Try.prog 46=some TO:=bz (by kernel_rfl)
theorem TQ:aX Try.prog 46=true:=by kernel_rfl
noncomputable def TR:ba:=cf Try.prog 47
theorem TS:cFunc Try.prog 47=some TR:=bz (by kernel_rfl)
theorem TT:aX Try.prog 47=true:=by kernel_rfl
noncomputable def TU:ba:=cf Try.prog 48
theorem Jq:cFunc Try.prog 48=some TU:=bz (by kernel_rfl)
theorem Jr:aX Try.prog 48=true:=by kernel_rfl
noncomputable def TV:ba:=cf Try.prog 49
theorem TW:cFunc Try.prog 49=some TV:=bz (by kernel_rfl)
theorem TX:aX Try.prog 49=true:=by kernel_rfl
noncomputable def TY:ba:=cf Try.prog 50
theorem TZ:cFunc Try.prog 50=some TY:=bz (by kernel_rfl)
theorem T0:aX Try.prog 50=true:=by kernel_rfl
noncomputable def zl:ba:=cf Try.prog 51
theorem DK:cFunc Try.prog 51=some zl:=bz (by kernel_rfl)
theorem DL:aX Try.prog 51=true:=by kernel_rfl
noncomputable def T1:ba:=cf Try.prog 52
theorem T2:cFunc Try.prog 52=some T1:=bz (by kernel_rfl)
theorem T3:aX Try.prog 52=true:=by kernel_rfl
noncomputable def T4:ba:=cf Try.prog 53
theorem T5:cFunc Try.prog 53=some T4:=bz (by kernel_rfl)
theorem T6:aX Try.prog 53=true:=by kernel_rfl
noncomputable def T7:ba:=cf Try.prog 54
theorem T8:cFunc Try.prog 54=some T7:=bz (by kernel_rfl)
theorem T9:aX Try.prog 54=true:=by kernel_rfl
noncomputable def Ua:ba:=cf Try.prog 55
theorem Ub:cFunc Try.prog 55=some Ua:=bz (by kernel_rfl)
theorem Uc:aX Try.prog 55=true:=by kernel_rfl
noncomputable def Ud:ba:=cf Try.prog 57
theorem Ue:cFunc Try.prog 57=some Ud:=bz (by kernel_rfl)
theorem Uf:aX Try.prog 57=true:=by kernel_rfl
noncomputable def Ug:ba:=cf Try.prog 58
theorem Uh:cFunc Try.prog 58=some Ug:=bz (by kernel_rfl)
theorem Ui:aX Try.prog 58=true:=by kernel_rfl
noncomputable def Uj:ba:=cf Try.prog 59
theorem Uk:cFunc Try.prog 59=some Uj:=bz (by kernel_rfl)
theorem Ul:aX Try.prog 59=true:=by kernel_rfl
noncomputable def Um:ba:=cf Try.prog 60
theorem Un:cFunc Try.prog 60=some Um:=bz (by kernel_rfl)
theorem Uo:aX Try.prog 60=true:=by kernel_rfl
noncomputable def Up:ba:=cf Try.prog 61
theorem Uq:cFunc Try.prog 61=some Up:=bz (by kernel_rfl)
theorem Ur:aX Try.prog 61=true:=by kernel_rfl
noncomputable def Us:ba:=cf Try.prog 62
theorem Ut:cFunc Try.prog 62=some Us:=bz (by kernel_rfl)
theorem Uu:aX Try.prog 62=true:=by kernel_rfl
noncomputable def DM:ba:=cf Try.prog 63
theorem zm:cFunc Try.prog 63=some DM:=bz (by kernel_rfl)
theorem zn:aX Try.prog 63=true:=by kernel_rfl
noncomputable def Uv:ba:=cf Try.prog 64
theorem Uw:cFunc Try.prog 64=some Uv:=bz (by kernel_rfl)
theorem Ux:aX Try.prog 64=true:=by kernel_rfl
theorem Uy:aX Try.prog 65=true:=by kernel_rfl
theorem Uz:aX Try.prog 66=true:=by kernel_rfl
noncomputable def UA:ba:=cf Try.prog 73
theorem UB:cFunc Try.prog 73=some UA:=bz (by kernel_rfl)
theorem UC:aX Try.prog 73=true:=by kernel_rfl
noncomputable def UD:ba:=cf Try.prog 74
theorem UE:cFunc Try.prog 74=some UD:=bz (by kernel_rfl)
theorem UF:aX Try.prog 74=true:=by kernel_rfl
noncomputable def UG:ba:=cf Try.prog 75
theorem UH:cFunc Try.prog 75=some UG:=bz (by kernel_rfl)
theorem UI:aX Try.prog 75=true:=by kernel_rfl
noncomputable def Js:ba:=cf Try.prog 76
theorem UJ:cFunc Try.prog 76=some Js:=bz (by kernel_rfl)
theorem UK:aX Try.prog 76=true:=by kernel_rfl
noncomputable def UL:ba:=cf Try.prog 77
theorem UM:cFunc Try.prog 77=some UL:=bz (by kernel_rfl)
theorem UN:aX Try.prog 77=true:=by kernel_rfl
noncomputable def Jt:ba:=cf Try.prog 78
theorem UO:cFunc Try.prog 78=some Jt:=bz (by kernel_rfl)
theorem UP:aX Try.prog 78=true:=by kernel_rfl
noncomputable def UQ:ba:=cf Try.prog 79
theorem UR:cFunc Try.prog 79=some UQ:=bz (by kernel_rfl)
theorem US:aX Try.prog 79=true:=by kernel_rfl
noncomputable def Ju:ba:=cf Try.prog 87
theorem UT:cFunc Try.prog 87=some Ju:=bz (by kernel_rfl)
theorem UU:aX Try.prog 87=true:=by kernel_rfl
noncomputable def UW:ba:=cf Try.prog 88
theorem UX:cFunc Try.prog 88=some UW:=bz (by kernel_rfl)
theorem UY:aX Try.prog 88=true:=by kernel_rfl
noncomputable def Jv:ba:=cf Try.prog 89
theorem UZ:cFunc Try.prog 89=some Jv:=bz (by kernel_rfl)
theorem U0:aX Try.prog 89=true:=by kernel_rfl
noncomputable def Jw:ba:=cf Try.prog 90
theorem U1:cFunc Try.prog 90=some Jw:=bz (by kernel_rfl)
theorem U2:aX Try.prog 90=true:=by kernel_rfl
noncomputable def Jx:ba:=cf Try.prog 91
theorem U3:cFunc Try.prog 91=some Jx:=bz (by kernel_rfl)
theorem U4:aX Try.prog 91=true:=by kernel_rfl
noncomputable def U5:ba:=cf Try.prog 95
theorem U6:cFunc Try.prog 95=some U5:=bz (by kernel_rfl)
theorem U7:aX Try.prog 95=true:=by kernel_rfl
def xt (a:UInt8):UInt8:=if a>127 then (a<<<1)^^^29 else a<<<1
def gm:Nat->UInt8->UInt8->UInt8->UInt8
 |0,_,_,o=>o
 |n+1,a,b,o=>gm n (xt a) (b>>>1) (if b&&&1=0 then o else o^^^a)
def aH (a b:UInt8):UInt8:=gm 8 a b 0
theorem DN (a b c:UInt8):a^^^(b^^^c)=b^^^(a^^^c):=by rw [<-af0,agf a b,af0]
theorem DO (a b:UInt8):a^^^(a^^^b)=b:=by rw [<-af0,agz,UInt8.zero_xor]
theorem Jy (a b c:UInt8):(a^^^b)&&&c=(a&&&c)^^^(b&&&c):=by
 apply UInt8.eq_of_toBitVec_eq
 simp only [UInt8.toBitVec_and,UInt8.toBitVec_xor]
 ext i
 simp only [BitVec.getElem_and,BitVec.getElem_xor]
 cases a.toBitVec[i]<;>cases b.toBitVec[i]<;>cases c.toBitVec[i]<;>rfl
theorem U8 (a b c:UInt8):(a^^^b)<<<c=(a<<<c)^^^(b<<<c):=by
 apply UInt8.eq_of_toBitVec_eq
 simp only [UInt8.toBitVec_shiftLeft,UInt8.toBitVec_xor]
 exact BitVec.shiftLeft_xor_distrib ..
theorem U9 (a b c:UInt8):(a^^^b)>>>c=(a>>>c)^^^(b>>>c):=by
 apply UInt8.eq_of_toBitVec_eq
 simp only [UInt8.toBitVec_shiftRight,UInt8.toBitVec_xor]
 exact BitVec.ushiftRight_xor_distrib ..
theorem mi (p:UInt8->Bool) (h:(List.range 256).all (fun n=>p (UInt8.ofNat n))=true) (a:UInt8):p a=true:=by
 rw [aeJ] at h
 have:=h a.toNat (ae6.2 a.toNat_lt)
 simpa using this
theorem Jz (a b:UInt8):xt (a^^^b)=xt a^^^xt b:=by
 have h1:∀c:UInt8,xt c=(c<<<1)^^^(if c&&&128=0 then 0 else 29):=fun c=>by
  have:=mi (fun c=>xt c==(c<<<1)^^^(if c&&&128=0 then 0 else 29)) (by decide+kernel) c
  simpa using this
 have h3:∀c:UInt8,c&&&128=0\/c&&&128=128:=fun c=>by
  have:=mi (fun c=>c&&&128==0||c&&&128==128) (by decide+kernel) c
  simpa using this
 rw [h1,h1 a,h1 b]
 have h2:(a^^^b)&&&128=(a&&&128)^^^(b&&&128):=Jy ..
 have h4:(a^^^b)<<<1=(a<<<1)^^^(b<<<1):=U8 ..
 rw [h2,h4]
 rcases h3 a with ha|ha<;>rcases h3 b with hb|hb<;>rw [ha,hb]<;>simp [af0,agf,DN]
theorem JA (n:Nat):∀a o,gm n a 0 o=o:=by
 induction n with
 |zero=>intros;rfl
 |succ n ih=>intro a o;simp only [gm];simpa using ih _ _
theorem DP (a b c d:UInt8):(a^^^b)^^^(c^^^d)=(a^^^c)^^^(b^^^d):=by
 simp [af0,DN]
theorem Va (n:Nat):∀a a' b o o',gm n (a^^^a') b (o^^^o')=gm n a b o^^^gm n a' b o':=by
 induction n with
 |zero=>intros;rfl
 |succ n ih=>
  intro a a' b o o'
  simp only [gm,Jz]
  by_cases h:b&&&1=0
  ·simp only [h,aeI];exact ih ..
  ·simp only [h,ae9];rw [DP];exact ih ..
theorem Vb (n:Nat):∀a b b' o o',gm n a (b^^^b') (o^^^o')=gm n a b o^^^gm n a b' o':=by
 have h3:∀c:UInt8,c&&&1=0\/c&&&1=1:=fun c=>by
  have:=mi (fun c=>c&&&1==0||c&&&1==1) (by decide+kernel) c
  simpa using this
 induction n with
 |zero=>intros;rfl
 |succ n ih=>
  intro a b b' o o'
  simp only [gm]
  have h2:(b^^^b')&&&1=(b&&&1)^^^(b'&&&1):=Jy ..
  have h4:(b^^^b')>>>1=(b>>>1)^^^(b'>>>1):=U9 ..
  rw [h2,h4, <-ih]
  congr 1
  rcases h3 b with hb|hb<;>rcases h3 b' with bQ|bQ<;>rw [hb,bQ]<;>simp [agf,DN,DO]
theorem Vc (n:Nat):∀a b o,gm n (xt a) b (xt o)=xt (gm n a b o):=by
 induction n with
 |zero=>intros;rfl
 |succ n ih=>
  intro a b o
  simp only [gm]
  by_cases h:b&&&1=0
  ·simp only [h,aeI];exact ih ..
  ·simp only [h,ae9];rw [<-Jz];exact ih ..
theorem tM (a a' b:UInt8):aH (a^^^a') b=aH a b^^^aH a' b:=by
 have:=Va 8 a a' b 0 0;simpa [aH] using this
theorem pr (a b b':UInt8):aH a (b^^^b')=aH a b^^^aH a b':=by
 have:=Vb 8 a b b' 0 0;simpa [aH] using this
theorem Vd (a b:UInt8):aH (xt a) b=xt (aH a b):=Vc 8 a b 0
theorem fS (a:UInt8):aH a 0=0:=JA 8 a 0
theorem v8 (a:UInt8):aH 1 a=a:=by
 have:=mi (fun c=>aH 1 c==c) (by decide+kernel) a
 simpa using this
def cD:Nat->UInt8->UInt8
 |0,a=>a
 |n+1,a=>xt (cD n a)
theorem JB (n:Nat) (a b:UInt8):aH (cD n a) b=cD n (aH a b):=by
 induction n with
 |zero=>rfl
 |succ n ih=>simp only [cD,Vd,ih]
theorem JC (n:Nat) (b:UInt8):aH (cD n 1) b=cD n b:=by rw [JB,v8]
theorem JD (P:UInt8->Prop) (h0:P 0) (hp:∀n,n<8->P (cD n 1)) (hx:∀a b,P a->P b->P (a^^^b)) (a:UInt8):P a:=by
 have hb:∀n,n<8->P (a&&&cD n 1):=fun n hn=>by
  have:a&&&cD n 1=0\/a&&&cD n 1=cD n 1:=by
   have:=mi (fun c=>(List.range 8).all fun n=>c&&&cD n 1==0||c&&&cD n 1==cD n 1) (by decide+kernel) a
   rw [aeJ] at this
   simpa using this n (ae6.2 hn)
  rcases this with h|h<;>rw [h]
  ·exact h0
  ·exact hp n hn
 have he:a=(a&&&cD 0 1)^^^((a&&&cD 1 1)^^^((a&&&cD 2 1)^^^((a&&&cD 3 1)^^^((a&&&cD 4 1)^^^((a&&&cD 5 1)^^^((a&&&cD 6 1)^^^(a&&&cD 7 1))))))):=by
  have:=mi (fun a=>a==(a&&&cD 0 1)^^^((a&&&cD 1 1)^^^((a&&&cD 2 1)^^^((a&&&cD 3 1)^^^((a&&&cD 4 1)^^^((a&&&cD 5 1)^^^((a&&&cD 6 1)^^^(a&&&cD 7 1)))))))) (by decide+kernel) a
  simpa using this
 rw [he]
 refine hx _ _ (hb 0 (by omega)) (hx _ _ (hb 1 (by omega)) (hx _ _ (hb 2 (by omega)) (hx _ _ (hb 3 (by omega)) (hx _ _ (hb 4 (by omega)) (hx _ _ (hb 5 (by omega)) (hx _ _ (hb 6 (by omega)) (hb 7 (by omega))))))))
theorem DQ (a:UInt8) (n:Nat) (hn:n<8):aH a (cD n 1)=cD n a:=by
 have:n=0\/n=1\/n=2\/n=3\/n=4\/n=5\/n=6\/n=7:=by omega
 have h:=mi (fun c=>(List.range 8).all fun n=>aH c (cD n 1)==cD n c) (by decide+kernel) a
 rw [aeJ] at h
 simpa using h n (ae6.2 hn)
theorem qD (a:UInt8):aH 0 a=0:=by
 have:=tM 0 0 a
 simpa using this
theorem mj (a b:UInt8):aH a b=aH b a:=by
 refine JD (fun b=>aH a b=aH b a) ?_ ?_ ?_ b
 ·rw [fS,qD]
 ·intro n hn;rw [DQ a n hn,JC]
 ·intro x y hx hy;rw [pr,tM,hx,hy]
theorem jr (a b c:UInt8):aH (aH a b) c=aH a (aH b c):=by
 refine JD (fun c=>aH (aH a b) c=aH a (aH b c)) ?_ ?_ ?_ c
 ·rw [fS,fS,fS]
 ·intro n hn
  rw [DQ _ n hn,DQ _ n hn,mj a (cD n b),JB,mj b]
 ·intro x y hx hy;rw [pr,pr,pr,hx,hy]
theorem zp (a:UInt8):aH a 1=a:=by rw [mj,v8]
def pw (n:Nat):UInt8:=cD n 1
theorem DR (n m:Nat) (a:UInt8):cD (n+m) a=cD n (cD m a):=by
 induction n with
 |zero=>simp [cD]
 |succ n ih=>rw [Nat.succ_add];simp only [cD,ih]
theorem Ve (i j:Nat):aH (pw i) (pw j)=pw (i+j):=by rw [pw,JC,pw,pw,DR]
theorem Vf:cD 255 1=1:=by decide+kernel
theorem Vg (n:Nat):pw (n+255)=pw n:=by rw [pw,DR,Vf,pw]
theorem Vh (n:Nat):pw (n%255)=pw n:=by
 have h:∀k m,pw (m+255*k)=pw m:=by
  intro k
  induction k with
  |zero=>intro m;rfl
  |succ k ih=>intro m;rw [show m+255*(k+1)=m+255*k+255 by omega,Vg,ih]
 rw [<-h (n / 255) (n%255)]
 congr 1
 omega
theorem Vi (a:UInt8) (h:a≠0):xt a≠0:=by
 have:=mi (fun c=>c==0||xt c !=0) (by decide+kernel) a
 simp only [ae8,beq_iff_eq,bne_iff_ne] at this
 rcases this with h'|h'
 ·exact absurd h' h
 ·exact h'
theorem Vj (n:Nat):pw n≠0:=by
 induction n with
 |zero=>decide
 |succ n ih=>exact Vi _ ih
def qE:Nat->UInt8->List UInt8
 |0,_=>[]
 |n+1,x=>x::qE n (xt x)
theorem DS (n:Nat):∀(x:UInt8) (i:Nat),i<n->(qE n x)[i]? =some (cD i x):=by
 induction n with
 |zero=>intro x i h;omega
 |succ n ih=>
  intro x i h
  cases i with
  |zero=>rfl
  |succ i=>
   simp only [qE,aft]
   rw [ih _ _ (by omega)]
   have:cD (i+1) x=cD i (xt x):=by rw [DR i 1 x];rfl
   rw [this]
theorem DT (n:Nat):∀x,(qE n x).length=n:=by
 induction n with
 |zero=>intro;rfl
 |succ n ih=>intro x;simp [qE,ih]
theorem Vk:(qE 255 1).Nodup:=by decide+kernel
theorem Vl (a:UInt8) (h:a≠0):a∈qE 255 1:=by
 have:=mi (fun c=>c==0||(qE 255 1).elem c) (by decide+kernel) a
 simp only [ae8,beq_iff_eq] at this
 rcases this with h'|h'
 ·exact absurd h' h
 ·simpa using h'
theorem Vm (i j:Nat) (hi:i<255) (hj:j<255) (h:pw i=pw j):i=j:=by
 have h1:=DS 255 1 i hi
 have h2:=DS 255 1 j hj
 have h3:cD i 1=cD j 1:=h
 exact (List.getElem?_inj (by rw [DT];exact hi) Vk).1 (by rw [h1,h2,h3])
def nc:Nat->UInt8->Nat
 |0,_=>0
 |k+1,a=>if pw k=a then k else nc k a
def lg (a:UInt8):Nat:=nc 255 a
theorem Vn (k:Nat):∀i,i<k->k<=255->nc k (pw i)=i:=by
 induction k with
 |zero=>intro i h;omega
 |succ k ih=>
  intro i h hk
  simp only [nc]
  split
  ·rename_i he;exact Vm _ _ (by omega) (by omega) he
  ·rename_i he
   have:i≠k:=by rintro rfl;exact he rfl
   exact ih i (by omega) (by omega)
theorem Vo (i:Nat) (h:i<255):lg (pw i)=i:=Vn 255 i h (aeO _)
theorem Vp (a:UInt8) (h:a≠0):pw (lg a)=a/\lg a<255:=by
 obtain ⟨i,hi,he⟩:=afJ (Vl a h)
 rw [DT] at hi
 have h1:=DS 255 1 i hi
 have h2:pw i=a:=by
  rw [aeL (by rw [DT];exact hi)] at h1
  simp only [aeF] at h1
  rw [pw, <-h1,he]
 rw [<-h2,Vo i hi]
 exact ⟨rfl,hi⟩
theorem Vq (k:Nat) (hk:0<k) (a:UInt8):nc k a<k:=by
 induction k with
 |zero=>omega
 |succ k ih=>
  simp only [nc]
  split
  ·omega
  ·rcases af5 k with rfl|h
   ·simp [nc]
   ·have:=ih h;omega
theorem JE (a:UInt8):lg a<255:=Vq 255 (by omega) a
def lB (n:Int):UInt8:=pw (n%255).toNat
theorem Vr (n m:Int):lB (n+m)=aH (lB n) (lB m):=by
 rw [lB,lB,lB,Ve, <-Vh (((n%255).toNat)+_)]
 congr 1
 omega
theorem Vs (a:UInt8) (h:a≠0):lB (lg a)=a:=by
 have:=JE a
 rw [lB,show ((lg a:Int)%255).toNat=lg a by omega,(Vp a h).1]
def dN (a:UInt8):UInt8:=lB (-(lg a:Int))
theorem JF (a:UInt8) (h:a≠0):aH (dN a) a=1:=by
 have h2:=Vs a h
 have h3:aH (lB (-(lg a:Int))) (lB (lg a))=1:=by
  rw [<-Vr,show -(lg a:Int)+lg a=0 by omega];rfl
 rw [h2] at h3
 exact h3
theorem zq (a:UInt8) (h:a≠0):aH a (dN a)=1:=by rw [mj,JF a h]
theorem zr (a b:UInt8):aH a b=0↔a=0\/b=0:=by
 constructor
 ·intro h
  by_cases ha:a=0
  ·exact .inl ha
  ·right
   have:aH (dN a) (aH a b)=b:=by rw [<-jr,JF a ha,v8]
   rw [<-this,h,fS]
 ·rintro (rfl|rfl)
  ·exact qD _
  ·exact fS _
theorem Vt (a:UInt8):dN a≠0:=Vj _
def sg:Nat->(Nat->UInt8)->UInt8
 |0,_=>0
 |n+1,f=>sg n f^^^f n
theorem eB:∀{n:Nat} {f g:Nat->UInt8},(∀i,i<n->f i=g i)->sg n f=sg n g
 |0,_,_,_=>rfl
 |n+1,f,g,h=>by simp only [sg];rw [eB fun i hi=>h i (by omega),h n (by omega)]
theorem zt:∀(n:Nat) (f g:Nat->UInt8),sg n (fun i=>f i^^^g i)=sg n f^^^sg n g
 |0,_,_=>by simp [sg]
 |n+1,f,g=>by simp only [sg,zt n f g];exact DP _ _ _ _
theorem tO (c:UInt8):∀(n:Nat) (f:Nat->UInt8),sg n (fun i=>aH c (f i))=aH c (sg n f)
 |0,_=>by simp [sg,fS]
 |n+1,f=>by simp only [sg,tO c n f,pr]
theorem JG (c:UInt8) (n:Nat) (f:Nat->UInt8):sg n (fun i=>aH (f i) c)=aH (sg n f) c:=by
 rw [mj, <-tO];exact eB fun i _=>mj _ _
theorem wa:∀{n:Nat} {f:Nat->UInt8},(∀i,i<n->f i=0)->sg n f=0
 |0,_,_=>rfl
 |n+1,f,h=>by simp only [sg];rw [wa fun i hi=>h i (by omega),h n (by omega)];rfl
theorem zu (k:Nat) (x:Nat->UInt8):∀n,sg n (fun i=>if i=k then x i else 0)=if k<n then x k else 0
 |0=>by simp [sg]
 |n+1=>by
  simp only [sg,zu k x n]
  by_cases h:n=k
  ·subst h;simp
  ·rw [aeE h]
   by_cases h2:k<n
   ·rw [aeG h2,aeG (by omega)];simp
   ·rw [aeE h2,aeE (by omega)];rfl
theorem JH:∀(n m:Nat) (f:Nat->Nat->UInt8),sg n (fun i=>sg m fun j=>f i j)=sg m fun j=>sg n fun i=>f i j
 |0,m,f=>by simp only [sg];exact (wa fun _ _=>rfl).symm
 |n+1,m,f=>by simp only [sg,JH n m f,zt]
def skip (p j:Nat):Nat:=if j<p then j else j+1
theorem DU:∀(d p:Nat) (f:Nat->UInt8),p<=d->sg (d+1) f=f p^^^sg d fun j=>f (skip p j)
 |0,p,f,h=>by
  have:p=0:=by omega
  subst this;simp [sg]
 |d+1,p,f,h=>by
  by_cases hp:p=d+1
  ·subst hp
   have e:sg (d+1) (fun j=>f (skip (d+1) j))=sg (d+1) f:=eB fun i hi=>by unfold skip;rw [aeG hi]
   rw [e];simp only [sg];exact agf _ _
  ·have ih:=DU d p f (by omega)
   have e:f (skip p d)=f (d+1):=by unfold skip;rw [aeE (by omega)]
   rw [show sg (d+1+1) f=sg (d+1) f^^^f (d+1) from rfl,ih]
   rw [show sg (d+1) (fun j=>f (skip p j))=sg d (fun j=>f (skip p j))^^^f (skip p d) from rfl,e,af0]
abbrev Mx:=Nat->Nat->UInt8
variable {A R:Mx}
def mm (k:Nat) (A B:Mx):Mx:=fun i j=>sg k fun t=>aH (A i t) (B t j)
theorem nh {A' B B':Mx} (h1:∀t,t<k->A i t=A' i t) (h2:∀t,t<k->B t j=B' t j):mm k A B i j=mm k A' B' i j:=eB fun t ht=>by rw [h1 t ht,h2 t ht]
theorem tP (k l:Nat) (A B C:Mx) (i j:Nat):mm l (mm k A B) C i j=mm k A (mm l B C) i j:=by
 unfold mm
 have e1:sg l (fun t=>aH (sg k fun u=>aH (A i u) (B u t)) (C t j))=sg l (fun t=>sg k fun u=>aH (A i u) (aH (B u t) (C t j))):=eB fun t _=>by
  rw [<-JG];exact eB fun u _=>jr _ _ _
 have e2:sg k (fun u=>aH (A i u) (sg l fun t=>aH (B u t) (C t j)))=sg k (fun u=>sg l fun t=>aH (A i u) (aH (B u t) (C t j))):=eB fun u _=>(tO _ _ _).symm
 rw [e1,e2,JH]
def dO:Mx:=fun i j=>if i=j then 1 else 0
theorem jV (A:Mx) (h:i<n):mm n dO A i j=A i j:=by
 unfold mm dO
 have e:sg n (fun t=>aH (if i=t then 1 else 0) (A t j))=sg n (fun t=>if t=i then A t j else 0):=eB fun t _=>by
  by_cases ht:i=t
  ·subst ht;simp [v8]
  ·rw [aeE ht,aeE (fun hh=>ht hh.symm),qD]
 rw [e,zu i (fun t=>A t j),aeG h]
theorem JI (A:Mx) (h:j<n):mm n A dO i j=A i j:=by
 unfold mm dO
 have e:sg n (fun t=>aH (A i t) (if t=j then 1 else 0))=sg n (fun t=>if t=j then A i t else 0):=eB fun t _=>by
  by_cases ht:t=j
  ·subst ht;simp [zp]
  ·rw [aeE ht,aeE ht,fS]
 rw [e,zu j (fun t=>A i t),aeG h]
theorem solve:∀(k d:Nat) (Y:Mx),k<d->∃v:Nat->UInt8,(∃j,j<d/\v j≠0)/\∀i,i<k->sg d (fun j=>aH (Y i j) (v j))=0
 |0,d,Y,h=>⟨fun _=>1,⟨0,h,by decide⟩,fun i hi=>by omega⟩
 |k+1,0,Y,h=>by omega
 |k+1,d+1,Y,h=>by
  by_cases hz:∀j,j<d+1->Y k j=0
  ·obtain ⟨v,h1,h2⟩:=solve k (d+1) Y (by omega)
   refine ⟨v,h1,fun i hi=> ?_⟩
   by_cases iX:i=k
   ·subst iX;exact wa fun j hj=>by rw [hz j hj,qD]
   ·exact h2 i (by omega)
  ·obtain ⟨p,hp⟩:=Classical.not_forall.1 hz
   obtain ⟨hp1,DV⟩:=Classical.not_imp.1 hp
   obtain ⟨v',⟨q,hq1,tJ⟩,h2⟩:=solve k d (fun i j=>Y i (skip p j)^^^aH (aH (Y i p) (dN (Y k p))) (Y k (skip p j))) (by omega)
   have hs:∀j,skip p j≠p:=fun j=>by unfold skip;split<;>omega
   let un:Nat->Nat:=fun j=>if j<p then j else j - 1
   have wc:∀j,un (skip p j)=j:=fun j=>by
    show (if skip p j<p then skip p j else skip p j - 1)=j
    unfold skip
    by_cases h:j<p
    ·rw [aeG h,aeG h]
    ·rw [aeE h,aeE (by omega)];omega
   let s:=sg d (fun j=>aH (Y k (skip p j)) (v' j))
   refine ⟨fun j=>if j=p then aH (dN (Y k p)) s else v' (un j),⟨skip p q, ?_, ?_⟩,fun i hi=> ?_⟩
   ·unfold skip;split<;>omega
   ·show (if skip p q=p then aH (dN (Y k p)) s else v' (un (skip p q)))≠0
    rw [aeE (hs q),wc];exact tJ
   ·rw [DU d p _ (by omega)]
    have e:sg d (fun j=>aH (Y i (skip p j)) (if skip p j=p then aH (dN (Y k p)) s else v' (un (skip p j))))=sg d (fun j=>aH (Y i (skip p j)) (v' j)):=eB fun j _=>by rw [aeE (hs j),wc]
    show aH (Y i p) (if p=p then aH (dN (Y k p)) s else v' (un p))^^^sg d (fun j=>aH (Y i (skip p j)) (if skip p j=p then aH (dN (Y k p)) s else v' (un (skip p j))))=0
    rw [aeG rfl,e]
    by_cases iX:i=k
    ·subst iX
     rw [<-jr,zq _ DV,v8];exact agz
    ·have h3:=h2 i (by omega)
     have e2:sg d (fun j=>aH (Y i (skip p j)^^^aH (aH (Y i p) (dN (Y k p))) (Y k (skip p j))) (v' j))=sg d (fun j=>aH (Y i (skip p j)) (v' j))^^^aH (aH (Y i p) (dN (Y k p))) s:=by
      rw [show aH (aH (Y i p) (dN (Y k p))) s=sg d (fun j=>aH (aH (Y i p) (dN (Y k p))) (aH (Y k (skip p j)) (v' j))) from (tO _ _ _).symm, <-zt]
      exact eB fun j _=>by rw [tM,jr (aH (Y i p) (dN (Y k p)))]
     rw [e2] at h3
     rw [<-jr,agf];exact h3
theorem Vu {X Y:Mx} (h:∀i j,i<d->j<d->mm k X Y i j=dO i j):d<=k:=by
 refine Nat.not_lt.1 fun mU=> ?_
 obtain ⟨v,⟨q,hq,hv⟩,hs⟩:=solve k d Y mU
 apply hv
 have e1:mm d dO (fun t _=>v t) q 0=v q:=jV (fun t _=>v t) hq
 rw [<-e1]
 have e2:mm d dO (fun t _=>v t) q 0=mm d (mm k X Y) (fun t _=>v t) q 0:=eB fun t ht=>by rw [h q t hq ht]
 rw [e2,tP]
 exact wa fun t ht=>by
  have:=hs t ht
  show aH (X q t) (sg d fun u=>aH (Y t u) (v u))=0
  rw [this,fS]
def mn (n m k:Nat) (A:Mx):Prop:=∃B C:Mx,∀i j,i<n->j<m->A i j=mm k B C i j
structure qF (n m:Nat) (A:Mx) (r:Nat):Prop where
 DX:mn n m r A
 min:∀k,mn n m k A->r<=k
theorem mn.bU (h:mn n m k A):mn m n k fun i j=>A j i:=by
 obtain ⟨B,C,e⟩:=h
 refine ⟨fun i t=>C t i,fun t j=>B j t,fun i j hi hj=> ?_⟩
 show A j i=_
 rw [e j i hj hi];exact eB fun t _=>mj _ _
theorem mn.full (n m:Nat) (A:Mx):mn n m n A:=⟨dO,A,fun i j hi hj=>(jV A hi).symm⟩
theorem mn.congr {B:Mx} (h:mn n m k A) (e:∀i j,i<n->j<m->B i j=A i j):mn n m k B:=by
 obtain ⟨X,Y,e2⟩:=h
 exact ⟨X,Y,fun i j hi hj=>(e i j hi hj).trans (e2 i j hi hj)⟩
theorem qF.le {r:Nat} (h:qF n m A r):r<=n/\r<=m:=by
 refine ⟨h.min n (mn.full n m A),h.min m ?_⟩
 have:=(mn.full m n fun i j=>A j i).bU
 exact this
def eM (R:Mx) (a b:Nat):Mx:=fun i j=>if i=a then R b j else if i=b then R a j else R i j
def im (R:Mx) (a:Nat) (f:UInt8):Mx:=fun i j=>if i=a then aH (R a j) f else R i j
def elimM (w:Nat->UInt8) (d:Nat) (R:Mx):Mx:=fun i j=>if i=d then R d j else R i j^^^aH (w i) (R d j)
theorem Vv (n a b:Nat) (X R:Mx) (i j:Nat):mm n (eM X a b) R i j=eM (mm n X R) a b i j:=by
 unfold eM mm
 by_cases h1:i=a
 ·simp only [aeG h1]
 ·by_cases h2:i=b
  ·simp only [aeE h1,aeG h2]
  ·simp only [aeE h1,aeE h2]
theorem Vw (n a:Nat) (f:UInt8) (X R:Mx) (i j:Nat):mm n (im X a f) R i j=im (mm n X R) a f i j:=by
 unfold im mm
 by_cases h1:i=a
 ·simp only [aeG h1]
  rw [<-JG]
  exact eB fun t _=>by rw [jr,mj f, <-jr]
 ·simp only [aeE h1]
theorem Vx (n d:Nat) (w:Nat->UInt8) (X R:Mx) (i j:Nat):mm n (elimM w d X) R i j=elimM w d (mm n X R) i j:=by
 unfold elimM mm
 by_cases h1:i=d
 ·simp only [aeG h1]
 ·simp only [aeE h1]
  rw [<-tO, <-zt]
  exact eB fun t _=>by rw [tM,jr]
def RE (n:Nat) (A R:Mx):Prop:=∃P Q:Mx,(∀i j,i<n->R i j=mm n P A i j)/\∀i j,i<n->A i j=mm n Q R i j
theorem RE.refl (n:Nat) (A:Mx):RE n A A:=⟨dO,dO,fun i j h=>(jV A h).symm,fun i j h=>(jV A h).symm⟩
theorem RE.trans {B C:Mx} (h:RE n A B) (k:RE n B C):RE n A C:=by
 obtain ⟨P,Q,h1,h2⟩:=h
 obtain ⟨S,T,k1,k2⟩:=k
 refine ⟨mm n S P,mm n Q T,fun i j hi=> ?_,fun i j hi=> ?_⟩
 ·rw [k1 i j hi,tP];exact nh (fun _ _=>rfl) fun t ht=>h1 t j ht
 ·rw [h2 i j hi,tP];exact nh (fun _ _=>rfl) fun t ht=>k2 t j ht
theorem RE.congr {R':Mx} (h:RE n A R) (e:∀i j,i<n->R' i j=R i j):RE n A R':=by
 obtain ⟨P,Q,h1,h2⟩:=h
 exact ⟨P,Q,fun i j hi=>(e i j hi).trans (h1 i j hi),fun i j hi=>(h2 i j hi).trans (nh (fun _ _=>rfl) fun t ht=>(e t j ht).symm)⟩
theorem RE.swap {a b:Nat} (h:RE n A R) (ha:a<n) (hb:b<n):RE n A (eM R a b):=by
 have one:∀R i j,i<n->eM R a b i j=mm n (eM dO a b) R i j:=fun R i j hi=>by
  rw [Vv];unfold eM
  by_cases h1:i=a
  ·simp only [aeG h1];exact (jV R hb).symm
  ·by_cases h2:i=b
   ·simp only [aeE h1,aeG h2];exact (jV R ha).symm
   ·simp only [aeE h1,aeE h2];exact (jV R hi).symm
 refine h.trans ⟨_,eM dO a b,fun i j hi=>one R i j hi,fun i j hi=> ?_⟩
 rw [<-one _ i j hi]
 unfold eM
 by_cases h1:i=a
 ·subst h1;simp only [aeG rfl]
  by_cases h2:b=i
  ·subst h2;simp
  ·rw [aeE h2];simp
 ·by_cases h2:i=b
  ·subst h2;rw [aeE h1,aeG rfl,aeG rfl]
  ·rw [aeE h1,aeE h2,aeE h1,aeE h2]
theorem RE.scale {a:Nat} {f:UInt8} (h:RE n A R) (ha:a<n) (hf:f≠0):RE n A (im R a f):=by
 have one:∀R f i j,i<n->im R a f i j=mm n (im dO a f) R i j:=fun R f i j hi=>by
  rw [Vw];unfold im
  by_cases h1:i=a
  ·simp only [aeG h1];rw [jV R ha]
  ·simp only [aeE h1];exact (jV R hi).symm
 refine h.trans ⟨_,im dO a (dN f),fun i j hi=>one R f i j hi,fun i j hi=> ?_⟩
 rw [<-one _ _ i j hi]
 unfold im
 by_cases h1:i=a
 ·subst h1;rw [aeG rfl,aeG rfl,jr,zq f hf,zp]
 ·rw [aeE h1,aeE h1]
theorem RE.elim {w:Nat->UInt8} (h:RE n A R) (hd:d<n):RE n A (elimM w d R):=by
 have one:∀R i j,i<n->elimM w d R i j=mm n (elimM w d dO) R i j:=fun R i j hi=>by
  rw [Vx];unfold elimM
  by_cases h1:i=d
  ·simp only [aeG h1];exact (jV R hd).symm
  ·simp only [aeE h1];rw [jV R hi,jV R hd]
 refine h.trans ⟨_,elimM w d dO,fun i j hi=>one R i j hi,fun i j hi=> ?_⟩
 rw [<-one _ i j hi]
 unfold elimM
 by_cases h1:i=d
 ·subst h1;rw [aeG rfl,aeG rfl]
 ·rw [aeE h1,aeE h1,aeG rfl,af0,agz,agh]
structure n9 (n:Nat) (R:Mx) (c d:Nat) (p:Nat->Nat):Prop where
 dn:d<=n
 pc:∀t,t<d->p t<c
 up:∀s t,s<t->t<d->p s<p t
 one:∀t i,t<d->i<n->R i (p t)=if i=t then 1 else 0
 zero:∀i j,d<=i->i<n->j<c->R i j=0
theorem JJ (n:Nat) (R:Mx):n9 n R 0 0 fun _=>0:=⟨by omega,fun t h=>by omega,fun s t _ h=>by omega,fun t i h=>by omega,fun i j _ _ h=>by omega⟩
theorem Vy (h:n9 n R c d p) (hz:∀i,d<=i->i<n->R i c=0):n9 n R (c+1) d p:=
 ⟨h.dn,fun t ht=>by have:=h.pc t ht;omega,h.up,h.one,fun i j hi c9 hj=>by
  by_cases td:j=c
  ·subst td;exact hz i hi c9
  ·exact h.zero i j hi c9 (by omega)⟩
def px (R:Mx) (c d i0:Nat):Mx:=elimM (fun i=>im (eM R d i0) d (dN (eM R d i0 d c)) i c) d (im (eM R d i0) d (dN (eM R d i0 d c)))
theorem Vz (h:RE n A R) (hd:d<n) (hi:i0<n):RE n A (px R c d i0):=((h.swap hd hi).scale hd (Vt _)).elim hd
theorem VA (h:n9 n R c d p) (h0:d<=i0) (hi:i0<n) (aI:R i0 c≠0):n9 n (px R c d i0) (c+1) (d+1) fun t=>if t<d then p t else c:=by
 have VB:eM R d i0 d c=R i0 c:=by unfold eM;rw [aeG rfl]
 have mf:d<n:=by omega
 -- rows from d on HR 0 at places done
 have bh:∀t i,t<d->d<=i->i<n->R i (p t)=0:=fun t i ht v7 c9=>by rw [h.one t i ht c9,aeE (by omega)]
 have sw:∀i j,(∀k,d<=k->k<n->R k j=0)->i<n->eM R d i0 i j=R i j:=fun i j hz c9=>by
  unfold eM
  by_cases h1:i=d
  ·rw [aeG h1,hz i0 h0 hi,h1,hz d (aeO d) mf]
  ·by_cases h2:i=i0
   ·rw [aeE h1,aeG h2,hz d (aeO d) mf,h2,hz i0 h0 hi]
   ·rw [aeE h1,aeE h2]
 have sc:∀i j,(∀k,d<=k->k<n->R k j=0)->i<n->im (eM R d i0) d (dN (eM R d i0 d c)) i j=R i j:=fun i j hz c9=>by
  unfold im
  by_cases h1:i=d
  ·rw [aeG h1,sw d j hz mf,hz d (aeO d) mf,qD,h1,hz d (aeO d) mf]
  ·rw [aeE h1,sw i j hz c9]
 have el:∀i j,(∀k,d<=k->k<n->R k j=0)->i<n->px R c d i0 i j=R i j:=fun i j hz c9=>by
  unfold px
  generalize (fun i=>im (eM R d i0) d (dN (eM R d i0 d c)) i c)=w
  unfold elimM
  by_cases h1:i=d
  ·rw [aeG h1,sc d j hz mf,h1]
  ·rw [aeE h1,sc i j hz c9,sc d j hz mf,hz d (aeO d) mf,fS,agh]
 have pc:im (eM R d i0) d (dN (eM R d i0 d c)) d c=1:=by
  show (if d=d then aH (eM R d i0 d c) (dN (eM R d i0 d c)) else _)=1
  rw [aeG rfl,VB,zq _ aI]
 have JK:∀i,i<n->px R c d i0 i c=if i=d then 1 else 0:=fun i c9=>by
  unfold px elimM
  by_cases h1:i=d
  ·rw [aeG h1,aeG h1,pc]
  ·rw [aeE h1,aeE h1,pc,zp,agz]
 refine ⟨by omega,fun t ht=> ?_,fun s t eY ht=> ?_,fun t i ht c9=> ?_,fun i j v7 c9 hj=> ?_⟩
 ·split
  ·rename_i h1;have:=h.pc t h1;omega
  ·omega
 ·by_cases h1:t<d
  ·simp only [aeG h1,aeG (show s<d by omega)];exact h.up s t eY h1
  ·simp only [aeE h1,aeG (show s<d by omega)];exact h.pc s (by omega)
 ·by_cases h1:t<d
  ·simp only [aeG h1]
   rw [el i (p t) (fun k hk bK=>bh t k h1 hk bK) c9,h.one t i h1 c9]
  ·simp only [aeE h1]
   rw [JK i c9,show t=d by omega]
 ·by_cases td:j=c
  ·subst td;rw [JK i c9,aeE (by omega)]
  ·rw [el i j (fun k hk bK=>h.zero k j hk bK (by omega)) c9]
   exact h.zero i j (by omega) c9 (by omega)
theorem VC {p:Nat->Nat} (h:RE n A R) (e:n9 n R c d p) (hc:c<=m) (he:c=m\/d=n):qF n m A d:=by
 obtain ⟨P,Q,h1,h2⟩:=h
 refine ⟨⟨Q,R,fun i j hi hj=> ?_⟩,fun k hk=> ?_⟩
 ·rw [h2 i j hi]
  have hz:∀t,d<=t->t<n->R t j=0:=fun t ht VD=>by
   rcases he with he|he
   ·exact e.zero t j ht VD (by omega)
   ·omega
  unfold mm
  have split:∀k,sg (d+k) (fun t=>if t<n then aH (Q i t) (R t j) else 0)=sg d fun t=>if t<n then aH (Q i t) (R t j) else 0:=by
   intro k
   induction k with
   |zero=>rfl
   |succ k ih=>
    show sg (d+k) _^^^(if d+k<n then aH (Q i (d+k)) (R (d+k) j) else 0)=_
    rw [ih]
    by_cases hk:d+k<n
    ·rw [aeG hk,hz _ (by omega) hk,fS,agh]
    ·rw [aeE hk,agh]
  have s:=split (n - d)
  have dn:=e.dn
  rw [show d+(n - d)=n by omega] at s
  rw [eB (g:=fun t=>if t<n then aH (Q i t) (R t j) else 0) fun t ht=>by rw [aeG ht],s]
  exact eB fun t ht=>by rw [aeG (by omega)]
 ·obtain ⟨B,C,hk⟩:=hk
  refine Vu (X:=mm n P B) (Y:=fun u t=>C u (p t)) fun i t hi ht=> ?_
  have dn:=e.dn
  have hp:=e.pc t ht
  have h3:=h1 i (p t) (by omega)
  rw [e.one t i ht (by omega)] at h3
  unfold dO
  rw [h3]
  show mm k (mm n P B) C i (p t)=_
  rw [tP]
  exact nh (fun _ _=>rfl) fun u hu=>(hk u (p t) hu (by omega)).symm
theorem VE (h1:∀t,t<n->p t<n) (h2:∀s t,s<t->t<n->p s<p t):∀t,t<n->p t=t:=by
 have lo:∀t,t<n->t<=p t:=fun t=>by
  induction t with
  |zero=>intro _;omega
  |succ t ih=>intro ht;have:=ih (by omega);have:=h2 t (t+1) (by omega) ht;omega
 have hi:∀k t,t+k+1=n->p t<=t:=fun k=>by
  induction k with
  |zero=>intro t ht;have:=h1 t (by omega);omega
  |succ k ih=>intro t ht;have:=ih (t+1) (by omega);have:=h2 t (t+1) (by omega) (by omega);omega
 intro t ht
 have:=lo t ht;have:=hi (n - t - 1) t (by omega);omega
def oa (n:Nat) (A:Mx):Mx:=fun i j=>if j<n then A i j else dO i (j - n)
theorem VF {p:Nat->Nat} (h:RE n (oa n A) R) (e:n9 n R c n p) (hc:c<=n):(∀i j,i<n->j<n->mm n (fun i j=>R i (n+j)) A i j=dO i j)/\∀i j,i<n->j<n->mm n A (fun i j=>R i (n+j)) i j=dO i j:=by
 obtain ⟨P,Q,h1,h2⟩:=h
 have hp:=VE (n:=n) (p:=p) (fun t ht=>by have:=e.pc t ht;omega) e.up
 have hR:∀i j,i<n->j<n->R i j=dO i j:=fun i j hi hj=>by have:=e.one j i hj hi;rw [hp j hj] at this;exact this
 have hb:∀i j,j<n->oa n A i j=A i j:=fun i j hj=>aeG hj
 have hb2:∀i j,oa n A i (n+j)=dO i j:=fun i j=>by unfold oa;rw [aeE (by omega),show n+j - n=j by omega]
 have hP:∀i j,i<n->j<n->R i (n+j)=P i j:=fun i j hi hj=>
  by
  have q:mm n P (oa n A) i (n+j)=mm n P dO i j:=eB fun t _=>by rw [hb2 t j]
  rw [h1 i (n+j) hi,q];exact JI P hj
 have hQ:∀i j,i<n->j<n->A i j=Q i j:=fun i j hi hj=>
  (hb i j hj).symm.trans ((h2 i j hi).trans ((nh (fun _ _=>rfl) fun t ht=>hR t j ht hj).trans (JI Q hj)))
 refine ⟨fun i j hi hj=> ?_,fun i j hi hj=> ?_⟩
 ·exact (nh (fun t ht=>hP i t hi ht) fun t _=>(hb t j hj).symm).trans ((h1 i j hi).symm.trans (hR i j hi hj))
 ·have q:mm n A (fun i j=>R i (n+j)) i j=mm n Q R i (n+j):=eB fun t ht=>by rw [hQ i t hi ht]
  rw [q, <-h2 i (n+j) hi];exact hb2 i j
open Go.RowKit
section
variable {P:Program} {n k k0:Nat} {x:L3} {K:L3->Prop} {Q:Ex->L3->Prop} {R:List aN} {dep:List (List Nat)} {rs:List Rec} {hs:List (Option Nat)} {b:AC}
theorem zw (c:Nat) (live:List Nat) (x':L3) (hr:EL P n k0 b x' Q) (h:(runN n c (R.drop k) x).map (L3.ct live)=some x':=by kernel_rfl) (he:(R.drop (k+c)).isEmpty=true:=by kernel_rfl):OW P n k0 (R.drop k) x fun y=>EL P n k0 b y Q:=OW.last c live h he hr
theorem DY (c:Nat) (live:List Nat) (x':L3) (hr:EL P n k0 b x' Q) (h:(runN n c (R.drop 0) x).map (L3.ct live)=some x':=by kernel_rfl) (he:(R.drop (0+c)).isEmpty=true:=by kernel_rfl):EL P n k0 (.seq (.cC R none) b) x Q:=EL.qA (OW.last c live h he hr)
theorem VG (c:Nat) (x':L3) (hr:OW P n k0 (R.drop (k+c)) x' K) (h:runN n c (R.drop k) x=some x':=by kernel_rfl):OW P n k0 (R.drop k) x K:=OW.run c h hr
theorem DZ (c:Nat) (x':L3) (hr:OW P n k0 (R.drop (0+c)) x' fun y=>EL P n k0 b y Q) (h:runN n c (R.drop 0) x=some x':=by kernel_rfl):EL P n k0 (.seq (.cC R none) b) x Q:=EL.qA (OW.run c h hr)
theorem VH {a:Arg} {y z:AC} (h:EL P n k0 z x Q) (hb:aR (slot x.t) a= .v (.bool false):=by kernel_rfl):EL P n k0 (.cond a y z) x Q:=EL.IQ hb h
theorem VJ {f:L3->Prop} (h:Q .ret x):EL P n k0 .ret x (Ex.vV f Q):=EL.ret (tR h)
theorem pq {α:Type} {m:List (Option Bk)} {id:Nat} (sz:Nat) (f:α->List AV) (xs:List α) (h:look m id=some ⟨sz,xs.map f⟩:=by kernel_rfl) (hp:∀y,(f y).all AV.pu1=true:=by intro y;kernel_rfl):IT m id:=pu sz f xs h hp
end
open Go.RowKit
abbrev ut (i:Nat):iW:= .bh i true
theorem VL {res:List m5} (live:List Nat) (src:List iW) (y:L3) (hp:pj x.m src) (h:Dh k0 live src [] x=some y:=by kernel_rfl) (hr:(ig (slot y.t) res).run (look y.m)=some r:=by kernel_rfl) (hm:y.m=m':=by rfl):
  (Ex.ret= .normal\/Ex.ret= .ret)/\∃y:L3,x.s.Le k0 n y.s/\(ig (slot y.t) res).run (look y.m)=some r/\y.m=m':=⟨.inr rfl,y,norm_le h hp,hr,hm⟩
section
variable {x:L3} {res:List m5} {r':AV}
theorem VM (r:AV) (he:r=r') (h:((ig (slot x.t) res).bind ph).run (look x.m)=some r:=by kernel_rfl):(Ex.ret= .normal\/Ex.ret= .ret)/\∃q,((ig (slot x.t) res).bind ph).run (look x.m)=some q/\cH q r':=⟨.inr rfl,r,h,cH.of_eq he⟩
end
theorem VN (hF:cFunc P f=some F) (h:EL P F.n 0 F.code (start as_) fun e x=>(e= .normal\/e= .ret)/\∃r',((ig (slot x.t) F.res).bind ph).run (look x.m)=some r'/\cH r' r) (hl:as_.length<=F.n:=by exact af1 (by kernel_rfl)):Fn P f as_ r:=fW hF hl h
section
variable {P:Program} {n k k0:Nat} {x:L3} {K:L3->Prop} {R:List aN}
theorem zx {v:AV} {u:List (Nat×Option Bk)} {acc:List Nat} (x':L3) (h:fQ (opD R k) x= .done v u acc) (hr:OW P n k0 (R.drop (k+1)) x' K) (hl:Nat.blt k R.length=true:=by kernel_rfl) (hx:(bif dstOK n (opD R k).dst&&upsOK x.m.length u then some (⟨nY x.t (opD R k).dst v,iD x.m u⟩:L3) else none)=some x':=by kernel_rfl):OW P n k0 (R.drop k) x K:=OW.m7 hl h hx hr
end
section
variable {o:aN} {x:L3}
theorem VO {α:Type} (f:α->List AV) (xs ys:List α) (s a:Arg) (sz by_ id:Nat) (w:AV) (hw:Src f sz (look x.m) w ys acc) (hb:(xs.length+ys.length)*by_<=140737488355328) (ho:o.ao= .app sz by_ s a:=by kernel_rfl) (hg:cB (slot x.t) o.guard=some true:=by kernel_rfl) (hs:aR (slot x.t) s= .own id sz 0 xs.length:=by rfl) (hB:look x.m id=some ⟨sz,xs.map f⟩:=by kernel_rfl) (ha:aR (slot x.t) a=w:=by rfl):
  fQ o x= .done (.own x.m.length sz 0 (xs++ys).length) [(id,none),(x.m.length,some ⟨sz,(xs++ys).map f⟩)] (acc++[id]):=QY f xs ys s a sz by_ id w acc ho hg hs hB ha hw hb
end
theorem aT {a:List AV} {b:List AV} {r:List AV} (h:eP a b) (t:eP r s):eP (.agg a::r) (.agg b::s):= .cons (cH.agg h) t
def pv:List UInt8->UInt8->UInt8
 |[],_=>0
 |c::r,x=>c^^^aH x (pv r x)
def js:List UInt8->List UInt8->List UInt8
 |[],q=>q
 |p,[]=>p
 |a::p,b::q=>(a^^^b)::js p q
def si (c:UInt8) (p:List UInt8):List UInt8:=p.map (aH c)
def we (a:UInt8) (p:List UInt8):List UInt8:=js (0::p) (si a p)
theorem zy:∀(p q:List UInt8) (x:UInt8),pv (js p q) x=pv p x^^^pv q x
 |[],q,x=>by simp [js,pv]
 |a::p,[],x=>by simp [js,pv]
 |a::p,b::q,x=>by simp only [js,pv,zy p q x,pr];exact DP _ _ _ _
theorem D0 (c:UInt8):∀(p:List UInt8) (x:UInt8),pv (si c p) x=aH c (pv p x)
 |[],x=>by simp [si,pv,fS]
 |a::p,x=>by
  have ih:=D0 c p x
  unfold si at ih ⊢
  simp only [aeR,pv,ih,pr]
  rw [<-jr,mj x c,jr]
theorem VP (a:UInt8) (p:List UInt8) (x:UInt8):pv (we a p) x=aH (x^^^a) (pv p x):=by
 unfold we
 rw [zy,D0,tM]
 simp [pv]
theorem zA:∀(p q:List UInt8),(js p q).length=max p.length q.length
 |[],q=>by simp [js]
 |a::p,[]=>by simp [js]
 |a::p,b::q=>by simp only [js,agc,zA p q];omega
theorem VQ (a:UInt8) (p:List UInt8):(we a p).length=p.length+1:=by
 unfold we si;rw [zA];simp only [agc,aeS];omega
def sy (a:UInt8):List UInt8->List UInt8
 |[]=>[]
 |[_]=>[]
 |_::d::r=>pv (d::r) a::sy a (d::r)
theorem D1 (a:UInt8):∀p:List UInt8,(sy a p).length=p.length - 1
 |[]=>rfl
 |[_]=>rfl
 |_::d::r=>by have:=D1 a (d::r);simp only [sy,agc] at *; omega
theorem zB (a x:UInt8):∀p:List UInt8,pv p x=aH (x^^^a) (pv (sy a p) x)^^^pv p a
 |[]=>by simp [pv,sy,fS]
 |[c]=>by simp [pv,sy,fS]
 |c::d::r=>by
  have ih:=zB a x (d::r)
  have e1:pv (c::d::r) x=c^^^aH x (pv (d::r) x):=rfl
  have e2:pv (c::d::r) a=c^^^aH a (pv (d::r) a):=rfl
  have e3:pv (sy a (c::d::r)) x=pv (d::r) a^^^aH x (pv (sy a (d::r)) x):=rfl
  rw [e1,e2,e3,ih]
  generalize pv (sy a (d::r)) x=q
  generalize pv (d::r) a=v
  rw [pr,pr,tM x a v]
  have e4:aH x (aH (x^^^a) q)=aH (x^^^a) (aH x q):=by rw [<-jr,mj x,jr]
  rw [e4]
  generalize aH (x^^^a) (aH x q)=s
  generalize aH x v=t
  generalize aH a v=u
  -- c ^ (s ^ t) = ((t ^ u) ^ s) ^ (c ^ u)
  rw [agf s t]
  rw [show (t^^^u)^^^s^^^(c^^^u)=(t^^^s)^^^(u^^^(c^^^u)) by rw [af0 t u s,agf u s, <-af0 t s u,af0 (t^^^s)]]
  rw [show u^^^(c^^^u)=c by rw [agf c u,DO],agf]
theorem tQ {a b:UInt8}:a^^^b=0↔a=b:=by
 constructor
 ·intro h
  have:=DO a b
  rw [h,agh] at this;exact this
 ·rintro rfl;exact agz
theorem JL:∀(xs p:List UInt8),p.length<=xs.length->xs.Nodup->(∀x,x∈xs->pv p x=0)->∀y,pv p y=0
 |[],p,hl,_,_,y=>by
  have:p=[]:=afQ (by simpa using hl)
  subst this;rfl
 |a::xs,p,hl,hn,hr,y=>by
  have ha:=hr a (by simp)
  have ih:=JL xs (sy a p) (by rw [D1];simp at hl;omega) (af6.1 hn).2 fun b hb=>by
   have h1:=zB a b p
   rw [hr b (by simp [hb]),ha,agh] at h1
   rcases (zr _ _).1 h1.symm with h2|h2
   ·have:b=a:=tQ.1 h2
    subst this;exact absurd hb (af6.1 hn).1
   ·exact h2
  rw [zB a y p,ih y,fS,ha,agh]
def py (ys:Nat->UInt8) (j:Nat):Nat->List UInt8
 |0=>[1]
 |n+1=>if n=j then py ys j n else we (ys n) (py ys j n)
def gk (ys:Nat->UInt8) (j:Nat) (z:UInt8):Nat->UInt8
 |0=>1
 |n+1=>if n=j then gk ys j z n else aH (z^^^ys n) (gk ys j z n)
theorem D2 (ys:Nat->UInt8) (j:Nat) (z:UInt8):∀n,pv (py ys j n) z=gk ys j z n
 |0=>by simp [py,gk,pv,fS]
 |n+1=>by
  unfold py gk
  split
  ·exact D2 ys j z n
  ·rw [VP,D2 ys j z n]
theorem JM (ys:Nat->UInt8) (j:Nat):∀n,(py ys j n).length=if j<n then n else n+1
 |0=>by simp [py]
 |n+1=>by
  have ih:=JM ys j n
  unfold py
  by_cases h:n=j
  ·rw [aeG h,ih,aeE (by omega),aeG (by omega)]
  ·rw [aeE h,VQ,ih]
   by_cases h2:j<n
   ·rw [aeG h2,aeG (by omega)]
   ·rw [aeE h2,aeE (by omega)]
theorem JN {ys:Nat->UInt8} {j:Nat} {z:UInt8}:∀{n:Nat},(∀l,l<n->l≠j->z≠ys l)->gk ys j z n≠0
 |0,_=>by show (1:UInt8)≠0;decide
 |n+1,h=>by
  have ih:=JN (ys:=ys) (j:=j) (z:=z) (n:=n) fun l hl=>h l (by omega)
  unfold gk
  split
  ·exact ih
  ·rename_i hj
   intro h0
   rcases (zr _ _).1 h0 with h1|h1
   ·exact h n (by omega) hj (tQ.1 h1)
   ·exact ih h1
theorem D3 {ys:Nat->UInt8} {j:Nat} {z:UInt8}:∀{n l:Nat},l<n->l≠j->z=ys l->gk ys j z n=0
 |0,l,h,_,_=>by omega
 |n+1,l,h,hj,hz=>by
  unfold gk
  by_cases hn:n=j
  ·rw [aeG hn];exact D3 (n:=n) (l:=l) (by omega) hj hz
  ·rw [aeE hn]
   by_cases hl:l=n
   ·subst hl;rw [hz,agz,qD]
   ·rw [D3 (n:=n) (l:=l) (by omega) hj hz,fS]
theorem VR {z:UInt8} (hz:z≠ys j):∀{n:Nat},j<n->gk ys j z n=aH (gk ys n z n) (dN (z^^^ys j)):=by
 have VS:∀(n k k':Nat),n<=k->n<=k'->gk ys k z n=gk ys k' z n:=fun n=>by
  induction n with
  |zero=>intro k k' _ _;rfl
  |succ n ih=>
   intro k k' hk CQ
   simp only [gk]
   rw [aeE (by omega),aeE (by omega),ih k k' (by omega) (by omega)]
 intro n
 induction n with
 |zero=>intro h;omega
 |succ n ih=>
  intro h
  have hx:z^^^ys j≠0:=fun hh=>hz (tQ.1 hh)
  simp only [gk]
  rw [aeE (show ¬n=n+1 by omega),VS n (n+1) n (by omega) (aeO n)]
  by_cases hj:n=j
  ·subst hj
   rw [aeG rfl,mj (z^^^ys n),jr,zq _ hx,zp]
  ·rw [aeE hj,ih (by omega), <-jr]
def qG (f:Nat->List UInt8):Nat->List UInt8
 |0=>[]
 |n+1=>js (qG f n) (f n)
theorem JO (f:Nat->List UInt8) (z:UInt8):∀n,pv (qG f n) z=sg n fun j=>pv (f j) z
 |0=>rfl
 |n+1=>by simp only [qG,zy,JO f z n,sg]
theorem JP {f:Nat->List UInt8} {m:Nat}:∀{n:Nat},(∀j,j<n->(f j).length<=m)->(qG f n).length<=m
 |0,_=>by simp [qG]
 |n+1,h=>by
  have ih:=JP (f:=f) (m:=m) (n:=n) fun j hj=>h j (by omega)
  have:=h n (by omega)
  simp only [qG,zA];omega
theorem VU {r:Nat} (hk:∀v:Nat->UInt8,(∀i,i<n->sg n (fun j=>aH (A i j) (v j))=0)->∀j,j<n->v j=0) (hr:qF n n A r):r=n:=by
 refine Nat.le_antisymm hr.le.1 (Nat.not_lt.1 fun hlt=> ?_)
 obtain ⟨B,C,e⟩:=hr.DX
 obtain ⟨v,⟨q,hq,hv⟩,hs⟩:=solve r n C hlt
 refine hv (hk v (fun i hi=> ?_) q hq)
 have e1:sg n (fun j=>aH (A i j) (v j))=mm n (mm r B C) (fun t _=>v t) i 0:=eB fun t ht=>by rw [e i t hi ht]
 rw [e1,tP]
 exact wa fun t ht=>by
  have:=hs t ht
  show aH (B i t) (sg n fun u=>aH (C t u) (v u))=0
  rw [this,fS]
theorem VV {zs v:Nat->UInt8} (hz:∀i k,i<n->k<n->zs i=zs k->i=k) (hy:∀i k,i<n->k<n->ys i=ys k->i=k)
  (h:∀i,i<n->(∃a,a<n/\zs i=ys a/\v a=0)\/((∀k,k<n->zs i≠ys k)/\sg n (fun j=>aH (dN (zs i^^^ys j)) (v j))=0)):∀j,j<n->v j=0:=fun j hj=>by
 let P:=qG (fun j=>si (v j) (py ys j n)) n
 have hl:P.length<=n:=JP fun j hj=>by unfold si;rw [aeS,JM,aeG hj];exact aeO n
 have hv:∀z,pv P z=sg n fun j=>aH (v j) (gk ys j z n):=fun z=>by
  show pv (qG _ n) z=_
  rw [JO];exact eB fun j _=>by rw [D0,D2]
 have o0:∀a,a<n->pv P (ys a)=aH (v a) (gk ys a (ys a) n):=fun a ha=>by
  rw [hv]
  have e:sg n (fun l=>aH (v l) (gk ys l (ys a) n))=sg n (fun l=>if l=a then aH (v l) (gk ys l (ys a) n) else 0):=eB fun l hl=>by
   by_cases h1:l=a
   ·rw [aeG h1]
   ·rw [aeE h1,D3 ha (fun hh=>h1 hh.symm) rfl,fS]
  rw [e,zu a (fun l=>aH (v l) (gk ys l (ys a) n)),aeG ha]
 have VW:∀i,i<n->pv P (zs i)=0:=fun i hi=>by
  rcases h i hi with ⟨a,ha,e,VX⟩|⟨aI,hs⟩
  ·rw [e,o0 a ha,VX,qD]
  ·rw [hv]
   have e:sg n (fun j=>aH (v j) (gk ys j (zs i) n))=sg n (fun j=>aH (gk ys n (zs i) n) (aH (dN (zs i^^^ys j)) (v j))):=eB fun j hj=>by
    rw [VR (aI j hj) hj,mj (v j),jr]
   rw [e,tO,hs,fS]
 have dC:((List.range n).map zs).Nodup:=by
  unfold List.Nodup
  rw [List.pairwise_map]
  exact List.Pairwise.imp_of_mem (fun ha hb m9 he=>m9 (hz _ _ (by simpa using ha) (by simpa using hb) he)) List.nodup_range
 have eF:=JL ((List.range n).map zs) P (by simpa using hl) dC (fun x eH=>by
  obtain ⟨i,hi,rfl⟩:=ae2.1 eH
  exact VW i (by simpa using hi)) (ys j)
 rw [o0 j hj] at eF
 rcases (zr _ _).1 eF with h1|h1
 ·exact h1
 ·exact absurd h1 (JN fun l hl bo hh=>bo (hy l j hl hj hh.symm))
def qH (n:Nat) (xs ys:Nat->UInt8):Mx:=fun i j=>if i<n then dO i j else dN (xs (i - n)^^^ys j)
theorem VY {r:Nat} {xs:Nat->UInt8} {at_:Nat->Nat} (hx:∀i k,i<m->k<m->xs i=xs k->i=k) (hy:∀i k,i<n->k<n->ys i=ys k->i=k) (D4:∀i k,i<m->k<n->xs i≠ys k)
  (ha:∀i,i<n->at_ i<n+m) (hi:∀i k,i<n->k<n->at_ i=at_ k->i=k) (hr:qF n n (fun i j=>qH n xs ys (at_ i) j) r):r=n:=by
 refine VU (fun v hv=> ?_) hr
 refine VV (zs:=fun i=>if at_ i<n then ys (at_ i) else xs (at_ i - n)) (ys:=ys) (fun i k aY hk he=> ?_) hy fun i aY=> ?_
 ·have a1:=ha i aY;have a2:=ha k hk
  refine hi i k aY hk ?_
  by_cases h1:at_ i<n<;>by_cases h2:at_ k<n
  ·rw [aeG h1,aeG h2] at he;exact hy _ _ h1 h2 he
  ·rw [aeG h1,aeE h2] at he;exact absurd he.symm (D4 _ _ (by omega) h1)
  ·rw [aeE h1,aeG h2] at he;exact absurd he (D4 _ _ (by omega) h2)
  ·rw [aeE h1,aeE h2] at he;have:=hx _ _ (by omega) (by omega) he;omega
 ·have a1:=ha i aY
  have h0:=hv i aY
  by_cases h1:at_ i<n
  ·left
   refine ⟨at_ i,h1,aeG h1, ?_⟩
   have e:sg n (fun j=>aH (qH n xs ys (at_ i) j) (v j))=mm n dO (fun t _=>v t) (at_ i) 0:=eB fun t _=>by unfold qH;rw [aeG h1]
   rw [e,jV (fun t _=>v t) h1] at h0;exact h0
  ·right
   simp only [aeE h1]
   refine ⟨fun k hk=>D4 _ _ (by omega) hk, ?_⟩
   rw [<-h0]
   exact eB fun j _=>by unfold qH;rw [aeE h1]
theorem JQ (a:UInt8):∀p:List UInt8,(∀c,c∈sy a p->c=0)->pv p a=0->∀c,c∈p->c=0
 |[],_,_,c,h=>by simp at h
 |[b],_,h,c,hc=>by
  simp at hc;subst hc
  simpa [pv,fS] using h
 |b::d::r,hs,h,c,hc=>by
  have h1:pv (d::r) a=0:=hs _ (by simp [sy])
  have ih:=JQ a (d::r) (fun x hx=>hs x (by simp only [sy,aeQ];exact .inr hx)) h1
  have e:pv (b::d::r) a=b^^^aH a (pv (d::r) a):=rfl
  rw [e,h1,fS,agh] at h
  rcases aeQ.1 hc with rfl|hc
  ·exact h
  ·exact ih c hc
theorem JR:∀(xs p:List UInt8),p.length<=xs.length->xs.Nodup->(∀x,x∈xs->pv p x=0)->∀c,c∈p->c=0
 |[],p,hl,_,_,c,hc=>by
  have:p=[]:=afQ (by simpa using hl)
  subst this;simp at hc
 |a::xs,p,hl,hn,hr,c,hc=>by
  have ha:=hr a (by simp)
  refine JQ a p (JR xs (sy a p) (by rw [D1];simp at hl;omega) (af6.1 hn).2 fun b hb=> ?_) ha c hc
  have h1:=zB a b p
  rw [hr b (by simp [hb]),ha,agh] at h1
  rcases (zr _ _).1 h1.symm with h2|h2
  ·have:b=a:=tQ.1 h2
   subst this;exact absurd hb (af6.1 hn).1
  ·exact h2
def tS (p:List UInt8):Prop:=∀c,p.getLast? =some c->c≠0
theorem JS:∀{p q:List UInt8},tS p->tS q->(∀c,c∈js p q->c=0)->p=q
 |[],[],_,_,_=>rfl
 |[],b::q,_,hq,h=>by
  exfalso
  have:js [] (b::q)=b::q:=rfl
  rw [this] at h
  have hl:=List.getLast?_eq_some_getLast (l:=b::q) (by simp)
  exact hq _ hl (h _ (List.getLast_mem _))
 |a::p,[],hp,_,h=>by
  exfalso
  have:js (a::p) []=a::p:=rfl
  rw [this] at h
  have hl:=List.getLast?_eq_some_getLast (l:=a::p) (by simp)
  exact hp _ hl (h _ (List.getLast_mem _))
 |a::p,b::q,hp,hq,h=>by
  simp only [js,aeQ] at h
  have m9:a=b:=tQ.1 (h _ (.inl rfl))
  have tail:∀{x:UInt8} {l:List UInt8},tS (x::l)->tS l:=fun {x l} ht c hc=>by
   cases l with
   |nil=>simp at hc
   |cons y r=>exact ht c (by rw [List.getLast?_cons_cons];exact hc)
  rw [m9,JS (tail hp) (tail hq) fun c hc=>h c (.inr hc)]
def bytes:List UInt8:=(List.range 256).map UInt8.ofNat
theorem told {p q xs:List UInt8} (hp:tS p) (hq:tS q) (lp:p.length<=xs.length) (lq:q.length<=xs.length) (hn:xs.Nodup) (h:∀x,x∈xs->pv p x=pv q x):p=q:=
 JS hp hq (JR xs (js p q) (by rw [zA];omega) hn fun x hx=>by rw [zy,h x hx,agz])
end Go.Proofs.Ytboaekdecndckaa
