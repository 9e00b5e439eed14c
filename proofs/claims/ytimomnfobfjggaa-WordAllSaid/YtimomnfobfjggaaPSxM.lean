/- Two ways that come together. No condition. -/
import Derived.Test.YtimomnfobfjggaaPSxK
import Derived.Test.YtimomnfobfjggaaPAvRng
set_option linter.unusedSectionVars false
set_option linter.unusedSimpArgs false
set_option linter.unusedVariables false
namespace Go.Proofs.Ytimomnfobfjggaa
variable {ao:AO} {o:az} {a a':AV} {dep:List (List Nat)} {cs:List (Nat×Nat)} {hs:List (Option Nat)} {os:List az} {args:List Arg} {l:List Nat} {O:List Prop} {rs:List Rec} {n nm k0 k i f sz jn k1 q:Nat} {σ σ':Nat->AV} {p:Nat->Bool} {g:Nat->Option Bk} {Q:Nat->Prop} {N N':aC} {d:Option Nat} {r:Rec} {s u:S3} {α:Type}
open Go.RowKit
abbrev PO:=@Nat.lt_succ_self
abbrev P6:=@Option.none_or
abbrev Qm:=@Option.some_or
abbrev QE:=@List.getElem?_set_ne
def AV.bC:AV->List Nat
 | .own id _ _ _| .ref id _ _ _| .mp id=>[id]
 |_=>[]
def AO.refs (ρ:Arg->AV):AO->List Nat
 | .load _ x| .nilc x| .fad _ x| .len _ x| .isn _ _ x| .clr _ x| .b2s x=>(ρ x).bC
 | .store _ x _| .iad _ x _| .iap _ _ x _| .slc _ x _ _ _| .mup _ x _ _| .mlk _ _ x _=>(ρ x).bC
 | .app _ _ s x=>(ρ x).bC++(ρ s).bC
 | .cpy _ x y=>(ρ y).bC++(ρ x).bC
 |_=>[]
theorem jl {x:Option α}:(RM.opt x).acc g=[]/\(RM.opt x).see g=[]:=by cases x<;>exact ⟨rfl,rfl⟩
theorem im {α β:Type} {g:Nat->Option Bk} {f:α->RM β} {L:List Nat}:∀(m:RM α),(∀id,id∈m.acc g++m.see g->id∈L)->(∀a id,id∈(f a).acc g++(f a).see g->id∈L)->∀id,id∈(m.bind f).acc g++(m.bind f).see g->id∈L
 | .ret a,_,h2,id,h=>h2 a id h
 | .fail,_,_,id,h=>by simp [RM.bind,RM.acc,RM.see] at h
 | .rd i k,h1,h2,id,h=>by
  cases hg:g i with
  |none=>
   simp only [RM.bind,RM.acc,RM.see,hg,List.append_nil,OP] at h
   exact h1 id (by simp [RM.acc,hg,h])
  |some B=>
   simp only [RM.bind,RM.acc,RM.see,hg,P3,OU] at h
   rcases h with h|h
   ·exact h1 id (by simp [RM.acc,hg,h])
   ·exact im (k B) (fun j hj=>h1 j (by simp only [RM.acc,RM.see,hg,P3,OU];exact .inr hj)) h2 id h
 | .lv i k,h1,h2,id,h=>by
  simp only [RM.bind,RM.acc,RM.see,Pm,OU] at h
  rcases h with h|h|h
  ·exact im k (fun j hj=>h1 j (by simp only [RM.acc,RM.see,Pm,OU] at hj ⊢; rcases hj with hj|hj<;>simp [hj])) h2 id (Pr _ h)
  ·exact h1 id (by simp [RM.see,h])
  ·exact im k (fun j hj=>h1 j (by simp only [RM.acc,RM.see,Pm,OU] at hj ⊢; rcases hj with hj|hj<;>simp [hj])) h2 id (Po _ h)
theorem uy:∀id,id∈(content sz a).acc g++(content sz a).see g->id∈a.bC:=by
 intro id h
 cases a<;>simp only [content] at h
 case own i s off n=>
  cases hg:g i with
  |none=>simp [RM.acc,RM.see,hg] at h;simp [AV.bC,h]
  |some B=>
   simp only [RM.acc,RM.see,hg] at h
   split at h<;>(simp [RM.acc,RM.see] at h;simp [AV.bC,h])
 all_goals first
  |(split at h<;>simp [RM.acc,RM.see] at h)
  |(simp [RM.acc,RM.see] at h)
theorem uz {ρ:Arg->AV}:∀id,id∈(ao.au k ρ).acc g++(ao.au k ρ).see g->id∈ao.refs ρ:=by
 intro id h
 have no:∀{x:Option Out},id∈(RM.opt x).acc g++(RM.opt x).see g->False:=fun {x} h=>by rw [jl.1,jl.2] at h;simp at h
 have nr:∀{x:Out},id∈(RM.ret x).acc g++(RM.ret x).see g->False:=fun {x} h=>by simp [RM.acc,RM.see] at h
 have nf:id∈(RM.fail:RM Out).acc g++(RM.fail:RM Out).see g->False:=fun h=>by simp [RM.acc,RM.see] at h
 cases ao<;>simp only [AO.au] at h<;>simp only [AO.refs]
 case b2s x=>
  refine im (L:=(ρ x).bC) _ (fun j hj=>uy j hj) (fun ys j hj=> ?_) id h
  rw [jl.1,jl.2] at hj;simp at hj
 case app sz by_ s x=>
  refine im (L:=(ρ x).bC++(ρ s).bC) _ (fun j hj=>Pr _ (uy j hj)) (fun ys j hj=> ?_) id h
  cases hs:ρ s<;>rw [hs] at hj<;>simp only at hj
  case own i q off n=>
   cases hg:g i with
   |none=>simp [RM.acc,RM.see,hg] at hj;simp [AV.bC,hj]
   |some B=>
    simp only [RM.acc,RM.see,hg] at hj
    split at hj
    ·simp [RM.acc,RM.see] at hj;simp [AV.bC,hj]
    ·split at hj<;>(simp [RM.acc,RM.see] at hj;simp [AV.bC,hj])
  all_goals first
   |(split at hj<;>simp [RM.acc,RM.see] at hj)
   |(simp [RM.acc,RM.see] at hj)
 case cpy sz x y=>
  refine im (L:=(ρ y).bC++(ρ x).bC) _ (fun j hj=>Pr _ (uy j hj)) (fun ys j hj=> ?_) id h
  cases hs:ρ x<;>rw [hs] at hj<;>simp only at hj
  case own i q off n=>
   cases hg:g i with
   |none=>simp [RM.acc,RM.see,hg] at hj;simp [AV.bC,hj]
   |some B=>
    simp only [RM.acc,RM.see,hg] at hj
    split at hj<;>(simp [RM.acc,RM.see] at hj;simp [AV.bC,hj])
  all_goals (simp [RM.acc,RM.see] at hj)
 case load m x=>
  cases hs:ρ x<;>rw [hs] at h<;>simp only at h
  case ref i q a b=>
   cases hg:g i with
   |none=>simp [RM.acc,RM.see,hg] at h;simp [AV.bC,h]
   |some B=>
    simp only [RM.acc,RM.see,hg] at h
    split at h
    ·rw [jl.1,jl.2] at h;simpa [AV.bC] using h
    ·simp [RM.acc,RM.see] at h;simp [AV.bC,h]
  all_goals first|exact (no h).elim|exact (nf h).elim
 case store n x y=>
  cases hs:ρ x<;>rw [hs] at h<;>simp only at h
  case ref i q a b=>
   cases hg:g i with
   |none=>simp [RM.acc,RM.see,hg] at h;simp [AV.bC,h]
   |some B=>
    simp only [RM.acc,RM.see,hg] at h
    split at h
    ·split at h<;>(simp [RM.acc,RM.see] at h;simp [AV.bC,h])
    ·simp [RM.acc,RM.see] at h;simp [AV.bC,h]
  all_goals exact (nf h).elim
 case slc sz x lo hi mx=>
  split at h
  ·rename_i jR aO mx' _ _ _
   cases hs:ρ x<;>rw [hs] at h<;>simp only at h
   case own i q off n=>
    cases mx' with
    |none=>
     simp only at h
     split at h
     ·split at h
      ·simp [RM.acc,RM.see] at h;simp [AV.bC,h]
      ·cases hg:g i with
       |none=>simp [RM.acc,RM.see,hg] at h;simp [AV.bC,h]
       |some B=>
        simp only [RM.acc,RM.see,hg] at h
        split at h
        ·rw [jl.1,jl.2] at h;simpa [AV.bC] using h
        ·simp [RM.acc,RM.see] at h;simp [AV.bC,h]
      ·simp [RM.acc,RM.see] at h;simp [AV.bC,h]
     ·simp [RM.acc,RM.see] at h;simp [AV.bC,h]
    |some m=>
     simp only at h
     cases hg:g i with
     |none=>simp [RM.acc,RM.see,hg] at h;simp [AV.bC,h]
     |some B=>
      simp only [RM.acc,RM.see,hg] at h
      split at h
      ·rw [jl.1,jl.2] at h;simpa [AV.bC] using h
      ·simp [RM.acc,RM.see] at h;simp [AV.bC,h]
   all_goals first
    |exact (no h).elim
    |exact (nf h).elim
    |(split at h<;>first|exact (no h).elim|exact (nf h).elim)
  ·exact (nf h).elim
 case mup kd x k y=>
  split at h
  ·rename_i i k' hx hk
   cases hg:g i with
   |none=>simp [RM.acc,RM.see,hg] at h;simp [AV.bC,hx,h]
   |some B=>
    simp only [RM.acc,RM.see,hg] at h
    split at h
    ·split at h<;>(simp [RM.acc,RM.see] at h;simp [AV.bC,hx,h])
    ·simp [RM.acc,RM.see] at h;simp [AV.bC,hx,h]
  ·exact (nf h).elim
 case mlk kd z x k=>
  split at h
  ·rename_i i k' hx hk
   cases hg:g i with
   |none=>simp [RM.acc,RM.see,hg] at h;simp [AV.bC,hx,h]
   |some B=>
    simp only [RM.acc,RM.see,hg] at h
    split at h
    ·rw [jl.1,jl.2] at h;simpa [AV.bC,hx] using h
    ·simp [RM.acc,RM.see] at h;simp [AV.bC,hx,h]
  ·exact (nf h).elim
 case clr zs x=>
  cases hs:ρ x<;>rw [hs] at h<;>simp only at h
  case own i q off n=>
   cases hg:g i with
   |none=>simp [RM.acc,RM.see,hg] at h;simp [AV.bC,h]
   |some B=>
    simp only [RM.acc,RM.see,hg] at h
    split at h<;>(simp [RM.acc,RM.see] at h;simp [AV.bC,h])
  all_goals first|exact (nr h).elim|exact (nf h).elim
 case len s x=>
  cases s<;>simp only [AO.au] at h<;>cases hs:ρ x<;>rw [hs] at h<;>(try simp only at h)
  all_goals first
   |exact (nr h).elim
   |exact (nf h).elim
   |(split at h<;>first|exact (nr h).elim|exact (nf h).elim)
   |(simp [RM.acc,RM.see] at h;simp [AV.bC,h];done)
   |(split at h<;>first|exact (nr h).elim|exact (nf h).elim|(exfalso;simp_all;done))
 case isn kd neg x=>
  cases kd<;>simp only [AO.au] at h<;>cases hs:ρ x<;>rw [hs] at h<;>(try simp only at h)
  all_goals first
   |exact (nr h).elim
   |exact (nf h).elim
   |(split at h<;>first|exact (nr h).elim|exact (nf h).elim)
   |(simp [RM.acc,RM.see] at h;simp [AV.bC,h];done)
   |(split at h<;>first|exact (nr h).elim|exact (nf h).elim|(exfalso;simp_all;done))
 all_goals repeat' split at h
 all_goals first
  |exact (nr h).elim
  |exact (nf h).elim
  |exact (no h).elim
  |(simp [RM.acc,RM.see] at h;simp [AV.bC, *];done)
theorem CH:∀id,id∈(snap1 a).acc g++(snap1 a).see g->id∈a.bV:=by
 intro id h
 cases a<;>simp only [snap1] at h
 case own i s off n=>
  refine im (L:=[i]) _ (fun j hj=> ?_) (fun els j hj=> ?_) id h
  ·have:=uy j hj;simpa [AV.bC] using this
  ·split at hj<;>simp [RM.acc,RM.see] at hj
 case ref i s a b=>
  cases hg:g i with
  |none=>simp [RM.acc,RM.see,hg] at h;simp [AV.bV,h]
  |some B=>
   simp only [RM.acc,RM.see,hg] at h
   split at h
   ·split at h
    ·split at h<;>(simp [RM.acc,RM.see] at h;simp [AV.bV,h])
    ·simp [RM.acc,RM.see] at h;simp [AV.bV,h]
   ·simp [RM.acc,RM.see] at h;simp [AV.bV,h]
 all_goals (split at h<;>simp [RM.acc,RM.see] at h)
theorem uA {g:Nat->Option Bk}:∀{l:List AV},∀id,id∈(gz l).acc g++(gz l).see g->id∈l.flatMap AV.bV
 |[],id,h=>by simp [gz,RM.acc,RM.see] at h
 |a::r,id,h=>by
  simp only [gz] at h
  refine im (L:=(a::r).flatMap AV.bV) _ (fun j hj=> ?_) (fun x j hj=> ?_) id h
  ·rw [PF];exact Pr _ (CH j hj)
  ·refine im (L:=(a::r).flatMap AV.bV) _ (fun j hj=> ?_) (fun x j hj=> ?_) j hj
   ·rw [PF];exact Po _ (uA j hj)
   ·simp [RM.acc,RM.see] at hj
theorem KP:∀id,id∈(dy a).acc g++(dy a).see g->id∈a.ids:=by
 intro id h
 cases a<;>simp only [dy] at h
 case agg cs=>exact im (L:=cs.flatMap AV.bV) _ uA (fun x j hj=>by simp [RM.acc,RM.see] at hj) id h
 case fn f cs=>exact im (L:=cs.flatMap AV.bV) _ uA (fun x j hj=>by simp [RM.acc,RM.see] at hj) id h
 case bf f cs=>exact im (L:=cs.flatMap AV.bV) _ uA (fun x j hj=>by simp [RM.acc,RM.see] at hj) id h
 all_goals exact CH id h
theorem uB {g:Nat->Option Bk}:∀{l:List AV},∀id,id∈(cS l).acc g++(cS l).see g->id∈l.flatMap AV.ids
 |[],id,h=>by simp [cS,RM.acc,RM.see] at h
 |a::r,id,h=>by
  simp only [cS] at h
  refine im (L:=(a::r).flatMap AV.ids) _ (fun j hj=> ?_) (fun x j hj=> ?_) id h
  ·rw [PF];exact Pr _ (KP j hj)
  ·refine im (L:=(a::r).flatMap AV.ids) _ (fun j hj=> ?_) (fun x j hj=> ?_) j hj
   ·rw [PF];exact Po _ (uB j hj)
   ·simp [RM.acc,RM.see] at hj
section
variable {τ:Type} {dn:τ->Type} {D:TD τ dn} {N:aC} {st:SS τ dn} {σ:Nat->AV} {g:Nat->Option Bk}
def SV.nr:SV τ dn->List Nat
 | .own nm _| .part nm _ _ _| .ref nm _ _ _| .mp nm=>[nm]
 | .rw _ _| .cU _ _ _ _=>[0]
 |_=>[]
def SV.n1:SV τ dn->List Nat
 | .own nm _| .part nm _ _ _| .ref nm _ _ _=>[nm]
 | .rw _ _| .cU _ _ _ _=>[0]
 |_=>[]
def SV.nms:SV τ dn->List Nat
 | .agg cs=>cs.flatMap SV.n1
 | .fn _ cs=>cs.flatMap SV.n1
 | .bf _ cs=>cs.flatMap SV.n1
 |a=>a.n1
def SV.gN:SV τ dn->Bool
 | .rw _ _| .cU _ _ _ _| .vg _ _ _=>false
 |_=>true
def SV.pl:SV τ dn->Bool
 | .agg cs| .fn _ cs| .bf _ cs=>cs.all SV.gN
 |a=>a.gN
theorem KQ:∀(v:SV τ dn) (id:Nat),v.gN=true->id∈(v.av D.toTE N).bC->∃nm,nm∈v.nr/\id=N.ι nm
 | .vg p c v,id,hp,h| .rw _ _,id,hp,h| .cU _ _ _ _,id,hp,h=>by simp [SV.gN] at hp
 | .own nm _,id,hp,h| .part nm _ _ _,id,hp,h| .ref nm _ _ _,id,hp,h| .mp nm,id,hp,h=>by
  simp only [SV.av,AV.bC,OP] at h;exact ⟨nm,by simp [SV.nr],h⟩
 | .vi _,id,hp,h| .vn _,id,hp,h| .vy _,id,hp,h| .vu _,id,hp,h| .vw _ _,id,hp,h| .vb _,id,hp,h| .vt _,id,hp,h| .vz _,id,hp,h| .vo _,id,hp,h| .agg _,id,hp,h| .aK _,id,hp,h| .vl _ _,id,hp,h| .vc _ _,id,hp,h| .emp,id,hp,h| .pim _ _,id,hp,h| .fn _ _,id,hp,h| .bf _ _,id,hp,h| .dead,id,hp,h=>by simp [SV.av,AV.bC] at h
theorem KR:∀(v:SV τ dn) (id:Nat),v.gN=true->id∈(v.av D.toTE N).bV->∃nm,nm∈v.n1/\id=N.ι nm
 | .vg p c v,id,hp,h| .rw _ _,id,hp,h| .cU _ _ _ _,id,hp,h=>by simp [SV.gN] at hp
 | .own nm _,id,hp,h| .part nm _ _ _,id,hp,h| .ref nm _ _ _,id,hp,h=>by
  simp only [SV.av,AV.bV,OP] at h;exact ⟨nm,by simp [SV.n1],h⟩
 | .vi _,id,hp,h| .vn _,id,hp,h| .vy _,id,hp,h| .vu _,id,hp,h| .vw _ _,id,hp,h| .vb _,id,hp,h| .vt _,id,hp,h| .vz _,id,hp,h| .vo _,id,hp,h| .agg _,id,hp,h| .aK _,id,hp,h| .vl _ _,id,hp,h| .vc _ _,id,hp,h| .emp,id,hp,h| .pim _ _,id,hp,h| .fn _ _,id,hp,h| .bf _ _,id,hp,h| .dead,id,hp,h| .mp _,id,hp,h=>by simp [SV.av,AV.bV] at h
theorem KS {cs:List (SV τ dn)} {id:Nat} (hp:cs.all SV.gN=true) (h:id∈(SV.cz D.toTE N cs).flatMap AV.bV):∃nm,nm∈cs.flatMap SV.n1/\id=N.ι nm:=by
 rw [SV.bA] at h
 simp only [List.mem_flatMap,Pc] at h
 obtain ⟨_,⟨v,hv,rfl⟩,h⟩:=h
 obtain ⟨nm,h1,h2⟩:=KR v id (ON.1 hp v hv) h
 exact ⟨nm,List.mem_flatMap.2 ⟨v,hv,h1⟩,h2⟩
theorem KT:∀(v:SV τ dn) (id:Nat),v.pl=true->id∈(v.av D.toTE N).ids->∃nm,nm∈v.nms/\id=N.ι nm
 | .vg p c v,id,hp,h| .rw _ _,id,hp,h| .cU _ _ _ _,id,hp,h=>by simp [SV.pl,SV.gN] at hp
 | .agg cs,id,hp,h| .fn _ cs,id,hp,h| .bf _ cs,id,hp,h=>by simp only [SV.av,AV.ids] at h;exact KS hp h
 | .own nm _,id,hp,h| .part nm _ _ _,id,hp,h| .ref nm _ _ _,id,hp,h=>by
  simp only [SV.av,AV.ids,AV.bV,OP] at h;exact ⟨nm,by simp [SV.nms,SV.n1],h⟩
 | .vi _,id,hp,h| .vn _,id,hp,h| .vy _,id,hp,h| .vu _,id,hp,h| .vw _ _,id,hp,h| .vb _,id,hp,h| .vt _,id,hp,h| .vz _,id,hp,h| .vo _,id,hp,h| .aK _,id,hp,h| .vl _ _,id,hp,h| .vc _ _,id,hp,h| .emp,id,hp,h| .pim _ _,id,hp,h| .dead,id,hp,h| .mp _,id,hp,h=>by simp [SV.av,AV.ids,AV.bV] at h
theorem KU {v w:SV τ dn} (h:snap1S D st v=some w):v.gN=true:=by
 cases v<;>first|rfl|(simp [snap1S,SV.pu1] at h)
theorem CI:∀{vs ws:List (SV τ dn)},lT D st vs=some ws->vs.all SV.gN=true
 |[],ws,h=>rfl
 |v::r,ws,h=>by
  simp only [lT] at h
  split at h
  ·rename_i x l h1 h2
   rw [Qi,KU h1,CI h2];rfl
  ·simp at h
theorem KV {v w:SV τ dn} (h:gM D st v=some w):v.pl=true:=by
 cases v with
 |agg cs|fn f cs|bf f cs=>
  simp only [gM,OM] at h;obtain ⟨l,hl,rfl⟩:=h
  exact CI hl
 |_=>first|rfl|(simp [gM,snap1S,SV.pu1] at h)
def gO (st:SS τ dn) (id:Nat):Prop:=∃t A,st.gm 0=some (.ar t A)/\dA A id
theorem rR [DecidableEq τ]:∀{vs ws:List (SV τ dn)} {O:List Prop},og D st vs=some (O,ws)->(∀p,p∈O->p)->∀id,id∈(vs.map (SV.av D.toTE N)).flatMap AV.ids->∃nm,nm∈vs.flatMap SV.nms/\(id=N.ι nm\/(nm=0/\gO st id))
 |[],ws,O,h,hO,id,hid=>by simp at hid
 |v::r,ws,O,h,hO,id,hid=>by
  simp only [og] at h
  split at h
  ·rename_i O1 x O2 l h1 h2
   simp only [OG,OT] at h
   obtain ⟨rfl,rfl⟩:=h
   simp only [OX,PF,Pm] at hid ⊢
   rcases hid with hid|hid
   ·have other:((gM D st v).map fun w=>(([]:List Prop),w))=some (O1,x)->∃nm,(nm∈v.nms\/nm∈r.flatMap SV.nms)/\(id=N.ι nm\/(nm=0/\gO st id)):=fun h=>by
     simp only [OM,OT] at h
     obtain ⟨c',h3,_,rfl⟩:=h
     obtain ⟨nm,q1,q2⟩:=KT v id (KV h3) hid
     exact ⟨nm, .inl q1, .inl q2⟩
    cases v with
    |rw t q=>
     refine ⟨0, .inl (by simp [SV.nms,SV.n1]), .inr ⟨rfl, ?_⟩⟩
     simp only [uo,yi] at h1
     split at h1
     ·rename_i A hA
      cases hp:D.pu t with
      |false=>rw [hp] at h1;simp at h1
      |true=>
       rw [hp,OL] at h1
       simp only [OG,OT] at h1
       obtain ⟨rfl,rfl⟩:=h1
       have hq:q.ok A:=hO _ (by simp)
       cases hk:q.kd with
       |nil=>simp [SV.av,hk,AV.ids,AV.bV] at hid
       |aX=>simp [SV.av,hk,AV.ids,AV.bV] at hid
       |own=>
        simp only [SV.av,hk,AV.ids,AV.bV,OP] at hid
        unfold Row.ok at hq
        rw [hk] at hq
        exact ⟨t,A,mO hA,hid▸hq.1⟩
     ·simp at h1
    |_=>exact other h1
   ·obtain ⟨nm,q1,q2⟩:=rR h2 (fun p hp=>hO p (Po _ hp)) id hid
    exact ⟨nm, .inr q1,q2⟩
  ·simp at h
def SV.mT (v:SV τ dn):Bool:=v.gN
def SV.nvg:SV τ dn->Bool
 | .agg cs| .fn _ cs| .bf _ cs=>cs.all SV.mT
 |a=>a.mT
theorem KW {v:SV τ dn} (h:v.mT=true):(v.av D.toTE N).bV=v.n1.map N.ι:=by
 cases v<;>simp [SV.mT,SV.gN] at h<;>simp [SV.av,AV.bV,SV.n1]
theorem uC:∀{cs:List (SV τ dn)},cs.all SV.mT=true->(cs.map (SV.av D.toTE N)).flatMap AV.bV=(cs.flatMap SV.n1).map N.ι
 |[],_=>rfl
 |v::r,h=>by
  rw [Qi,OJ] at h
  rw [OX,PF,PF,PL,KW h.1,uC h.2]
theorem KX {v:SV τ dn} (h:v.nvg=true):(v.av D.toTE N).ids=v.nms.map N.ι:=by
 cases v with
 |agg cs=>simp only [SV.av,AV.ids,SV.nms,SV.bA];exact uC h
 |fn f cs=>simp only [SV.av,AV.ids,SV.nms,SV.bA];exact uC h
 |bf f cs=>simp only [SV.av,AV.ids,SV.nms,SV.bA];exact uC h
 |vg p c v=>simp [SV.nvg,SV.mT,SV.gN] at h
 |rw t r=>simp [SV.nvg,SV.mT,SV.gN] at h
 |cU t r i o=>simp [SV.nvg,SV.mT,SV.gN] at h
 |_=>simp [SV.av,AV.ids,AV.bV,SV.nms,SV.n1]
theorem CJ:∀{vs:List (SV τ dn)},vs.all SV.nvg=true->(vs.map (SV.av D.toTE N)).flatMap AV.ids=(vs.flatMap SV.nms).map N.ι
 |[],_=>rfl
 |v::r,h=>by
  rw [Qi,OJ] at h
  rw [OX,PF,PF,PL,KX h.1,CJ h.2]
def SV.pw:SV τ dn->Bool
 | .vl _ _=>true
 |_=>false
def SV.px:SV τ dn->Bool
 | .agg cs=>cs.any SV.pw
 |a=>a.pw
def SV.lb:SV τ dn->Bool
 | .aK vs=>vs.any SV.px
 |a=>a.px
theorem KY {v:SV τ dn} (h:v.pw=true):(v.av D.toTE N).dk=false:=by
 cases v<;>simp [SV.pw] at h<;>rfl
theorem CK {v:SV τ dn} (h:v.px=true):(v.av D.toTE N).dH=false:=by
 cases v with
 |agg cs=>
  simp only [SV.px,Qr] at h
  obtain ⟨c,hc,h⟩:=h
  simp only [SV.av,AV.dH,SV.bA]
  rw [Qy];intro hh
  rw [ON] at hh
  have:=hh _ (List.mem_map_of_mem hc)
  rw [KY h] at this;simp at this
 |vl t xs=>rfl
 |_=>simp [SV.px,SV.pw] at h
theorem KZ {v:SV τ dn} (h:v.lb=true):(v.av D.toTE N).nob=false:=by
 cases v with
 |aK cs=>
  simp only [SV.lb,Qr] at h
  obtain ⟨c,hc,h⟩:=h
  simp only [SV.av,AV.nob,SV.bA]
  rw [Qy];intro hh
  rw [ON] at hh
  have:=hh _ (List.mem_map_of_mem hc)
  rw [CK h] at this;simp at this
 |agg cs=>exact CK (v:= .agg cs) h
 |vl t xs=>rfl
 |_=>simp [SV.lb,SV.px,SV.pw] at h
def SS.nr (st:SS τ dn) (x:Arg):List Nat:=match st.ev x with
 |some v=>v.nr
 |none=>[]
def AO.nrs (st:SS τ dn):AO->List Nat
 | .load _ x| .nilc x| .fad _ x| .len _ x| .isn _ _ x| .clr _ x| .b2s x=>st.nr x
 | .store _ x _| .iad _ x _| .iap _ _ x _| .slc _ x _ _ _| .mup _ x _ _| .mlk _ _ x _=>st.nr x
 | .app _ _ s x=>st.nr x++st.nr s
 | .cpy _ x y=>st.nr y++st.nr x
 |_=>[]
def AO.kn (st:SS τ dn):AO->Bool
 | .load _ x| .nilc x| .fad _ x| .len _ x| .isn _ _ x| .clr _ x| .b2s x=>(st.ev x).isSome
 | .store _ x _| .iad _ x _| .iap _ _ x _| .slc _ x _ _ _| .mup _ x _ _| .mlk _ _ x _=>(st.ev x).isSome
 | .app _ _ s x=>(st.ev x).isSome&&(st.ev s).isSome
 | .cpy _ x y=>(st.ev y).isSome&&(st.ev x).isSome
 |_=>true
def SS.ngd (st:SS τ dn) (x:Arg):Bool:=match st.ev x with
 |some (.vg _ _ _)=>false
 |_=>true
theorem K0 (R:bm D N st σ g) (hk:ao.kn st=true) (hg:ao.lk.all st.ngd=true) (hrow:∀x,x∈ao.lk->∀v,st.ev x=some v->v.isRw=true->∀id,id∈(v.av D.toTE N).bC->gO st id):∀id,id∈(ao.au k (aG σ)).acc g++(ao.au k (aG σ)).see g->∃nm,nm∈ao.nrs st/\(id=N.ι nm\/(nm=0/\gO st id)):=by
 intro id h
 have h:=uz id h
 have one:∀{x:Arg},x∈ao.lk->(st.ev x).isSome=true->id∈(aG σ x).bC->∃nm,nm∈st.nr x/\(id=N.ι nm\/(nm=0/\gO st id)):=fun {x} hm hx h=>by
  obtain ⟨v,hv⟩:=QA.1 hx
  rw [R.ev hv] at h
  have yn:=ON.1 hg x hm
  unfold SS.ngd at yn
  rw [hv] at yn
  have K1:st.nr x=v.nr:=by unfold SS.nr;rw [hv]
  rw [K1]
  cases hr:v.isRw with
  |true=>
   refine ⟨0, ?_, .inr ⟨rfl,hrow x hm v hv hr id h⟩⟩
   cases v<;>first|(simp [SV.isRw] at hr;done)|simp [SV.nr]
  |false=>
   obtain ⟨nm,h1,h2⟩:=KQ v id (by cases v<;>first|rfl|(simp at yn;done)|(simp [SV.isRw] at hr;done)) h
   exact ⟨nm,h1, .inl h2⟩
 cases ao<;>simp only [AO.refs] at h<;>simp only [AO.kn] at hk<;>simp only [AO.nrs]<;>first
  |exact one (by simp [AO.lk]) hk h
  |(simp at h;done)
  |skip
 ·simp only [OJ] at hk
  rcases Pm.1 h with h|h
  ·obtain ⟨nm,h1,h2⟩:=one (by simp [AO.lk]) hk.1 h;exact ⟨nm,Pr _ h1,h2⟩
  ·obtain ⟨nm,h1,h2⟩:=one (by simp [AO.lk]) hk.2 h;exact ⟨nm,Po _ h1,h2⟩
 ·simp only [OJ] at hk
  rcases Pm.1 h with h|h
  ·obtain ⟨nm,h1,h2⟩:=one (by simp [AO.lk]) hk.1 h;exact ⟨nm,Pr _ h1,h2⟩
  ·obtain ⟨nm,h1,h2⟩:=one (by simp [AO.lk]) hk.2 h;exact ⟨nm,Po _ h1,h2⟩
theorem K2 [DecidableEq τ] {r:SR τ dn} (h:mR D st ao=some r):ao.kn st=true:=by
 cases ao<;>first
  |rfl
  |skip
 case slc sz x lo hi mx=>
  simp only [AO.kn]
  simp only [mR] at h
  cases hb:(AO.lk (.slc sz x lo hi mx)).any st.rwa with
  |true=>rw [hb,OL] at h;simp [lO] at h
  |false=>
   rw [hb,O0] at h
   cases mx with
   |some m=>simp [sx] at h
   |none=>
    simp only [sx] at h
    split at h
    ·rename_i a _ _ h1 _ _;rw [h1];rfl
    ·simp at h
 all_goals simp only [AO.kn]
 all_goals simp only [mR] at h
 all_goals
  cases hb:(AO.lk _).any st.rwa with
  |true=>
   rw [hb,OL] at h
   simp only [lO] at h
   first
    |(simp at h;done)
    |(split at h<;>first|(simp at h;done)|(simp_all;done)|(split at h<;>first|(simp at h;done)|(simp_all;done)))
  |false=>
   rw [hb,O0] at h
   simp only [sx] at h
   first
    |(simp at h;done)
    |(simp only [Qc] at h;obtain ⟨_,h1,_⟩:=h;rw [h1];rfl)
    |(split at h<;>first|(simp at h;done)|(simp_all;done))
end
open Go.RowKit
section
variable {τ:Type} {dn:τ->Type}
mutual
def SV.dU (E:TE τ dn) (nm:Nat) (t:τ) (r:Row (dn t)):SV τ dn->SV τ dn
 | .own a sz=>bif Nat.beq a nm&&Nat.beq sz (E.sz t) then .rw t r else .own a sz
 | .ref a sz i o=>bif Nat.beq a nm&&Nat.beq sz (E.sz t) then .cU t r i o else .ref a sz i o
 | .agg cs=> .agg (SV.kI E nm t r cs)
 | .aK cs=> .aK (SV.kI E nm t r cs)
 | .fn f cs=> .fn f (SV.kI E nm t r cs)
 | .bf f cs=> .bf f (SV.kI E nm t r cs)
 | .vg p c v=> .vg p c (SV.dU E nm t r v)
 | .part a b c d=> .part a b c d
 | .pim cs o=> .pim cs o
 | .vc sz els=> .vc sz els
 | .mp a=> .mp a
 | .vi x=> .vi x
 | .vn x=> .vn x
 | .vy x=> .vy x
 | .vu x=> .vu x
 | .vw q x=> .vw q x
 | .vb c=> .vb c
 | .vt x=> .vt x
 | .vz x=> .vz x
 | .vo x=> .vo x
 | .vl a b=> .vl a b
 | .emp=> .emp
 | .rw a b=> .rw a b
 | .cU a b c d=> .cU a b c d
 | .dead=> .dead
def SV.kI (E:TE τ dn) (nm:Nat) (t:τ) (r:Row (dn t)):List (SV τ dn)->List (SV τ dn)
 |[]=>[]
 |v::l=>SV.dU E nm t r v::SV.kI E nm t r l
end
section
variable {E:TE τ dn} {N:aC} {nm:Nat} {t:τ} {r:Row (dn t)}
mutual
theorem yp (hk:r.kd= .own) (h1:N.ι nm=r.id) (h2:N.ln nm=r.n):∀v:SV τ dn,(v.dU E nm t r).av E N=v.av E N
 | .own a sz=>by
  simp only [SV.dU]
  cases hb:(Nat.beq a nm&&Nat.beq sz (E.sz t)) with
  |false=>rfl
  |true=>
   rw [OJ] at hb
   have e1:=OR hb.1
   have e2:=OR hb.2
   simp only [OL,SV.av,hk,e1,e2,h1,h2]
 | .ref a sz i o=>by
  simp only [SV.dU]
  cases hb:(Nat.beq a nm&&Nat.beq sz (E.sz t)) with
  |false=>rfl
  |true=>
   rw [OJ] at hb
   have e1:=OR hb.1
   have e2:=OR hb.2
   simp only [OL,SV.av,hk,e1,e2,h1]
 | .agg cs| .aK cs| .fn f cs| .bf f cs=>by simp only [SV.dU,SV.av,yq hk h1 h2 cs]
 | .vg p c v=>by simp only [SV.dU,SV.av,yp hk h1 h2 v]
 | .part _ _ _ _| .pim _ _| .vc _ _| .mp _| .vi _| .vn _| .vy _| .vu _| .vw _ _| .vb _| .vt _| .vz _| .vo _| .vl _ _| .emp| .rw _ _| .cU _ _ _ _| .dead=>by simp only [SV.dU]
theorem yq (hk:r.kd= .own) (h1:N.ι nm=r.id) (h2:N.ln nm=r.n):∀cs:List (SV τ dn),SV.cz E N (SV.kI E nm t r cs)=SV.cz E N cs
 |[]=>rfl
 |v::l=>by simp only [SV.kI,SV.cz,yp hk h1 h2 v,yq hk h1 h2 l]
end
end
def SB.dU (E:TE τ dn) (nm:Nat) (t:τ) (r:Row (dn t)):SB τ dn->SB τ dn
 | .bc sz els=> .bc sz (els.map (SV.kI E nm t r))
 | .mc els=> .mc (els.map (SV.kI E nm t r))
 |B=>B
theorem K3 {E:TE τ dn} {t:τ} {r:Row (dn t)} (hk:r.kd= .own) (h1:N.ι nm=r.id) (h2:N.ln nm=r.n) (B:SB τ dn):(B.dU E nm t r).av E N=B.av E N/\(B.dU E nm t r).len=B.len:=by
 have hM:∀els:List (List (SV τ dn)),SV.bU E N (els.map (SV.kI E nm t r))=SV.bU E N els:=by
  intro els
  induction els with
  |nil=>rfl
  |cons a l ih=>simp only [OX,SV.bU,ih,yq hk h1 h2]
 cases B with
 |bc sz els=>simp only [SB.dU,SB.av,hM,SB.len,O7,O5]
 |mc els=>simp only [SB.dU,SB.av,hM,SB.len,O5]
 |_=>exact ⟨rfl,rfl⟩
variable [DecidableEq τ]
def lY (D:TD τ dn) (st:SS τ dn) (nm:Nat) (t:τ):Option (List (dn t)):=match st.gm nm with
 |some (.bl t' xs)=>if h:t'=t then some (h▸xs) else (D.th t' t).map fun f=>xs.map f
 |some (.bc q els)=>if q=D.sz t then kE D t els else none
 |_=>none
theorem rS {D:TD τ dn} {st:SS τ dn} (ok:bh D) (R:bm D N st σ g) {t:τ} {xs:List (dn t)} (h:lY D st nm t=some xs):g (N.ι nm)=some ⟨D.sz t,xs.map (D.ea N.ρ t)⟩/\N.ln nm=xs.length:=by
 unfold lY at h
 split at h
 ·rename_i t' ys hB
  split at h
  ·rename_i he
   subst he
   simp only [OG] at h;subst h
   exact R.gm hB
  ·simp only [OM] at h
   obtain ⟨f,hf,rfl⟩:=h
   obtain ⟨g1,g2⟩:=R.gm hB
   obtain ⟨q1,q2⟩:=ok.th N.ρ t' t f hf
   refine ⟨?_,by rw [g2];simp only [SB.len,O7]⟩
   rw [g1]
   simp only [SB.av,Qk,q1]
   congr 2
   exact QC fun x _=>(q2 x).symm
 ·rename_i q els hB
  split at h
  ·rename_i hq
   obtain ⟨g1,g2⟩:=R.gm hB
   have e1:=ue (N:=N) ok h
   have e2:=ug h
   refine ⟨?_,by rw [g2];exact e2⟩
   rw [g1];simp only [SB.av,hq,e1]
  ·simp at h
 ·simp at h
def SS.py (D:TD τ dn) (st:SS τ dn) (nm:Nat):Option ((t:τ)×(List (Nat×List (dn t))×List (dn t))):=match st.gm 0 with
 |some (.ar t A)=>match lY D st nm t with
  |some xs=>bif !Nat.beq nm 0&&(st.rw nm&&st.rw 0) then some ⟨t,A,xs⟩ else none
  |none=>none
 |_=>none
def SS.tk (D:TD τ dn) (st:SS τ dn) (nm id:Nat) (t:τ) (A:List (Nat×List (dn t))) (xs:List (dn t)):SS τ dn:=
 ⟨st.rt,st.rm,st.t.map fun q=>(q.1,q.2.dU D.toTE nm t (Row.at (dn t) id xs.length)),(0,some (.ar t ((id,xs)::A)))::(nm,none)::st.m.map fun q=>(q.1,q.2.map (SB.dU D.toTE nm t (Row.at (dn t) id xs.length))),st.nx⟩
def yr:SV τ dn->Option Nat
 | .own nm _=>some nm
 |_=>none
def needs (D:TD τ dn) (st:SS τ dn):AO->List Nat
 | .store _ x y=>match st.ev x,st.ev y with
  |some (.ref nm _ _ _),some b=>match st.gm nm with
   |some (.bl t _)=>bif D.hr t then b.cells.filterMap yr else []
   |_=>[]
  |_,_=>[]
 | .app sz _ s x=>match st.ev s,st.ev x with
  |some (.own nm _),some b=>match st.gm nm with
   |some (.bl t _)=>bif D.hr t then (match st.cont D sz b with
    |some (.li els)=>els.flatMap fun cs=>cs.filterMap yr
    |_=>[]) else []
   |_=>[]
  |_,_=>[]
 |_=>[]
def kJ (D:TD τ dn):List Nat->SS τ dn->(SS τ dn->Prop)->Prop
 |[],st,K=>K st
 |nm::r,st,K=>match st.py D nm with
  |some ⟨t,A,xs⟩=>∀id,¬dA A id->kJ D r (st.tk D nm id t A xs) K
  |none=>kJ D r st K
end
section
variable {τ:Type} {dn:τ->Type} {D:TD τ dn} [DecidableEq τ]
theorem pz {α β:Type} (f:α->β):∀{l:List (Nat×α)} {i:Nat},getS (l.map fun q=>(q.1,f q.2)) i=(getS l i).map f
 |[],i=>rfl
 |(j,v)::r,i=>by
  rw [OX,bk,bk,pz f (l:=r)]
  by_cases h:i=j<;>simp [h]
theorem K4 (ok:bh D) {st:SS τ dn} (R:Rel D N st s) {t:τ} {A:List (Nat×List (dn t))} {xs:List (dn t)} (h:st.py D nm=some ⟨t,A,xs⟩):¬dA A (N.ι nm)/\Rel D N (st.tk D nm (N.ι nm) t A xs) s:=by
 unfold SS.py at h
 split at h
 case h_2=>simp at h
 rename_i t' A' jJ
 split at h
 case h_2=>simp at h
 rename_i ys hb
 cases hc:(!Nat.beq nm 0&&(st.rw nm&&st.rw 0)) with
 |false=>rw [hc] at h;simp at h
 |true=>
 rw [hc,OL,OG] at h
 simp only [Sigma.mk.injEq] at h
 obtain ⟨rfl,h⟩:=h
 have h:=eq_of_heq h
 simp only [OT] at h
 obtain ⟨rfl,rfl⟩:=h
 simp only [OJ,O4] at hc
 obtain ⟨nu,hw,yu⟩:=hc
 have CL:nm≠0:=fun e=>by subst e;simp at nu
 obtain ⟨⟨B1,m1⟩,r1⟩:=jW hw
 obtain ⟨⟨B2,m2⟩,r2⟩:=jW yu
 have hB2:B2= .ar t' A':=by
  have:=mQ m2;rw [this] at jJ;simpa using jJ
 subst hB2
 have hlt:=R.ml nm _ m1
 have nY:=R.ml 0 _ m2
 have eL:¬dA A' (N.ι nm):=fun hh=>(R.sp t' A' (gL jJ) _ hh).2 nm _ (.inl m1) rfl
 have dq:∀a X,getS ((0,some (SB.ar t' ((N.ι nm,ys)::A')))::(nm,(none:Option (SB τ dn)))::st.m.map fun q=>(q.1,q.2.map (SB.dU D.toTE nm t' (Row.at (dn t') (N.ι nm) ys.length)))) a=some (some X)->
   (a=0/\X= .ar t' ((N.ι nm,ys)::A'))\/(a≠0/\a≠nm/\∃B,getS st.m a=some (some B)/\X=B.dU D.toTE nm t' (Row.at (dn t') (N.ι nm) ys.length)):=fun a X h=>by
  rw [bk,bk,pz (Option.map (SB.dU D.toTE nm t' (Row.at (dn t') (N.ι nm) ys.length)))] at h
  by_cases h0:a=0
  ·rw [OI h0] at h;simp only [OG] at h;exact .inl ⟨h0,h.symm⟩
  ·rw [OH h0] at h
   by_cases h1:a=nm
   ·rw [OI h1] at h;simp at h
   ·rw [OH h1] at h
    simp only [OM] at h
    obtain ⟨x,hx,B,rfl,rfl⟩:=h
    exact .inr ⟨h0,h1,B,hx,rfl⟩
 have bM:∀t2 A2,(st.tk D nm (N.ι nm) t' A' ys).bB 0 (.ar t2 A2)->(SB.ar t' ((N.ι nm,ys)::A'):SB τ dn)= .ar t2 A2:=fun t2 A2 h=>by
  rcases h with h|h
  ·rcases dq 0 _ h with ⟨_,h⟩|⟨h,_⟩
   ·exact h.symm
   ·exact absurd rfl h
  ·have h':getS st.rm 0=some (some (.ar t2 A2)):=h
   rw [r2] at h';simp at h'
 refine ⟨eL,⟨fun N' hN=> ?_,R.inj,R.lt,fun a X h=> ?_,R.rl,fun t2 A2 h id hid=> ?_⟩⟩
 ·have A:=R.at_ N' hN
  have e1:N'.ι nm=N.ι nm:=(hN.1 nm hlt).1
  have bo:=rS ok A hb
  have e2:N'.ln nm=ys.length:=bo.2
  refine ⟨fun i v h=> ?_,A.rs,fun a X h=> ?_,A.rb,fun t2 A2 h id hid=> ?_⟩
  ·have h':getS (st.t.map fun q=>(q.1,q.2.dU D.toTE nm t' (Row.at (dn t') (N.ι nm) ys.length))) i=some v:=h
   rw [pz (SV.dU D.toTE nm t' (Row.at (dn t') (N.ι nm) ys.length))] at h'
   simp only [OM] at h'
   obtain ⟨w,hw,rfl⟩:=h'
   rw [A.sl i w hw]
   exact (yp rfl e1 e2 w).symm
  ·rcases dq a X h with ⟨rfl,rfl⟩|⟨h0,h1,B,hB,rfl⟩
   ·have:=A.bl 0 _ m2
    exact ⟨this.1,this.2⟩
   ·obtain ⟨p1,p2⟩:=K3 (E:=D.toTE) (N:=N') (r:=Row.at (dn t') (N.ι nm) ys.length) rfl e1 e2 B
    rw [p1,p2];exact A.bl a B hB
  ·have h':=bM t2 A2 h
   simp only [SB.ar.injEq] at h'
   obtain ⟨rfl,h'⟩:=h'
   have h':=eq_of_heq h'
   subst h'
   rw [B8]
   by_cases hi:id=N.ι nm
   ·rw [OI hi,hi, <-e1];exact bo.1
   ·rw [OH hi]
    rcases re.1 hid with hh|hh
    ·exact absurd hh hi
    ·exact A.ar _ A' (gL jJ) id hh
 ·have h':getS ((0,some (SB.ar t' ((N.ι nm,ys)::A')))::(nm,(none:Option (SB τ dn)))::st.m.map fun q=>(q.1,q.2.map (SB.dU D.toTE nm t' (Row.at (dn t') (N.ι nm) ys.length)))) a=some X:=h
  show a<st.nx
  rw [bk,bk,pz (Option.map (SB.dU D.toTE nm t' (Row.at (dn t') (N.ι nm) ys.length)))] at h'
  by_cases h0:a=0
  ·subst h0;exact nY
  ·rw [OH h0] at h'
   by_cases h1:a=nm
   ·subst h1;exact hlt
   ·rw [OH h1] at h'
    simp only [OM] at h'
    obtain ⟨x,hx,_⟩:=h'
    exact R.ml a _ hx
 ·have h':=bM t2 A2 h
  simp only [SB.ar.injEq] at h'
  obtain ⟨rfl,h'⟩:=h'
  have h':=eq_of_heq h'
  subst h'
  have bB:∀a X,(getS (st.tk D nm (N.ι nm) t' A' ys).m a=some (some X)\/getS st.rm a=some (some X))->a≠nm/\a<st.nx/\∃X',getS st.m a=some (some X')\/getS st.rm a=some (some X'):=fun a X hX=>by
   rcases hX with hX|hX
   ·rcases dq a X hX with ⟨rfl,rfl⟩|⟨h0,h1,B,hB,rfl⟩
    ·exact ⟨fun e=>CL e.symm,nY,_, .inl m2⟩
    ·exact ⟨h1,R.ml a _ hB,B, .inl hB⟩
   ·exact ⟨fun e=>by subst e;rw [r1] at hX;simp at hX,R.rl a _ hX,X, .inr hX⟩
  rcases re.1 hid with hh|hh
  ·subst hh
   refine ⟨R.lt nm hlt,fun a X hX e=> ?_⟩
   obtain ⟨q1,q2,_⟩:=bB a X hX
   exact q1 (R.inj a nm q2 hlt e)
  ·obtain ⟨q1,q2⟩:=R.sp _ A' (gL jJ) id hh
   refine ⟨q1,fun a X hX=> ?_⟩
   obtain ⟨_,_,X',lZ⟩:=bB a X hX
   exact q2 a X' lZ
theorem uD (ok:bh D) {N:aC} {s:S3} {K:SS τ dn->Prop}:∀{l:List Nat} {st:SS τ dn},Rel D N st s->kJ D l st K->∃aw,Rel D N aw s/\aw.rt=st.rt/\aw.rm=st.rm/\aw.nx=st.nx/\K aw
 |[],st,R,h=>⟨st,R,rfl,rfl,rfl,h⟩
 |nm::r,st,R,h=>by
  simp only [kJ] at h
  split at h
  ·rename_i t A xs ht
   obtain ⟨h1,h2⟩:=K4 ok R ht
   obtain ⟨aw,q1,q2,q3,q4,q5⟩:=uD ok h2 (h _ h1)
   exact ⟨aw,q1,q2,q3,q4,q5⟩
  ·exact uD ok R h
end
open Go.RowKit
section
variable {τ:Type} {dn:τ->Type}
abbrev JW (τ:Type) (dn:τ->Type):=FuncId->List (SV τ dn)->SS τ dn->(SV τ dn->SS τ dn->Prop)->Prop
structure b7 (τ:Type) (dn:τ->Type) where
 P:Program
 D:TD τ dn
 Δ:List (dx τ dn)
 Ω:List (jk τ dn)
 fl:Nat
 J:JW τ dn
 hd:Bool
def uE (P:Program) (D:TD τ dn) (f:FuncId) (vs:List (SV τ dn)) (st:SS τ dn) (K:SV τ dn->SS τ dn->Prop) (N:aC) (s:S3):Prop:=
 bL P f=true/\∃g1 k1 N' v st1,Fi P f (vs.map (SV.av D.toTE N)) s.g s.k (v.av D.toTE N') g1 k1/\(∀bW,N'.agree st1.nx bW->v.av D.toTE bW=v.av D.toTE N')/\N.agree st.nx N'/\st.nx<=st1.nx/\Rel D N' ⟨[],st.rm,[],st1.m,st1.nx⟩ ⟨s.σ,g1,k1⟩/\K v st1
structure b7.Ok (C:b7 τ dn):Prop where
 ok:bh C.D
 uF:∀c,c∈C.Δ->c.Ok C.P C.D
 CM:∀c,c∈C.Ω->c.Ok C.P C.D
 inl:∀{f vs st K N s},Rel C.D N st s->(∀N',N.agree st.nx N'->vs.map (SV.av C.D.toTE N')=vs.map (SV.av C.D.toTE N))->C.J f vs st K->uE C.P C.D f vs st K N s
def oi (D:TD τ dn):List (dx τ dn)->FuncId->List (SV τ dn)->Option ((c:dx τ dn)×PD dn c.ps)
 |[],_,_=>none
 |c::r,f,as_=>bif Nat.beq c.f f then (match jZ D c.ps as_ with
  |some x=>some ⟨c,x⟩
  |none=>oi D r f as_) else oi D r f as_
theorem yv {D:TD τ dn}:∀{Δ:List (dx τ dn)} {f:FuncId} {as_:List (SV τ dn)} {c:dx τ dn} {x:PD dn c.ps},oi D Δ f as_=some ⟨c,x⟩->c∈Δ/\c.f=f/\jZ D c.ps as_=some x
 |[],f,as_,c,x,h=>by simp [oi] at h
 |d::r,f,as_,c,x,h=>by
  have go:oi D r f as_=some ⟨c,x⟩->c∈d::r/\c.f=f/\jZ D c.ps as_=some x:=fun h=>by
   obtain ⟨h1,h2,h3⟩:=yv h
   exact ⟨Px _ h1,h2,h3⟩
  simp only [oi] at h
  cases hb:Nat.beq d.f f with
  |false=>rw [hb,O0] at h;exact go h
  |true=>
   rw [hb,OL] at h
   split at h
   ·rename_i y hy
    simp only [OG] at h
    cases h
    exact ⟨PH ..,OR hb,hy⟩
   ·exact go h
def oo (D:TD τ dn):List (jk τ dn)->FuncId->List (SV τ dn)->Option ((c:jk τ dn)×PD dn c.ps)
 |[],_,_=>none
 |c::r,f,as_=>bif Nat.beq c.f f then (match jZ D c.ps as_ with
  |some x=>some ⟨c,x⟩
  |none=>oo D r f as_) else oo D r f as_
theorem CN {D:TD τ dn}:∀{Δ:List (jk τ dn)} {f:FuncId} {as_:List (SV τ dn)} {c:jk τ dn} {x:PD dn c.ps},oo D Δ f as_=some ⟨c,x⟩->c∈Δ/\c.f=f/\jZ D c.ps as_=some x
 |[],f,as_,c,x,h=>by simp [oo] at h
 |d::r,f,as_,c,x,h=>by
  have go:oo D r f as_=some ⟨c,x⟩->c∈d::r/\c.f=f/\jZ D c.ps as_=some x:=fun h=>by
   obtain ⟨h1,h2,h3⟩:=CN h
   exact ⟨Px _ h1,h2,h3⟩
  simp only [oo] at h
  cases hb:Nat.beq d.f f with
  |false=>rw [hb,O0] at h;exact go h
  |true=>
   rw [hb,OL] at h
   split at h
   ·rename_i y hy
    simp only [OG] at h
    cases h
    exact ⟨PH ..,OR hb,hy⟩
   ·exact go h
def SV.dk:SV τ dn->Bool
 | .vi _| .vn _| .vy _| .vu _| .vw _ _| .vb _| .vt _| .vz _| .vo _| .emp| .dead=>true
 | .fn _ cs=>cs.isEmpty
 |_=>false
def SV.dH:SV τ dn->Bool
 | .agg cs=>cs.all SV.dk
 |a=>a.dk
def SV.nob:SV τ dn->Bool
 | .aK vs=>vs.all SV.dH
 |a=>a.dH
theorem CO {E:TE τ dn} {v:SV τ dn} (h:v.dk=true):(v.av E N).dk=true:=by
 cases v<;>simp [SV.dk] at h<;>simp [SV.av,AV.dk]
 subst h;rfl
theorem CP {E:TE τ dn} {v:SV τ dn} (h:v.dH=true):(v.av E N).dH=true:=by
 cases v with
 |agg cs=>
  simp only [SV.av,SV.dH,AV.dH,SV.bA,ON,Pc] at h ⊢
  rintro _ ⟨v,hv,rfl⟩;exact CO (h v hv)
 |vg p c v=>simp [SV.dH,SV.dk] at h
 |rw t r=>simp [SV.dH,SV.dk] at h
 |cU t r i o=>simp [SV.dH,SV.dk] at h
 |_=>
  simp only [SV.dH] at h
  exact CO (E:=E) (N:=N) h
theorem K5 {E:TE τ dn} {v:SV τ dn} (h:v.nob=true):(v.av E N).nob=true:=by
 cases v with
 |aK cs=>
  simp only [SV.av,SV.nob,AV.nob,SV.bA,ON,Pc] at h ⊢
  rintro _ ⟨v,hv,rfl⟩;exact CP (h v hv)
 |vg p c v=>simp [SV.nob,SV.dH,SV.dk] at h
 |rw t r=>simp [SV.nob,SV.dH,SV.dk] at h
 |cU t r i o=>simp [SV.nob,SV.dH,SV.dk] at h
 |_=>
  simp only [SV.nob] at h
  exact CP (E:=E) (N:=N) h
def pA (st:SS τ dn) (x:Arg) (args:List Arg):Option (FuncId×List (SV τ dn)):=
 match st.ev x,args.mapM st.ev with
 |some (.fn f caps),some vs=>some (f,vs++caps)
 |some (.bf f first),some vs=>some (f,first++vs)
 |_,_=>none
theorem pB {D:TD τ dn} {st:SS τ dn} (R:bm D N st σ g) {x:Arg} {f:FuncId} {vs:List (SV τ dn)} (h:pA st x args=some (f,vs)) (k:Nat):
  (AO.au k (aG σ) (.call x args)).run g=some (.call f (vs.map (SV.av D.toTE N))):=by
 unfold pA at h
 split at h
 ·rename_i f' caps K6 h1 h2
  simp only [OG,OT] at h;obtain ⟨rfl,rfl⟩:=h
  simp only [AO.au,R.ev h1,SV.av,RM.run,rK R h2,PL,SV.bA]
 ·rename_i f' first K6 h1 h2
  simp only [OG,OT] at h;obtain ⟨rfl,rfl⟩:=h
  simp only [AO.au,R.ev h1,SV.av,RM.run,rK R h2,PL,SV.bA]
 ·simp at h
def CQ [DecidableEq τ] (C:b7 τ dn) (st:SS τ dn) (x:Arg) (args:List Arg):Option (SR τ dn×List Nat):=
 match pA st x args with
 |some (f,vs)=>match og C.D st vs with
  |some (O,as_)=>match oi C.D C.Δ f as_ with
   |some ⟨c,y⟩=>bif (c.val C.D y).nob||(vs.flatMap SV.nms).isEmpty then some (.val (O++[c.pre y]) (c.val C.D y),vs.flatMap SV.nms) else bif (c.val C.D y).lb&&(vs.all SV.nvg&&(vs.flatMap SV.nms).all st.rw) then some (.ga (O++[c.pre y]) (c.val C.D y) (vs.flatMap SV.nms),vs.flatMap SV.nms) else none
   |none=>match oo C.D C.Ω f as_ with
    |some ⟨c,y⟩=>some (.new (O++[c.pre y]) (.own st.nx (C.D.sz c.t)) (.bl c.t (c.res y)),vs.flatMap SV.nms)
    |none=>none
  |none=>none
 |none=>none
def SS.live (st:SS τ dn) (a:Nat):Bool:=Nat.blt a st.nx&&(st.gm a).isSome
def j0 [DecidableEq τ] (C:b7 τ dn) (st:SS τ dn) (ao:AO):Option (SR τ dn×List Nat):=
 match ao with
 | .call x args=>match CQ C st x args with
  |some (r,ns)=>bif ns.all st.live then some (r,ns) else none
  |none=>none
 |ao=>match mR C.D st ao with
  |some r=>bif (ao.nrs st).all st.live&&ao.lk.all st.ngd then some (r,ao.nrs st) else none
  |none=>none
def SR.nx (st:SS τ dn):SR τ dn->Nat
 | .new _ _ _| .mov _ _ _ _=>st.nx+1
 |_=>st.nx
theorem SR.uG (st:SS τ dn) (d:Option Nat) (r:SR τ dn):(r.st st d).nx=r.nx st:=by cases r<;>rfl
theorem yw {D:TD τ dn} (ok:bh D) (h:N'.ρ=N.ρ) (t:τ) (x:dn t):(D.en t x).av D.toTE N=(D.en t x).av D.toTE N':=by
 have e:(D.es t x).map (SV.av D.toTE N)=(D.es t x).map (SV.av D.toTE N'):=by rw [ok.dv,ok.dv,h]
 cases ha:D.ag t with
 |true=>rw [uu ha,SV.av,SV.av,SV.bA,SV.bA,e]
 |false=>
  unfold TD.en
  rw [ha,O0]
  cases hs:D.es t x with
  |nil=>rfl
  |cons v r=>rw [hs] at e;simp only [OX,Qp] at e;exact e.1
theorem CR {D:TD τ dn} (ok:bh D) {N N':aC} (h:N'.ρ=N.ρ):∀(rs:List τ) (x:RD dn rs),(iP D rs x).map (SV.av D.toTE N)=(iP D rs x).map (SV.av D.toTE N')
 |[],_=>rfl
 |[t],x=>by simp only [iP,OX,Pw,yw ok h t x]
 |t::s::r,x=>by simp only [iP,OX,yw ok h t x.1,CR ok h (s::r) x.2]
theorem CS {D:TD τ dn} (ok:bh D) (h:N'.ρ=N.ρ) {c:dx τ dn} {y:PD dn c.ps}:(c.val D y).av D.toTE N=(c.val D y).av D.toTE N':=by
 unfold dx.val;rw [ux,ux,CR ok h]
theorem K7 [DecidableEq τ] {D:TD τ dn} {st:SS τ dn} {g:Nat->Option Bk} (R:bm D N st σ g) {r:SR τ dn} (h:mR D st ao=some r) (hO:∀p,p∈r.O->p):∀x,x∈ao.lk->∀v,st.ev x=some v->v.isRw=true->∀id,id∈(v.av D.toTE N).bC->gO st id:=by
 intro x hx v hv hr id hid
 unfold mR at h
 split at h
 ·simp [AO.lk] at hx
 ·have hb:(ao.lk.any st.rwa)=true:=Qr.2 ⟨x,hx,by unfold SS.rwa;rw [hv];exact hr⟩
  rw [hb,OL] at h
  exact Kl R h hO hx hv hr id hid
theorem CT [DecidableEq τ] {C:b7 τ dn} (hC:C.Ok) {st:SS τ dn} (R:∀N',N.agree st.nx N'->bm C.D N' st σ g) (hg:bR σ o.guard=some true) {r:SR τ dn} {ns:List Nat} (h:j0 C st o.ao=some (r,ns)) (hO:∀p,p∈r.O->p):
  ∃val ups acc,dt C.P σ g k o val ups acc/\(∀N',(r.up N st k).agree (r.nx st) N'->val=r.v.av C.D.toTE N'/\ups=r.ups C.D N' k)/\(∀id,id∈acc->∃nm,nm∈ns/\(id=N.ι nm\/(nm=0/\gO st id)))/\r.may C.D N st/\(∀nm,nm∈ns->st.live nm=true):=by
 have blt:∀{l:List Nat},(l.all st.live)=true->∀nm,nm∈l->nm<st.nx:=fun h nm hn=>by
  have:=ON.1 h nm hn
  unfold SS.live at this
  rw [OJ] at this
  exact Pn this.1
 have uH:∀{l:List Nat},(l.all st.live)=true->∀nm,nm∈l->st.live nm=true:=fun h nm hn=>ON.1 h nm hn
 have R0:=R N (N.dT _)
 have dN:∀N',(r.up N st k).agree (r.nx st) N'->N.agree st.nx N'/\r.fresh N' st.nx k:=fun N' hN=>by
  cases r with
  |val=>exact ⟨hN,trivial⟩
  |put=>exact ⟨hN,trivial⟩
  |ga=>exact ⟨hN,trivial⟩
  |eF=>exact ⟨hN,trivial⟩
  |new O v B=>
   refine ⟨aC.eN (N.lQ st.nx k B.len) hN (Nat.le_succ _), ?_, ?_⟩
   ·rw [(hN.1 st.nx (PO _)).1];exact OI rfl
   ·rw [(hN.1 st.nx (PO _)).2];exact OI rfl
  |mov O v o B=>
   refine ⟨aC.eN (N.lQ st.nx k B.len) hN (Nat.le_succ _), ?_, ?_⟩
   ·rw [(hN.1 st.nx (PO _)).1];exact OI rfl
   ·rw [(hN.1 st.nx (PO _)).2];exact OI rfl
 unfold j0 at h
 split at h
 ·rename_i x args cH
  split at h
  ·rename_i r' ns' hc
   cases hb:(ns'.all st.live) with
   |false=>rw [hb] at h;simp at h
   |true=>
    rw [hb,OL,OG,OT] at h
    obtain ⟨rfl,rfl⟩:=h
    unfold CQ at hc
    split at hc
    ·rename_i f vs eD
     split at hc
     ·rename_i Os as_ fN
      split at hc
      ·rename_i c y hf
       cases hcd:((c.val C.D y).nob||(vs.flatMap SV.nms).isEmpty) with
       |false=>
        rw [hcd,O0] at hc
        cases hce:((c.val C.D y).lb&&(vs.all SV.nvg&&(vs.flatMap SV.nms).all st.rw)) with
        |false=>rw [hce] at hc;simp at hc
        |true=>
         rw [hce,OL,OG,OT] at hc
         obtain ⟨rfl,rfl⟩:=hc
         rw [OJ,OJ] at hce
         obtain ⟨l1,l2,l3⟩:=hce
         obtain ⟨f1,f2,f3⟩:=yv hf
         obtain ⟨c1,c2⟩:=hC.uF c f1
         simp only [SR.O,Pm,OP] at hO
         have l0:∀p,p∈Os->p:=fun p hp=>hO p (.inl hp)
         have hs:=uq hC.ok R0 fN l0
         have eX:=(c2 y N (hO _ (.inr rfl))).args (uw (N:=N) hC.ok f3)
         rw [f2] at eX c1
         have hr:=dt.call (P:=C.P) (fresh:=k) hg (by rw [cH];exact pB R0 eD k) c1 hs eX
         have nW:callUps (vs.map (SV.av C.D.toTE N)) ((c.val C.D y).av C.D.toTE N)=((vs.flatMap SV.nms).map N.ι).map fun i=>(i,none):=by
          unfold callUps
          rw [OH (by rw [KZ l1];simp),CJ l2]
         rw [nW] at hr
         refine ⟨_,_,_,hr,fun N' hN=>⟨CS hC.ok (dN N' hN).1.2, ?_⟩,fun id hid=> ?_,fun a ha=> ?_,uH hb⟩
         ·simp only [SR.ups]
          congr 1
          exact QC fun a ha=>((hN.1 a (blt hb a ha)).1).symm
         ·rcases Pm.1 hid with hid|hid
          ·have:=uz id hid
           rw [cH] at this;simp [AO.refs] at this
          ·exact rR fN l0 id (uB id hid)
         ·exact jW (ON.1 l3 a ha)
       |true=>
        rw [hcd,OL,OG,OT] at hc
        obtain ⟨rfl,rfl⟩:=hc
        obtain ⟨f1,f2,f3⟩:=yv hf
        obtain ⟨c1,c2⟩:=hC.uF c f1
        simp only [SR.O,Pm,OP] at hO
        have l0:∀p,p∈Os->p:=fun p hp=>hO p (.inl hp)
        have key:∀N',N.agree st.nx N'->∃acc,dt C.P σ g k o ((c.val C.D y).av C.D.toTE N') [] acc/\∀id,id∈acc->∃nm,nm∈vs.flatMap SV.nms/\(id=N'.ι nm\/(nm=0/\gO st id)):=fun N' hN=>by
         have R':=R N' hN
         have hs:=uq hC.ok R' fN l0
         have eX:=(c2 y N' (hO _ (.inr rfl))).args (uw (N:=N') hC.ok f3)
         rw [f2] at eX c1
         have hr:=dt.call (P:=C.P) (fresh:=k) hg (by rw [cH];exact pB R' eD k) c1 hs eX
         have nW:callUps (vs.map (SV.av C.D.toTE N')) ((c.val C.D y).av C.D.toTE N')=[]:=by
          unfold callUps
          rw [O9] at hcd
          rcases hcd with hcd|hcd
          ·rw [OI (K5 hcd)]
          ·split
           ·rfl
           ·rw [List.map_eq_nil_iff]
            rw [PC] at hcd
            rw [List.eq_nil_iff_forall_not_mem]
            intro id hid
            obtain ⟨nm,h1,_⟩:=rR fN l0 id hid
            rw [hcd] at h1;simp at h1
         rw [nW] at hr
         refine ⟨_,hr,fun id hid=> ?_⟩
         rcases Pm.1 hid with hid|hid
         ·have:=uz id hid
          rw [cH] at this;simp [AO.refs] at this
         ·exact rR fN l0 id (uB id hid)
        obtain ⟨acc,k1,k2⟩:=key N (N.dT _)
        refine ⟨_,_,acc,k1,fun N' hN=>⟨?_,rfl⟩,k2,trivial,uH hb⟩
        exact CS hC.ok (dN N' hN).1.2
      ·split at hc
       ·rename_i c y hf
        rw [OG,OT] at hc
        obtain ⟨rfl,rfl⟩:=hc
        obtain ⟨f1,f2,f3⟩:=CN hf
        obtain ⟨⟨c1,cn⟩,c2⟩:=hC.CM c f1
        simp only [SR.O,Pm,OP] at hO
        have l0:∀p,p∈Os->p:=fun p hp=>hO p (.inl hp)
        have hs:=uq hC.ok R0 fN l0
        have oP:=KO (c2 y N (hO _ (.inr rfl))) (uw (N:=N) hC.ok f3)
        rw [f2] at oP c1
        have wE:∀cs,cs∈(c.res y).map (C.D.ea N.ρ c.t)->∀a,a∈cs->a.dk=true:=fun cs hcs a ha=>by
         obtain ⟨x,_,rfl⟩:=Pc.1 hcs
         rw [<-hC.ok.dv N c.t x] at ha
         obtain ⟨v,hv,rfl⟩:=Pc.1 ha
         exact KN (ON.1 (cn x) v hv)
        have hr:=dt.nE (P:=C.P) (fresh:=k) hg (by rw [cH];exact pB R0 eD k) c1 hs oP wE
        refine ⟨_,_,_,hr,fun N' hN=> ?_,fun id hid=> ?_,rfl,uH hb⟩
        ·obtain ⟨yx,h1,h2⟩:=dN N' hN
         simp only [SR.v,SV.av,SR.ups,SB.av,h1,h2,yx.2,O7,SB.len,O5]
        ·rcases Pm.1 hid with hid|hid
         ·have:=uz id hid
          rw [cH] at this;simp [AO.refs] at this
         ·exact rR fN l0 id (uB id hid)
       ·simp at hc
     ·simp at hc
    ·simp at hc
  ·simp at h
 ·split at h
  ·rename_i r' hr
   cases hb:((o.ao.nrs st).all st.live&&o.ao.lk.all st.ngd) with
   |false=>rw [hb] at h;simp at h
   |true=>
    rw [hb,OL,OG,OT] at h
    obtain ⟨rfl,rfl⟩:=h
    rw [OJ] at hb
    obtain ⟨N1,yx⟩:∃N1,(r'.up N st k).agree (r'.nx st) N1:=⟨_,aC.dT _ _⟩
    have A1:=dN N1 yx
    have e1:=(yh hC.ok (R N1 A1.1) hr hO).1 k hO A1.2
    refine ⟨_,_,_, .done hg e1,fun N' hN=> ?_,fun id hid=> ?_,(yh hC.ok R0 hr hO).2,uH hb.1⟩
    ·have A2:=dN N' hN
     have e2:=(yh hC.ok (R N' A2.1) hr hO).1 k hO A2.2
     rw [e1] at e2
     simp only [OG,Out.done.injEq] at e2
     exact e2
    ·exact K0 R0 (K2 hr) hb.2 (K7 R0 hr hO) id hid
  ·simp at h
structure NR where
 keys:List Nat
 acc:List Nat
 all:Bool:=false
 ra:Bool:=false
 ex:List Nat:=[]
 nw:Bool:=false
def uI (x y:NR):Bool:=bif x.all then !y.all&&(!y.ra&&(y.keys.isEmpty&&y.acc.all fun a=>x.ex.contains a)) else bif y.all then !x.ra&&(x.keys.isEmpty&&x.acc.all fun a=>y.ex.contains a) else ((!x.ra||y.keys.isEmpty)&&(!y.ra||x.keys.isEmpty))&&((x.keys.all fun id=> !y.acc.contains id&& !y.keys.contains id)&&(y.keys.all fun id=> !x.acc.contains id))
def yy (dep:List (List Nat)) (i j:Nat) (x y:NR):Bool:=(x.all&&x.keys.isEmpty)&&(y.nw&&(y.acc.isEmpty&&(!y.ra&&mH dep i j)))
def idsN (rs:List NR) (dep:List (List Nat)):Bool:=
 (List.range rs.length).all fun j=>(List.range j).all fun i=>((dep[j]?).getD []).contains i||(match rs[i]?,rs[j]? with|some x,some y=>uI x y||yy dep i j x y|_,_=>false)
def jm (N:aC) (Q:Nat->Prop) (nm id:Nat):Prop:=(id=N.ι nm/\¬Q id)\/(nm=0/\Q id)
structure jo (N:aC) (Q:Nat->Prop) (nx:Nat) (r:Rec) (x:NR):Prop where
 keys:x.all=false->∀id,id∈r.keys->∃nm,nm∈x.keys/\jm N Q nm id
 acc:x.all=false->x.ra=false->∀id,id∈r.acc->∃nm,nm∈x.acc/\jm N Q nm id
 kl:∀nm,nm∈x.keys->nm<nx
 al:∀nm,nm∈x.acc->nm<nx
 ex:∀nm,nm∈x.ex->nm<nx/\∀id,id∈r.keys->¬jm N Q nm id
 nw:x.nw=true->x.all=false/\∀id,id∈r.keys->r.fr<=id
 ca:x.all=true->x.keys.isEmpty=true->r.acc=[]
theorem jm.step {N N':aC} {Q:Nat->Prop} {nx nm id:Nat} (h:jm N Q nm id) (hN:N.agree nx N') (hn:nm<nx):jm N' Q nm id:=by
 rcases h with ⟨h1,h2⟩|h
 ·exact .inl ⟨by rw [(hN.1 nm hn).1];exact h1,h2⟩
 ·exact .inr h
theorem jo.step {N N':aC} {Q:Nat->Prop} {nx nx':Nat} {r:Rec} {x:NR} (h:jo N Q nx r x) (hN:N.agree nx N') (hx:nx<=nx'):jo N' Q nx' r x:=by
 refine ⟨fun ha id hid=> ?_,fun ha hb id hid=> ?_,fun nm hn=>O8 (h.kl nm hn) hx,fun nm hn=>O8 (h.al nm hn) hx,fun nm hn=>⟨O8 (h.ex nm hn).1 hx,fun id hid hq=>(h.ex nm hn).2 id hid ?_⟩,h.nw,h.ca⟩
 ·obtain ⟨nm,h1,h2⟩:=h.keys ha id hid
  exact ⟨nm,h1,h2.step hN (h.kl nm h1)⟩
 ·obtain ⟨nm,h1,h2⟩:=h.acc ha hb id hid
  exact ⟨nm,h1,h2.step hN (h.al nm h1)⟩
 ·rcases hq with ⟨h1,h2⟩|hq
  ·exact .inl ⟨h1.trans (hN.1 nm (h.ex nm hn).1).1,h2⟩
  ·exact .inr hq
theorem jo.nk {nx:Nat} {x:NR} (h:jo N Q nx r x) (ha:x.all=false) (h1:x.keys.isEmpty=true):r.keys=[]:=by
 rw [PC] at h1
 refine List.eq_nil_iff_forall_not_mem.2 fun id hid=> ?_
 obtain ⟨nm,q,_⟩:=h.keys ha id hid
 rw [h1] at q;simp at q
theorem jm.eq {nx a b id:Nat} (inj:∀a b,a<nx->b<nx->N.ι a=N.ι b->a=b) (ha:a<nx) (hb:b<nx) (h:jm N Q a id) (k:jm N Q b id):a=b:=by
 rcases h with ⟨h1,h2⟩|⟨h1,h2⟩<;>rcases k with ⟨k1,k2⟩|⟨k1,k2⟩
 ·exact inj a b ha hb (h1.symm.trans k1)
 ·exact absurd k2 h2
 ·exact absurd h2 k2
 ·rw [h1,k1]
theorem K8 {nx:Nat} (inj:∀a b,a<nx->b<nx->N.ι a=N.ι b->a=b) {q:Rec} {x y:NR} (hr:jo N Q nx r x) (hq:jo N Q nx q y) (h:uI x y=true):fw r q=true:=by
 unfold uI at h
 unfold fw
 cases hx:x.all with
 |true=>
  rw [hx,OL] at h
  simp only [OJ,O4] at h
  obtain ⟨h1,h2,h3,h4⟩:=h
  have e1:=hq.nk h1 h3
  rw [e1]
  simp only [List.all_nil,Bool.and_true,ON,OJ,O4,Pp,Pq,PG] at h4 ⊢
  refine fun id hid=>⟨fun hc=> ?_,by simp⟩
  obtain ⟨b,hb,eb⟩:=hq.acc h1 h2 _ hc
  exact (hr.ex b (h4 b hb)).2 id hid eb
 |false=>
  rw [hx,O0] at h
  cases hy:y.all with
  |true=>
   rw [hy,OL,OJ,OJ,O4] at h
   obtain ⟨h2,h3,h4⟩:=h
   have e1:=hr.nk hx h3
   rw [e1]
   simp only [List.all_nil,Bool.true_and,ON,O4,Pp,Pq,PG] at h4 ⊢
   refine fun id hid hc=> ?_
   obtain ⟨b,hb,eb⟩:=hr.acc hx h2 _ hc
   exact (hq.ex b (h4 b hb)).2 id hid eb
  |false=>
   rw [hy,O0,OJ] at h
   obtain ⟨CU,h⟩:=h
   rw [OJ,O9,O9,O4,O4] at CU
   obtain ⟨pC,pD⟩:=CU
   simp only [OJ,ON,O4,Pp,Pq] at h ⊢
   obtain ⟨h1,h2⟩:=h
   refine ⟨fun id hid=> ?_,fun id hid=> ?_⟩
   ·obtain ⟨a,ha,ea⟩:=hr.keys hx _ hid
    refine ⟨fun hc=> ?_,fun hc=> ?_⟩
    ·rcases pD with pD|pD
     case inr=>rw [PC] at pD;rw [pD] at ha;simp at ha
     obtain ⟨b,hb,eb⟩:=hq.acc hy pD _ hc
     have:=ea.eq inj (hr.kl a ha) (hq.al b hb) eb
     subst this;exact (h1 a ha).1 hb
    ·obtain ⟨b,hb,eb⟩:=hq.keys hy _ hc
     have:=ea.eq inj (hr.kl a ha) (hq.kl b hb) eb
     subst this;exact (h1 a ha).2 hb
   ·obtain ⟨a,ha,ea⟩:=hq.keys hy _ hid
    intro hc
    rcases pC with pC|pC
    case inr=>rw [PC] at pC;rw [pC] at ha;simp at ha
    obtain ⟨b,hb,eb⟩:=hr.acc hx pC _ hc
    have:=ea.eq inj (hq.kl a ha) (hr.al b hb) eb
    subst this;exact h2 a ha hb
inductive gP (N:aC) (Q:Nat->Prop) (nx:Nat):List Rec->List (Option Nat)->List NR->Prop
 |nil:gP N Q nx [] [] []
 |cons {r:Rec} {c:Option Nat} {x:NR} {rs:List Rec} {hs:List (Option Nat)} {xs:List NR} (h:jo N Q nx r x) (hc:x.all=false->c=none) (t:gP N Q nx rs hs xs):gP N Q nx (r::rs) (c::hs) (x::xs)
theorem gP.step {N N':aC} {Q:Nat->Prop} {nx nx':Nat} {rs:List Rec} {hs:List (Option Nat)} {xs:List NR} (h:gP N Q nx rs hs xs) (hN:N.agree nx N') (hx:nx<=nx'):gP N' Q nx' rs hs xs:=by
 induction h with
 |nil=>exact .nil
 |cons h hc _ ih=>exact .cons (h.step hN hx) hc ih
theorem gP.snoc {nx:Nat} {xs:List NR} (h:gP N Q nx rs hs xs) {c:Option Nat} {x:NR} (hr:jo N Q nx r x) (hc:x.all=false->c=none):gP N Q nx (rs++[r]) (hs++[c]) (xs++[x]):=by
 induction h with
 |nil=>exact .cons hr hc .nil
 |cons h hc _ ih=>exact .cons h hc ih
theorem gP.len {nx:Nat} {xs:List NR} (h:gP N Q nx rs hs xs):rs.length=xs.length:=by
 induction h with
 |nil=>rfl
 |cons _ _ _ ih=>simp [ih]
theorem gP.get {nx:Nat} {xs:List NR} (h:gP N Q nx rs hs xs):∀(i:Nat) x,xs[i]? =some x->∃r c,rs[i]? =some r/\hs[i]? =some c/\jo N Q nx r x/\(x.all=false->c=none):=by
 induction h with
 |nil=>intro i x hx;simp at hx
 |cons h hc _ ih=>
  intro i x hx
  cases i with
  |zero=>simp only [Pg,OG] at hx;subst hx;exact ⟨_,_,rfl,rfl,h,hc⟩
  |succ i=>exact ih i x (by simpa using hx)
theorem CV {nx:Nat} (inj:∀a b,a<nx->b<nx->N.ι a=N.ι b->a=b) {xs:List NR} (h:gP N Q nx rs hs xs) (hlt:∀(i j:Nat) ri rj,i<j->rs[i]? =some ri->rs[j]? =some rj->∀id,id∈ri.keys->id<rj.fr) (lE:∀(i:Nat) x,xs[i]? =some x->x.nw=true->i=jn) (hd:idsN xs dep=true):ef rs dep=true/\jd jn rs hs dep=true:=by
 unfold idsN at hd
 unfold ef jd
 simp only [ON,Pj,O9] at hd ⊢
 refine ⟨fun j hj i hi=> ?_,fun j hj i hi=> ?_⟩
 ·rcases hd j (by rw [<-h.len];exact hj) i hi with h1|h1
  ·exact .inl h1
  ·right
   split at h1
   ·rename_i x y hx hy
    obtain ⟨r,_,hr,_,pg,_⟩:=h.get i x hx
    obtain ⟨q,_,hq,_,oq,_⟩:=h.get j y hy
    rw [hr,hq]
    rw [O9] at h1
    rcases h1 with h1|h1
    ·exact K8 inj pg oq h1
    ·unfold yy at h1
     simp only [OJ,O4] at h1
     obtain ⟨n1,n2,n3,n4,n5⟩:=h1
     have e1:=pg.ca n1.1 n1.2
     have e2:q.acc=[]:=by
      rw [PC] at n3
      refine List.eq_nil_iff_forall_not_mem.2 fun id hid=> ?_
      obtain ⟨nm,fE,_⟩:=oq.acc (oq.nw n2).1 n4 id hid
      rw [n3] at fE;simp at fE
     show fw r q=true
     unfold fw
     rw [e1,e2]
     simp only [List.contains_nil,Bool.not_false,Bool.and_true,Bool.true_and,OJ,ON,O4,Pp,Pq]
     refine ⟨fun id hid=>⟨by simp,fun hc=> ?_⟩,by simp⟩
     have b1:=hlt i j r q hi hr hq id hid
     have b2:=(oq.nw n2).2 id hc
     omega
   ·simp at h1
 ·rcases hd j (by rw [<-h.len];exact hj) i hi with h1|h1
  ·exact .inl h1
  ·right
   split at h1
   ·rename_i x y hx hy
    obtain ⟨r,c,hr,hc,pg,bJ⟩:=h.get i x hx
    obtain ⟨q,e,hq,he,oq,yz⟩:=h.get j y hy
    rw [hr,hq]
    have emp:∀{r:Rec},r.keys=[]->r.ups.isEmpty=true:=fun {r} hk=>by
     unfold Rec.keys at hk
     rw [List.map_eq_nil_iff] at hk
     rw [hk];rfl
    rw [O9] at h1
    rcases h1 with h1|h1
    case inr=>
     unfold yy at h1
     simp only [OJ,O4] at h1
     obtain ⟨n1,n2,n3,n4,n5⟩:=h1
     have ce:=yz (oq.nw n2).1
     subst ce
     have jH:cy hs j=false:=by unfold cy;rw [he]
     have ej:=lE j y hy n2
     have eb:Nat.beq j jn=true:=by rw [ej];exact Nat.beq_refl _
     simp only [jH,eb,n5];simp
    unfold uI at h1
    cases hxa:x.all with
    |true=>
     rw [hxa,OL] at h1
     simp only [OJ,O4] at h1
     have ce:=yz h1.1
     subst ce
     have k1:=oq.nk h1.1 h1.2.2.1
     have:cy hs j=false:=by unfold cy;rw [he]
     simp only [this,emp k1];simp
    |false=>
     rw [hxa,O0] at h1
     have cc:=bJ hxa
     subst cc
     have hi:cy hs i=false:=by unfold cy;rw [hc]
     cases hya:y.all with
     |true=>
      rw [hya,OL,OJ,OJ] at h1
      have k1:=pg.nk hxa h1.2.1
      simp only [hi,emp k1];simp
     |false=>
      have ce:=yz hya
      subst ce
      have jH:cy hs j=false:=by unfold cy;rw [he]
      simp only [hi,jH];simp
   ·simp at h1
theorem uJ (h:Nat->Option Bk):∀(l:List Nat) (g:Nat->Option Bk) (id:Nat),aA g (l.map fun i=>(i,h i)) id=if id∈l then h id else g id
 |[],g,id=>by simp [aA]
 |a::r,g,id=>by
  rw [OX,aA,uJ h r]
  by_cases h1:id∈r<;>by_cases h2:id=a<;>simp [h1,h2]
theorem yA (g h:Nat->Option Bk) (K id:Nat):aA g ((List.range K).map fun i=>(i,h i)) id=if id<K then h id else g id:=by
 rw [uJ];simp only [Pj]
theorem CW {P:Program} {f:FuncId} {as_:List AV} {g1:Nat->Option Bk} {r:AV} (h:Fi P f as_ g k r g1 k1):Fi P f as_ g k r (aA g ((List.range (max k k1)).map fun i=>(i,g1 i))) (max k k1):=by
 intro E J base vs hG hm ba bJ
 refine (h E J base vs hG hm ba bJ).mono ?_
 rintro e w' ⟨v,E',he,hw,hle,hr,hM,hb,hk⟩
 refine ⟨v,E',he,hw,hle,hr, ?_,hb,fun id hid=>by have:=hk id hid;omega⟩
 have:aA g ((List.range (max k k1)).map fun i=>(i,g1 i))=g1:=by
  funext id
  rw [yA]
  by_cases hi:id<max k k1
  ·rw [OI hi]
  ·rw [OH hi]
   have e1:g id=none:=by
    cases hq:g id with
    |none=>rfl
    |some B=>exact absurd (ba id ((hm.live id).2 ⟨B,hq⟩).1) (by omega)
   have e2:g1 id=none:=by
    cases hq:g1 id with
    |none=>rfl
    |some B=>exact absurd (hk id ((hM.live id).2 ⟨B,hq⟩).1) (by omega)
   rw [e1,e2]
 rw [this];exact hM
def AO.uns:AO->List Nat
 | .pick c _ _=>c.slot
 |ao=>ao.qD
def SS.set (st:SS τ dn) (d:Option Nat) (v:SV τ dn):SS τ dn:=⟨st.rt,st.rm,ik st.t d v,st.m,st.nx⟩
variable [DecidableEq τ]
def fG (z:Bool):List (Nat×Option (SB τ dn))->List (Nat×Option (SB τ dn))
 |[]=>[]
 |e::r=>bif Bool.xor (Nat.beq e.1 0) z then fG z r else e::fG z r
theorem CX {z:Bool}:∀{m:List (Nat×Option (SB τ dn))} {nm:Nat},getS (fG z m) nm=if Bool.xor (Nat.beq nm 0) z=true then none else getS m nm
 |[],nm=>by simp [fG,getS]
 |e::r,nm=>by
  have ih:=CX (z:=z) (m:=r) (nm:=nm)
  unfold fG
  cases hb:Bool.xor (Nat.beq e.1 0) z with
  |true=>
   rw [OL,ih,show (e::r)=((e.1,e.2)::r) from rfl,bk]
   by_cases q:nm=e.1
   ·rw [q,OI hb,OI hb]
   ·rw [OH q]
  |false=>
   rw [O0,show (e::fG z r)=((e.1,e.2)::fG z r) from rfl,bk,ih,show (e::r)=((e.1,e.2)::r) from rfl,bk]
   by_cases q:nm=e.1
   ·rw [q,OI rfl,OI rfl,hb];simp
   ·rw [OH q,OH q]
theorem ot {α:Type}:∀{a b:List (Nat×α)} {i:Nat},getS (a++b) i=(match getS a i with|some v=>some v|none=>getS b i)
 |[],b,i=>by simp [getS]
 |e::r,b,i=>by
  have ih:=ot (a:=r) (b:=b) (i:=i)
  rw [P3,show (e::(r++b))=((e.1,e.2)::(r++b)) from rfl,bk,show (e::r)=((e.1,e.2)::r) from rfl,bk,ih]
  by_cases q:i=e.1
  ·rw [OI q,OI q]
  ·rw [OH q,OH q]
def SS.hid (st:SS τ dn):SS τ dn:=⟨st.rt,fG false st.m++st.rm,st.t,fG true st.m,st.nx⟩
def ou (l:List (Nat×Option (SB τ dn))):List (Nat×Option (SB τ dn))->List Nat
 |[]=>[]
 |e::r=>bif (match getS l e.1 with|some (some _)=>true|_=>false) then e.1::ou l r else ou l r
def SS.ov (st:SS τ dn):List Nat:=ou st.hid.rm st.hid.rm
def rU (rm:List (Nat×Option (SB τ dn))):List (Nat×Option (SB τ dn))->Bool
 |[]=>true
 |e::r=>(getS rm e.1).isNone&&rU rm r
def hidB (hd:Bool) (dep:Option (List (List Nat))) (st:SS τ dn) (vs:List (SV τ dn)):Bool:=dep.isSome&&((hd||SV.dS (fun _=>false) vs)&&rU st.rm (fG false st.m))
def K9 (C:b7 τ dn):Arg->Bool
 | .c (.fn f _)=>(C.Δ.any fun c=>Nat.beq c.f f)||C.Ω.any fun c=>Nat.beq c.f f
 |_=>false
def Lc (C:b7 τ dn) (dep:Option (List (List Nat))) (os:List az):Bool:=dep.isNone||(os.any fun o=>match o.ao with
 | .call x _=> !K9 C x
 | .app _ b _ _=>Nat.beq b 24
 |_=>false)||((os.any fun o=>match o.ao with
 | .call (.c (.fn f _)) _=>C.Ω.any fun c=>Nat.beq c.f f
 | .load (some _) _=>true
 | .msl _ b _ _ _=>Nat.beq b 24
 |_=>false)&&os.any fun o=>match o.ao with
 | .store _ _ _=>true
 |_=>false)
def SS.uK (st:SS τ dn):Bool:=match st.gm 0 with
 |some (.ar _ _)=>true
 |_=>false
def di (B:Bool) (st:SS τ dn) (keys acc:List Nat) (nb:Bool:=false):NR:=⟨keys,acc,B&&(st.uK&&keys.any (Nat.beq 0)),B&&(st.uK&&acc.any (Nat.beq 0)),[],nb⟩
def pE (o:az) (r:SR τ dn) (rs:List NR):Bool:=(match r with| .new _ _ _=>true|_=>false)&&(ic o&&(!(rs.any fun x=>x.nw)))
def SS.gi (st:SS τ dn) (i:Nat) (v:SV τ dn):SS τ dn:=⟨st.rt,st.rm,(i,v)::st.t,st.m,st.nx⟩
def yB (i:Option Nat) (st:SS τ dn) (K:SS τ dn->Prop):Prop:=match i with
 |none=>K st
 |some i=>match st.gt i with
  |some (.vb c)=>(c.tf true->K (st.gi i (.vt true)))/\(c.tf false->K (st.gi i (.vt false)))
  |_=>K st
theorem Rel.gi {D:TD τ dn} {N:aC} {st:SS τ dn} {s:S3} (R:Rel D N st s) {i:Nat} {c:Cn} (h:st.gt i=some (.vb c)) {b:Bool} (hb:c.den=b):Rel D N (st.gi i (.vt b)) s:=by
 refine ⟨fun N' hN=> ?_,R.inj,R.lt,R.ml,R.rl,R.sp⟩
 have A:=R.at_ N' hN
 refine ⟨fun j v hv=> ?_,A.rs,A.bl,A.rb,A.ar⟩
 simp only [SS.gi,bk] at hv
 split at hv
 ·rename_i e
  simp only [OG] at hv
  subst hv;subst e
  rw [A.gt h]
  simp only [SV.av,hb]
 ·exact A.sl j v hv
theorem Ld {D:TD τ dn} {i:Option Nat} {st:SS τ dn} {K:SS τ dn->Prop} (R:Rel D N st s) (h:yB i st K):∃aw,Rel D N aw s/\aw.rt=st.rt/\aw.rm=st.rm/\aw.nx=st.nx/\K aw:=by
 unfold yB at h
 split at h
 ·exact ⟨st,R,rfl,rfl,rfl,h⟩
 ·split at h
  ·rename_i j c hc
   cases hd:c.den with
   |true=>exact ⟨_,R.gi hc hd,rfl,rfl,rfl,h.1 ((Cn.jg c true).2 hd)⟩
   |false=>exact ⟨_,R.gi hc hd,rfl,rfl,rfl,h.2 ((Cn.jg c false).2 hd)⟩
  ·exact ⟨st,R,rfl,rfl,rfl,h⟩
def pF (C:b7 τ dn) (st:SS τ dn) (o:az):Option Nat:=match o.guard with
 |some (i,_)=>match st.gt i with
  |some (.vb _)=>match o.ao with
   | .call _ _=>match j0 C (st.unw o.ao.uns) o.ao with
    |some _=>none
    |none=>some i
   |_=>none
  |_=>none
 |none=>none
def pG (C:b7 τ dn) (st:SS τ dn) (o:az) (os:List az) (K:SS τ dn->Prop):Prop:=match pF C st o with
 |none=>K st
 |some i=>match o.guard with
  |some (_,w)=>match st.gt i with
   |some (.vb c)=>((c.pol w).tf true->fF (jj (st.gi i (.vt w)) (c.pol w) ((o::os).flatMap fun o=>o.ao.uns)) (K ((st.gi i (.vt w)).unw ((o::os).flatMap fun o=>o.ao.uns))))/\((c.pol w).tf false->K (st.gi i (.vt !w)))
   |_=>K st
  |none=>K st
theorem yC {C:b7 τ dn} {st:SS τ dn} (h:(∀e,st.gd o.guard≠ .lS e)\/∃r,j0 C (st.unw o.ao.uns) o.ao=some r):pF C st o=none:=by
 unfold pF
 split
 ·rename_i i w hg
  split
  ·rename_i c hc
   split
   ·rename_i x args cH
    split
    ·rfl
    ·rename_i hn
     rcases h with h|⟨r,h⟩
     ·exact absurd (by rw [hg];simp only [SS.gd,hc]) (h (c.pol w))
     ·rw [h] at hn;cases hn
   ·rfl
  ·rfl
 ·rfl
def wpOps (C:b7 τ dn) (n:Nat) (dep:Option (List (List Nat))) (B:Bool):List az->List NR->SS τ dn->(SS τ dn->Prop)->Prop
 |[],rs,st,K=>match dep with
  |none=>K st
  |some d=>bif idsN rs d then K st else False
 |o::os,rs,st,K=>kJ C.D (bif B then needs C.D st o.ao else []) st fun st=>pG C st o os fun st=>bif dstS n st.rt o.dst then (match st.gd o.guard with
  | .yes=>match j0 C st o.ao with
   |some (r,ns)=>fF r.O (wpOps C n dep B os (rs++[di B st (r.keys st) ns (pE o r rs&& !(di B st (r.keys st) ns).all)]) (r.st st o.dst) K)
   |none=>match o.ao with
    | .call x args=>match pA st x args with
     |some (f,vs)=>bif B then (bif hidB C.hd dep st vs then C.J f vs st.hid fun v st1=>wpOps C n dep B os (rs++[⟨[],[],true,false,st.ov,false⟩]) ⟨st.rt,st.rm,ik st.t o.dst v,st1.m++fG false st.m,st1.nx⟩ K else C.J f vs st fun v st1=>wpOps C n dep B os (rs++[⟨[],[],true,false,[],false⟩]) ⟨st.rt,st.rm,ik st.t o.dst v,st1.m,st1.nx⟩ K) else False
     |none=>False
    |_=>False
  | .no=>wpOps C n dep B os (rs++[⟨[],[],false,false,[],false⟩]) (st.set o.dst (.vo undef)) K
  | .lS e=>match j0 C (st.unw o.ao.uns) o.ao with
   |some (.val O v,ns)=>fF (jj st e o.ao.uns++O.map fun p=>e.tf true->p) (wpOps C n dep B os (rs++[di B st [] ns]) (st.set o.dst (.vg true e v)) K)
   |_=>False
  | .bad=>False) else False
structure eO (B:Bool) (Q:Nat->Prop) (N:aC) (st:SS τ dn) (s:S3):Prop where
 q0:B=true->∀id,¬Q id
 qa:∀nm X,(getS st.m nm=some (some X)\/getS st.rm nm=some (some X))->¬Q (N.ι nm)
 qb:B=false->∀id,gO st id->Q id
 qk:∀id,Q id->id<s.k
theorem eO.rV {st:SS τ dn} (h:∀id,¬Q id):eO true Q N st s:=⟨fun _=>h,fun _ _ _=>h _,fun hh=>by simp at hh,fun id hid=>absurd hid (h id)⟩
theorem CY {C:b7 τ dn} {B:Bool} {st:SS τ dn} {K:SS τ dn->Prop} (R:Rel C.D N st s) (M:eO B Q N st s) (h:pG C st o os K):∃aw,Rel C.D N aw s/\eO B Q N aw s/\aw.rt=st.rt/\aw.rm=st.rm/\aw.nx=st.nx/\K aw:=by
 unfold pG at h
 split at h
 ·exact ⟨st,R,M,rfl,rfl,rfl,h⟩
 ·rename_i i _
  split at h
  ·rename_i _ w _
   split at h
   ·rename_i c hc
    cases hd:(c.pol w).den with
    |true=>
     have hcd:c.den=w:=by cases w<;>simpa [Cn.pol,Cn.den] using hd
     have R1:=R.gi hc hcd
     have h1:=(jX.1 (h.1 ((Cn.jg _ true).2 hd)))
     exact ⟨(st.gi i (.vt w)).unw ((o::os).flatMap fun o=>o.ao.uns),⟨fun N' hN=>Cz (R1.at_ N' hN) hd h1.1,R1.inj,R1.lt,R1.ml,R1.rl,R1.sp⟩,⟨M.q0,M.qa,M.qb,M.qk⟩,rfl,rfl,rfl,h1.2⟩
    |false=>
     have hcd:c.den= !w:=by cases w<;>simpa [Cn.pol,Cn.den] using hd
     exact ⟨_,R.gi hc hcd,⟨M.q0,M.qa,M.qb,M.qk⟩,rfl,rfl,rfl,h.2 ((Cn.jg _ false).2 hd)⟩
   ·exact ⟨st,R,M,rfl,rfl,rfl,h⟩
  ·exact ⟨st,R,M,rfl,rfl,rfl,h⟩
theorem SR.Lf {D:TD τ dn} {st:SS τ dn} {r:SR τ dn} (hm:r.may D N st) {X:SB τ dn} (h:getS (r.st st d).m nm=some (some X)\/getS (r.st st d).rm nm=some (some X)):(nm=st.nx/\r.nx st=st.nx+1)\/∃X',getS st.m nm=some (some X')\/getS st.rm nm=some (some X'):=by
 have uL:(r.st st d).rm=st.rm:=by cases r<;>rfl
 rw [uL] at h
 rcases h with h|h
 case inr=>exact .inr ⟨X, .inr h⟩
 cases r with
 |val O v=>exact .inr ⟨X, .inl h⟩
 |new O v B=>
  simp only [SR.st,bk] at h
  by_cases hn:nm=st.nx
  ·exact .inl ⟨hn,rfl⟩
  ·rw [OH hn] at h;exact .inr ⟨X, .inl h⟩
 |put O v dP B=>
  simp only [SR.st,bk] at h
  by_cases hn:nm=dP
  ·subst hn;obtain ⟨⟨B0,cq,_⟩,_⟩:=hm;exact .inr ⟨B0, .inl cq⟩
  ·rw [OH hn] at h;exact .inr ⟨X, .inl h⟩
 |mov O v old B=>
  simp only [SR.st,bk] at h
  by_cases hn:nm=st.nx
  ·exact .inl ⟨hn,rfl⟩
  ·rw [OH hn] at h
   by_cases ho:nm=old
   ·rw [OI ho] at h;simp at h
   ·rw [OH ho] at h;exact .inr ⟨X, .inl h⟩
 |ga O v ns=>
  rcases rO h with ⟨_,h2⟩|⟨_,h2⟩
  ·simp at h2
  ·exact .inr ⟨X, .inl h2⟩
 |eF O v id t row A=>
  simp only [SR.st,bk] at h
  by_cases hn:nm=0
  ·subst hn;exact .inr ⟨_, .inl hm.1⟩
  ·rw [OH hn] at h;exact .inr ⟨X, .inl h⟩
theorem SR.Lg {D:TD τ dn} {st:SS τ dn} {r:SR τ dn} (hm:r.may D N st) {id:Nat} (h:gO (r.st st d) id):gO st id:=by
 obtain ⟨t,A,h,hid⟩:=h
 have bO:∀{x:SS τ dn} {dP:Nat} {B:Option (SB τ dn)} {t':List (Nat×SV τ dn)} {m:List (Nat×Option (SB τ dn))} {nx:Nat},(⟨st.rt,st.rm,t',(dP,B)::m,nx⟩:SS τ dn).gm 0=some (.ar t A)->(∀b,B=some b->b.iM=false)->(⟨st.rt,st.rm,st.t,m,st.nx⟩:SS τ dn).gm 0=some (.ar t A):=fun {x dP B t' m nx} h hB=>by
  rw [Cr (rt':=st.rt) (t':=st.t) (nx':=st.nx)] at h
  by_cases h0:0=dP
  ·rw [OI h0] at h;have:=hB _ h;simp [SB.iM] at this
  ·rw [OH h0] at h;exact h
 cases r with
 |val O v=>exact ⟨t,A,h,hid⟩
 |new O v B=>exact ⟨t,A,bO (x:=st) h (fun b hb=>by simp only [OG] at hb;subst hb;exact hm),hid⟩
 |put O v dP B=>exact ⟨t,A,bO (x:=st) h (fun b hb=>by simp only [OG] at hb;subst hb;exact hm.2.2),hid⟩
 |mov O v old B=>
  have h1:=bO (x:=st) h (fun b hb=>by simp only [OG] at hb;subst hb;exact hm.2.2)
  exact ⟨t,A,bO (x:=st) h1 (fun b hb=>by simp at hb),hid⟩
 |ga O v ns=>
  refine ⟨t,A, ?_,hid⟩
  have hh:∀(l:List Nat),(⟨st.rt,st.rm,st.t,(l.map fun a=>(a,(none:Option (SB τ dn))))++st.m,st.nx⟩:SS τ dn).gm 0=some (.ar t A)->st.gm 0=some (.ar t A):=by
   intro l
   induction l with
   |nil=>exact fun h=>h
   |cons a l ih=>
    intro h
    rw [OX,P3] at h
    exact ih (bO (x:=st) h (fun b hb=>by simp at hb))
  exact hh ns h
 |eF O v lR t0 row A0=>
  simp only [SR.st] at h
  rw [Cr (rt':=st.rt) (t':=st.t) (nx':=st.nx),OI rfl,OG] at h
  simp only [SB.ar.injEq] at h
  obtain ⟨rfl,h⟩:=h
  have h:=eq_of_heq h
  subst h
  refine ⟨t0,A0,mQ hm.1, ?_⟩
  rcases re.1 hid with hh|hh
  ·subst hh;exact hm.2.2
  ·exact hh
theorem pH {st:SS τ dn} (h:st.live nm=true):nm<st.nx/\∃X,getS st.m nm=some (some X)\/getS st.rm nm=some (some X):=by
 unfold SS.live at h
 rw [OJ] at h
 obtain ⟨B,hB⟩:=QA.1 h.2
 exact ⟨Pn h.1,B,gL hB⟩
theorem CZ {st:SS τ dn} {id:Nat} (h:gO st id):st.uK=true:=by
 obtain ⟨t,A,h,_⟩:=h
 unfold SS.uK;rw [h]
theorem C0 (h:0∈l):l.any (Nat.beq 0)=true:=Qr.2 ⟨0,h,rfl⟩
theorem C1 {B:Bool} {st:SS τ dn} {s:S3} (M:eO B Q N st s) {keys acc:List Nat} (ha:(di B st keys acc).ra=false) {id:Nat} (hn:nm∈acc) (hl:st.live nm=true) (h:id=N.ι nm\/(nm=0/\gO st id)):jm N Q nm id:=by
 rcases h with h|⟨rfl,h⟩
 ·obtain ⟨_,X,hX⟩:=pH hl
  exact .inl ⟨h,by rw [h];exact M.qa nm X hX⟩
 ·cases B with
  |false=>exact .inr ⟨rfl,M.qb rfl id h⟩
  |true=>
   simp only [di,CZ h,C0 hn,Bool.and_true] at ha
   simp at ha
theorem yD {l:List (Nat×Option (SB τ dn))}:∀{m:List (Nat×Option (SB τ dn))} {nm:Nat},nm∈ou l m->∃B,getS l nm=some (some B)
 |[],nm,h=>by simp [ou] at h
 |e::r,nm,h=>by
  have go:nm∈ou l r->∃B,getS l nm=some (some B):=yD
  unfold ou at h
  cases hb:(match getS l e.1 with|some (some _)=>true|_=>false) with
  |false=>rw [hb,O0] at h;exact go h
  |true=>
   rw [hb,OL] at h
   rcases OU.1 h with rfl|h
   ·split at hb
    ·rename_i B hB;exact ⟨B,hB⟩
    ·cases hb
   ·exact go h
theorem C2 {rm:List (Nat×Option (SB τ dn))}:∀{m:List (Nat×Option (SB τ dn))} {nm:Nat} {v:Option (SB τ dn)},rU rm m=true->getS m nm=some v->getS rm nm=none
 |[],nm,v,_,h=>by simp [getS] at h
 |e::r,nm,v,hd,h=>by
  unfold rU at hd
  rw [OJ] at hd
  rw [show (e::r)=((e.1,e.2)::r) from rfl,bk] at h
  by_cases q:nm=e.1
  ·rw [q];exact Option.isNone_iff_eq_none.1 hd.1
  ·rw [OH q] at h;exact C2 hd.2 h
theorem pI {z:Bool} {m:List (Nat×Option (SB τ dn))} {v:Option (SB τ dn)} (h:getS (fG z m) nm=some v):getS m nm=some v/\Bool.xor (Nat.beq nm 0) z=false:=by
 rw [CX] at h
 split at h
 ·cases h
 ·rename_i q;exact ⟨h,by simpa using q⟩
theorem Lh {C:b7 τ dn} (hC:C.Ok) {dep:Option (List (List Nat))} {xs:List NR} {st:SS τ dn} {K:SS τ dn->Prop} (R:Rel C.D N st s) (M:eO true Q N st s)
  (g1:st.gd o.guard= .yes->bR s.σ o.guard=some true) (cw:st.gd o.guard= .yes) {x:Arg} (cH:o.ao= .call x args) (hd:dstS n st.rt o.dst=true) {f:FuncId} {vs:List (SV τ dn)} (eD:pA st x args=some (f,vs)) (gy:∀N',N.agree st.nx N'->vs.map (SV.av C.D.toTE N')=vs.map (SV.av C.D.toTE N)) (hh:hidB C.hd dep st vs=true)
  (h:C.J f vs st.hid fun v st1=>wpOps C n dep true os (xs++[⟨[],[],true,false,st.ov,false⟩]) ⟨st.rt,st.rm,ik st.t o.dst v,st1.m++fG false st.m,st1.nx⟩ K):
  (∃val ups acc x cV N',dt C.P s.σ s.g s.k o val ups acc/\wpOps C n dep true os (xs++[x]) cV K/\N.agree st.nx N'/\st.nx<=cV.nx/\jo N' Q cV.nx ⟨o.dst,val,ups,acc,s.k⟩ x/\(x.nw=true->ic o=true/\(xs.any fun x=>x.nw)=false)/\(cV.rt=st.rt/\cV.rm=st.rm)/\∃k1,s.k<=k1/\(∀id,id∈ups.map Prod.fst->id<k1)/\Rel C.D N' cV ⟨bG n o.dst val s.σ,aA s.g ups,k1⟩/\eO true Q N' cV ⟨bG n o.dst val s.σ,aA s.g ups,k1⟩)\/
  ∃f as_ r ups k1 cV N',bR s.σ o.guard=some true/\o.ao.allocs=false/\(o.ao.au s.k (aG s.σ)).run s.g=some (.call f as_)/\bL C.P f=true/\Fi C.P f as_ s.g s.k r (aA s.g ups) k1/\(s.k<=k1/\∀id,id∈ups.map Prod.fst->id<k1)/\(∃ex,(∀nm,nm∈ex->nm<cV.nx/\∀id,id∈ups.map Prod.fst->¬jm N' Q nm id)/\wpOps C n dep true os (xs++[⟨[],[],true,false,ex,false⟩]) cV K)/\N.agree st.nx N'/\st.nx<=cV.nx/\(cV.rt=st.rt/\cV.rm=st.rm)/\Rel C.D N' cV ⟨bG n o.dst r s.σ,aA s.g ups,k1⟩/\eO true Q N' cV ⟨bG n o.dst r s.σ,aA s.g ups,k1⟩:=by
 have qf:rU st.rm (fG false st.m)=true:=by
  unfold hidB at hh
  rw [OJ,OJ] at hh
  exact hh.2.2
 have cQ:∀nm B,st.hid.bB nm B->st.bB nm B:=fun nm B hB=>by
  rcases hB with hB|hB
  ·exact .inl (pI hB).1
  ·simp only [SS.hid,ot] at hB
   split at hB
   ·rename_i v hv
    rw [hB] at hv
    exact .inl (pI hv).1
   ·exact .inr hB
 have gW:∀nm v,getS st.hid.rm nm=some v->getS st.m nm=some v\/getS st.rm nm=some v:=fun nm v hv=>by
  simp only [SS.hid,ot] at hv
  split at hv
  ·rename_i w hw
   rw [hv] at hw
   exact .inl (pI hw).1
  ·exact .inr hv
 have Rh:Rel C.D N st.hid s:=by
  refine ⟨fun N' hN=> ?_,R.inj,R.lt,fun nm B hB=>R.ml nm B (pI hB).1,fun nm B hB=> ?_,fun t A h id hid=> ?_⟩
  ·have A:=R.at_ N' hN
   refine ⟨A.sl,A.rs,fun nm B hB=>A.bl nm B (pI hB).1,fun nm B hB=> ?_,fun t X hX id hid=>A.ar t X (cQ 0 _ hX) id hid⟩
   rcases gW nm _ hB with q|q
   ·exact A.bl nm B q
   ·exact A.rb nm B q
  ·rcases gW nm _ hB with q|q
   ·exact R.ml nm B q
   ·exact R.rl nm B q
  ·obtain ⟨q1,q2⟩:=R.sp t A (cQ 0 _ h) id hid
   exact ⟨q1,fun nm B hB=>q2 nm B (cQ nm B hB)⟩
 have kj:=pB R.here eD s.k
 obtain ⟨h1,l4,k1,N',v,st1,h2,h3,h4,h5,h6,h7⟩:=hC.inl Rh gy h
 have yE:∀id,id<k1->aA s.g ((List.range (max s.k k1)).map fun i=>(i,l4 i)) id=l4 id:=fun id hid=>by rw [yA,OI (by omega)]
 have hu:aA s.g (((List.range (max s.k k1)).filter fun i=> !(st.ov.map N'.ι).contains i).map fun i=>(i,l4 i))=aA s.g ((List.range (max s.k k1)).map fun i=>(i,l4 i)):=by
  funext id
  rw [uJ,uJ]
  simp only [List.mem_filter]
  by_cases q1:id∈List.range (max s.k k1)
  ·by_cases q2:(st.ov.map N'.ι).contains id=true
   ·rw [OH (by rw [q2];simp),OI q1]
    obtain ⟨nm,hn,rfl⟩:=Pc.1 (PX.1 q2)
    obtain ⟨B,hB⟩:=yD hn
    exact ((Rh.at_ N' h4).rb nm B hB).1.trans (h6.here.rb nm B hB).1.symm
   ·rw [OI ⟨q1,by simpa using q2⟩,OI q1]
  ·rw [OH (fun q=>q1 q.1),OH q1]
 have rW:∀nm B,(getS (st1.m++fG false st.m) nm=some (some B)\/getS st.rm nm=some (some B))->(getS st1.m nm=some (some B)\/getS st.hid.rm nm=some (some B)):=fun nm B hB=>by
  rcases hB with hB|hB
  ·rw [ot] at hB
   split at hB
   ·rename_i w hw
    rw [hB] at hw;exact .inl hw
   ·exact .inr (by simp only [SS.hid,ot,hB])
  ·right
   simp only [SS.hid,ot]
   split
   ·rename_i w hw
    rw [C2 qf hw] at hB;cases hB
   ·exact hB
 refine .inr ⟨f,_,_,_,max s.k k1,_,N',g1 cw,by rw [cH];rfl,by rw [cH];exact kj,h1,by rw [hu];exact CW h2,⟨Nat.le_max_left _ _,fun id hid=> ?_⟩,⟨st.ov,fun nm hn=> ?_,h7⟩,h4,h5,⟨rfl,rfl⟩, ?_,eO.rV (M.q0 rfl)⟩
 ·rw [Qk] at hid
  obtain ⟨i,hi,rfl⟩:=Pc.1 hid
  exact Pj.1 (List.mem_filter.1 hi).1
 ·obtain ⟨B,hB⟩:=yD hn
  refine ⟨h6.rl nm _ hB,fun id hid hq=> ?_⟩
  rcases hq with ⟨hq,_⟩|⟨_,hq⟩
  ·rw [Qk] at hid
   obtain ⟨i,hi,rfl⟩:=Pc.1 hid
   have lg:=(List.mem_filter.1 hi).2
   simp only [Function.comp_apply] at hq
   subst hq
   have hq:(st.ov.map N'.ι).contains (N'.ι nm)=true:=PX.2 (List.mem_map_of_mem hn)
   rw [hq] at lg
   simp at lg
  ·exact M.q0 rfl id hq
 ·rw [hu]
  refine ⟨fun bW hN=> ?_,h6.inj,fun a ha=>O8 (h6.lt a ha) (Nat.le_max_right _ _),fun nm B hB=> ?_,fun nm B hB=> ?_,fun t A hg id hid=> ?_⟩
  ·have A:=h6.at_ bW hN
   have A0:=R.at_ bW (aC.eN h4 hN h5)
   obtain ⟨q1,q2⟩:=mP (D:=C.D) (n:=n) (v:=v) (a:=v.av C.D.toTE N') hd A0.sl A0.rs (h3 bW hN).symm
   have hlt:∀nm,nm<st1.nx->bW.ι nm<k1:=fun nm hn=>by rw [(hN.1 nm hn).1];exact h6.lt nm hn
   have hb:∀nm B,(getS (st1.m++fG false st.m) nm=some (some B)\/getS st.rm nm=some (some B))->aA s.g ((List.range (max s.k k1)).map fun i=>(i,l4 i)) (bW.ι nm)=some (B.av C.D.toTE bW)/\bW.ln nm=B.len:=fun nm B hB=>by
    rcases rW nm B hB with hB|hB
    ·exact ⟨(yE _ (hlt nm (h6.ml nm _ hB))).trans (A.bl nm B hB).1,(A.bl nm B hB).2⟩
    ·exact ⟨(yE _ (hlt nm (h6.rl nm _ hB))).trans (A.rb nm B hB).1,(A.rb nm B hB).2⟩
   exact ⟨q1,q2,fun nm B hB=>hb nm B (.inl hB),fun nm B hB=>hb nm B (.inr hB),fun t A' hg id hid=>(yE _ (h6.sp t A' (rW 0 _ hg) id hid).1).trans (A.ar t A' (rW 0 _ hg) id hid)⟩
  ·simp only [ot] at hB
   split at hB
   ·rename_i w hw;exact h6.ml nm w hw
   ·exact O8 (R.ml nm B (pI hB).1) h5
  ·exact O8 (R.rl nm B hB) h5
  ·obtain ⟨q1,q2⟩:=h6.sp t A (rW 0 _ hg) id hid
   exact ⟨O8 q1 (Nat.le_max_right _ _),fun nm B hB=>q2 nm B (rW nm B hB)⟩
theorem C3 {C:b7 τ dn} (hC:C.Ok) {dep:Option (List (List Nat))} {B:Bool} {xs:List NR} {eP:SS τ dn} {K:SS τ dn->Prop} (R0:Rel C.D N eP s) (M0:eO B Q N eP s) (h9:wpOps C n dep B (o::os) xs eP K):
  (∃val ups acc x cV N',dt C.P s.σ s.g s.k o val ups acc/\wpOps C n dep B os (xs++[x]) cV K/\N.agree eP.nx N'/\eP.nx<=cV.nx/\jo N' Q cV.nx ⟨o.dst,val,ups,acc,s.k⟩ x/\(x.nw=true->ic o=true/\(xs.any fun x=>x.nw)=false)/\(cV.rt=eP.rt/\cV.rm=eP.rm)/\∃k1,s.k<=k1/\(∀id,id∈ups.map Prod.fst->id<k1)/\Rel C.D N' cV ⟨bG n o.dst val s.σ,aA s.g ups,k1⟩/\eO B Q N' cV ⟨bG n o.dst val s.σ,aA s.g ups,k1⟩)\/
  ∃f as_ r ups k1 cV N',bR s.σ o.guard=some true/\o.ao.allocs=false/\(o.ao.au s.k (aG s.σ)).run s.g=some (.call f as_)/\bL C.P f=true/\Fi C.P f as_ s.g s.k r (aA s.g ups) k1/\(s.k<=k1/\∀id,id∈ups.map Prod.fst->id<k1)/\(∃ex,(∀nm,nm∈ex->nm<cV.nx/\∀id,id∈ups.map Prod.fst->¬jm N' Q nm id)/\wpOps C n dep B os (xs++[⟨[],[],true,false,ex,false⟩]) cV K)/\N.agree eP.nx N'/\eP.nx<=cV.nx/\(cV.rt=eP.rt/\cV.rm=eP.rm)/\Rel C.D N' cV ⟨bG n o.dst r s.σ,aA s.g ups,k1⟩/\eO B Q N' cV ⟨bG n o.dst r s.σ,aA s.g ups,k1⟩:=by
 have h:=h9
 simp only [wpOps] at h
 have h0:∃aY,Rel C.D N aY s/\eO B Q N aY s/\aY.rt=eP.rt/\aY.rm=eP.rm/\aY.nx=eP.nx/\(bif dstS n aY.rt o.dst then (match aY.gd o.guard with
  | .yes=>match j0 C aY o.ao with
   |some (r,ns)=>fF r.O (wpOps C n dep B os (xs++[di B aY (r.keys aY) ns (pE o r xs&& !(di B aY (r.keys aY) ns).all)]) (r.st aY o.dst) K)
   |none=>match o.ao with
    | .call x args=>match pA aY x args with
     |some (f,vs)=>bif B then (bif hidB C.hd dep aY vs then C.J f vs aY.hid fun v st1=>wpOps C n dep B os (xs++[⟨[],[],true,false,aY.ov,false⟩]) ⟨aY.rt,aY.rm,ik aY.t o.dst v,st1.m++fG false aY.m,st1.nx⟩ K else C.J f vs aY fun v st1=>wpOps C n dep B os (xs++[⟨[],[],true,false,[],false⟩]) ⟨aY.rt,aY.rm,ik aY.t o.dst v,st1.m,st1.nx⟩ K) else False
     |none=>False
    |_=>False
  | .no=>wpOps C n dep B os (xs++[⟨[],[],false,false,[],false⟩]) (aY.set o.dst (.vo undef)) K
  | .lS e=>match j0 C (aY.unw o.ao.uns) o.ao with
   |some (.val O v,ns)=>fF (jj aY e o.ao.uns++O.map fun p=>e.tf true->p) (wpOps C n dep B os (xs++[di B aY [] ns]) (aY.set o.dst (.vg true e v)) K)
   |_=>False
  | .bad=>False) else False):=by
  cases B with
  |false=>
   simp only [O0,kJ] at h
   exact CY R0 M0 h
  |true=>
   obtain ⟨aY,q1,q2,q3,q4,q5⟩:=uD hC.ok R0 h
   obtain ⟨mU,p1,p2,p3,p4,p5,p6⟩:=CY q1 (eO.rV (M0.q0 rfl)) q5
   exact ⟨mU,p1,p2,p3.trans q2,p4.trans q3,p5.trans q4,p6⟩
 clear h
 obtain ⟨st,R,M,z1,z2,z3,h⟩:=h0
 rw [<-z1, <-z2, <-z3]
 clear z1 z2 z3
 clear R0 M0 h9 eP
 cases hd:dstS n st.rt o.dst with
 |false=>rw [hd] at h;exact h.elim
 |true=>
  rw [hd,OL] at h
  obtain ⟨g1,g2,g3⟩:=KE R.here (x:=o.guard)
  split at h
  ·rename_i cw
   split at h
   ·rename_i r ns hr
    rw [jX] at h
    obtain ⟨hO,h⟩:=h
    obtain ⟨val,ups,acc,e1,e2,e3,e4,e5⟩:=CT hC R.at_ (g1 cw) hr hO
    have fb:=R.go hd e4 (val:=val) (ups:=ups) (fun N' hN=>(e2 N' (by rw [SR.uG] at hN;exact hN)).1) (fun N' hN=>(e2 N' (by rw [SR.uG] at hN;exact hN)).2)
    have dN:N.agree st.nx (r.up N st s.k):=by
     cases r<;>first|exact N.dT _|exact N.lQ _ _ _
    have qq:st.nx<=(r.st st o.dst).nx:=by rw [SR.uG];cases r<;>simp [SR.nx]
    have hu:=(e2 _ (aC.dT (r.nx st) (r.up N st s.k))).2
    have jL:s.k<=r.k1 s.k:=by cases r<;>simp [SR.k1]
    have C4:∀nm X,nm<st.nx->(getS st.m nm=some (some X)\/getS st.rm nm=some (some X))->¬Q ((r.up N st s.k).ι nm):=fun nm X hn hX=>by rw [(dN.1 nm hn).1];exact M.qa nm X hX
    have Li:r.nx st=st.nx+1->¬Q ((r.up N st s.k).ι st.nx):=fun hx hq=>by
     have:=M.qk _ hq
     cases r with
     |new O v B'=>simp only [SR.up,aC.dc,OK] at this;omega
     |mov O v old B'=>simp only [SR.up,aC.dc,OK] at this;omega
     |_=>simp [SR.nx] at hx
    have Lj:eO B Q (r.up N st s.k) (r.st st o.dst) ⟨bG n o.dst val s.σ,aA s.g ups,r.k1 s.k⟩:=by
     refine ⟨M.q0,fun nm X hX=> ?_,fun hB id hid=>M.qb hB id (SR.Lg e4 hid),fun id hid=>O8 (M.qk id hid) jL⟩
     rcases SR.Lf e4 hX with ⟨h1,h2⟩|⟨X',h1⟩
     ·rw [h1];exact Li h2
     ·refine C4 nm X' ?_ h1
      rcases h1 with h1|h1
      ·exact R.ml nm _ h1
      ·exact R.rl nm _ h1
    refine .inl ⟨val,ups,acc,_,_,_,e1,h,dN,qq,⟨fun ha id hid=> ?_,fun _ ha id hid=> ?_,fun nm hn=> ?_,fun nm hn=>O8 (pH (e5 nm hn)).1 qq,fun nm hn=>by simp [di] at hn,fun hn=> ?_,fun ha hk=> ?_⟩,fun hn=> ?_,⟨by cases r<;>rfl,by cases r<;>rfl⟩,r.k1 s.k,jL,fun id hid=> ?_,fb,Lj⟩
    ·have hid:id∈ups.map Prod.fst:=hid
     rw [hu] at hid
     cases r with
     |val O v=>simp [SR.ups] at hid
     |new O v B'=>
      simp only [SR.ups,OX,Pw,OP] at hid
      subst hid
      refine ⟨st.nx,by simp [di,SR.keys], .inl ⟨by simp [SR.up,aC.dc],fun hq=> ?_⟩⟩
      have:=M.qk _ hq;omega
     |put O v nm B'=>
      simp only [SR.ups,SR.up,OX,Pw,OP] at hid
      obtain ⟨⟨B0,cq,_⟩,_⟩:=e4
      exact ⟨nm,by simp [di,SR.keys], .inl ⟨hid,by rw [hid];exact M.qa nm _ (.inl cq)⟩⟩
     |ga O v ns'=>
      simp only [SR.ups,SR.up,Qk,Pc,Function.comp_apply] at hid
      obtain ⟨a,C5,rfl⟩:=hid
      obtain ⟨⟨B0,cq⟩,_⟩:=e4 a C5
      exact ⟨a,C5, .inl ⟨rfl,M.qa a _ (.inl cq)⟩⟩
     |mov O v old B'=>
      obtain ⟨⟨B0,cq⟩,_⟩:=e4
      have gD:=R.ml old _ cq
      simp only [SR.ups,OX,Pw,OU,PM,or_false] at hid
      rcases hid with hid|hid
      ·exact ⟨old,by simp [di,SR.keys], .inl ⟨hid,by rw [hid];exact C4 old _ gD (.inl cq)⟩⟩
      ·subst hid
       refine ⟨st.nx,by simp [di,SR.keys], .inl ⟨by simp [SR.up,aC.dc],fun hq=> ?_⟩⟩
       have:=M.qk _ hq;omega
     |eF O v lR t row A=>
      simp only [SR.ups,OX,Pw,OP] at hid
      subst hid
      have hrow:gO st id:=⟨t,A,mQ e4.1,e4.2.2⟩
      cases B with
      |false=>exact ⟨0,by simp [di,SR.keys], .inr ⟨rfl,M.qb rfl id hrow⟩⟩
      |true=>
       simp only [di,SR.keys,CZ hrow,C0 (OP.2 rfl),Bool.and_true] at ha
       simp at ha
    ·obtain ⟨nm,q1,q2⟩:=e3 id hid
     exact ⟨nm,q1,(C1 (keys:=r.keys st) M ha q1 (e5 nm q1) q2).step dN (pH (e5 nm q1)).1⟩
    ·rw [SR.uG]
     have hn:nm∈r.keys st:=hn
     cases r with
     |val O v=>simp [SR.keys] at hn
     |new O v B'=>simp only [SR.keys,OP] at hn;simp only [SR.nx];omega
     |put O v nm' B'=>
      simp only [SR.keys,OP] at hn
      subst hn;obtain ⟨⟨B0,cq,_⟩,_⟩:=e4;exact R.ml _ _ cq
     |ga O v ns'=>obtain ⟨⟨B0,cq⟩,_⟩:=e4 nm hn;exact R.ml _ _ cq
     |mov O v old B'=>
      obtain ⟨⟨B0,cq⟩,_⟩:=e4
      have:=R.ml _ _ cq
      simp only [SR.keys,OU,PM,or_false] at hn
      simp only [SR.nx]
      rcases hn with rfl|rfl<;>omega
     |eF O v lR t row A=>
      simp only [SR.keys,OP] at hn
      subst hn;exact R.ml _ _ e4.1
    ·have hn:(pE o r xs&& !(di B st (r.keys st) ns).all)=true:=hn
     rw [OJ] at hn
     have p9:=hn.2
     rw [O4] at p9
     refine ⟨p9,fun id hid=> ?_⟩
     have hid:id∈ups.map Prod.fst:=hid
     rw [hu] at hid
     cases r with
     |new O v B'=>
      simp only [SR.ups,OX,Pw,OP] at hid
      subst hid;exact OQ _
     |_=>simp [pE] at hn
    ·have hk:(r.keys st).isEmpty=true:=hk
     rw [PC] at hk
     simp [di,hk] at ha
    ·have hn:(pE o r xs&& !(di B st (r.keys st) ns).all)=true:=hn
     rw [OJ] at hn
     have h1:=hn.1
     unfold pE at h1
     rw [OJ,OJ,O4] at h1
     exact h1.2
    ·rw [hu] at hid
     cases r with
     |val O v=>simp [SR.ups] at hid
     |new O v B'=>simp only [SR.ups,OX,Pw,OP] at hid;simp only [SR.k1];omega
     |put O v nm' B'=>
      simp only [SR.ups,SR.up,OX,Pw,OP] at hid
      subst hid;obtain ⟨⟨B0,cq,_⟩,_⟩:=e4;exact R.lt _ (R.ml _ _ cq)
     |ga O v ns'=>
      simp only [SR.ups,Qk,Pc,Function.comp_apply] at hid
      obtain ⟨a,ha,rfl⟩:=hid
      obtain ⟨⟨B0,cq⟩,_⟩:=e4 a ha;exact R.lt _ (R.ml _ _ cq)
     |mov O v old B'=>
      obtain ⟨⟨B0,cq⟩,_⟩:=e4
      have h0:=R.ml _ _ cq
      have:=R.lt _ h0
      simp only [SR.ups,SR.up,OX,Pw,OU,PM,or_false] at hid
      simp only [SR.k1]
      rcases hid with rfl|rfl
      ·rw [((N.lQ st.nx s.k B'.len).1 old h0).1];omega
      ·omega
     |eF O v lR t row A=>
      simp only [SR.ups,OX,Pw,OP] at hid
      subst hid
      exact (R.sp t A (.inl e4.1) id e4.2.2).1
   ·split at h
    ·rename_i x args cH
     split at h
     ·rename_i f vs eD
      cases B with
      |false=>exact h.elim
      |true=>
      rw [OL] at h
      have kj:=pB R.here eD s.k
      have gy:∀N',N.agree st.nx N'->vs.map (SV.av C.D.toTE N')=vs.map (SV.av C.D.toTE N):=fun N' hN=>by
       have nU:=pB (R.at_ N' hN) eD s.k
       rw [kj] at nU
       simp only [OG,Out.call.injEq,true_and] at nU
       exact nU.symm
      cases hh:hidB C.hd dep st vs with
      |true=>
       rw [hh,OL] at h
       exact Lh hC R M g1 cw cH hd eD gy hh h
      |false=>
      rw [hh,O0] at h
      obtain ⟨h1,l4,k1,N',v,st1,h2,h3,h4,h5,h6,h7⟩:=hC.inl R gy h
      have yF:∀id,id<k1->aA s.g ((List.range (max s.k k1)).map fun i=>(i,l4 i)) id=l4 id:=fun id hid=>by rw [yA,OI (by omega)]
      refine .inr ⟨f,_,_,(List.range (max s.k k1)).map fun i=>(i,l4 i),max s.k k1,_,N',g1 cw,by rw [cH];rfl,by rw [cH];exact kj,h1,CW h2,⟨Nat.le_max_left _ _,fun id hid=>by simpa using hid⟩,⟨[],fun nm hn=>by simp at hn,h7⟩,h4,h5,⟨rfl,rfl⟩, ?_,eO.rV (M.q0 rfl)⟩
      refine ⟨fun bW hN=> ?_,h6.inj,fun a ha=>O8 (h6.lt a ha) (Nat.le_max_right _ _),h6.ml,h6.rl,fun t A hg id hid=>⟨O8 (h6.sp t A hg id hid).1 (Nat.le_max_right _ _),(h6.sp t A hg id hid).2⟩⟩
      have A:=h6.at_ bW hN
      have A0:=R.at_ bW (aC.eN h4 hN h5)
      obtain ⟨q1,q2⟩:=mP (D:=C.D) (n:=n) (v:=v) (a:=v.av C.D.toTE N') hd A0.sl A0.rs (h3 bW hN).symm
      have hlt:∀nm,nm<st1.nx->bW.ι nm<k1:=fun nm hn=>by rw [(hN.1 nm hn).1];exact h6.lt nm hn
      exact ⟨q1,q2,fun nm B hB=>⟨(yF _ (hlt nm (h6.ml nm _ hB))).trans (A.bl nm B hB).1,(A.bl nm B hB).2⟩,fun nm B hB=>⟨(yF _ (hlt nm (h6.rl nm _ hB))).trans (A.rb nm B hB).1,(A.rb nm B hB).2⟩,fun t A' hg id hid=>(yF _ (h6.sp t A' hg id hid).1).trans (A.ar t A' hg id hid)⟩
     ·exact h.elim
    ·exact h.elim
  ·rename_i cw
   left
   have fb:=R.go (r:= .val [] (.vo undef)) hd trivial (val:= .v undef) (ups:=[]) (fun _ _=>rfl) (fun _ _=>rfl)
   exact ⟨.v undef,[],[],_,_,N, .skip (g2 cw),h,N.dT _,OQ _,⟨fun _ id hid=>by simp [Rec.keys] at hid,fun _ _ id hid=>by simp at hid,fun nm hn=>by simp at hn,fun nm hn=>by simp at hn,fun nm hn=>by simp at hn,fun hn=>by simp at hn,fun hn=>by simp at hn⟩,fun hn=>by simp at hn,⟨rfl,rfl⟩,s.k,OQ _,fun id hid=>by simp at hid,fb,M.q0,M.qa,M.qb,M.qk⟩
  ·rename_i e cw
   left
   split at h
   ·rename_i O v ns hr
    rw [jX] at h
    obtain ⟨hO,h⟩:=h
    have yG:∀p,p∈jj st e o.ao.uns->p:=fun p hp=>hO p (Pr _ hp)
    have hg:=g3 e cw
    cases hden:e.den with
    |false=>
     rw [hden] at hg
     have hv:∀N':aC,(.v undef:AV)=((SV.vg true e v:SV τ dn)).av C.D.toTE N':=fun N'=>by simp [SV.av,hden]
     have fb:=R.go (r:= .val [] (.vg true e v)) hd trivial (val:= .v undef) (ups:=[]) (fun N' _=>hv N') (fun _ _=>rfl)
     have Lk:∀nm,nm∈ns->nm<st.nx:=by
      have c8:=hr
      unfold j0 at c8
      split at c8
      ·split at c8
       ·rename_i r' ns' _
        cases hb:(ns'.all (st.unw o.ao.uns).live) with
        |false=>rw [hb] at c8;simp at c8
        |true=>
         rw [hb,OL,OG,OT] at c8
         intro nm hn
         rw [<-c8.2] at hn
         exact (pH (ON.1 hb nm hn)).1
       ·simp at c8
      ·split at c8
       ·cases hb:((o.ao.nrs (st.unw o.ao.uns)).all (st.unw o.ao.uns).live&&o.ao.lk.all (st.unw o.ao.uns).ngd) with
        |false=>rw [hb] at c8;simp at c8
        |true=>
         rw [hb,OL,OG,OT] at c8
         rw [OJ] at hb
         intro nm hn
         rw [<-c8.2] at hn
         exact (pH (ON.1 hb.1 nm hn)).1
       ·simp at c8
     exact ⟨.v undef,[],[],_,_,N, .skip hg,h,N.dT _,OQ _,⟨fun _ id hid=>by simp [Rec.keys] at hid,fun _ _ id hid=>by simp at hid,fun nm hn=>by simp [di] at hn,Lk,fun nm hn=>by simp [di] at hn,fun hn=>by simp [di] at hn,fun hn=>by simp [di] at hn⟩,fun hn=>by simp [di] at hn,⟨rfl,rfl⟩,s.k,OQ _,fun id hid=>by simp at hid,fb,M.q0,M.qa,M.qb,M.qk⟩
    |true=>
     rw [hden] at hg
     have et:=(Cn.jg e true).2 hden
     have Ll:∀p,p∈(SR.val O v:SR τ dn).O->p:=fun p hp=>hO _ (Po _ (Pc.2 ⟨p,hp,rfl⟩)) et
     obtain ⟨val,ups,acc,e1,e2,e3,e4,e5⟩:=CT (st:=st.unw o.ao.uns) hC (fun N' hN=>Cz (R.at_ N' hN) hden yG) hg hr Ll
     have hv:∀N',N.agree st.nx N'->val=((SV.vg true e v:SV τ dn)).av C.D.toTE N':=fun N' hN=>by
      rw [(e2 N' hN).1];simp only [SV.av,hden,OK];rfl
     have hu:ups=[]:=(e2 N (N.dT _)).2
     have fb:=R.go (r:= .val [] (.vg true e v)) hd trivial (val:=val) (ups:=ups) (fun N' hN=>hv N' hN) (fun _ _=>hu)
     refine ⟨val,ups,acc,_,_,N,e1,h,N.dT _,OQ _,⟨fun _ id hid=> ?_,fun _ ha id hid=> ?_,fun nm hn=>by simp [di] at hn,fun nm hn=>(pH (e5 nm hn)).1,fun nm hn=>by simp [di] at hn,fun hn=>by simp [di] at hn,fun hn=>by simp [di] at hn⟩,fun hn=>by simp [di] at hn,⟨rfl,rfl⟩,s.k,OQ _,fun id hid=> ?_,fb,M.q0,M.qa,M.qb,M.qk⟩
     ·have hid:id∈ups.map Prod.fst:=hid
      rw [hu] at hid;simp at hid
     ·obtain ⟨nm,q1,q2⟩:=e3 id hid
      exact ⟨nm,q1,C1 M ha q1 (e5 nm q1) q2⟩
     ·rw [hu] at hid;simp at hid
   ·exact h.elim
  ·exact h.elim
theorem uM {C:b7 τ dn} (hC:C.Ok) {n k0:Nat}:∀{os:List az} {xs:List NR} {st:SS τ dn} {K:SS τ dn->Prop} {N:aC} {s:S3},Rel C.D N st s->wpOps C n none true os xs st K->
  ∃s' N' aw,gB C.P n k0 os s.σ s.g s.k s'.σ s'.g s'.k/\Rel C.D N' aw s'/\(aw.rt=st.rt/\aw.rm=st.rm)/\N.agree st.nx N'/\st.nx<=aw.nx/\K aw
 |[],xs,st,K,N,s,R,h=>⟨s,N,st, .nil,R,⟨rfl,rfl⟩,N.dT _,OQ _,h⟩
 |o::os,xs,st,K,N,s,R,h=>by
  rcases C3 hC R (eO.rV (Q:=fun _=>False) fun _ h=>h) h with ⟨val,ups,acc,x,aw,N',h1,h2,h3,h4,_,_,h5,k1,h6,h7,h8,_⟩|⟨f,as_,r,ups,k1,aw,N',h1,_,h2,h3,h4,_,⟨ex,_,h5⟩,h6,h7,h8,h9,_⟩
  ·obtain ⟨s',N2,aY,q1,q2,q3,q4,q5,q6⟩:=uM hC (k0:=k0) h8 h2
   exact ⟨s',N2,aY, .cons h1 h6 h7 q1,q2,⟨q3.1.trans h5.1,q3.2.trans h5.2⟩,aC.eN h3 q4 h4,Pe h4 q5,q6⟩
  ·obtain ⟨s',N2,aY,q1,q2,q3,q4,q5,q6⟩:=uM hC (k0:=k0) h9 h5
   exact ⟨s',N2,aY, .inl h1 h2 h3 h4 q1,q2,⟨q3.1.trans h8.1,q3.2.trans h8.2⟩,aC.eN h6 q4 h7,Pe h7 q5,q6⟩
theorem kK {α:Type} {l:List α} {x y:α} (h:(l++[x])[i]? =some y):l[i]? =some y\/(i=l.length/\y=x):=by
 rcases Ps i l.length with q|q
 ·rw [PB q] at h;exact .inl h
 ·rw [PN q] at h
  right
  cases hd:i - l.length with
  |zero=>rw [hd] at h;simp at h;exact ⟨by omega,h.symm⟩
  |succ m=>rw [hd] at h;simp at h
structure rX (pre:List az) (rs:List Rec) (xs:List NR) (k:Nat):Prop where
 pl:pre.length=xs.length
 rl:rs.length=xs.length
 kb:∀(i:Nat) r,rs[i]? =some r->∀id,id∈r.keys->id<k
 lt:∀(i j:Nat) ri rj,i<j->rs[i]? =some ri->rs[j]? =some rj->∀id,id∈ri.keys->id<rj.fr
 nw:∀(i:Nat) x,xs[i]? =some x->x.nw=true->(∀o,pre[i]? =some o->ic o=true)/\∀(j:Nat) y,xs[j]? =some y->y.nw=true->j=i
theorem rX.snoc {pre:List az} {xs:List NR} (h:rX pre rs xs k) {x:NR} (hk:k<=k1) (hr:r.fr=k) (hb:∀id,id∈r.keys->id<k1) (hx:x.nw=true->ic o=true/\(xs.any fun x=>x.nw)=false):rX (pre++[o]) (rs++[r]) (xs++[x]) k1:=by
 have eL:∀(i:Nat) y,xs[i]? =some y->y.nw=true->x.nw=true->False:=fun i y hy hn Lm=>by
  have:=(hx Lm).2
  rw [List.any_eq_false] at this
  exact this y (Pd hy) hn
 refine ⟨by simp [h.pl],by simp [h.rl],fun i r' hr' id hid=> ?_,fun i j ri rj aZ hi hj id hid=> ?_,fun i y hy hn=>⟨fun o' ix=> ?_,fun j z hz yH=> ?_⟩⟩
 ·rcases kK hr' with q|⟨_,rfl⟩
  ·exact O8 (h.kb i r' q id hid) hk
  ·exact hb id hid
 ·rcases kK hj with q|⟨q,rfl⟩
  ·rcases kK hi with p|⟨p,rfl⟩
   ·exact h.lt i j ri rj aZ p q id hid
   ·have:=(OO.1 q).1;omega
  ·rcases kK hi with p|⟨p,rfl⟩
   ·rw [hr];exact h.kb i ri p id hid
   ·omega
 ·rcases kK hy with q|⟨q,rfl⟩
  ·rcases kK ix with p|⟨p,rfl⟩
   ·exact (h.nw i y q hn).1 o' p
   ·have:=(OO.1 q).1
    have:=h.pl;omega
  ·rcases kK ix with p|⟨p,rfl⟩
   ·have:=(OO.1 p).1
    have:=h.pl;omega
   ·exact (hx hn).1
 ·rcases kK hy with q|⟨q,rfl⟩
  ·rcases kK hz with p|⟨p,rfl⟩
   ·exact (h.nw i y q hn).2 j z p yH
   ·exact (eL i y q hn yH).elim
  ·rcases kK hz with p|⟨p,rfl⟩
   ·exact (eL j z p yH hn).elim
   ·omega
theorem uO {C:b7 τ dn} (hC:C.Ok) {n:Nat} {dep:List (List Nat)} {B:Bool} {Q:Nat->Prop}:∀{os:List az} {pre:List az} {xs:List NR} {rs:List Rec} {hs:List (Option Nat)} {st:SS τ dn} {K:SS τ dn->Prop} {N:aC} {s:S3},Rel C.D N st s->eO B Q N st s->gP N Q st.nx rs hs xs->rX pre rs xs s.k->wpOps C n (some dep) B os xs st K->
  ∃jn,(∀o,(pre++os)[jn]? =some o->ic o=true)/\∃s' N' aw,je C.P n dep jn os s.σ s.g s.k rs hs s'.σ s'.g s'.k/\Rel C.D N' aw s'/\(aw.rt=st.rt/\aw.rm=st.rm)/\N.agree st.nx N'/\st.nx<=aw.nx/\K aw
 |[],pre,xs,rs,hs,st,K,N,s,R,M,rY,hk,h=>by
  simp only [wpOps] at h
  cases hb:idsN xs dep with
  |false=>rw [hb] at h;exact h.elim
  |true=>
   rw [hb,OL] at h
   by_cases hx:∃(i:Nat) (x:NR),xs[i]? =some x/\x.nw=true
   ·obtain ⟨i,x,h1,h2⟩:=hx
    have hq:=CV R.inj rY hk.lt (jn:=i) (fun j y hy hn=>(hk.nw i x h1 h2).2 j y hy hn) hb
    exact ⟨i,by rw [List.append_nil];exact (hk.nw i x h1 h2).1,s,N,st, .nil hq.1 hq.2,R,⟨rfl,rfl⟩,N.dT _,OQ _,h⟩
   ·have hq:=CV R.inj rY hk.lt (jn:=pre.length) (fun j y hy hn=>absurd ⟨j,y,hy,hn⟩ hx) hb
    exact ⟨pre.length,fun o ho=>by simp at ho,s,N,st, .nil hq.1 hq.2,R,⟨rfl,rfl⟩,N.dT _,OQ _,h⟩
 |o::os,pre,xs,rs,hs,st,K,N,s,R,M,rY,hk,h=>by
  rcases C3 hC R M h with ⟨val,ups,acc,x,aw,N',h1,h2,h3,h4,h5,Ln,C6,k1,h6,h7,h8,hM⟩|⟨f,as_,r,ups,k1,aw,N',h1,np,h2,h3,h4,jL,⟨ex,hex,h5⟩,h6,h7,h8,h9,hM⟩
  ·obtain ⟨jn,hj,s',N2,aY,q1,q2,q3,q4,q5,q6⟩:=uO hC (pre:=pre++[o]) h8 hM ((rY.step h3 h4).snoc (c:=none) h5 (fun _=>rfl)) (hk.snoc (r:=⟨o.dst,val,ups,acc,s.k⟩) h6 rfl h7 Ln) h2
   exact ⟨jn,fun o' ix=>hj o' (by rw [PZ];exact ix),s',N2,aY, .cons h1 h6 h7 q1,q2,⟨q3.1.trans C6.1,q3.2.trans C6.2⟩,aC.eN h3 q4 h4,Pe h4 q5,q6⟩
  ·obtain ⟨jn,hj,s',N2,aY,q1,q2,q3,q4,q5,q6⟩:=uO hC (pre:=pre++[o]) (rs:=rs++[⟨o.dst,r,ups,[],s.k⟩]) (hs:=hs++[some k1]) h9 hM ((rY.step h6 h7).snoc (r:=⟨o.dst,r,ups,[],s.k⟩) (c:=some k1) (x:=⟨[],[],true,false,ex,false⟩) ⟨fun hh=>by simp at hh,fun hh=>by simp at hh,fun nm hn=>by simp at hn,fun nm hn=>by simp at hn,hex,fun hh=>by simp at hh,fun _ _=>rfl⟩ (fun hh=>by simp at hh)) (hk.snoc (r:=⟨o.dst,r,ups,[],s.k⟩) jL.1 rfl jL.2 (fun hh=>by simp at hh)) h5
   exact ⟨jn,fun o' ix=>hj o' (by rw [PZ];exact ix),s',N2,aY, .fi h1 np h2 h3 h4 jL.1 jL.2 q1,q2,⟨q3.1.trans h8.1,q3.2.trans h8.2⟩,aC.eN h6 q4 h7,Pe h7 q5,q6⟩
theorem Lo {C:b7 τ dn} (hC:C.Ok) {B:Bool} {st:SS τ dn} {K:SS τ dn->Prop} (R:Rel C.D N st s) (h:wpOps C n (some dep) B os [] st K):
  ∃jn,(∀o,os[jn]? =some o->ic o=true)/\∃s' N' aw,je C.P n dep jn os s.σ s.g s.k [] [] s'.σ s'.g s'.k/\Rel C.D N' aw s'/\(aw.rt=st.rt/\aw.rm=st.rm)/\N.agree st.nx N'/\st.nx<=aw.nx/\K aw:=by
 have h0:rX [] [] [] s.k:=⟨rfl,rfl,fun i r h=>by simp at h,fun i j ri rj _ h=>by simp at h,fun i x h=>by simp at h⟩
 cases B with
 |true=>exact uO (pre:=[]) hC R (eO.rV (Q:=fun _=>False) fun _ h=>h) .nil h0 h
 |false=>
  refine uO (pre:=[]) (Q:=gO st) hC R ⟨fun hh=>by simp at hh,fun nm X hX ⟨t,A,hg,hid⟩=>(R.sp t A (gL hg) _ hid).2 nm X hX rfl,fun _ id h=>h,fun id ⟨t,A,hg,hid⟩=>(R.sp t A (gL hg) _ hid).1⟩ .nil h0 h
end
open Go.RowKit
variable {xs:List NR} {x:NR}
def ED (P:Program) (n k0:Nat) (ac:AC) (s:S3) (e:Ex) (s':S3):Prop:=EW P n k0 ac s fun x t=>x=e/\t=s'
def Ex.kF (i:Nat):Ex->Ex
 | .exit j=>if j=i then .normal else .exit j
 |e=>e
section
variable {P:Program} {n k0:Nat} {s s' t:S3} {a b:AC} {e:Ex}
theorem ED.skip:ED P n k0 .skip s .normal s:=EW.skip ⟨rfl,rfl⟩
theorem ED.ret:ED P n k0 .ret s .ret s:=EW.ret ⟨rfl,rfl⟩
theorem ED.exit {i:Nat}:ED P n k0 (.exit i) s (.exit i) s:=EW.exit ⟨rfl,rfl⟩
theorem ED.seq (h:ED P n k0 a s .normal t) (k:ED P n k0 b t e s'):ED P n k0 (.seq a b) s e s':=
 EW.seq (EW.cP h fun x u hu=>by obtain ⟨rfl,rfl⟩:=hu;exact k)
theorem ED.C7 (h:ED P n k0 a s e t) (he:e≠ .normal):ED P n k0 (.seq a b) s e t:=
 EW.seq (EW.cP h fun x u hu=>by
  obtain ⟨rfl,rfl⟩:=hu
  cases x with
  |normal=>exact absurd rfl he
  |exit i=>exact ⟨rfl,rfl⟩
  |ret=>exact ⟨rfl,rfl⟩)
theorem ED.cond {c:Arg} {p:Bool} (hc:aG s.σ c= .v (.bool p)) (h:ED P n k0 (if p=true then a else b) s e t):ED P n k0 (.cond c a b) s e t:=EW.cond hc h
theorem ED.block {i:Nat} (h:ED P n k0 a s e t):ED P n k0 (.block i a) s (e.kF i) t:=
 EW.block (EW.cP h fun x u hu=>by
  obtain ⟨rfl,rfl⟩:=hu
  cases x with
  |normal=>exact ⟨rfl,rfl⟩
  |exit j=>
   simp only [Ex.inBlock,Ex.kF]
   split
   all_goals (first|trivial|exact ⟨rfl,rfl⟩|simp_all)
  |ret=>exact ⟨rfl,rfl⟩)
theorem ED.fP (h:s.Le k0 n t) (k:ED P n k0 a t e s'):ED P n k0 a s e s':=EW.fP h k
inductive Ch (P:Program) (n k0:Nat) (a:AC) (e:Ex) (s':S3):Nat->S3->Prop
 |last {s:S3} (h:ED P n k0 a s e s') (he:e≠ .normal):Ch P n k0 a e s' 0 s
 |step {m:Nat} {s t u:S3} (h:ED P n k0 a s .normal t) (hw:t.Le k0 n u) (c:Ch P n k0 a e s' m u):Ch P n k0 a e s' (m+1) s
theorem ED.post (h:ED P n k0 a s e t) (hw:t.Le k0 n u):ED P n k0 a s e u:=by
 intro rd c E0 J base w0 ac w cg hc hk hr
 refine wpIn_mono (h rd c E0 J base w0 ac w cg hc hk hr) fun e' a' w' ⟨x,s1,⟨h1,h2⟩,h3,h4⟩=>⟨x,u,⟨h1,rfl⟩,h3, ?_⟩
 subst h2
 exact hw E0 J base w0 a' w' hk h4
theorem ED.loop {m:Nat} (h:Ch P n k0 a e s' m s):ED P n k0 (.loop a) s e s':=by
 refine EW.loop (fun m t=>Ch P n k0 a e s' m t) h fun m t hc=> ?_
 cases hc with
 |last h he=>
  refine EW.cP h fun x u hu=> ?_
  obtain ⟨rfl,rfl⟩:=hu
  cases x with
  |normal=>exact absurd rfl he
  |exit i=>exact ⟨rfl,rfl⟩
  |ret=>exact ⟨rfl,rfl⟩
 | @step m _ t u h hw c=>
  refine EW.cP (ED.post h hw) fun x v hv=> ?_
  obtain ⟨rfl,rfl⟩:=hv
  exact ⟨m,PO m,c⟩
theorem ED.bK {os:List az} (h:gB P n k0 os s.σ s.g s.k s'.σ s'.g s'.k):ED P n k0 (.bK os none) s .normal s':=EW.bK h ⟨rfl,rfl⟩
theorem ED.draw (hj:∀o,os[jn]? =some o->ic o=true) (h:je P n dep jn os s.σ s.g s.k [] [] s'.σ s'.g s'.k):ED P n k0 (.bK os (some dep)) s .normal s':=EW.IE hj h ⟨rfl,rfl⟩
theorem S3.Lp (h:∀i,aQ (s.σ i) (σ' i)):s.Le k0 n ⟨σ',s.g,s.k⟩:=by
 intro E0 J base w0 a w _ hr
 obtain ⟨E,h1,h2,h3,h4,h5,h6⟩:=hr.ex
 exact ⟨⟨E,h1,h2,fun t=>h t E _ (h3 t),h4,h5,h6⟩,hr.size,hr.below,hr.gl⟩
theorem S3.Le.trans' (h:s.Le k0 n t) (k:t.Le k0 n u):s.Le k0 n u:=fun E0 J base w0 a w hk hr=>k E0 J base w0 a w hk (h E0 J base w0 a w hk hr)
theorem S3.Le.mV:s.Le k0 n s:=fun _ _ _ _ _ _ _ hr=>hr
theorem S3.Lq (hσ:s.σ i= .emp) (hz:sz≠0):s.Le k0 n ⟨fun j=>if j=i then .own s.k sz 0 0 else s.σ j,aA s.g [(s.k,some ⟨sz,[]⟩)],s.k+1⟩:=by
 intro E0 J base w0 a w hk hr
 obtain ⟨E,rfl,hle,hs,hm,ba,hmk⟩:=hr.ex
 obtain ⟨E',hw,hE,hM,k1,k2,k3,k4,k5⟩:=hm.sN (fresh:=s.k) (fun hh=>PW _ (ba _ hh)) sz
 refine ⟨⟨E',hw,hle.trans hE,fun j=> ?_,hM,fun id hid=> ?_,hmk.step hE⟩,hr.size,hr.below,hr.gl⟩
 ·show aj E' _ (if j=i then _ else _)
  by_cases hj:j=i
  ·rw [OI hj]
   have:=hs j
   rw [hj,hσ] at this
   obtain ⟨A,hA⟩:=qS this
   rw [hj,hA]
   exact .bT k1 k2 k3 k5 hz
  ·rw [OH hj];exact (hs j).step hE
 ·show id<s.k+1
  rcases k4 id hid with h|h
  ·have:=ba id h;omega
  ·omega
end
section
variable {τ:Type} {dn:τ->Type}
def aC.same (p:Nat->Bool) (N N':aC):Prop:=(∀a,p a=true->N'.ι a=N.ι a/\N'.ln a=N.ln a)/\N'.ρ=N.ρ
mutual
theorem pJ {E:TE τ dn} {p:Nat->Bool} {N N':aC} (hN:N.same p N'):∀(v:SV τ dn),v.fr p=true->v.av E N'=v.av E N
 | .own nm sz,h=>by simp only [SV.fr] at h;simp only [SV.av,hN.1 nm h]
 | .part nm sz o l,h=>by simp only [SV.fr] at h;simp only [SV.av,hN.1 nm h]
 | .ref nm sz i o,h=>by simp only [SV.fr] at h;simp only [SV.av,hN.1 nm h]
 | .mp nm,h=>by simp only [SV.fr] at h;simp only [SV.av,hN.1 nm h]
 | .agg cs,h| .aK cs,h| .fn _ cs,h| .bf _ cs,h| .pim cs _,h=>by simp only [SV.fr] at h;simp only [SV.av,yI hN cs h]
 | .vc _ els,h=>by simp only [SV.fr] at h;simp only [SV.av,uP hN els h]
 | .vg p c v,h=>by simp only [SV.fr] at h;simp only [SV.av,pJ hN v h]
 | .vl t xs,h=>by simp only [SV.av,hN.2]
 | .rw t r,h=>by simp only [SV.av,hN.2]
 | .cU t r i o,h=>by simp only [SV.av,hN.2]
 | .vi _,_| .vn _,_| .vy _,_| .vu _,_| .vw _ _,_| .vb _,_| .vt _,_| .vz _,_| .vo _,_| .emp,_| .dead,_=>by simp only [SV.av]
theorem yI {E:TE τ dn} {p:Nat->Bool} {N N':aC} (hN:N.same p N'):∀(cs:List (SV τ dn)),SV.dS p cs=true->SV.cz E N' cs=SV.cz E N cs
 |[],_=>rfl
 |v::r,h=>by
  simp only [SV.dS,OJ] at h
  simp only [SV.cz,pJ hN v h.1,yI hN r h.2]
theorem uP {E:TE τ dn} {p:Nat->Bool} {N N':aC} (hN:N.same p N'):∀(els:List (List (SV τ dn))),SV.lH p els=true->SV.bU E N' els=SV.bU E N els
 |[],_=>rfl
 |v::r,h=>by
  simp only [SV.lH,OJ] at h
  simp only [SV.bU,yI hN v h.1,uP hN r h.2]
end
def SB.fr (p:Nat->Bool):SB τ dn->Bool
 | .bl _ _=>true
 | .bc _ els=>SV.lH p els
 | .mc els=>SV.lH p els
 | .ar _ _=>true
theorem C8 {E:TE τ dn} (hN:N.same p N') (B:SB τ dn) (h:B.fr p=true):B.av E N'=B.av E N:=by
 cases B with
 |bl t xs=>simp only [SB.av,hN.2]
 |bc sz els=>simp only [SB.fr] at h;simp only [SB.av,uP hN els h]
 |mc els=>simp only [SB.fr] at h;simp only [SB.av,uP hN els h]
 |ar t A=>rfl
def hasN (l:List Nat) (a:Nat):Bool:=l.any (Nat.beq a)
theorem l5 {a:Nat}:hasN l a=true↔a∈l:=by
 unfold hasN
 rw [Qr]
 constructor
 ·rintro ⟨b,h1,h2⟩;rw [OR h2];exact h1
 ·intro h;exact ⟨a,h,Nat.beq_refl a⟩
def l6 (p:Nat->Bool):List Nat->List (Nat×SV τ dn)->List (Nat×SV τ dn)
 |_,[]=>[]
 |seen,(i,v)::r=>bif hasN seen i then l6 p seen r else bif v.fr p then (i,v)::l6 p (i::seen) r else l6 p (i::seen) r
theorem yJ {p:Nat->Bool}:∀{t:List (Nat×SV τ dn)} {seen:List Nat} {i:Nat} {v:SV τ dn},getS (l6 p seen t) i=some v->getS t i=some v/\v.fr p=true/\¬i∈seen
 |[],seen,i,v,h=>by simp [l6,getS] at h
 |(j,w)::r,seen,i,v,h=>by
  simp only [l6] at h
  cases hs:hasN seen j with
  |true=>
   rw [hs,OL] at h
   obtain ⟨h1,h2,h3⟩:=yJ h
   refine ⟨?_,h2,h3⟩
   rw [bk,OH];exact h1
   intro e;subst e;exact h3 (l5.1 hs)
  |false=>
   rw [hs,O0] at h
   have hj:¬j∈seen:=fun hh=>by rw [l5.2 hh] at hs;simp at hs
   have next:getS (l6 p (j::seen) r) i=some v->getS ((j,w)::r) i=some v/\v.fr p=true/\¬i∈seen:=fun h=>by
    obtain ⟨h1,h2,h3⟩:=yJ h
    simp only [OU,not_or] at h3
    exact ⟨by rw [bk,OH h3.1];exact h1,h2,h3.2⟩
   cases hf:w.fr p with
   |true=>
    rw [hf,OL,bk] at h
    by_cases hi:i=j
    ·rw [OI hi,OG] at h
     subst h;subst hi
     exact ⟨by rw [bk,OI rfl],hf,hj⟩
    ·rw [OH hi] at h;exact next h
   |false=>rw [hf,O0] at h;exact next h
def kL (p:Nat->Bool):List Nat->List (Nat×Option (SB τ dn))->List (Nat×Option (SB τ dn))
 |_,[]=>[]
 |seen,(i,v)::r=>bif hasN seen i then kL p seen r else match v with
  |some B=>bif B.fr p&&p i then (i,some B)::kL p (i::seen) r else kL p (i::seen) r
  |none=>kL p (i::seen) r
theorem yK {p:Nat->Bool}:∀{t:List (Nat×Option (SB τ dn))} {seen:List Nat} {i:Nat} {v:Option (SB τ dn)},getS (kL p seen t) i=some v->getS t i=some v/\(∃B,v=some B/\B.fr p=true)/\p i=true/\¬i∈seen
 |[],seen,i,v,h=>by simp [kL,getS] at h
 |(j,w)::r,seen,i,v,h=>by
  simp only [kL] at h
  cases hs:hasN seen j with
  |true=>
   rw [hs,OL] at h
   obtain ⟨h1,h2,h4,h3⟩:=yK h
   refine ⟨?_,h2,h4,h3⟩
   rw [bk,OH];exact h1
   intro e;subst e;exact h3 (l5.1 hs)
  |false=>
   rw [hs,O0] at h
   have hj:¬j∈seen:=fun hh=>by rw [l5.2 hh] at hs;simp at hs
   have next:getS (kL p (j::seen) r) i=some v->getS ((j,w)::r) i=some v/\(∃B,v=some B/\B.fr p=true)/\p i=true/\¬i∈seen:=fun h=>by
    obtain ⟨h1,h2,h4,h3⟩:=yK h
    simp only [OU,not_or] at h3
    exact ⟨by rw [bk,OH h3.1];exact h1,h2,h4,h3.2⟩
   cases w with
   |none=>exact next h
   |some B=>
    simp only at h
    cases hf:(B.fr p&&p j) with
    |true=>
     rw [hf,OL,bk] at h
     rw [OJ] at hf
     by_cases hi:i=j
     ·rw [OI hi,OG] at h
      subst h;subst hi
      exact ⟨by rw [bk,OI rfl],⟨B,rfl,hf.1⟩,hf.2,hj⟩
     ·rw [OH hi] at h;exact next h
    |false=>rw [hf,O0] at h;exact next h
theorem gj {a b:List (Nat×α)}:getS (a++b) i=(getS a i).or (getS b i):=by
 induction a with
 |nil=>simp [getS]
 |cons q r ih=>
  obtain ⟨j,v⟩:=q
  rw [P3,bk,bk,ih]
  split<;>simp
theorem jq {l:List (Nat×α)} {v:α} (h:getS l i=some v):(i,v)∈l:=by
 induction l with
 |nil=>simp [getS] at h
 |cons q r ih=>
  obtain ⟨j,w⟩:=q
  rw [bk] at h
  by_cases hi:i=j
  ·rw [OI hi,OG] at h;subst h;subst hi;exact PH ..
  ·rw [OH hi] at h;exact Px _ (ih h)
inductive VK (τ:Type) where
 |sl (i:Nat) (t:τ)
 |ow (i:Nat) (t:τ)
 |bl (nm:Nat) (t:τ)
 |ce (nm:Nat) (t:τ)
 |ar (t:τ)
 |pt (i nm sz:Nat)
 |so (q f:Nat) (t:τ) (cs:List (Nat×Nat))
 |sg (q f:Nat) (t S:τ) (fx:List (Nat×τ×Nat×Nat))
abbrev VK.T (dn:τ->Type):VK τ->Type
 | .sl _ t=>dn t
 | .ow _ t=>List (dn t)
 | .bl _ t=>List (dn t)
 | .ce _ t=>dn t
 | .ar t=>List (Nat×List (dn t))
 | .pt _ _ _=>Nat×Nat
 | .so _ _ t _=>List (dn t)
 | .sg _ _ t S _=>dn S×List (dn t)
abbrev VT (dn:τ->Type):List (VK τ)->Type
 |[]=>Unit
 |v::r=>v.T dn×VT dn r
def uQ:(vs:List (VK τ))->(VT dn vs->Prop)->Prop
 |[],F=>F ()
 |_::r,F=>∀x,uQ r fun y=>F (x,y)
theorem uR:∀{vs:List (VK τ)} {F:VT dn vs->Prop},uQ vs F↔∀x,F x
 |[],F=>⟨fun h _=>h,fun h=>h ()⟩
 |_::r,F=>⟨fun h x=>uR.1 (h x.1) x.2,fun h x=>uR.2 fun y=>h (x,y)⟩
def mW (cs:List (Nat×Nat)) (f n sz:Nat):List (SV τ dn):=(cs.map fun c=>(.own c.1 c.2:SV τ dn)).set f (.own n sz)
def soE:List (SV τ dn)->List (Nat×Nat)->Nat->Nat->Bool
 |[],[],_,_=>true
 | .own a z::r,c::l,j,f=>(Nat.beq j f||(Nat.beq a c.1&&Nat.beq z c.2))&&soE r l (j+1) f
 |_,_,_,_=>false
theorem C9:∀{vs:List (SV τ dn)} {cs:List (Nat×Nat)} {j f n sz:Nat},soE vs cs j f=true->j<=f->vs[f - j]? =some (.own n sz)->vs=mW cs (f - j) n sz
 |[],[],j,f,n,sz,_,_,h=>by simp at h
 |[],c::l,j,f,n,sz,h,_,_=>by simp [soE] at h
 |v::r,[],j,f,n,sz,h,_,_=>by cases v<;>simp [soE] at h
 |v::r,c::l,j,f,n,sz,h,hj,hf=>by
  have hv:∃a z,v= .own a z:=by cases v<;>first|exact ⟨_,_,rfl⟩|simp [soE] at h
  obtain ⟨a,z,rfl⟩:=hv
  simp only [soE,OJ,O9] at h
  obtain ⟨h1,h2⟩:=h
  by_cases e:j=f
  ·subst e
   rw [Nat.sub_self] at hf ⊢
   simp only [Pg,OG] at hf
   rw [hf]
   unfold mW
   rw [OX,List.set_cons_zero]
   congr 1
   have key:∀{r:List (SV τ dn)} {l:List (Nat×Nat)} {k:Nat},soE r l k j=true->j<k->r=l.map fun c=>(.own c.1 c.2:SV τ dn):=by
    intro r
    induction r with
    |nil=>intro l k h _;cases l with
     |nil=>rfl
     |cons c l=>simp [soE] at h
    |cons v r ih=>
     intro l k h hk
     cases l with
     |nil=>cases v<;>simp [soE] at h
     |cons c l=>
      have hv:∃a z,v= .own a z:=by cases v<;>first|exact ⟨_,_,rfl⟩|simp [soE] at h
      obtain ⟨a,z,rfl⟩:=hv
      simp only [soE,OJ,O9] at h
      obtain ⟨h1,h2⟩:=h
      rcases h1 with h1|⟨h1,h3⟩
      ·have:=OR h1;omega
      ·rw [OX,ih h2 (by omega),OR h1,OR h3]
   exact key h2 (by omega)
  ·rcases h1 with h1|⟨h1,h3⟩
   ·exact absurd (OR h1) e
   ·have e2:f - j=(f - (j+1))+1:=by omega
    rw [e2] at hf ⊢
    rw [Py] at hf
    have ih:=C9 h2 (by omega) hf
    unfold mW at ih ⊢
    rw [OX,List.set_cons_succ, <-ih,OR h1,OR h3]
theorem Lr {E:TE τ dn} {m:Nat} (h1:N'.ι n=N.ι m) (h2:N'.ln n=N.ln m) (hF:∀c,c∈cs->N'.ι c.1=N.ι c.1/\N'.ln c.1=N.ln c.1):(mW cs f n sz:List (SV τ dn)).map (SV.av E N')=(mW cs f m sz:List (SV τ dn)).map (SV.av E N):=by
 unfold mW
 rw [P5,P5]
 have e1:(SV.own n sz:SV τ dn).av E N'=(SV.own m sz:SV τ dn).av E N:=by simp only [SV.av,h1,h2]
 rw [e1]
 congr 1
 rw [Qk,Qk]
 refine QC fun c hc=> ?_
 obtain ⟨q1,q2⟩:=hF c hc
 simp only [Function.comp_apply,SV.av,q1,q2]
def setX {κ α:Type} (h:Nat×κ->α):List α->List (Nat×κ)->List α
 |l,[]=>l
 |l,c::r=>(setX h l r).set c.1 (h c)
theorem rZ {κ α:Type} {h:Nat×κ->α} {l:List α}:∀{r:List (Nat×κ)},(setX h l r).length=l.length
 |[]=>rfl
 |c::r=>by simp only [setX,Qh];exact rZ
theorem yL {κ α β:Type} {h:Nat×κ->α} {u:α->β} {l:List α}:∀{r:List (Nat×κ)},(setX h l r).map u=setX (fun c=>u (h c)) (l.map u) r
 |[]=>rfl
 |c::r=>by simp only [setX,P5];rw [yL]
theorem Da {κ α:Type} {h h':Nat×κ->α} {l:List α}:∀{r:List (Nat×κ)},(∀c,c∈r->h c=h' c)->setX h l r=setX h' l r
 |[],_=>rfl
 |c::r,e=>by simp only [setX];rw [e c (PH ..),Da fun d hd=>e d (Px _ hd)]
theorem yM {κ α:Type} {h:Nat×κ->α} {l:List α} {j:Nat}:∀{r:List (Nat×κ)},(∀c,c∈r->c.1≠j)->(setX h l r)[j]? =l[j]?
 |[],_=>rfl
 |c::r,e=>by simp only [setX];rw [QE (e c (PH ..))];exact yM fun d hd=>e d (Px _ hd)
theorem Db {κ α:Type} {h:Nat×κ->α} {l L:List α} {j:Nat} (hl:l.length=L.length):∀{r:List (Nat×κ)},(∀c,c∈r->L[c.1]? =some (h c))->(∃c,c∈r/\c.1=j)->(setX h l r)[j]? =L[j]?
 |[],_,⟨_,hc,_⟩=>by simp at hc
 |c::r,e,hx=>by
  simp only [setX]
  by_cases q:c.1=j
  ·subst q
   have e1:=e c (PH ..)
   have:=(OO.1 e1).1
   rw [List.getElem?_set_self (by rw [rZ,hl];exact this),e1]
  ·rw [QE q]
   refine Db hl (fun d hd=>e d (Px _ hd)) ?_
   obtain ⟨d,hd,rfl⟩:=hx
   rcases OU.1 hd with rfl|hd
   ·exact absurd rfl q
   ·exact ⟨d,hd,rfl⟩
theorem Ls {κ α:Type} {h h':Nat×κ->α} {L:List α} {r:List (Nat×κ)} {y z:α} (h1:∀c,c∈r->L[c.1]? =some (h c)) (h2:L[f]? =some z):(setX h ((setX h' L r).set f y) r).set f z=L:=by
 apply List.ext_getElem?
 intro j
 by_cases e:f=j
 ·subst e
  have:=(OO.1 h2).1
  rw [List.getElem?_set_self (by rw [rZ,Qh,rZ];exact this),h2]
 ·rw [QE e]
  by_cases q:∃c,c∈r/\c.1=j
  ·exact Db (by rw [Qh,rZ]) h1 q
  ·have q':∀c,c∈r->c.1≠j:=fun c hc e2=>q ⟨c,hc,e2⟩
   rw [yM q',QE e,yM q']
def chkX (vs:List (SV τ dn)) (fx:List (Nat×τ×Nat×Nat)):Bool:=fx.all fun c=>match vs[c.1]? with
 |some (.own a z)=>Nat.beq a c.2.2.1&&Nat.beq z c.2.2.2
 |_=>false
def ofX (c:Nat×τ×Nat×Nat):SV τ dn:= .vl c.2.1 []
def uS (c:Nat×τ×Nat×Nat):SV τ dn:= .own c.2.2.1 c.2.2.2
def ox (N:aC) (c:Nat×τ×Nat×Nat):AV:= .own (N.ι c.2.2.1) c.2.2.2 0 (N.ln c.2.2.1)
theorem Dc {E:TE τ dn} (c:Nat×τ×Nat×Nat):(uS c:SV τ dn).av E N=ox N c:=by simp only [uS,ox,SV.av]
theorem Lt {vs:List (SV τ dn)} {fx:List (Nat×τ×Nat×Nat)} (h:chkX vs fx=true) {E:TE τ dn}:∀c,c∈fx->(vs.map (SV.av E N))[c.1]? =some (ox N c):=fun c hc=>by
 have:=ON.1 h c hc
 revert this
 cases hv:vs[c.1]? with
 |none=>intro h;simp at h
 |some w=>
  cases w with
  |own a z=>
   intro h
   simp only [OJ] at h
   rw [O6,hv, <-Dc (E:=E),uS, <-OR h.1, <-OR h.2];rfl
  |_=>intro h;simp at h
variable [DecidableEq τ]
def fc (D:TD τ dn) (st:SS τ dn):(v:VK τ)->Option (v.T dn)
 | .sl i t=>match st.gt i with
  |some v=>lU D t v
  |none=>none
 | .ow i t=>match st.gt i with
  |some (.own nm sz)=>if sz=D.sz t then lY D st nm t else none
  |_=>none
 | .bl nm t=>lY D st nm t
 | .ce nm t=>match st.gm nm with
  |some (.bc q [cs])=>if q=D.sz t/\cs.all SV.ne=true then D.ds t cs else none
  |_=>none
 | .ar t=>st.gf t
 | .pt i nm sz=>match st.gt i with
  |some (.part nm' sz' off len)=>bif Nat.beq nm' nm&&Nat.beq sz' sz then some (off,len) else none
  |_=>none
 | .so q f t cs=>match st.gm q with
  |some (.bc Q [vs])=>match vs[f]? with
   |some (.own nm sz)=>bif Nat.beq Q cs.length&&(soE vs cs 0 f&&Nat.beq sz (D.sz t)) then lY D st nm t else none
   |_=>none
  |_=>none
 | .sg q f t S fx=>match st.gm q with
  |some (.bc Q [vs])=>match vs[f]? with
   |some (.own nm sz)=>bif Nat.beq Q (D.sz S)&&(Nat.beq sz (D.sz t)&&(((setX ofX vs fx).set f (.vl t [])).all SV.ne&&chkX vs fx)) then (match D.ds S ((setX ofX vs fx).set f (.vl t [])),lY D st nm t with
    |some x,some l=>some (x,l)
    |_,_=>none) else none
   |_=>none
  |_=>none
def l7 (D:TD τ dn) (st:SS τ dn):(vs:List (VK τ))->Option (VT dn vs)
 |[]=>some ()
 |v::r=>match fc D st v,l7 D st r with
  |some x,some y=>some (x,y)
  |_,_=>none
def nmV (st:SS τ dn):VK τ->Nat
 | .sl _ _=>0
 | .pt _ nm _=>nm
 | .ow i _=>match st.gt i with
  |some (.own nm _)=>nm
  |_=>0
 | .bl nm _| .ce nm _=>nm
 | .ar _=>0
 | .so q f _ _| .sg q f _ _ _=>match st.gm q with
  |some (.bc _ [vs])=>match vs[f]? with
   |some (.own nm _)=>nm
   |_=>0
  |_=>0
def mX:VK τ->Bool
 | .ow _ _=>true
 | .so _ _ _ _=>true
 | .sg _ _ _ _ _=>true
 |_=>false
def eQ:VK τ->Bool
 | .sl _ _=>true
 |_=>false
def ep:List (VK τ)->List Nat
 |[]=>[]
 | .sl i _::r| .ow i _::r| .pt i _ _::r=>i::ep r
 |_::r=>ep r
def oy:List (VK τ)->List Nat->List Nat
 | .sl _ _::r,_::l=>oy r l
 | .pt _ _ _::r,_::l=>oy r l
 | .so q _ _ _::r,n::l=>n::q::oy r l
 | .sg q _ _ _ _::r,n::l=>n::q::oy r l
 |_::r,n::l=>n::oy r l
 |_,_=>[]
def movesV:List (VK τ)->List Nat->List Nat
 | .ow _ _::r,n::l=>n::movesV r l
 | .so _ _ _ _::r,n::l=>n::movesV r l
 | .sg _ _ _ _ _::r,n::l=>n::movesV r l
 |_::r,_::l=>movesV r l
 |_,_=>[]
def iq:List (VK τ)->List Nat
 |[]=>[]
 | .so q _ _ cs::r=>q::(cs.map Prod.fst++iq r)
 | .sg q _ _ _ fx::r=>q::(fx.map (fun c=>c.2.2.1)++iq r)
 |_::r=>iq r
def bS (D:TD τ dn):(vs:List (VK τ))->List Nat->VT dn vs->List (Nat×SV τ dn)
 | .sl i t::r,_::l,x=>(i,D.en t x.1)::bS D r l x.2
 | .ow i t::r,n::l,x=>(i, .own n (D.sz t))::bS D r l x.2
 | .bl _ _::r,_::l,x=>bS D r l x.2
 | .ce _ _::r,_::l,x=>bS D r l x.2
 | .ar _::r,_::l,x=>bS D r l x.2
 | .pt i nm sz::r,_::l,x=>(i, .part nm sz x.1.1 x.1.2)::bS D r l x.2
 | .so _ _ _ _::r,_::l,x=>bS D r l x.2
 | .sg _ _ _ _ _::r,_::l,x=>bS D r l x.2
 |_,_,_=>[]
def putM (D:TD τ dn):(vs:List (VK τ))->List Nat->VT dn vs->List (Nat×Option (SB τ dn))
 | .sl _ _::r,_::l,x=>putM D r l x.2
 | .ow _ t::r,n::l,x=>(n,some (.bl t x.1))::putM D r l x.2
 | .bl _ t::r,n::l,x=>(n,some (.bl t x.1))::putM D r l x.2
 | .ce _ t::r,n::l,x=>(n,some (.bc (D.sz t) [D.es t x.1]))::putM D r l x.2
 | .ar t::r,n::l,x=>(n,some (.ar t x.1))::putM D r l x.2
 | .pt _ _ _::r,_::l,x=>putM D r l x.2
 | .so q f t cs::r,n::l,x=>(n,some (.bl t x.1))::(q,some (.bc cs.length [mW cs f n (D.sz t)]))::putM D r l x.2
 | .sg q f t S fx::r,n::l,x=>(n,some (.bl t x.1.2))::(q,some (.bc (D.sz S) [(setX uS (D.es S x.1.1) fx).set f (.own n (D.sz t))]))::putM D r l x.2
 |_,_,_=>[]
def dJ:List (VK τ)->List Nat->List Nat->Nat->Nat
 | .ow _ _::r,n::l,m::l',a=>bif Nat.beq a n then m else dJ r l l' a
 | .so _ _ _ _::r,n::l,m::l',a=>bif Nat.beq a n then m else dJ r l l' a
 | .sg _ _ _ _ _::r,n::l,m::l',a=>bif Nat.beq a n then m else dJ r l l' a
 |_::r,_::l,_::l',a=>dJ r l l' a
 |_,_,_,a=>a
def r7:List Nat->Bool
 |[]=>true
 |a::r=> !hasN r a&&r7 r
end
section
variable {τ:Type} {dn:τ->Type} {D:TD τ dn} {N:aC} {st:SS τ dn} {σ:Nat->AV} {g:Nat->Option Bk}
def Dd (D:TD τ dn) (N:aC) (σ:Nat->AV) (g:Nat->Option Bk):(v:VK τ)->Nat->v.T dn->Prop
 | .sl i t,_,x=>aQ (σ i) ((D.en t x).av D.toTE N)
 | .ow i t,n,x=>σ i= .own (N.ι n) (D.sz t) 0 (N.ln n)/\g (N.ι n)=some ⟨D.sz t,x.map (D.ea N.ρ t)⟩/\N.ln n=x.length
 | .bl nm t,n,x=>n=nm/\g (N.ι n)=some ⟨D.sz t,x.map (D.ea N.ρ t)⟩/\N.ln n=x.length
 | .ce nm t,n,x=>n=nm/\g (N.ι n)=some ⟨D.sz t,[D.ea N.ρ t x]⟩/\N.ln n=1
 | .ar t,n,x=>n=0/\g (N.ι n)=some ⟨D.sz t,[]⟩/\N.ln n=0
 | .pt i nm sz,n,x=>n=nm/\σ i= .own (N.ι n) sz x.1 x.2
 | .so q f t cs,n,x=>(g (N.ι n)=some ⟨D.sz t,x.map (D.ea N.ρ t)⟩/\N.ln n=x.length)/\(g (N.ι q)=some ⟨cs.length,[(mW cs f n (D.sz t):List (SV τ dn)).map (SV.av D.toTE N)]⟩/\N.ln q=1)
 | .sg q f t S fx,n,x=>(g (N.ι n)=some ⟨D.sz t,x.2.map (D.ea N.ρ t)⟩/\N.ln n=x.2.length)/\(g (N.ι q)=some ⟨D.sz S,[(setX (ox N) (D.ea N.ρ S x.1) fx).set f (.own (N.ι n) (D.sz t) 0 (N.ln n))]⟩/\N.ln q=1)
theorem Lu [DecidableEq τ] (ok:bh D) (R:bm D N st σ g) {v:VK τ} {x:v.T dn} (h:fc D st v=some x):Dd D N σ g v (nmV st v) x:=by
 cases v with
 |sl i t=>
  simp only [fc] at h
  split at h
  ·rename_i w hw
   show aQ (σ i) _
   rw [R.gt hw];exact uv ok h
  ·simp at h
 |ow i t=>
  simp only [fc] at h
  split at h
  ·rename_i nm sz hw
   split at h
   ·rename_i hs
    have hn:nmV st (.ow i t)=nm:=by simp only [nmV,hw]
    rw [hn]
    refine ⟨?_,rS ok R h⟩
    rw [R.gt hw,hs];rfl
   ·simp at h
  ·simp at h
 |bl nm t=>exact ⟨rfl,rS ok R h⟩
 |ce nm t=>
  simp only [fc] at h
  split at h
  ·rename_i q cs hB
   split at h
   ·rename_i hq
    obtain ⟨g1,g2⟩:=R.gm hB
    refine ⟨rfl, ?_,g2⟩
    show g (N.ι nm)=_
    rw [g1];simp only [SB.av,SV.bU,SV.bA,hq.1,ok.rk N t _ _ h hq.2]
   ·simp at h
  ·simp at h
 |ar t=>
  simp only [fc] at h
  obtain ⟨g1,g2⟩:=R.gm (mO h)
  exact ⟨rfl,g1,g2⟩
 |pt i nm sz=>
  simp only [fc] at h
  split at h
  ·rename_i nm' sz' off len hw
   cases hb:(Nat.beq nm' nm&&Nat.beq sz' sz) with
   |false=>rw [hb] at h;simp at h
   |true=>
    rw [hb,OL,OG] at h
    subst h
    rw [OJ] at hb
    have e1:=OR hb.1
    have e2:=OR hb.2
    subst e1;subst e2
    exact ⟨rfl,R.gt hw⟩
  ·simp at h
 |so q f t cs=>
  simp only [fc] at h
  split at h
  ·rename_i Q vs hB
   split at h
   ·rename_i nm sz hf
    cases hb:(Nat.beq Q cs.length&&(soE vs cs 0 f&&Nat.beq sz (D.sz t))) with
    |false=>rw [hb] at h;simp at h
    |true=>
     rw [hb,OL] at h
     simp only [OJ] at hb
     obtain ⟨b1,b2,b3⟩:=hb
     have hn:nmV st (.so q f t cs)=nm:=by simp only [nmV,hB,hf]
     obtain ⟨g1,g2⟩:=R.gm hB
     have e:=C9 b2 (Nat.zero_le _) hf
     rw [Nat.sub_zero,OR b3] at e
     rw [hn]
     refine ⟨rS ok R h, ?_,g2⟩
     rw [g1,e,OR b1];simp only [SB.av,SV.bU,SV.bA]
   ·simp at h
  ·simp at h
 |sg q f t S fx=>
  simp only [fc] at h
  split at h
  ·rename_i Q vs hB
   split at h
   ·rename_i nm sz hf
    cases hb:(Nat.beq Q (D.sz S)&&(Nat.beq sz (D.sz t)&&(((setX ofX vs fx).set f (.vl t [])).all SV.ne&&chkX vs fx))) with
    |false=>rw [hb] at h;simp at h
    |true=>
     rw [hb,OL] at h
     simp only [OJ] at hb
     obtain ⟨b1,b2,b3,b4⟩:=hb
     split at h
     ·rename_i y l hx hl
      simp only [OG] at h;subst h
      have hn:nmV st (.sg q f t S fx)=nm:=by simp only [nmV,hB,hf]
      obtain ⟨g1,g2⟩:=R.gm hB
      have e:=ok.rk N S _ _ hx b3
      rw [hn]
      refine ⟨rS ok R hl, ?_,g2⟩
      have hz:=OR b2
      have iW:(vs.map (SV.av D.toTE N))[f]? =some (.own (N.ι nm) (D.sz t) 0 (N.ln nm)):=by rw [O6,hf, <-hz];rfl
      rw [g1,OR b1, <-e,P5,yL,Ls (Lt b4) iW]
      simp only [SB.av,SV.bU,SV.bA]
     ·simp at h
   ·simp at h
  ·simp at h
inductive j1 (D:TD τ dn) (N:aC) (σ:Nat->AV) (g:Nat->Option Bk):(vs:List (VK τ))->List Nat->VT dn vs->Prop
 |nil:j1 D N σ g [] [] ()
 |cons {v:VK τ} {vs:List (VK τ)} {n:Nat} {l:List Nat} {x:v.T dn} {y:VT dn vs} (h:Dd D N σ g v n x) (t:j1 D N σ g vs l y):j1 D N σ g (v::vs) (n::l) (x,y)
theorem uT [DecidableEq τ] (ok:bh D) (R:bm D N st σ g):∀{vs:List (VK τ)} {x:VT dn vs},l7 D st vs=some x->j1 D N σ g vs (vs.map (nmV st)) x
 |[],x,h=> .nil
 |v::r,x,h=>by
  simp only [l7] at h
  split at h
  ·rename_i a b h1 h2
   simp only [OG] at h;subst h
   exact .cons (Lu ok R h1) (uT ok R h2)
  ·simp at h
theorem yN {vs:List (VK τ)} {T A:List Nat} {a:Nat} (h:¬a∈movesV vs T):dJ vs T A a=a:=by
 induction vs generalizing T A with
 |nil=>simp [dJ]
 |cons v r ih=>
  cases T with
  |nil=>cases v<;>simp [dJ]
  |cons n l=>
   cases A with
   |nil=>cases v<;>simp [dJ]
   |cons m l'=>
    cases v with
    |ow i t=>
     simp only [movesV,OU,not_or] at h
     simp only [dJ]
     have:Nat.beq a n=false:=by
      cases hb:Nat.beq a n with
      |false=>rfl
      |true=>exact absurd (OR hb) h.1
     rw [this,O0];exact ih h.2
    |so q f t cs=>
     simp only [movesV,OU,not_or] at h
     simp only [dJ]
     have:Nat.beq a n=false:=by
      cases hb:Nat.beq a n with
      |false=>rfl
      |true=>exact absurd (OR hb) h.1
     rw [this,O0];exact ih h.2
    |sg q f t S fx=>
     simp only [movesV,OU,not_or] at h
     simp only [dJ]
     have:Nat.beq a n=false:=by
      cases hb:Nat.beq a n with
      |false=>rfl
      |true=>exact absurd (OR hb) h.1
     rw [this,O0];exact ih h.2
    |_=>
     simp only [movesV] at h
     simp only [dJ];exact ih h
theorem yO (D:TD τ dn) {N N':aC} {σ:Nat->AV} {g:Nat->Option Bk} (fR:N'.ρ=N.ρ) (ok:bh D):∀{vs:List (VK τ)} {A T:List Nat} {x:VT dn vs},j1 D N σ g vs A x->T.length=A.length->
  (∀(j:Nat) v (n m:Nat),vs[j]? =some v->T[j]? =some n->A[j]? =some m->eQ v=true\/(N'.ι n=N.ι m/\N'.ln n=N.ln m/\(mX v=true\/n=m)))->(∀a,a∈iq vs->N'.ι a=N.ι a/\N'.ln a=N.ln a)->j1 D N' σ g vs T x
 |[],[],[],x,h,hl,hN,hF=> .nil
 |[],[],_::_,x,h,hl,hN,hF=>by simp at hl
 |v::r,a::A,[],x,h,hl,hN,hF=>by simp at hl
 |v::r,a::A,n::T,x,h,hl,hN,hF=>by
  cases h with
  |cons h t=>
   refine .cons ?_ (yO D fR ok t (by simpa using hl) (fun j v n m h0 h1 h2=>hN (j+1) v n m (by simpa using h0) (by simpa using h1) (by simpa using h2)) (fun a ha=>hF a (by cases v<;>simp only [iq]<;>first|exact ha|exact Px _ (Po _ ha)|exact Px _ ha)))
   have gW:=hN 0 v n a rfl rfl rfl
   cases v with
   |sl i t=>show aQ (σ i) _;rw [<-yw ok fR];exact h
   |ow i t=>
    obtain ⟨e1,e2,_⟩:=gW.resolve_left (by simp [eQ])
    obtain ⟨h1,h2,h3⟩:=h;exact ⟨by rw [e1,e2];exact h1,by rw [e1,fR];exact h2,by rw [e2];exact h3⟩
   |bl nm t=>
    obtain ⟨e1,e2,e3⟩:=gW.resolve_left (by simp [eQ])
    obtain ⟨h1,h2,h3⟩:=h
    have:n=a:=by simpa [mX] using e3
    exact ⟨this.trans h1,by rw [e1,fR];exact h2,by rw [e2];exact h3⟩
   |pt i nm sz=>
    obtain ⟨e1,e2,e3⟩:=gW.resolve_left (by simp [eQ])
    obtain ⟨h1,h2⟩:=h
    have:n=a:=by simpa [mX] using e3
    exact ⟨this.trans h1,by rw [e1];exact h2⟩
   |ar t=>
    obtain ⟨e1,e2,e3⟩:=gW.resolve_left (by simp [eQ])
    obtain ⟨h1,h2,h3⟩:=h
    have:n=a:=by simpa [mX] using e3
    exact ⟨this.trans h1,by rw [e1];exact h2,by rw [e2];exact h3⟩
   |ce nm t=>
    obtain ⟨e1,e2,e3⟩:=gW.resolve_left (by simp [eQ])
    obtain ⟨h1,h2,h3⟩:=h
    have:n=a:=by simpa [mX] using e3
    exact ⟨this.trans h1,by rw [e1,fR];exact h2,by rw [e2];exact h3⟩
   |so q f t cs=>
    obtain ⟨e1,e2,_⟩:=gW.resolve_left (by simp [eQ])
    obtain ⟨⟨h1,h2⟩,h3,h4⟩:=h
    obtain ⟨q1,q2⟩:=hF q (PH ..)
    have hc:∀c,c∈cs->N'.ι c.1=N.ι c.1/\N'.ln c.1=N.ln c.1:=fun c hc=>hF c.1 (Px _ (Pr _ (Pc.2 ⟨c,hc,rfl⟩)))
    refine ⟨⟨by rw [e1,fR];exact h1,by rw [e2];exact h2⟩, ?_,by rw [q2];exact h4⟩
    rw [q1,Lr e1 e2 hc];exact h3
   |sg q f t S fx=>
    obtain ⟨e1,e2,_⟩:=gW.resolve_left (by simp [eQ])
    obtain ⟨⟨h1,h2⟩,h3,h4⟩:=h
    obtain ⟨q1,q2⟩:=hF q (PH ..)
    have hc:∀c,c∈fx->ox N' c=ox N c:=fun c hc=>by
     obtain ⟨w1,w2⟩:=hF c.2.2.1 (Px _ (Pr _ (Pc.2 ⟨c,hc,rfl⟩)))
     unfold ox;rw [w1,w2]
    exact ⟨⟨by rw [e1,fR];exact h1,by rw [e2];exact h2⟩,by rw [q1,fR,e1,e2,Da hc];exact h3,by rw [q2];exact h4⟩
theorem l8:∀{vs:List (VK τ)} {T:List Nat} {x:VT dn vs},j1 D N σ g vs T x->∀i v,(i,v)∈bS D vs T x->aQ (σ i) (v.av D.toTE N)
 |[],[],x,h,i,v,hm=>by simp [bS] at hm
 |[],_::_,x,h,i,v,hm=>by simp [bS] at hm
 |w::r,[],x,h,i,v,hm=>by cases h
 |w::r,n::T,x,h,i,v,hm=>by
  cases h with
  |cons h t=>
   cases w with
   |sl j ty=>
    simp only [bS,OU,OT] at hm
    rcases hm with ⟨rfl,rfl⟩|hm
    ·exact h
    ·exact l8 t i v hm
   |ow j ty=>
    simp only [bS,OU,OT] at hm
    rcases hm with ⟨rfl,rfl⟩|hm
    ·exact aQ.of_eq h.1
    ·exact l8 t i v hm
   |bl nm ty=>simp only [bS] at hm;exact l8 t i v hm
   |ce nm ty=>simp only [bS] at hm;exact l8 t i v hm
   |ar ty=>simp only [bS] at hm;exact l8 t i v hm
   |so q f ty cs=>simp only [bS] at hm;exact l8 t i v hm
   |sg q f ty S fx=>simp only [bS] at hm;exact l8 t i v hm
   |pt j nm sz=>
    simp only [bS,OU,OT] at hm
    rcases hm with ⟨rfl,rfl⟩|hm
    ·obtain ⟨h1,h2⟩:=h;subst h1;exact aQ.of_eq h2
    ·exact l8 t i v hm
theorem kM (ok:bh D):∀{vs:List (VK τ)} {T:List Nat} {x:VT dn vs},j1 D N σ g vs T x->∀nm B,(nm,B)∈putM D vs T x->∃B',B=some B'/\g (N.ι nm)=some (B'.av D.toTE N)/\N.ln nm=B'.len
 |[],[],x,h,nm,B,hm=>by simp [putM] at hm
 |[],_::_,x,h,nm,B,hm=>by simp [putM] at hm
 |w::r,[],x,h,nm,B,hm=>by cases h
 |w::r,n::T,x,h,nm,B,hm=>by
  cases h with
  |cons h t=>
   cases w with
   |sl j ty=>simp only [putM] at hm;exact kM ok t nm B hm
   |ow j ty=>
    simp only [putM,OU,OT] at hm
    rcases hm with ⟨rfl,rfl⟩|hm
    ·exact ⟨_,rfl,h.2⟩
    ·exact kM ok t nm B hm
   |bl nm' ty=>
    simp only [putM,OU,OT] at hm
    rcases hm with ⟨rfl,rfl⟩|hm
    ·exact ⟨_,rfl,h.2⟩
    ·exact kM ok t nm B hm
   |ce nm' ty=>
    simp only [putM,OU,OT] at hm
    rcases hm with ⟨rfl,rfl⟩|hm
    ·obtain ⟨h1,h2,h3⟩:=h
     refine ⟨_,rfl, ?_,h3⟩
     rw [h2];simp only [SB.av,SV.bU,SV.bA,ok.dv]
    ·exact kM ok t nm B hm
   |pt j nm sz=>simp only [putM] at hm;exact kM ok t _ B hm
   |so q f ty cs=>
    simp only [putM,OU,OT] at hm
    rcases hm with ⟨rfl,rfl⟩|⟨rfl,rfl⟩|hm
    ·exact ⟨_,rfl,h.1⟩
    ·refine ⟨_,rfl, ?_,h.2.2⟩
     rw [h.2.1];simp only [SB.av,SV.bU,SV.bA]
    ·exact kM ok t _ B hm
   |sg q f ty S fx=>
    simp only [putM,OU,OT] at hm
    rcases hm with ⟨rfl,rfl⟩|⟨rfl,rfl⟩|hm
    ·exact ⟨_,rfl,h.1⟩
    ·refine ⟨_,rfl, ?_,h.2.2⟩
     rw [h.2.1];simp only [SB.av,SV.bU,SV.bA,P5,yL,Dc,ok.dv,SV.av]
    ·exact kM ok t _ B hm
   |ar ty=>
    simp only [putM,OU,OT] at hm
    rcases hm with ⟨rfl,rfl⟩|hm
    ·exact ⟨_,rfl,h.2⟩
    ·exact kM ok t nm B hm
def okT (p:Nat->Bool):List (VK τ)->List Nat->Bool
 | .pt _ nm _::r,n::l=>p n&&(p nm&&okT p r l)
 | .sl _ _::r,_::l=>okT p r l
 | .so q _ _ cs::r,n::l=>p n&&(p q&&(cs.all (fun c=>p c.1)&&okT p r l))
 | .sg q _ _ _ fx::r,n::l=>p n&&(p q&&(fx.all (fun c=>p c.2.2.1)&&okT p r l))
 |_::r,n::l=>p n&&okT p r l
 |_,_=>true
theorem De {p:Nat->Bool}:∀{vs:List (VK τ)} {T:List Nat},okT p vs T=true->∀(j:Nat) v n,vs[j]? =some v->T[j]? =some n->eQ v=true\/p n=true
 |[],T,h,j,v,n,h1,h2=>by simp at h1
 |w::r,[],h,j,v,n,h1,h2=>by simp at h2
 |w::r,m::l,h,j,v,n,h1,h2=>by
  cases j with
  |zero=>
   simp only [Pg,OG] at h1 h2
   subst h1;subst h2
   cases w<;>simp only [okT,OJ] at h<;>first
    |exact .inl rfl
    |exact .inr h.1
  |succ j=>
   have hr:okT p r l=true:=by
    cases w<;>simp only [okT,OJ] at h<;>first
     |exact h
     |exact h.2
     |exact h.2.2.2
     |exact h.2.2
   exact De hr j v n (by simpa using h1) (by simpa using h2)
theorem l9 {p:Nat->Bool}:∀{vs:List (VK τ)} {T:List Nat},okT p vs T=true->T.length=vs.length->∀a,a∈iq vs->p a=true
 |[],T,h,_,a,ha=>by simp [iq] at ha
 |w::r,[],h,hl,a,ha=>by simp at hl
 |w::r,m::l,h,hl,a,ha=>by
  have dr:l.length=r.length:=by simpa using hl
  cases w with
  |so q f t cs=>
   simp only [okT,OJ] at h
   simp only [iq,OU,Pm,Pc] at ha
   rcases ha with rfl|⟨c,hc,rfl⟩|ha
   ·exact h.2.1
   ·exact ON.1 h.2.2.1 c hc
   ·exact l9 h.2.2.2 dr a ha
  |sg q f t S fx=>
   simp only [okT,OJ] at h
   simp only [iq,OU,Pm,Pc] at ha
   rcases ha with rfl|⟨c,hc,rfl⟩|ha
   ·exact h.2.1
   ·exact ON.1 h.2.2.1 c hc
   ·exact l9 h.2.2.2 dr a ha
  |sl i t=>simp only [okT] at h;exact l9 h dr a ha
  |pt i nm sz=>simp only [okT,OJ] at h;exact l9 h.2.2 dr a ha
  |ow i t=>simp only [okT,OJ] at h;exact l9 h.2 dr a ha
  |bl i t=>simp only [okT,OJ] at h;exact l9 h.2 dr a ha
  |ce i t=>simp only [okT,OJ] at h;exact l9 h.2 dr a ha
  |ar t=>simp only [okT,OJ] at h;exact l9 h.2 dr a ha
theorem yP (ok:bh D) (t:τ) (x:dn t):(D.en t x).fr p=true:=by
 have h:=ok.nf p t x
 unfold TD.en
 cases ha:D.ag t with
 |true=>rw [OL];simp only [SV.fr];exact h
 |false=>
  rw [O0]
  cases hs:D.es t x with
  |nil=>rfl
  |cons v r=>rw [hs] at h;simp only [SV.dS,OJ] at h;exact h.1
theorem kN (ok:bh D) {p:Nat->Bool}:∀{vs:List (VK τ)} {T:List Nat} {x:VT dn vs},okT p vs T=true->∀i v,(i,v)∈bS D vs T x->v.fr p=true/\i∈ep vs
 |[],[],x,hp,i,v,hm=>by simp [bS] at hm
 |[],_::_,x,hp,i,v,hm=>by simp [bS] at hm
 |w::r,[],x,hp,i,v,hm=>by cases w<;>simp [bS] at hm
 |w::r,n::T,x,hp,i,v,hm=>by
  cases w with
  |sl j ty=>
   simp only [okT] at hp
   simp only [bS,OU,OT] at hm
   simp only [ep,OU]
   rcases hm with ⟨rfl,rfl⟩|hm
   ·exact ⟨yP ok _ _, .inl rfl⟩
   ·have ih:=kN ok hp i v hm;exact ⟨ih.1, .inr ih.2⟩
  |ow j ty=>
   simp only [okT,OJ] at hp
   simp only [bS,OU,OT] at hm
   simp only [ep,OU]
   rcases hm with ⟨rfl,rfl⟩|hm
   ·exact ⟨by simp only [SV.fr];exact hp.1, .inl rfl⟩
   ·have ih:=kN ok hp.2 i v hm;exact ⟨ih.1, .inr ih.2⟩
  |bl nm ty=>
   simp only [okT,OJ] at hp
   simp only [bS] at hm;simp only [ep];exact kN ok hp.2 i v hm
  |ce nm ty=>
   simp only [okT,OJ] at hp
   simp only [bS] at hm;simp only [ep];exact kN ok hp.2 i v hm
  |ar ty=>
   simp only [okT,OJ] at hp
   simp only [bS] at hm;simp only [ep];exact kN ok hp.2 i v hm
  |pt j nm sz=>
   simp only [okT,OJ] at hp
   simp only [bS,OU,OT] at hm
   simp only [ep,OU]
   rcases hm with ⟨rfl,rfl⟩|hm
   ·exact ⟨by simp only [SV.fr];exact hp.2.1, .inl rfl⟩
   ·have ih:=kN ok hp.2.2 i v hm;exact ⟨ih.1, .inr ih.2⟩
  |so q f ty cs=>
   simp only [okT,OJ] at hp
   simp only [bS] at hm;simp only [ep];exact kN ok hp.2.2.2 i v hm
  |sg q f ty S fx=>
   simp only [okT,OJ] at hp
   simp only [bS] at hm;simp only [ep];exact kN ok hp.2.2.2 i v hm
theorem oz {p:Nat->Bool}:∀{vs:List (VK τ)} {T:List Nat} {x:VT dn vs},okT p vs T=true->∀nm B,(nm,B)∈putM D vs T x->p nm=true
 |[],[],x,hp,nm,B,hm=>by simp [putM] at hm
 |[],_::_,x,hp,nm,B,hm=>by simp [putM] at hm
 |w::r,[],x,hp,nm,B,hm=>by cases w<;>simp [putM] at hm
 |w::r,n::T,x,hp,nm,B,hm=>by
  cases w with
  |sl j ty=>simp only [okT] at hp;simp only [putM] at hm;exact oz hp nm B hm
  |pt j nm' sz=>simp only [okT,OJ] at hp;simp only [putM] at hm;exact oz hp.2.2 nm B hm
  |so q f ty cs=>
   simp only [okT,OJ] at hp
   simp only [putM,OU,OT] at hm
   rcases hm with ⟨rfl,_⟩|⟨rfl,_⟩|hm
   ·exact hp.1
   ·exact hp.2.1
   ·exact oz hp.2.2.2 nm B hm
  |sg q f ty S fx=>
   simp only [okT,OJ] at hp
   simp only [putM,OU,OT] at hm
   rcases hm with ⟨rfl,_⟩|⟨rfl,_⟩|hm
   ·exact hp.1
   ·exact hp.2.1
   ·exact oz hp.2.2.2 nm B hm
  |_=>
   simp only [okT,OJ] at hp
   simp only [putM,OU,OT] at hm
   rcases hm with ⟨rfl,_⟩|hm
   ·exact hp.1
   ·exact oz hp.2 nm B hm
def lessB (nx:Nat) (a:Nat):Bool:=Nat.blt a nx
theorem r8 {nx a:Nat} (h:lessB nx a=true):a<nx:=Pn h
theorem Lv {nx:Nat} {N:aC} (h:N.agree nx N'):N.same (lessB nx) N':=⟨fun a ha=>h.1 a (r8 ha),h.2⟩
theorem Df (ok:bh D) {vs:List (VK τ)} {T:List Nat} {x:VT dn vs} {rt:List (Nat×SV τ dn)} {rm:List (Nat×Option (SB τ dn))} {nx:Nat} (hV:j1 D N s.σ s.g vs T x) (hT:okT (lessB nx) vs T=true) (hl:T.length=vs.length)
  (Lw:∀i v,getS rt i=some v->s.σ i=v.av D.toTE N/\v.fr (lessB nx)=true/\¬i∈ep vs) (uL:∀nm B,getS rm nm=some B->nm<nx/\∀B',B=some B'->s.g (N.ι nm)=some (B'.av D.toTE N)/\N.ln nm=B'.len/\B'.fr (lessB nx)=true)
  (inj:∀a b,a<nx->b<nx->N.ι a=N.ι b->a=b) (lt:∀a,a<nx->N.ι a<s.k)
  (Dg:∀t A,(⟨rt,rm,bS D vs T x,putM D vs T x,nx⟩:SS τ dn).bB 0 (.ar t A)->∀id,dA A id->s.g id=some ⟨D.sz t,(fD A id).map (D.ea N.ρ t)⟩/\id<s.k/\∀nm B,(⟨rt,rm,bS D vs T x,putM D vs T x,nx⟩:SS τ dn).bB nm B->N.ι nm≠id):
  ∃s',s.Le k0 n s'/\Rel D N ⟨rt,rm,bS D vs T x,putM D vs T x,nx⟩ s':=by
 let σ':Nat->AV:=fun i=>match getS (bS D vs T x) i with
  |some v=>v.av D.toTE N
  |none=>s.σ i
 refine ⟨⟨σ',s.g,s.k⟩,S3.Lp fun i=> ?_,fun N' hN=> ?_,inj,lt,fun nm B h=>r8 (oz hT nm B (jq h)),fun nm B h=>(uL nm B h).1,fun t A h id hid=>(Dg t A h id hid).2⟩
 ·show aQ (s.σ i) (match getS (bS D vs T x) i with|some v=>v.av D.toTE N|none=>s.σ i)
  split
  ·rename_i v hv;exact l8 hV i v (jq hv)
  ·exact aQ.refl
 ·have hs:=Lv hN
  have Lx:j1 D N' s.σ s.g vs T x:=by
   refine yO D hN.2 ok hV rfl (fun j v n m h0 h1 h2=> ?_) fun a ha=>hs.1 a (l9 hT hl a ha)
   rw [h1] at h2;simp only [OG] at h2;subst h2
   rcases De hT j v n h0 h1 with h|h
   ·exact .inl h
   ·exact .inr ⟨(hs.1 n h).1,(hs.1 n h).2, .inr rfl⟩
  refine ⟨fun i v h=> ?_,fun i v h=> ?_,fun nm B h=> ?_,fun nm B h=> ?_,fun t A h id hid=>by rw [hN.2];exact (Dg t A h id hid).1⟩
  ·show (match getS (bS D vs T x) i with|some v=>v.av D.toTE N|none=>s.σ i)=_
   have h':getS (bS D vs T x) i=some v:=h
   rw [h']
   exact (pJ hs v (kN ok hT i v (jq h')).1).symm
  ·show (match getS (bS D vs T x) i with|some v=>v.av D.toTE N|none=>s.σ i)=_
   obtain ⟨h1,h2,h3⟩:=Lw i v h
   split
   ·rename_i w hw;exact absurd (kN ok hT i w (jq hw)).2 h3
   ·rw [h1];exact (pJ hs v h2).symm
  ·obtain ⟨B',e,h1,h2⟩:=kM ok Lx nm (some B) (jq h)
   simp only [OG] at e;subst e
   exact ⟨h1,h2⟩
  ·obtain ⟨h0,h1⟩:=uL nm (some B) h
   obtain ⟨q1,q2,q3⟩:=h1 B rfl
   exact ⟨by rw [(hN.1 nm h0).1,q1,C8 hs B q3],by rw [(hN.1 nm h0).2];exact q2⟩
def oA:VK τ->Bool
 | .pt _ _ _=>true
 |_=>false
theorem Ly [DecidableEq τ] {v:VK τ} {x:v.T dn} (h:fc D st v=some x):(eQ v=true\/oA v=true)\/∃B,st.gm (nmV st v)=some B:=by
 have bl:∀{nm t} {xs:List (dn t)},lY D st nm t=some xs->∃B,st.gm nm=some B:=fun {nm t xs} h=>by
  unfold lY at h
  split at h
  ·rename_i hB;exact ⟨_,hB⟩
  ·rename_i hB;exact ⟨_,hB⟩
  ·simp at h
 cases v with
 |sl i t=>exact .inl (.inl rfl)
 |pt i nm sz=>exact .inl (.inr rfl)
 |ow i t=>
  simp only [fc] at h
  split at h
  ·rename_i nm sz hw
   split at h
   ·have hn:nmV st (.ow i t)=nm:=by simp only [nmV,hw]
    rw [hn];exact .inr (bl h)
   ·simp at h
  ·simp at h
 |bl nm t=>exact .inr (bl h)
 |ce nm t=>
  simp only [fc] at h
  split at h
  ·rename_i hB;exact .inr ⟨_,hB⟩
  ·simp at h
 |ar t=>exact .inr ⟨_,mO h⟩
 |so q f t cs=>
  simp only [fc] at h
  split at h
  ·rename_i Q vs hB
   split at h
   ·rename_i nm sz hf
    have hn:nmV st (.so q f t cs)=nm:=by simp only [nmV,hB,hf]
    cases hb:(Nat.beq Q cs.length&&(soE vs cs 0 f&&Nat.beq sz (D.sz t))) with
    |false=>rw [hb] at h;simp at h
    |true=>rw [hb,OL] at h;rw [hn];exact .inr (bl h)
   ·simp at h
  ·simp at h
 |sg q f t S fx=>
  simp only [fc] at h
  split at h
  ·rename_i Q vs hB
   split at h
   ·rename_i nm sz hf
    have hn:nmV st (.sg q f t S fx)=nm:=by simp only [nmV,hB,hf]
    cases hb:(Nat.beq Q (D.sz S)&&(Nat.beq sz (D.sz t)&&(((setX ofX vs fx).set f (.vl t [])).all SV.ne&&chkX vs fx))) with
    |false=>rw [hb] at h;simp at h
    |true=>
     rw [hb,OL] at h
     split at h
     ·rename_i y l hx hl
      rw [hn];exact .inr (bl hl)
     ·simp at h
   ·simp at h
  ·simp at h
theorem Lz [DecidableEq τ] {t S:τ} {fx:List (Nat×τ×Nat×Nat)} {x:(VK.sg q f t S fx).T dn} (h:fc D st (.sg q f t S fx)=some x):∃B,st.gm q=some B:=by
 simp only [fc] at h
 split at h
 ·rename_i Q vs hB;exact ⟨_,hB⟩
 ·simp at h
theorem LC [DecidableEq τ] {t:τ} {x:(VK.so q f t cs).T dn} (h:fc D st (.so q f t cs)=some x):∃B,st.gm q=some B:=by
 simp only [fc] at h
 split at h
 ·rename_i Q vs hB;exact ⟨_,hB⟩
 ·simp at h
theorem uU [DecidableEq τ] {st:SS τ dn}:∀{vs:List (VK τ)} {T:List Nat} {x:VT dn vs},l7 D st vs=some x->T.length=vs.length->∀nm B,(nm,some B)∈putM D vs T x->(∃(j:Nat) (v:VK τ),vs[j]? =some v/\T[j]? =some nm/\eQ v=false/\(∃B',st.gm (nmV st v)=some B')/\(∀t A,B= .ar t A->v= .ar t/\st.gm 0=some (.ar t A)))\/(nm∈iq vs/\(∃B',st.gm nm=some B')/\∀t A,B≠ .ar t A)
 |[],[],x,h,hl,nm,B,hm=>by simp [putM] at hm
 |[],_::_,x,h,hl,nm,B,hm=>by simp at hl
 |v::r,[],x,h,hl,nm,B,hm=>by simp at hl
 |v::r,n::T,x,h,hl,nm,B,hm=>by
  simp only [l7] at h
  split at h
  case h_2=>simp at h
  rename_i a b h1 h2
  simp only [OG] at h;subst h
  have ih:(nm,some B)∈putM D r T b->(∃(j:Nat) (w:VK τ),(v::r)[j]? =some w/\(n::T)[j]? =some nm/\eQ w=false/\(∃B',st.gm (nmV st w)=some B')/\(∀t A,B= .ar t A->w= .ar t/\st.gm 0=some (.ar t A)))\/(nm∈iq (v::r)/\(∃B',st.gm nm=some B')/\∀t A,B≠ .ar t A):=fun hm=>by
   rcases uU h2 (by simpa using hl) nm B hm with ⟨j,w,q⟩|⟨q1,q2⟩
   ·exact .inl ⟨j+1,w,by simpa using q⟩
   ·exact .inr ⟨by cases v<;>simp only [iq]<;>first|exact q1|exact Px _ (Po _ q1)|exact Px _ q1,q2⟩
  have hal:=Ly h1
  cases v with
  |sl i t=>simp only [putM] at hm;exact ih hm
  |pt i nm' sz=>simp only [putM] at hm;exact ih hm
  |so q f t cs=>
   simp only [putM,OU,OT,OG] at hm
   rcases hm with ⟨rfl,rfl⟩|⟨rfl,rfl⟩|hm
   ·exact .inl ⟨0,_,rfl,rfl,rfl,hal.resolve_left (by simp [eQ,oA]),fun t A e=>by simp at e⟩
   ·exact .inr ⟨PH ..,LC h1,fun t A e=>by simp at e⟩
   ·exact ih hm
  |sg q f t S fx=>
   simp only [putM,OU,OT,OG] at hm
   rcases hm with ⟨rfl,rfl⟩|⟨rfl,rfl⟩|hm
   ·exact .inl ⟨0,_,rfl,rfl,rfl,hal.resolve_left (by simp [eQ,oA]),fun t A e=>by simp at e⟩
   ·exact .inr ⟨PH ..,Lz h1,fun t A e=>by simp at e⟩
   ·exact ih hm
  |ow i t=>
   simp only [putM,OU,OT,OG] at hm
   rcases hm with ⟨rfl,rfl⟩|hm
   ·exact .inl ⟨0,_,rfl,rfl,rfl,hal.resolve_left (by simp [eQ,oA]),fun t A e=>by simp at e⟩
   ·exact ih hm
  |bl i t=>
   simp only [putM,OU,OT,OG] at hm
   rcases hm with ⟨rfl,rfl⟩|hm
   ·exact .inl ⟨0,_,rfl,rfl,rfl,hal.resolve_left (by simp [eQ,oA]),fun t A e=>by simp at e⟩
   ·exact ih hm
  |ce i t=>
   simp only [putM,OU,OT,OG] at hm
   rcases hm with ⟨rfl,rfl⟩|hm
   ·exact .inl ⟨0,_,rfl,rfl,rfl,hal.resolve_left (by simp [eQ,oA]),fun t A e=>by simp at e⟩
   ·exact ih hm
  |ar t=>
   simp only [putM,OU,OT,OG] at hm
   rcases hm with ⟨rfl,rfl⟩|hm
   ·refine .inl ⟨0,_,rfl,rfl,rfl,hal.resolve_left (by simp [eQ,oA]),fun t' A e=> ?_⟩
    simp only [SB.ar.injEq] at e
    obtain ⟨rfl,e⟩:=e
    have e:=eq_of_heq e
    subst e
    exact ⟨rfl,mO h1⟩
   ·exact ih hm
end
open Go.RowKit
inductive Fz (g:Nat->Option Bk) (F:List Nat):AV->AV->Prop
 |refl {a:AV}:Fz g F a a
 |snap {a a':AV} (hid:∀id,id∈a.bV->id∈F) (h:(snap1 a).run g=some a'):Fz g F a a'
 |agg {cs ds:List AV} (hl:cs.length=ds.length) (h:∀(i:Nat) c d,cs[i]? =some c->ds[i]? =some d->Fz g F c d):Fz g F (.agg cs) (.agg ds)
 |aK {cs ds:List AV} (hl:cs.length=ds.length) (h:∀(i:Nat) c d,cs[i]? =some c->ds[i]? =some d->Fz g F c d):Fz g F (.aK cs) (.aK ds)
 |fn {f:FuncId} {cs ds:List AV} (hl:cs.length=ds.length) (h:∀(i:Nat) c d,cs[i]? =some c->ds[i]? =some d->Fz g F c d):Fz g F (.fn f cs) (.fn f ds)
 |bf {f:FuncId} {cs ds:List AV} (hl:cs.length=ds.length) (h:∀(i:Nat) c d,cs[i]? =some c->ds[i]? =some d->Fz g F c d):Fz g F (.bf f cs) (.bf f ds)
theorem LD (h:(snap1 a).run g=some a'):Pu a':=by
 have other:(if a.pu1=true then RM.ret a else RM.fail).run g=some a'->Pu a':=fun h=>by
  split at h
  ·rename_i hp;simp only [RM.run,OG] at h;subst h;exact AV.qw hp
  ·simp [RM.run] at h
 cases a with
 |own id sz off n=>
  simp only [snap1] at h
  obtain ⟨els,h1,h2⟩:=cF h
  split at h2
  ·simp only [RM.run,OG] at h2;subst h2;exact .aX
  ·simp [RM.run] at h2
 |ref id sz i o=>
  simp only [snap1,RM.run] at h
  cases hB:g id with
  |none=>simp [hB] at h
  |some B=>
   simp only [hB] at h
   split at h
   ·split at h
    ·split at h
     ·simp only [RM.run,OG] at h;subst h;exact .pim
     ·simp [RM.run] at h
    ·simp [RM.run] at h
   ·simp [RM.run] at h
 |_=>exact other h
section
variable {E E':Env} {J:Nat->Prop} {base:Nat} {g:Nat->Option Bk} {F:List Nat}
theorem LF (hm:aE E J base g) (hE:E.Le E') (hw:E'.w=E.w) (hI:∀id b B,id∈F->g id=some B->E.loc id=some b->E'.I b) (ks:∀b,E.I b->E'.I b) (hf:Fz g F a a'):∀{v:Value},aj E v a->aj E' v a':=by
 have cells:∀{vs:Array Value} {cs ds:List AV},cs.length=ds.length->(∀(i:Nat) c d,cs[i]? =some c->ds[i]? =some d->∀{v:Value},aj E v c->aj E' v d)->(∀(i:Nat) v c,vs[i]? =some v->cs[i]? =some c->aj E v c)->∀(i:Nat) v d,vs[i]? =some v->ds[i]? =some d->aj E' v d:=fun {vs cs ds} hl ih h i v d hv hd=>by
  have hi:i<cs.length:=by rw [hl];exact (OO.1 hd).1
  exact ih i cs[i] d (OV hi) hd (h i v _ hv (OV hi))
 induction hf with
 |refl=>intro v h;exact h.step hE
 | @snap a a' hid h=>
  intro v hr
  have h1:=wB hm E'.I hr h (fun b hb=>by
   rcases hb with hb|⟨id,B,h1,h2,h3⟩
   ·exact ks b hb
   ·exact hI id b B (hid id h1) h2 h3)
  exact aj.pure (E:=Proofs.Ytimomnfobfjggaa.E0 E.w E'.I) (E':=E') (fun b hb=>⟨hb,fun o=>by rw [hw];rfl⟩) h1 (LD h)
 |agg hl h ih=>intro v hr;cases hr with|agg dr hr=>exact .agg (dr.trans hl) (cells hl (fun i c d h1 h2 v h3=>ih i c d h1 h2 h3) hr)
 |aK hl h ih=>intro v hr;cases hr with|aK dr hr=>exact .aK (dr.trans hl) (cells hl (fun i c d h1 h2 v h3=>ih i c d h1 h2 h3) hr)
 |fn hl h ih=>intro v hr;cases hr with|fn dr hr=>exact .fn (dr.trans hl) (cells hl (fun i c d h1 h2 v h3=>ih i c d h1 h2 h3) hr)
 |bf hl h ih=>intro v hr;cases hr with|bf dr hr=>exact .bf (dr.trans hl) (cells hl (fun i c d h1 h2 v h3=>ih i c d h1 h2 h3) hr)
def ma (g:Nat->Option Bk) (F:List Nat) (els gU:List (List AV)):Prop:=els.length=gU.length/\∀(i:Nat) cs ds,els[i]? =some cs->gU[i]? =some ds->cs.length=ds.length/\∀(j:Nat) c d,cs[j]? =some c->ds[j]? =some d->Fz g F c d
theorem ma.refl {els:List (List AV)}:ma g F els els:=⟨rfl,fun i cs ds h1 h2=>by rw [h1] at h2;cases h2;exact ⟨rfl,fun j c d h3 h4=>by rw [h3] at h4;cases h4;exact .refl⟩⟩
theorem S3.Dh {g':Nat->Option Bk} (hσ:∀i,Fz s.g F (s.σ i) (σ' i)) (hF:∀id,id∈F->∃B,s.g id=some B) (Di:∀id,id∈F->g' id=none) (Dj:∀id,¬id∈F->s.g id=none->g' id=none) (Dk:∀id B,¬id∈F->s.g id=some B->∃B',g' id=some B'/\B'.sz=B.sz/\ma s.g F B.els B'.els):s.Le k0 n ⟨σ',g',s.k⟩:=by
 intro E0 J base w0 a w hk hr
 obtain ⟨E,rfl,hle,hs,hm,ba,hmk⟩:=hr.ex
 obtain ⟨E',hw,hE,hM,k1,k2,k3⟩:=hm.kill F (fun id hid=>by obtain ⟨B,hB⟩:=hF id hid;exact ((hm.live id).2 ⟨B,hB⟩).1)
 have rep:∀{a a':AV},Fz s.g F a a'->∀{v:Value},aj E v a->aj E' v a':=fun h=>LF hm hE hw k2 k3 h
 have key:∀id,aA s.g (F.map fun id=>(id,none)) id=if id∈F then none else s.g id:=fun id=>rN F s.g id
 refine ⟨⟨E',hw,hle.trans hE,fun j=>rep (hσ j) (hs j), ?_,fun id hid=>ba id (k1 id hid),hmk.step hE⟩,hr.size,hr.below,hr.gl⟩
 have old:∀{id B'},g' id=some B'->¬id∈F/\∃B,s.g id=some B/\B'.sz=B.sz/\ma s.g F B.els B'.els:=fun {id B'} h=>by
  by_cases hid:id∈F
  ·rw [Di id hid] at h;simp at h
  ·refine ⟨hid, ?_⟩
   cases hB:s.g id with
   |none=>rw [Dj id hid hB] at h;simp at h
   |some B=>
    obtain ⟨B2,q1,q2,q3⟩:=Dk id B hid hB
    rw [q1] at h;simp only [OG] at h;subst h
    exact ⟨B,rfl,q2,q3⟩
 have kq:∀{id B},¬id∈F->s.g id=some B->aA s.g (F.map fun id=>(id,none)) id=some B:=fun h1 h2=>by rw [key,OH h1];exact h2
 refine ⟨fun id=> ?_,fun id B' hg=> ?_,fun id b9 b B1 B2 h1 h2 h3 h4=> ?_,fun id b B' hg hb hI=> ?_,hM.low,hM.size,fun id B' hg hz=> ?_,hM.fk,fun b hX=>⟨(hM.xo b hX).1,(hM.xo b hX).2.1,fun k B1 hk he=> ?_⟩⟩
 ·show _↔∃B,g' id=some B
  rw [hM.live id,key]
  by_cases hid:id∈F
  ·rw [OI hid,Di id hid]
  ·rw [OH hid]
   cases hB:s.g id with
   |none=>rw [Dj id hid hB]
   |some B=>
    obtain ⟨B',q1,_⟩:=Dk id B hid hB
    rw [q1];exact ⟨fun _=>⟨_,rfl⟩,fun _=>⟨_,rfl⟩⟩
 ·obtain ⟨hid,B,hB,hz,eJ,hf⟩:=old hg
  have my:=(hM.live id).2 ⟨B,kq hid hB⟩
  have Dl:=(hm.live id).2 ⟨B,hB⟩
  have hloc:E'.loc id=E.loc id:=(hE.loc id Dl.1 Dl.2).resolve_left my.2
  rw [hloc]
  have h0:=hm.at_ id B hB
  cases hl:E.loc id with
  |none=>
   rw [hl] at h0
   have mw:B.els=[]:=h0
   show B'.els=[]
   rw [mw] at eJ
   exact PU (by simpa using eJ.symm)
  |some b=>
   rw [hl] at h0
   have get:∀{els gU:List (List AV)} {i:Nat} {ds:List AV},els.length=gU.length->gU[i]? =some ds->∃cs,els[i]? =some cs:=fun {els gU i ds} hl h=>⟨_,OV (by rw [hl];exact (OO.1 h).1)⟩
   obtain ⟨h1,⟨hz0,arr,t,h2,h3,h4⟩|⟨hz0,es,c,h2,h3,h4⟩⟩:=h0
   ·refine .iT ⟨h1,arr,t,by rw [hw];exact h2,by rw [<-eJ,hz];exact h3,fun i ds hi=> ?_⟩ (by rw [hz];exact hz0)
    obtain ⟨cs,hc⟩:=get eJ hi
    obtain ⟨e1,e2⟩:=hf i cs ds hc hi
    refine ⟨by rw [<-e1,hz];exact (h4 i cs hc).1,fun j d hj=> ?_⟩
    have bj:j<cs.length:=by rw [e1];exact (OO.1 hj).1
    obtain ⟨u,u1,u2,u3⟩:=(h4 i cs hc).2 j cs[j] (OV bj)
    exact ⟨u,by rw [hz];exact u1,u2,rep (e2 j _ d (OV bj) hj) u3⟩
   ·refine .ofMap ⟨h1,es,c,by rw [hw];exact h2,by rw [<-eJ];exact h3,fun i e ds he hi=> ?_⟩ (by rw [hz];exact hz0)
    obtain ⟨cs,hc⟩:=get eJ hi
    obtain ⟨e1,e2⟩:=hf i cs ds hc hi
    obtain ⟨x,rfl,x2,x3⟩:=h4 i e cs he hc
    match ds,e1 with
    |[d1,d2],_=>
     have f1:=e2 0 _ d1 rfl rfl
     have f2:=e2 1 _ d2 rfl rfl
     have:d1= .v e.key:=by
      generalize hq:(AV.v e.key)=q at f1
      cases f1 with
      |refl=>rfl
      |snap _ h=>subst hq;simp [snap1,AV.pu1,RM.run] at h;exact h.symm
      |_=>simp at hq
     subst this
     exact ⟨d2,rfl,x2,rep f2 x3⟩
 ·obtain ⟨q1,B3,q2,_⟩:=old h1
  obtain ⟨q3,B4,q4,_⟩:=old h2
  exact hM.apart id b9 b B3 B4 (kq q1 q2) (kq q3 q4) h3 h4
 ·obtain ⟨q1,B3,q2,_⟩:=old hg
  exact hM.out id b B3 (kq q1 q2) hb hI
 ·obtain ⟨q1,B3,q2,q3,q4,_⟩:=old hg
  rw [<-q4]
  exact hM.len id B3 (kq q1 q2) (by rw [<-q3];exact hz)
 ·obtain ⟨q1,B3,q2,_⟩:=old hk
  exact (hM.xo b hX).2.2 k B3 (kq q1 q2) he
end
section
variable {τ:Type} {dn:τ->Type} [DecidableEq τ]
def uV (D:TD τ dn) (ta:τ) (A:List (Nat×List (dn ta))):SB τ dn->Option (SB τ dn×Prop)
 | .bl t K=>match D.fz t ta A with
  |some ⟨t',f,O⟩=>some (.bl t' (K.map f),∀x,x∈K->O x)
  |none=>none
 |_=>none
def mY (D:TD τ dn) (st:SS τ dn) (ta:τ) (A:List (Nat×List (dn ta))):List Nat->List (Nat×(SB τ dn×Prop))
 |[]=>[]
 |nm::l=>match st.gm nm with
  |some B=>match uV D ta A B with
   |some q=>bif !Nat.beq nm 0&&st.rw nm then (nm,q)::mY D st ta A l else mY D st ta A l
   |none=>mY D st ta A l
  |none=>mY D st ta A l
theorem r9 {D:TD τ dn} {st:SS τ dn} {ta:τ} {A:List (Nat×List (dn ta))}:∀{l:List Nat} {q:Nat×(SB τ dn×Prop)},q∈mY D st ta A l->∃B,st.gm q.1=some B/\uV D ta A B=some q.2/\q.1≠0/\st.rw q.1=true
 |[],q,h=>by simp [mY] at h
 |nm::l,q,h=>by
  simp only [mY] at h
  split at h
  ·rename_i B hB
   split at h
   ·rename_i p hp
    cases hc:(!Nat.beq nm 0&&st.rw nm) with
    |false=>rw [hc,O0] at h;exact r9 h
    |true=>
     rw [hc,OL,OU] at h
     rcases h with rfl|h
     ·simp only [OJ,O4] at hc
      exact ⟨B,hB,hp,fun e=>by have:=hc.1;rw [show nm=0 from e] at this;simp at this,hc.2⟩
     ·exact r9 h
   ·exact r9 h
  ·exact r9 h
def SS.uW (D:TD τ dn) (st:SS τ dn) (l:List Nat):Option (List Prop×SS τ dn):=match st.gm 0 with
 |some (.ar ta A)=>match mY D st ta A l with
  |[]=>none
  |q::L=>bif D.pu ta&&st.rw 0 then some ((q::L).map (fun q=>q.2.2),⟨st.rt,st.rm,st.t,(q::L).map (fun q=>(q.1,some q.2.1))++(0,some (.ar ta []))::st.m,st.nx⟩) else none
 |_=>none
theorem Dm {α β:Type} {f:β->α} {r:List (Nat×α)}:∀{L:List (Nat×β)} {a:Nat},(∃q,q∈L/\q.1=a/\getS (L.map (fun q=>(q.1,f q.2))++r) a=some (f q.2))\/((∀q,q∈L->q.1≠a)/\getS (L.map (fun q=>(q.1,f q.2))++r) a=getS r a)
 |[],a=> .inr ⟨fun q h=>by simp at h,rfl⟩
 |q::L,a=>by
  rw [OX,P3,bk]
  by_cases h:a=q.1
  ·rw [OI h];exact .inl ⟨q,PH ..,h.symm,rfl⟩
  ·rw [OH h]
   rcases Dm (f:=f) (r:=r) (L:=L) (a:=a) with ⟨p,h1,h2,h3⟩|⟨h1,h2⟩
   ·exact .inl ⟨p,Px _ h1,h2,h3⟩
   ·refine .inr ⟨fun p hp=> ?_,h2⟩
    rcases OU.1 hp with rfl|hp
    ·exact fun e=>h e.symm
    ·exact h1 p hp
theorem Dn {D:TD τ dn} (ok:bh D) {st aw:SS τ dn} (R:Rel D N st s) (h:st.uW D l=some (O,aw)) (hO:∀p,p∈O->p):∃s',s.Le k0 n s'/\Rel D N aw s'/\aw.rt=st.rt/\aw.rm=st.rm/\aw.nx=st.nx:=by
 unfold SS.uW at h
 split at h
 case h_2=>simp at h
 rename_i ta A jJ
 split at h
 ·simp at h
 rename_i q0 L0 hL
 cases hc:(D.pu ta&&st.rw 0) with
 |false=>rw [hc] at h;simp at h
 |true=>
 rw [hc,OL,OG,OT] at h
 obtain ⟨rfl,rfl⟩:=h
 have cZ:∀q,q∈q0::L0->∃B,st.gm q.1=some B/\uV D ta A B=some q.2/\q.1≠0/\st.rw q.1=true:=fun q hq=>r9 (l:=l) (by rw [hL];exact hq)
 generalize q0::L0=L at hO cZ
 clear hL q0 L0
 simp only [OJ] at hc
 obtain ⟨qU,yu⟩:=hc
 obtain ⟨⟨B2,m2⟩,r2⟩:=jW yu
 have hB2:B2= .ar ta A:=by have:=mQ m2;rw [this] at jJ;simpa using jJ
 subst hB2
 have nY:=R.ml 0 _ m2
 have hA:=R.here
 have hrow:=hA.ar ta A (.inl m2)
 have xO:=R.sp ta A (.inl m2)
 have hq:∀q,q∈L->∃t K t' f O,getS st.m q.1=some (some (.bl t K))/\getS st.rm q.1=none/\q.1≠0/\D.fz t ta A=some ⟨t',f,O⟩/\q.2.1= .bl t' (K.map f)/\∀x,x∈K->O x:=fun q hq=>by
  obtain ⟨B,h1,h2,h3,h4⟩:=cZ q hq
  obtain ⟨⟨B1,m1⟩,r1⟩:=jW h4
  have hB1:B1=B:=by have:=mQ m1;rw [this] at h1;simpa using h1
  subst hB1
  unfold uV at h2
  split at h2
  case h_2=>simp at h2
  rename_i t K
  split at h2
  case h_2=>simp at h2
  rename_i t' f O hfz
  simp only [OG] at h2
  have e1:q.2.1= .bl t' (K.map f):=by rw [<-h2]
  have e2:q.2.2=∀x,x∈K->O x:=by rw [<-h2]
  have e3:q.2.2:=hO _ (Pc.2 ⟨q,hq,rfl⟩)
  exact ⟨t,K,t',f,O,m1,r1,h3,hfz,e1,e2▸e3⟩
 have sa:∀q p,q∈L->p∈L->q.1=p.1->q=p:=fun q p hq hp e=>by
  obtain ⟨B,h1,h2,_⟩:=cZ q hq
  obtain ⟨C,g1,g2,_⟩:=cZ p hp
  rw [e,g1] at h1
  simp only [OG] at h1;subst h1
  rw [g2] at h2
  simp only [OG] at h2
  exact Prod.ext e h2.symm
 let F:List Nat:=A.map Prod.fst
 have yQ:∀{id},id∈F↔dA A id:=fun {id}=>Iff.rfl
 let φ:AV->AV:=fun a=>match a with
  | .own id sz off n=>if id∈F then ((snap1 (.own id sz off n)).run s.g).getD (.own id sz off n) else .own id sz off n
  |a=>a
 have LH:∀a,a.pu1=true->φ a=a:=fun a ha=>by cases a<;>first|rfl|(simp [AV.pu1] at ha)
 have LI:∀a,Fz s.g F a (φ a):=fun a=>by
  cases a with
  |own id sz off n=>
   show Fz s.g F _ (if id∈F then _ else _)
   by_cases hid:id∈F
   ·rw [OI hid]
    cases hs:(snap1 (.own id sz off n)).run s.g with
    |none=>exact .refl
    |some a'=>exact .snap (fun i hi=>by simp only [AV.bV,OP] at hi;subst hi;exact hid) hs
   ·rw [OH hid];exact .refl
  |_=>exact .refl
 have LJ:∀id n,dA A id->(fD A id).length=n->φ (.own id (D.sz ta) 0 n)= .aX (D.sz ta) ((fD A id).map (D.ea N.ρ ta)):=fun id n hid hn=>by
  show (if id∈F then _ else _)=_
  rw [OI (yQ.2 hid)]
  have c1:(content (D.sz ta) (.own id (D.sz ta) 0 n)).run s.g=some ((fD A id).map (D.ea N.ρ ta)):=by
   simp only [content,RM.run,hrow id hid, <-hn,OZ,O7,OQ,O5,OK,Qs]
   rw [Qa (by simp)]
  have bM:(((fD A id).map (D.ea N.ρ ta)).all fun cs=>cs.all AV.pu1)=true:=by
   simp only [ON,Pc]
   rintro _ ⟨y,_,rfl⟩
   have:=ok.pu1 N ta y qU
   simpa [ON] using this
  simp only [snap1]
  rw [dw c1]
  simp only [bM,OK,RM.run,PA]
 have eL:∀a B,st.bB a B->¬N.ι a∈F:=fun a B hB hh=>(xO _ (yQ.1 hh)).2 a B hB rfl
 have hlt:∀q,q∈L->q.1<st.nx:=fun q iz=>by
  obtain ⟨t,K,t',f,O,h1,_⟩:=hq q iz
  exact R.ml _ _ h1
 let g':Nat->Option Bk:=fun id=>if id∈F then none else match L.find? fun q=>N.ι q.1==id with
  |some q=>some (q.2.1.av D.toTE N)
  |none=>s.g id
 have gc:∀id,¬id∈F->(∃q,q∈L/\N.ι q.1=id/\g' id=some (q.2.1.av D.toTE N))\/((∀q,q∈L->N.ι q.1≠id)/\g' id=s.g id):=fun id hid=>by
  show (∃q,q∈L/\N.ι q.1=id/\(if id∈F then none else match L.find? (fun q=>N.ι q.1==id) with|some q=>some (q.2.1.av D.toTE N)|none=>s.g id)=some (q.2.1.av D.toTE N))\/((∀q,q∈L->N.ι q.1≠id)/\(if id∈F then none else match L.find? (fun q=>N.ι q.1==id) with|some q=>some (q.2.1.av D.toTE N)|none=>s.g id)=s.g id)
  rw [OH hid]
  cases hf:L.find? (fun q=>N.ι q.1==id) with
  |none=>
   rw [List.find?_eq_none] at hf
   exact .inr ⟨fun q hq e=>by have:=hf q hq;simp [e] at this,rfl⟩
  |some q=>
   have h1:=List.find?_some hf
   simp only [beq_iff_eq] at h1
   exact .inl ⟨q,List.mem_of_find?_eq_some hf,h1,rfl⟩
 refine ⟨⟨s.σ,g',s.k⟩,S3.Dh (F:=F) (fun i=> .refl) (fun id hid=>⟨_,hrow id (yQ.1 hid)⟩) (fun id hid=>OI hid) (fun id hid hn=> ?_) (fun id B hid hB=> ?_), ?_,rfl,rfl,rfl⟩
 ·show g' id=none
  rcases gc id hid with ⟨q,h1,h2,h3⟩|⟨h1,h2⟩
  ·obtain ⟨t,K,t',f,O,m1,_⟩:=hq q h1
   rw [<-h2,(hA.bl _ _ m1).1] at hn;simp at hn
  ·rw [h2];exact hn
 ·show ∃B',g' id=some B'/\_
  rcases gc id hid with ⟨q,h1,h2,h3⟩|⟨h1,h2⟩
  ·obtain ⟨t,K,t',f,O,m1,_,_,hfz,e1,LL⟩:=hq q h1
   obtain ⟨hz,LM⟩:=ok.fz N φ t ta A t' f O hfz LH LJ
   rw [<-h2,(hA.bl _ _ m1).1] at hB
   simp only [SB.av,OG] at hB
   subst hB
   refine ⟨_,h3,by rw [e1];exact hz,by rw [e1];simp [SB.av],fun i cs ds h1 h2=> ?_⟩
   rw [e1] at h2
   simp only [SB.av,O6,OM] at h1 h2
   obtain ⟨x,hx,rfl⟩:=h1
   obtain ⟨_,⟨y,hy,rfl⟩,rfl⟩:=h2
   rw [hx] at hy;simp only [OG] at hy;subst hy
   have e:=LM x (LL x (Pd hx))
   rw [<-e]
   refine ⟨by simp,fun j c d h3 h4=> ?_⟩
   rw [O6,h3] at h4
   simp only [OS,OG] at h4
   subst h4;exact LI c
  ·rw [h2];exact ⟨B,hB,rfl,ma.refl⟩
 ·have dq:∀a X,getS (L.map (fun q=>(q.1,some q.2.1))++(0,some (SB.ar ta ([]:List (Nat×List (dn ta)))))::st.m) a=some X->(∃q,q∈L/\q.1=a/\X=some q.2.1)\/(a=0/\X=some (.ar ta []))\/(a≠0/\(∀q,q∈L->q.1≠a)/\getS st.m a=some X):=fun a X h=>by
   rcases Dm (f:=fun p:SB τ dn×Prop=>some p.1) (r:=(0,some (SB.ar ta ([]:List (Nat×List (dn ta)))))::st.m) (L:=L) (a:=a) with ⟨q,h1,h2,h3⟩|⟨h1,h2⟩
   ·rw [h3] at h;simp only [OG] at h;exact .inl ⟨q,h1,h2,h.symm⟩
   ·rw [h2,bk] at h
    by_cases h0:a=0
    ·rw [OI h0] at h;simp only [OG] at h;exact .inr (.inl ⟨h0,h.symm⟩)
    ·rw [OH h0] at h;exact .inr (.inr ⟨h0,h1,h⟩)
  have Dp:∀t2 A2,(⟨st.rt,st.rm,st.t,L.map (fun q=>(q.1,some q.2.1))++(0,some (.ar ta []))::st.m,st.nx⟩:SS τ dn).bB 0 (.ar t2 A2)->∀id,¬dA A2 id:=fun t2 A2 h id hid=>by
   rcases h with h|h
   ·rcases dq 0 _ h with ⟨q,h1,e,_⟩|⟨_,e⟩|⟨e,_⟩
    ·obtain ⟨t,K,t',f,O,m1,_,hz,_⟩:=hq q h1
     exact hz e
    ·simp only [OG,SB.ar.injEq] at e
     obtain ⟨rfl,e⟩:=e
     have e:=eq_of_heq e
     subst e;exact B7 hid
    ·exact e rfl
   ·have h':getS st.rm 0=some (some (.ar t2 A2)):=h
    rw [r2] at h';simp at h'
  refine ⟨fun N' hN=> ?_,R.inj,R.lt,fun a X h=> ?_,R.rl,fun t2 A2 h id hid=>absurd hid (Dp t2 A2 h id)⟩
  ·have A':=R.at_ N' hN
   have yR:∀a B,st.bB a B->a<st.nx->(∀q,q∈L->q.1≠a)->g' (N'.ι a)=s.g (N'.ι a):=fun a B hB ha hne=>by
    rw [(hN.1 a ha).1]
    rcases gc (N.ι a) (eL a B hB) with ⟨q,h1,h2,_⟩|⟨_,h2⟩
    ·exact absurd (R.inj q.1 a (hlt q h1) ha h2) (hne q h1)
    ·exact h2
   refine ⟨A'.sl,A'.rs,fun a B h=> ?_,fun a B h=> ?_,fun t2 A2 h id hid=>absurd hid (Dp t2 A2 h id)⟩
   ·rcases dq a _ h with ⟨q,h1,rfl,e⟩|⟨rfl,e⟩|⟨h0,h1,h2⟩
    ·simp only [OG] at e;subst e
     obtain ⟨t,K,t',f,O,m1,_,_,_,e1,_⟩:=hq q h1
     refine ⟨?_, ?_⟩
     ·show g' (N'.ι q.1)=_
      rw [(hN.1 q.1 (hlt q h1)).1]
      rcases gc (N.ι q.1) (eL q.1 _ (.inl m1)) with ⟨p,p1,p2,p3⟩|⟨p1,_⟩
      ·have:=sa p q p1 h1 (R.inj p.1 q.1 (hlt p p1) (hlt q h1) p2)
       subst this
       rw [p3,e1];simp only [SB.av,hN.2]
      ·exact absurd rfl (p1 q h1)
     ·have:=(A'.bl q.1 _ m1).2
      rw [this,e1];simp [SB.len]
    ·simp only [OG] at e;subst e
     have:=A'.bl 0 _ m2
     exact ⟨(yR 0 _ (.inl m2) nY (fun q h1 e=>by obtain ⟨t,K,t',f,O,_,_,hz,_⟩:=hq q h1;exact hz e)).trans this.1,this.2⟩
    ·have:=A'.bl a B h2
     exact ⟨(yR a B (.inl h2) (R.ml a _ h2) h1).trans this.1,this.2⟩
   ·have h':getS st.rm a=some (some B):=h
    have:=A'.rb a B h'
    exact ⟨(yR a B (.inr h') (R.rl a _ h') (fun q h1 e=>by subst e;obtain ⟨t,K,t',f,O,_,hr,_⟩:=hq q h1;rw [hr] at h';simp at h')).trans this.1,this.2⟩
  ·rcases dq a _ h with ⟨q,h1,rfl,_⟩|⟨rfl,_⟩|⟨_,_,h2⟩
   ·exact hlt q h1
   ·exact nY
   ·exact R.ml a _ h2
mutual
def SV.dV (D:TD τ dn) (st:SS τ dn) (nm:Nat):SV τ dn->SV τ dn
 | .own a sz=>bif Nat.beq a nm then (snap1S D st (.own a sz)).getD (.own a sz) else .own a sz
 | .ref a sz i o=>bif Nat.beq a nm then (snap1S D st (.ref a sz i o)).getD (.ref a sz i o) else .ref a sz i o
 | .agg cs=> .agg (SV.ir D st nm cs)
 | .aK cs=> .aK (SV.ir D st nm cs)
 | .fn f cs=> .fn f (SV.ir D st nm cs)
 | .bf f cs=> .bf f (SV.ir D st nm cs)
 | .vg p c v=> .vg p c v
 | .part a b c d=> .part a b c d
 | .pim cs o=> .pim cs o
 | .vc sz els=> .vc sz els
 | .mp a=> .mp a
 | .vi x=> .vi x
 | .vn x=> .vn x
 | .vy x=> .vy x
 | .vu x=> .vu x
 | .vw q x=> .vw q x
 | .vb c=> .vb c
 | .vt x=> .vt x
 | .vz x=> .vz x
 | .vo x=> .vo x
 | .vl a b=> .vl a b
 | .emp=> .emp
 | .rw a b=> .rw a b
 | .cU a b c d=> .cU a b c d
 | .dead=> .dead
def SV.ir (D:TD τ dn) (st:SS τ dn) (nm:Nat):List (SV τ dn)->List (SV τ dn)
 |[]=>[]
 |v::l=>SV.dV D st nm v::SV.ir D st nm l
end
section
variable {D:TD τ dn} {N N':aC} {st:SS τ dn} {σ:Nat->AV} {g:Nat->Option Bk} {nm:Nat}
theorem Dq (ok:bh D) (R:bm D N st σ g) (R':bm D N' st σ g) {v:SV τ dn} (hid:∀id,id∈(v.av D.toTE N).bV->id∈[N.ι nm]):Fz g [N.ι nm] (v.av D.toTE N) (((snap1S D st v).getD v).av D.toTE N)/\(v.av D.toTE N'=v.av D.toTE N->((snap1S D st v).getD v).av D.toTE N'=((snap1S D st v).getD v).av D.toTE N):=by
 cases hs:snap1S D st v with
 |none=>exact ⟨.refl,fun h=>h⟩
 |some w=>
  have h1:=uk ok R hs
  refine ⟨.snap hid h1,fun h=> ?_⟩
  have h2:=uk ok R' hs
  rw [h,h1] at h2
  simpa using h2.symm
mutual
theorem yS (ok:bh D) (R:bm D N st σ g) (R':bm D N' st σ g):∀v:SV τ dn,Fz g [N.ι nm] (v.av D.toTE N) ((v.dV D st nm).av D.toTE N)/\(v.av D.toTE N'=v.av D.toTE N->(v.dV D st nm).av D.toTE N'=(v.dV D st nm).av D.toTE N)
 | .own a sz=>by
  simp only [SV.dV]
  cases hb:Nat.beq a nm with
  |false=>exact ⟨.refl,fun h=>h⟩
  |true=>
   rw [OL]
   have:=OR hb
   subst this
   exact Dq ok R R' (fun id hid=>by simpa [SV.av,AV.bV] using hid)
 | .ref a sz i o=>by
  simp only [SV.dV]
  cases hb:Nat.beq a nm with
  |false=>exact ⟨.refl,fun h=>h⟩
  |true=>
   rw [OL]
   have:=OR hb
   subst this
   exact Dq ok R R' (fun id hid=>by simpa [SV.av,AV.bV] using hid)
 | .agg cs=>by
  obtain ⟨h1,h2,h3⟩:=pK ok R R' cs
  simp only [SV.dV,SV.av]
  exact ⟨.agg h1 h2,fun h=>by simp only [AV.agg.injEq] at h ⊢; exact h3 h⟩
 | .aK cs=>by
  obtain ⟨h1,h2,h3⟩:=pK ok R R' cs
  simp only [SV.dV,SV.av]
  exact ⟨.aK h1 h2,fun h=>by simp only [AV.aK.injEq] at h ⊢; exact h3 h⟩
 | .fn f cs=>by
  obtain ⟨h1,h2,h3⟩:=pK ok R R' cs
  simp only [SV.dV,SV.av]
  exact ⟨.fn h1 h2,fun h=>by simp only [AV.fn.injEq,true_and] at h ⊢; exact h3 h⟩
 | .bf f cs=>by
  obtain ⟨h1,h2,h3⟩:=pK ok R R' cs
  simp only [SV.dV,SV.av]
  exact ⟨.bf h1 h2,fun h=>by simp only [AV.bf.injEq,true_and] at h ⊢; exact h3 h⟩
 | .vg p c v=>⟨by simp only [SV.dV];exact .refl,fun h=>by simp only [SV.dV];exact h⟩
 | .part _ _ _ _| .pim _ _| .vc _ _| .mp _| .vi _| .vn _| .vy _| .vu _| .vw _ _| .vb _| .vt _| .vz _| .vo _| .vl _ _| .emp| .rw _ _| .cU _ _ _ _| .dead=>⟨by simp only [SV.dV];exact .refl,fun h=>by simp only [SV.dV];exact h⟩
theorem pK (ok:bh D) (R:bm D N st σ g) (R':bm D N' st σ g):∀cs:List (SV τ dn),(SV.cz D.toTE N cs).length=(SV.cz D.toTE N (SV.ir D st nm cs)).length/\(∀(i:Nat) c d,(SV.cz D.toTE N cs)[i]? =some c->(SV.cz D.toTE N (SV.ir D st nm cs))[i]? =some d->Fz g [N.ι nm] c d)/\(SV.cz D.toTE N' cs=SV.cz D.toTE N cs->SV.cz D.toTE N' (SV.ir D st nm cs)=SV.cz D.toTE N (SV.ir D st nm cs))
 |[]=>⟨rfl,fun i c d h=>by simp [SV.cz] at h,fun _=>rfl⟩
 |v::l=>by
  obtain ⟨h1,h2,h3⟩:=pK ok R R' l
  obtain ⟨q1,q2⟩:=yS ok R R' v
  simp only [SV.ir,SV.cz]
  refine ⟨by simp [h1],fun i c d hc hd=> ?_,fun h=> ?_⟩
  ·cases i with
   |zero=>simp only [Pg,OG] at hc hd;subst hc;subst hd;exact q1
   |succ i=>exact h2 i c d (by simpa using hc) (by simpa using hd)
  ·simp only [Qp] at h ⊢
   exact ⟨q2 h.1,h3 h.2⟩
end
def SB.dW (D:TD τ dn) (st:SS τ dn) (nm:Nat):SB τ dn->SB τ dn
 | .bc sz els=> .bc sz (els.map (SV.ir D st nm))
 |B=>B
theorem Dr (ok:bh D) (R:bm D N st σ g) (R':bm D N' st σ g):∀els:List (List (SV τ dn)),ma g [N.ι nm] (SV.bU D.toTE N els) (SV.bU D.toTE N (els.map (SV.ir D st nm)))/\(SV.bU D.toTE N' els=SV.bU D.toTE N els->SV.bU D.toTE N' (els.map (SV.ir D st nm))=SV.bU D.toTE N (els.map (SV.ir D st nm)))
 |[]=>⟨⟨rfl,fun i c d h=>by simp [SV.bU] at h⟩,fun _=>rfl⟩
 |cs::l=>by
  obtain ⟨⟨h1,h2⟩,h3⟩:=Dr ok R R' l
  obtain ⟨q1,q2,q3⟩:=pK ok R R' (nm:=nm) cs
  simp only [OX,SV.bU]
  refine ⟨⟨by simp [h1],fun i c d hc hd=> ?_⟩,fun h=> ?_⟩
  ·cases i with
   |zero=>simp only [Pg,OG] at hc hd;subst hc;subst hd;exact ⟨q1,q2⟩
   |succ i=>exact h2 i c d (by simpa using hc) (by simpa using hd)
  ·simp only [Qp] at h ⊢
   exact ⟨q3 h.1,h3 h.2⟩
theorem yT (ok:bh D) (R:bm D N st σ g) (R':bm D N' st σ g) (B:SB τ dn):((B.dW D st nm).av D.toTE N).sz=(B.av D.toTE N).sz/\ma g [N.ι nm] (B.av D.toTE N).els ((B.dW D st nm).av D.toTE N).els/\(B.av D.toTE N'=B.av D.toTE N->(B.dW D st nm).av D.toTE N'=(B.dW D st nm).av D.toTE N)/\(B.dW D st nm).len=B.len/\∀t A,B.dW D st nm= .ar t A↔B= .ar t A:=by
 cases B with
 |bc sz els=>
  obtain ⟨h1,h2⟩:=Dr ok R R' (nm:=nm) els
  refine ⟨rfl,h1,fun h=> ?_,by simp [SB.dW,SB.len],fun t A=>by simp [SB.dW]⟩
  simp only [SB.dW,SB.av,Bk.mk.injEq,true_and] at h ⊢
  exact h2 h
 |_=>exact ⟨rfl,ma.refl,fun h=>h,rfl,fun t A=>Iff.rfl⟩
def SS.uX (D:TD τ dn) (st:SS τ dn) (nm:Nat):Option (SS τ dn):=
 bif !Nat.beq nm 0&&(st.rw nm&&st.rm.all fun q=>(getS st.m q.1).isNone) then
  some ⟨st.rt,st.rm,st.t.map fun q=>(q.1,bif (getS st.rt q.1).isSome then q.2 else q.2.dV D st nm),(nm,none)::st.m.map fun q=>(q.1,q.2.map (SB.dW D st nm)),st.nx⟩
 else none
theorem Ds {α β:Type} (f:Nat->α->β):∀{l:List (Nat×α)} {i:Nat},getS (l.map fun q=>(q.1,f q.1 q.2)) i=(getS l i).map (f i)
 |[],i=>rfl
 |(j,v)::r,i=>by
  rw [OX,bk,bk,Ds f (l:=r)]
  by_cases h:i=j
  ·subst h;simp
  ·simp [h]
end
theorem Dt {D:TD τ dn} (ok:bh D) {st aw:SS τ dn} (R:Rel D N st s) (h:st.uX D nm=some aw):∃s',s.Le k0 n s'/\Rel D N aw s'/\aw.rt=st.rt/\aw.rm=st.rm/\aw.nx=st.nx:=by
 unfold SS.uX at h
 cases hc:(!Nat.beq nm 0&&(st.rw nm&&st.rm.all fun q=>(getS st.m q.1).isNone)) with
 |false=>rw [hc] at h;simp at h
 |true=>
 rw [hc,OL,OG] at h
 subst h
 simp only [OJ,O4] at hc
 obtain ⟨nu,hw,cN⟩:=hc
 have CL:nm≠0:=fun e=>by subst e;simp at nu
 obtain ⟨⟨B1,m1⟩,r1⟩:=jW hw
 have hlt:=R.ml nm _ m1
 have hA:=R.here
 have LN:∀a B,getS st.rm a=some B->getS st.m a=none:=fun a B h=>by
  have:=ON.1 cN _ (jq h)
  simpa using this
 let g':Nat->Option Bk:=fun id=>if id=N.ι nm then none else match (List.range st.nx).find? fun a=>N.ι a==id with
  |some a=>match getS st.m a with
   |some (some B)=>some ((B.dW D st nm).av D.toTE N)
   |_=>s.g id
  |none=>s.g id
 let σ':Nat->AV:=fun i=>match getS st.rt i with
  |some _=>s.σ i
  |none=>match getS st.t i with
   |some v=>(v.dV D st nm).av D.toTE N
   |none=>s.σ i
 have find:∀a,a<st.nx->(List.range st.nx).find? (fun b=>N.ι b==N.ι a)=some a:=fun a ha=>by
  cases hf:(List.range st.nx).find? (fun b=>N.ι b==N.ι a) with
  |none=>
   rw [List.find?_eq_none] at hf
   exact absurd (hf a (Pj.2 ha)) (by simp)
  |some b=>
   have h1:=List.find?_some hf
   have h2:=Pj.1 (List.mem_of_find?_eq_some hf)
   simp only [beq_iff_eq] at h1
   rw [R.inj b a h2 ha h1]
 have Du:∀a B,getS st.m a=some (some B)->a≠nm->g' (N.ι a)=some ((B.dW D st nm).av D.toTE N):=fun a B hB hne=>by
  have ha:=R.ml a _ hB
  show (if N.ι a=N.ι nm then none else match (List.range st.nx).find? (fun b=>N.ι b==N.ι a) with|some a=>(match getS st.m a with|some (some B)=>some ((B.dW D st nm).av D.toTE N)|_=>s.g _)|none=>s.g _)=_
  rw [OH (fun e=>hne (R.inj a nm ha hlt e)),find a ha]
  simp only [hB]
 have LO:∀a B,getS st.rm a=some (some B)->g' (N.ι a)=s.g (N.ι a):=fun a B hB=>by
  have ha:=R.rl a _ hB
  have hne:a≠nm:=fun e=>by subst e;rw [r1] at hB;simp at hB
  show (if N.ι a=N.ι nm then none else match (List.range st.nx).find? (fun b=>N.ι b==N.ι a) with|some a=>(match getS st.m a with|some (some B)=>some ((B.dW D st nm).av D.toTE N)|_=>s.g _)|none=>s.g _)=_
  rw [OH (fun e=>hne (R.inj a nm ha hlt e)),find a ha]
  simp only [LN a _ hB]
 have cq:=(hA.bl nm _ m1).1
 have yU:∀id,id≠N.ι nm->g' id=s.g id\/∃a B,id=N.ι a/\getS st.m a=some (some B)/\a≠nm/\g' id=some ((B.dW D st nm).av D.toTE N):=fun id hid=>by
  show (if id=N.ι nm then none else match (List.range st.nx).find? (fun b=>N.ι b==id) with|some a=>(match getS st.m a with|some (some B)=>some ((B.dW D st nm).av D.toTE N)|_=>s.g id)|none=>s.g id)=_\/_
  rw [OH hid]
  cases hf:(List.range st.nx).find? (fun b=>N.ι b==id) with
  |none=>exact .inl rfl
  |some a=>
   have h1:=List.find?_some hf
   simp only [beq_iff_eq] at h1
   cases hq:getS st.m a with
   |none=>exact .inl (by simp only [hq])
   |some x=>
    cases x with
    |none=>exact .inl (by simp only [hq])
    |some B=>
     have hne:a≠nm:=fun e=>hid (by rw [<-h1,e])
     exact .inr ⟨a,B,h1.symm,hq,hne,by rw [<-h1];exact Du a B hq hne⟩
 refine ⟨⟨σ',g',s.k⟩,S3.Dh (F:=[N.ι nm]) (fun i=> ?_) (fun id hid=> ?_) (fun id hid=> ?_) (fun id hid hn=> ?_) (fun id B hid hB=> ?_), ?_,rfl,rfl,rfl⟩
 ·show Fz s.g _ (s.σ i) (match getS st.rt i with|some _=>s.σ i|none=>match getS st.t i with|some v=>(v.dV D st nm).av D.toTE N|none=>s.σ i)
  split
  ·exact .refl
  ·split
   ·rename_i v hv
    rw [hA.sl i v hv];exact (yS ok hA hA v).1
   ·exact .refl
 ·simp only [OP] at hid;subst hid;exact ⟨_,cq⟩
 ·simp only [OP] at hid;subst hid;exact OI rfl
 ·simp only [OP] at hid
  rcases yU id hid with h|⟨a,B,rfl,h2,h3,h4⟩
  ·rw [h];exact hn
  ·rw [(hA.bl a B h2).1] at hn;simp at hn
 ·simp only [OP] at hid
  rcases yU id hid with h|⟨a,B2,rfl,h2,h3,h4⟩
  ·exact ⟨B,by rw [h];exact hB,rfl,ma.refl⟩
  ·rw [(hA.bl a B2 h2).1] at hB
   simp only [OG] at hB;subst hB
   obtain ⟨q1,q2,_⟩:=yT ok hA hA (nm:=nm) B2
   exact ⟨_,h4,q1,q2⟩
 ·have dq:∀a X,getS ((nm,(none:Option (SB τ dn)))::st.m.map fun q=>(q.1,q.2.map (SB.dW D st nm))) a=some (some X)->a≠nm/\∃B,getS st.m a=some (some B)/\X=B.dW D st nm:=fun a X h=>by
   rw [bk,pz (Option.map (SB.dW D st nm))] at h
   by_cases h1:a=nm
   ·rw [OI h1] at h;simp at h
   ·rw [OH h1] at h
    simp only [OM] at h
    obtain ⟨x,hx,B,rfl,rfl⟩:=h
    exact ⟨h1,B,hx,rfl⟩
  have cQ:∀a X,(⟨st.rt,st.rm,st.t.map fun q=>(q.1,bif (getS st.rt q.1).isSome then q.2 else q.2.dV D st nm),(nm,none)::st.m.map fun q=>(q.1,q.2.map (SB.dW D st nm)),st.nx⟩:SS τ dn).bB a X->∃X',st.bB a X'/\∀t A,X= .ar t A->X'= .ar t A:=fun a X h=>by
   rcases h with h|h
   ·obtain ⟨_,B,hB,rfl⟩:=dq a X h
    exact ⟨B, .inl hB,fun t A e=>((yT ok hA hA (nm:=nm) B).2.2.2.2 t A).1 e⟩
   ·exact ⟨X, .inr h,fun t A e=>e⟩
  refine ⟨fun N' hN=> ?_,R.inj,R.lt,fun a X h=> ?_,R.rl,fun t A h id hid=> ?_⟩
  ·have A':=R.at_ N' hN
   refine ⟨fun i v h=> ?_,fun i v h=> ?_,fun a X h=> ?_,fun a X h=> ?_,fun t A h id hid=> ?_⟩
   ·have h':getS (st.t.map fun q=>(q.1,bif (getS st.rt q.1).isSome then q.2 else q.2.dV D st nm)) i=some v:=h
    rw [Ds (fun (j:Nat) (w:SV τ dn)=>bif (getS st.rt j).isSome then w else w.dV D st nm)] at h'
    simp only [OM] at h'
    obtain ⟨w,hw2,rfl⟩:=h'
    show (match getS st.rt i with|some _=>s.σ i|none=>match getS st.t i with|some v=>(v.dV D st nm).av D.toTE N|none=>s.σ i)=_
    cases hr:getS st.rt i with
    |some u=>simp only [Option.isSome_some,OL];exact A'.sl i w hw2
    |none=>
     simp only [hw2,Option.isSome_none,O0]
     exact ((yS ok hA A' w).2 ((A'.sl i w hw2).symm.trans (hA.sl i w hw2))).symm
   ·show (match getS st.rt i with|some _=>s.σ i|none=>match getS st.t i with|some v=>(v.dV D st nm).av D.toTE N|none=>s.σ i)=_
    have h':getS st.rt i=some v:=h
    simp only [h'];exact A'.rs i v h'
   ·obtain ⟨h1,B,hB,rfl⟩:=dq a X h
    obtain ⟨q1,q2,q3,q4,q5⟩:=yT ok hA A' (nm:=nm) B
    have ha:=R.ml a _ hB
    refine ⟨?_,by rw [q4];exact (A'.bl a B hB).2⟩
    show g' (N'.ι a)=_
    rw [(hN.1 a ha).1,Du a B hB h1]
    congr 1
    refine (q3 ?_).symm
    have e1:=(A'.bl a B hB).1
    rw [(hN.1 a ha).1,(hA.bl a B hB).1] at e1
    simpa using e1.symm
   ·have h':getS st.rm a=some (some X):=h
    have ha:=R.rl a _ h'
    refine ⟨?_,(A'.rb a X h').2⟩
    show g' (N'.ι a)=_
    have e1:=(A'.rb a X h').1
    rw [(hN.1 a ha).1] at e1 ⊢
    rw [LO a X h'];exact e1
   ·obtain ⟨X',h1,h2⟩:=cQ 0 _ h
    have h2:=h2 t A rfl
    subst h2
    have e:=A'.ar t A h1 id hid
    have hs:=(R.sp t A h1 id hid).2
    show g' id=_
    rcases yU id (fun e=>hs nm _ (.inl m1) e.symm) with h3|⟨a,B,rfl,h4,_,_⟩
    ·rw [h3];exact e
    ·exact absurd rfl (hs a B (.inl h4))
  ·have h':getS ((nm,(none:Option (SB τ dn)))::st.m.map fun q=>(q.1,q.2.map (SB.dW D st nm))) a=some X:=h
   rw [bk,pz (Option.map (SB.dW D st nm))] at h'
   show a<st.nx
   by_cases h1:a=nm
   ·subst h1;exact hlt
   ·rw [OH h1] at h'
    simp only [OM] at h'
    obtain ⟨x,hx,_⟩:=h'
    exact R.ml a _ hx
  ·obtain ⟨X',h1,h2⟩:=cQ 0 _ h
   have h2:=h2 t A rfl
   subst h2
   obtain ⟨q1,q2⟩:=R.sp t A h1 id hid
   refine ⟨q1,fun a X hX=> ?_⟩
   obtain ⟨X',h3,_⟩:=cQ a X hX
   exact q2 a X' h3
def Dv:SV τ dn->List Nat
 | .own nm _| .ref nm _ _ _=>[nm]
 |_=>[]
def Dw:SV τ dn->List Nat
 | .agg cs| .fn _ cs| .bf _ cs| .aK cs=>cs.flatMap Dv
 |v=>Dv v
def sc (D:TD τ dn) (F:Nat->SS τ dn->(SS τ dn->Prop)->Prop):List Nat->SS τ dn->(SS τ dn->Prop)->Prop
 |[],st,K=>K st
 |a::l,st,K=>F a st fun st=>match st.uX D a with
  |some aw=>sc D F l aw K
  |none=>sc D F l st K
def sd (D:TD τ dn):Nat->Nat->SS τ dn->(SS τ dn->Prop)->Prop
 |0,_,st,K=>K st
 |d+1,nm,st,K=>sc D (sd D d) (match st.gm nm with
  |some (.bc _ els)=>els.flatMap fun (cs:List (SV τ dn))=>cs.flatMap Dw
  |_=>([]:List Nat)) st fun st=>match st.uW D [nm] with
   |some (O,aw)=>fF O (K aw)
   |none=>K st
theorem Dx {D:TD τ dn} (ok:bh D) {N:aC} {n k0:Nat}:∀(d nm:Nat) {st:SS τ dn} {s:S3} {K:SS τ dn->Prop},Rel D N st s->sd D d nm st K->∃s' aw,s.Le k0 n s'/\Rel D N aw s'/\aw.rt=st.rt/\aw.rm=st.rm/\aw.nx=st.nx/\K aw
 |0,nm,st,s,K,R,h=>⟨s,st,S3.Le.mV,R,rfl,rfl,rfl,h⟩
 |d+1,nm,st,s,K,R,h=>by
  simp only [sd] at h
  have go:∀(l:List Nat) {st:SS τ dn} {s:S3} {K:SS τ dn->Prop},Rel D N st s->sc D (sd D d) l st K->∃s' aw,s.Le k0 n s'/\Rel D N aw s'/\aw.rt=st.rt/\aw.rm=st.rm/\aw.nx=st.nx/\K aw:=by
   intro l
   induction l with
   |nil=>intro st s K R h;exact ⟨s,st,S3.Le.mV,R,rfl,rfl,rfl,h⟩
   |cons a l ih=>
    intro st s K R h
    simp only [sc] at h
    obtain ⟨s1,st1,p1,p2,p3,p4,p5,h1⟩:=Dx ok d a R h
    split at h1
    ·rename_i aY hf
     obtain ⟨s2,q1,q2,q3,q4,q5⟩:=Dt (n:=n) (k0:=k0) ok p2 hf
     obtain ⟨s3,mU,r1,r2,r3,r4,r5,r6⟩:=ih q2 h1
     exact ⟨s3,mU,(p1.trans' q1).trans' r1,r2,r3.trans (q3.trans p3),r4.trans (q4.trans p4),r5.trans (q5.trans p5),r6⟩
    ·obtain ⟨s3,mU,r1,r2,r3,r4,r5,r6⟩:=ih p2 h1
     exact ⟨s3,mU,p1.trans' r1,r2,r3.trans p3,r4.trans p4,r5.trans p5,r6⟩
  obtain ⟨s1,st1,p1,p2,p3,p4,p5,h1⟩:=go _ R h
  split at h1
  ·rename_i O aw hf
   rw [jX] at h1
   obtain ⟨s',q1,q2,q3,q4,q5⟩:=Dn (n:=n) (k0:=k0) ok p2 hf h1.1
   exact ⟨s',aw,p1.trans' q1,q2,q3.trans p3,q4.trans p4,q5.trans p5,h1.2⟩
  ·exact ⟨s1,st1,p1,p2,p3,p4,p5,h1⟩
def mZ (D:TD τ dn) (w:Bool):List Nat->SS τ dn->(SS τ dn->Prop)->Prop
 |[],st,K=>K st
 |a::l,st,K=>sd D 4 a st fun st=>bif w then (match st.uX D a with
  |some aw=>mZ D w l aw K
  |none=>mZ D w l st K) else mZ D w l st K
theorem yV {D:TD τ dn} (ok:bh D) {N:aC} {n k0:Nat} {w:Bool}:∀(l:List Nat) {st:SS τ dn} {s:S3} {K:SS τ dn->Prop},Rel D N st s->mZ D w l st K->∃s' aw,s.Le k0 n s'/\Rel D N aw s'/\aw.rt=st.rt/\aw.rm=st.rm/\aw.nx=st.nx/\K aw
 |[],st,s,K,R,h=>⟨s,st,S3.Le.mV,R,rfl,rfl,rfl,h⟩
 |a::l,st,s,K,R,h=>by
  simp only [mZ] at h
  obtain ⟨s1,st1,p1,p2,p3,p4,p5,h1⟩:=Dx (n:=n) (k0:=k0) ok 4 a R h
  have rest:∀{aY:SS τ dn} {s2:S3},s.Le k0 n s2->Rel D N aY s2->aY.rt=st.rt->aY.rm=st.rm->aY.nx=st.nx->mZ D w l aY K->∃s' aw,s.Le k0 n s'/\Rel D N aw s'/\aw.rt=st.rt/\aw.rm=st.rm/\aw.nx=st.nx/\K aw:=fun q1 q2 q3 q4 q5 hh=>by
   obtain ⟨s3,mU,r1,r2,r3,r4,r5,r6⟩:=yV ok l q2 hh
   exact ⟨s3,mU,q1.trans' r1,r2,r3.trans q3,r4.trans q4,r5.trans q5,r6⟩
  cases w with
  |false=>exact rest p1 p2 p3 p4 p5 h1
  |true=>
   rw [OL] at h1
   split at h1
   ·rename_i aY hf
    obtain ⟨s2,q1,q2,q3,q4,q5⟩:=Dt (n:=n) (k0:=k0) ok p2 hf
    exact rest (p1.trans' q1) q2 (q3.trans p3) (q4.trans p4) (q5.trans p5) h1
   ·exact rest p1 p2 p3 p4 p5 h1
def pL (D:TD τ dn) (w:Bool) (l:List Nat) (st:SS τ dn) (K:SS τ dn->Prop):Prop:=match st.uW D l with
 |some (O,aw)=>fF O (mZ D w l aw K)
 |none=>mZ D w l st K
theorem yW {D:TD τ dn} (ok:bh D) {w:Bool} (l:List Nat) {st:SS τ dn} {K:SS τ dn->Prop} (R:Rel D N st s) (h:pL D w l st K):∃s' aw,s.Le k0 n s'/\Rel D N aw s'/\aw.rt=st.rt/\aw.rm=st.rm/\aw.nx=st.nx/\K aw:=by
 unfold pL at h
 split at h
 ·rename_i O aw hf
  rw [jX] at h
  obtain ⟨s1,p1,p2,p3,p4,p5⟩:=Dn (n:=n) (k0:=k0) ok R hf h.1
  obtain ⟨s2,aY,q1,q2,q3,q4,q5,q6⟩:=yV ok l p2 h.2
  exact ⟨s2,aY,p1.trans' q1,q2,q3.trans p3,q4.trans p4,q5.trans p5,q6⟩
 ·exact yV ok l R h
def SS.uY (st:SS τ dn) (ss:List Nat):List Nat:=ss.flatMap fun i=>match st.gt i with
 |some v=>Dw v
 |none=>[]
end
open Go.RowKit
section
variable {τ:Type} {dn:τ->Type}
def pM (c:Cn) (b:Bool) (st aw:SS τ dn):List Nat->Option (List (Nat×SV τ dn))
 |[]=>some []
 |d::r=>match st.gt d with
  |none=>pM c b st aw r
  |some x=>match aw.gt d with
   |none=>none
   |some y=>match rQ c (bif b then x else y) (bif b then y else x),pM c b st aw r with
    |some v,some l=>some ((d,v)::l)
    |_,_=>none
theorem uZ {c:Cn} {b:Bool} {st aw:SS τ dn}:∀{ds:List Nat} {l:List (Nat×SV τ dn)},pM c b st aw ds=some l->∀{i v},getS l i=some v->∃x y,st.gt i=some x/\aw.gt i=some y/\rQ c (bif b then x else y) (bif b then y else x)=some v
 |[],l,h,i,v,hv=>by simp only [pM,OG] at h;subst h;simp [getS] at hv
 |d::r,l,h,i,v,hv=>by
  simp only [pM] at h
  split at h
  ·exact uZ h hv
  ·rename_i x hx
   split at h
   ·simp at h
   ·rename_i y hy
    split at h
    ·rename_i w l' hw hl
     simp only [OG] at h;subst h
     rw [bk] at hv
     by_cases hi:i=d
     ·subst hi
      rw [OI rfl,OG] at hv;subst hv
      exact ⟨x,y,hx,hy,hw⟩
     ·rw [OH hi] at hv;exact uZ hl hv
    ·simp at h
def me (ds:List Nat):List (Nat×SV τ dn)->List (Nat×SV τ dn)
 |[]=>[]
 |q::r=>bif hasN ds q.1 then me ds r else q::me ds r
theorem u0 {ds:List Nat}:∀{l:List (Nat×SV τ dn)} {i:Nat} {v:SV τ dn},getS (me ds l) i=some v->hasN ds i=false/\getS l i=some v
 |[],i,v,h=>by simp [me,getS] at h
 |q::r,i,v,h=>by
  simp only [me] at h
  cases hq:hasN ds q.1 with
  |true=>
   rw [hq,OL] at h
   obtain ⟨h1,h2⟩:=u0 h
   refine ⟨h1, ?_⟩
   obtain ⟨j,w⟩:=q
   rw [bk,OH (fun e=>by subst e;rw [h1] at hq;simp at hq)];exact h2
  |false=>
   rw [hq,O0] at h
   obtain ⟨j,w⟩:=q
   rw [bk] at h ⊢
   by_cases hi:i=j
   ·subst hi;rw [OI rfl] at h ⊢; exact ⟨hq,h⟩
   ·rw [OH hi] at h ⊢; exact u0 h
theorem yX {st:SS τ dn} {v:SV τ dn} (h:d≠some i):getS (st.set d v).t i=getS st.t i:=by
 cases d with
 |none=>rfl
 |some j=>
  show getS ((j,v)::st.t) i=_
  rw [bk,OH (fun e=>h (by rw [e]))]
variable [DecidableEq τ]
def oB (C:b7 τ dn) (n:Nat):List az->SS τ dn->Option (List Prop×SS τ dn)
 |[],st=>some ([],st)
 |o::os,st=>bif dstS n st.rt o.dst&&(needs C.D st o.ao).isEmpty then (match st.gd o.guard with
  | .yes=>match j0 C st o.ao with
   |some (.val O v,_)=>(oB C n os (st.set o.dst v)).map fun q=>(O++q.1,q.2)
   |_=>none
  | .no=>oB C n os (st.set o.dst (.vo undef))
  | .lS e=>match j0 C (st.unw o.ao.uns) o.ao with
   |some (.val O v,_)=>(oB C n os (st.set o.dst (.vg true e v))).map fun q=>((jj st e o.ao.uns++O.map fun p=>e.tf true->p)++q.1,q.2)
   |_=>none
  | .bad=>none) else none
theorem u4 {C:b7 τ dn} {n:Nat}:∀{os:List az} {st aw:SS τ dn} {O:List Prop},oB C n os st=some (O,aw)->(aw.rt=st.rt/\aw.rm=st.rm/\aw.m=st.m/\aw.nx=st.nx)/\(∀i,hasN (os.filterMap fun o=>o.dst) i=false->getS aw.t i=getS st.t i)/\((∀p,p∈O->p)->∀xs,wpOps C n none true os xs st fun x=>x=aw)
 |[],st,aw,O,h=>by
  simp only [oB,OG,OT] at h
  obtain ⟨rfl,rfl⟩:=h
  exact ⟨⟨rfl,rfl,rfl,rfl⟩,fun _ _=>rfl,fun _ _=>rfl⟩
 |o::os,st,aw,O,h=>by
  simp only [oB] at h
  cases hdd:(dstS n st.rt o.dst&&(needs C.D st o.ao).isEmpty) with
  |false=>rw [hdd] at h;simp at h
  |true=>
   rw [hdd,OL] at h
   rw [OJ,PC] at hdd
   obtain ⟨hd,hne⟩:=hdd
   have pN:∀i,hasN ((o::os).filterMap fun o=>o.dst) i=false->o.dst≠some i/\hasN (os.filterMap fun o=>o.dst) i=false:=fun i hi=>by
    have hn:¬i∈(o::os).filterMap fun o=>o.dst:=fun hh=>by rw [l5.2 hh] at hi;simp at hi
    refine ⟨fun e=>hn (List.mem_filterMap.2 ⟨o,PH ..,e⟩), ?_⟩
    cases hb:hasN (os.filterMap fun o=>o.dst) i with
    |false=>rfl
    |true=>
     obtain ⟨q,q1,q2⟩:=List.mem_filterMap.1 (l5.1 hb)
     exact absurd (List.mem_filterMap.2 ⟨q,Px _ q1,q2⟩) hn
   split at h
   ·rename_i hg
    split at h
    ·rename_i O1 v ns hr
     rw [OM] at h
     obtain ⟨⟨O2,aY⟩,h1,h2⟩:=h
     simp only [OT] at h2
     obtain ⟨rfl,rfl⟩:=h2
     obtain ⟨p1,p2,p3⟩:=u4 h1
     refine ⟨p1,fun i hi=>(p2 i (pN i hi).2).trans (yX (pN i hi).1),fun hO xs=> ?_⟩
     have hgi:pF C st o=none:=yC (.inl fun e=>by rw [hg];simp)
     simp only [wpOps,OL,hne,kJ,pG,hgi,hd,hg,hr]
     rw [jX]
     exact ⟨fun p hp=>hO p (Pr _ hp),p3 (fun p hp=>hO p (Po _ hp)) _⟩
    ·simp at h
   ·rename_i hg
    obtain ⟨p1,p2,p3⟩:=u4 h
    refine ⟨p1,fun i hi=>(p2 i (pN i hi).2).trans (yX (pN i hi).1),fun hO xs=> ?_⟩
    have hgi:pF C st o=none:=yC (.inl fun e=>by rw [hg];simp)
    simp only [wpOps,OL,hne,kJ,pG,hgi,hd,hg]
    exact p3 hO _
   ·rename_i e hg
    split at h
    ·rename_i O1 v ns hr
     rw [OM] at h
     obtain ⟨⟨O2,aY⟩,h1,h2⟩:=h
     simp only [OT] at h2
     obtain ⟨rfl,rfl⟩:=h2
     obtain ⟨p1,p2,p3⟩:=u4 h1
     refine ⟨p1,fun i hi=>(p2 i (pN i hi).2).trans (yX (pN i hi).1),fun hO xs=> ?_⟩
     have hgi:pF C st o=none:=yC (.inr ⟨_,hr⟩)
     simp only [wpOps,OL,hne,kJ,pG,hgi,hd,hg,hr]
     rw [jX]
     exact ⟨fun p hp=>hO p (Pr _ hp),p3 (fun p hp=>hO p (Po _ hp)) _⟩
    ·simp at h
   ·simp at h
def u5 (C:b7 τ dn) (n:Nat) (c:Cn) (b:Bool) (os:List az) (st:SS τ dn):Option (List Prop×SS τ dn):=
 match oB C n os st with
 |some (O,aw)=>(pM c b st aw (os.filterMap fun o=>o.dst)).map fun l=>(O.map fun p=>c.tf (!b)->p,⟨st.rt,st.rm,l++me (os.filterMap fun o=>o.dst) st.t,st.m,st.nx⟩)
 |none=>none
theorem Dy {C:b7 τ dn} (hC:C.Ok) {c:Cn} {b:Bool} {st aY:SS τ dn} (h:u5 C n c b os st=some (O,aY)) (hO:∀p,p∈O->p) (R:Rel C.D N st s):
  (aY.rt=st.rt/\aY.rm=st.rm/\aY.nx=st.nx)/\(c.den=b->Rel C.D N aY s)/\(c.den= !b->∃s' N',gB C.P n k0 os s.σ s.g s.k s'.σ s'.g s'.k/\Rel C.D N' aY s'/\N.agree st.nx N'):=by
 unfold u5 at h
 split at h
 case h_2=>simp at h
 rename_i O1 aw hp
 rw [OM] at h
 obtain ⟨l,hl,he⟩:=h
 simp only [OT] at he
 obtain ⟨rfl,rfl⟩:=he
 obtain ⟨⟨e1,e2,e3,e4⟩,p2,p3⟩:=u4 hp
 refine ⟨⟨rfl,rfl,rfl⟩,fun hc=> ?_,fun hc=> ?_⟩
 ·refine ⟨fun N' hN=> ?_,R.inj,R.lt,R.ml,R.rl,R.sp⟩
  have A:=R.at_ N' hN
  refine ⟨fun i v hv=> ?_,A.rs,A.bl,A.rb,A.ar⟩
  have hv':getS (l++me (os.filterMap fun o=>o.dst) st.t) i=some v:=hv
  rw [gj] at hv'
  cases hq:getS l i with
  |some w=>
   rw [hq] at hv';simp only [Qm,OG] at hv';subst hv'
   obtain ⟨x,y,q1,q2,q3⟩:=uZ hl hq
   rw [yf q3,hc,A.gt q1]
   cases b<;>simp
  |none=>rw [hq] at hv';simp only [P6] at hv';exact A.sl i v (u0 hv').2
 ·have yG:∀p,p∈O1->p:=fun p hp=>hO _ (Pc.2 ⟨p,hp,rfl⟩) ((Cn.jg c (!b)).2 hc)
  obtain ⟨s',N',st1,r1,r2,r3,r4,r5,r6⟩:=uM hC (k0:=k0) R (p3 yG [])
  subst r6
  have cQ:∀a X,(⟨st.rt,st.rm,l++me (os.filterMap fun o=>o.dst) st.t,st.m,st.nx⟩:SS τ dn).bB a X->st1.bB a X:=fun a X hX=>by
   rcases hX with hX|hX
   ·exact .inl (by rw [e3];exact hX)
   ·exact .inr (by rw [e2];exact hX)
  refine ⟨s',N',r1,⟨fun bW hN=> ?_, ?_, ?_, ?_, ?_,fun t A h id hid=>⟨(r2.sp t A (cQ 0 _ h) id hid).1,fun nm B hB=>(r2.sp t A (cQ 0 _ h) id hid).2 nm B (cQ nm B hB)⟩⟩,r4⟩
  ·have A:=r2.at_ bW (by rw [e4];exact hN)
   refine ⟨fun i v hv=> ?_,fun i v hv=>A.rs i v (by rw [e1];exact hv),fun nm B hB=>A.bl nm B (by rw [e3];exact hB),fun nm B hB=>A.rb nm B (by rw [e2];exact hB),fun t A' h id hid=>A.ar t A' (cQ 0 _ h) id hid⟩
   have hv':getS (l++me (os.filterMap fun o=>o.dst) st.t) i=some v:=hv
   rw [gj] at hv'
   cases hq:getS l i with
   |some w=>
    rw [hq] at hv';simp only [Qm,OG] at hv';subst hv'
    obtain ⟨x,y,q1,q2,q3⟩:=uZ hl hq
    rw [yf q3,hc,A.gt q2]
    cases b<;>simp
   |none=>
    rw [hq] at hv';simp only [P6] at hv'
    obtain ⟨k1,k2⟩:=u0 hv'
    exact A.sl i v (by rw [p2 i k1];exact k2)
  ·have:=r2.inj;rw [e4] at this;exact this
  ·have:=r2.lt;rw [e4] at this;exact this
  ·have:=r2.ml;rw [e3,e4] at this;exact this
  ·have:=r2.rl;rw [e2,e4] at this;exact this
end
end Go.Proofs.Ytimomnfobfjggaa
