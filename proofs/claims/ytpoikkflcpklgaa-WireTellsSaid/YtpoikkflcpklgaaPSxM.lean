/- Two ways that come together. No condition. -/
import Derived.Test.YtpoikkflcpklgaaPSxK
import Derived.Test.YtpoikkflcpklgaaPAc
set_option linter.unusedSectionVars false
set_option linter.unusedSimpArgs false
set_option linter.unusedVariables false
namespace Go.Proofs.Ytpoikkflcpklgaa
variable {ao:AO} {o:aw} {a a':AV} {dep:List (List Nat)} {cs:List (Nat×Nat)} {hs:List (Option Nat)} {os:List aw} {args:List Arg} {l:List Nat} {O:List Prop} {rs:List Rec} {n nm k0 k i f sz jn k1 q:Nat} {σ σ':Nat->AV} {p:Nat->Bool} {g:Nat->Option Bk} {Q:Nat->Prop} {N N':au} {d:Option Nat} {r:Rec} {s u:S3} {α:Type}
open Go.RowKit
abbrev LL:=@Bool.not_false
abbrev LQ:=@Nat.lt_succ_self
abbrev Mc:=@Option.none_or
abbrev Ms:=@Option.some_or
abbrev MI:=@List.getElem?_set_ne
def AV.bh:AV->List Nat
 | .own id _ _ _| .ref id _ _ _| .mp id=>[id]
 |_=>[]
def AO.refs (ρ:Arg->AV):AO->List Nat
 | .load _ x| .nilc x| .fad _ x| .len _ x| .isn _ _ x| .clr _ x| .b2s x=>(ρ x).bh
 | .store _ x _| .iad _ x _| .iap _ _ x _| .slc _ x _ _ _| .mup _ x _ _| .mlk _ _ x _=>(ρ x).bh
 | .app _ _ s x=>(ρ x).bh++(ρ s).bh
 | .cpy _ x y=>(ρ y).bh++(ρ x).bh
 |_=>[]
theorem gU {x:Option α}:(RM.opt x).acc g=[]/\(RM.opt x).see g=[]:=by cases x<;>exact ⟨rfl,rfl⟩
theorem gf {α β:Type} {g:Nat->Option Bk} {f:α->RM β} {L:List Nat}:∀(m:RM α),(∀id,id∈m.acc g++m.see g->id∈L)->(∀a id,id∈(f a).acc g++(f a).see g->id∈L)->∀id,id∈(m.bind f).acc g++(m.bind f).see g->id∈L
 | .ret a,_,h2,id,h=>h2 a id h
 | .fail,_,_,id,h=>by simp [RM.bind,RM.acc,RM.see] at h
 | .rd i k,h1,h2,id,h=>by
  cases hg:g i with
  |none=>
   simp only [RM.bind,RM.acc,RM.see,hg,List.append_nil,KT] at h
   exact h1 id (by simp [RM.acc,hg,h])
  |some B=>
   simp only [RM.bind,RM.acc,RM.see,hg,L2,KU] at h
   rcases h with h|h
   ·exact h1 id (by simp [RM.acc,hg,h])
   ·exact gf (k B) (fun j hj=>h1 j (by simp only [RM.acc,RM.see,hg,L2,KU];exact .inr hj)) h2 id h
 | .lv i k,h1,h2,id,h=>by
  simp only [RM.bind,RM.acc,RM.see,Lj,KU] at h
  rcases h with h|h|h
  ·exact gf k (fun j hj=>h1 j (by simp only [RM.acc,RM.see,Lj,KU] at hj ⊢; rcases hj with hj|hj<;>simp [hj])) h2 id (Lr _ h)
  ·exact h1 id (by simp [RM.see,h])
  ·exact gf k (fun j hj=>h1 j (by simp only [RM.acc,RM.see,Lj,KU] at hj ⊢; rcases hj with hj|hj<;>simp [hj])) h2 id (Ln _ h)
theorem rh:∀id,id∈(content sz a).acc g++(content sz a).see g->id∈a.bh:=by
 intro id h
 cases a<;>simp only [content] at h
 case own i s off n=>
  cases hg:g i with
  |none=>simp [RM.acc,RM.see,hg] at h;simp [AV.bh,h]
  |some B=>
   simp only [RM.acc,RM.see,hg] at h
   split at h<;>(simp [RM.acc,RM.see] at h;simp [AV.bh,h])
 all_goals first
  |(split at h<;>simp [RM.acc,RM.see] at h)
  |(simp [RM.acc,RM.see] at h)
theorem rk {ρ:Arg->AV}:∀id,id∈(ao.af k ρ).acc g++(ao.af k ρ).see g->id∈ao.refs ρ:=by
 intro id h
 have no:∀{x:Option Out},id∈(RM.opt x).acc g++(RM.opt x).see g->False:=fun {x} h=>by rw [gU.1,gU.2] at h;simp at h
 have nr:∀{x:Out},id∈(RM.ret x).acc g++(RM.ret x).see g->False:=fun {x} h=>by simp [RM.acc,RM.see] at h
 have nf:id∈(RM.fail:RM Out).acc g++(RM.fail:RM Out).see g->False:=fun h=>by simp [RM.acc,RM.see] at h
 cases ao<;>simp only [AO.af] at h<;>simp only [AO.refs]
 case b2s x=>
  refine gf (L:=(ρ x).bh) _ (fun j hj=>rh j hj) (fun ys j hj=> ?_) id h
  rw [gU.1,gU.2] at hj;simp at hj
 case app sz by_ s x=>
  refine gf (L:=(ρ x).bh++(ρ s).bh) _ (fun j hj=>Lr _ (rh j hj)) (fun ys j hj=> ?_) id h
  cases hs:ρ s<;>rw [hs] at hj<;>simp only at hj
  case own i q off n=>
   cases hg:g i with
   |none=>simp [RM.acc,RM.see,hg] at hj;simp [AV.bh,hj]
   |some B=>
    simp only [RM.acc,RM.see,hg] at hj
    split at hj
    ·simp [RM.acc,RM.see] at hj;simp [AV.bh,hj]
    ·split at hj<;>(simp [RM.acc,RM.see] at hj;simp [AV.bh,hj])
  all_goals first
   |(split at hj<;>simp [RM.acc,RM.see] at hj)
   |(simp [RM.acc,RM.see] at hj)
 case cpy sz x y=>
  refine gf (L:=(ρ y).bh++(ρ x).bh) _ (fun j hj=>Lr _ (rh j hj)) (fun ys j hj=> ?_) id h
  cases hs:ρ x<;>rw [hs] at hj<;>simp only at hj
  case own i q off n=>
   cases hg:g i with
   |none=>simp [RM.acc,RM.see,hg] at hj;simp [AV.bh,hj]
   |some B=>
    simp only [RM.acc,RM.see,hg] at hj
    split at hj<;>(simp [RM.acc,RM.see] at hj;simp [AV.bh,hj])
  all_goals (simp [RM.acc,RM.see] at hj)
 case load m x=>
  cases hs:ρ x<;>rw [hs] at h<;>simp only at h
  case ref i q a b=>
   cases hg:g i with
   |none=>simp [RM.acc,RM.see,hg] at h;simp [AV.bh,h]
   |some B=>
    simp only [RM.acc,RM.see,hg] at h
    split at h
    ·rw [gU.1,gU.2] at h;simpa [AV.bh] using h
    ·simp [RM.acc,RM.see] at h;simp [AV.bh,h]
  all_goals first|exact (no h).elim|exact (nf h).elim
 case store n x y=>
  cases hs:ρ x<;>rw [hs] at h<;>simp only at h
  case ref i q a b=>
   cases hg:g i with
   |none=>simp [RM.acc,RM.see,hg] at h;simp [AV.bh,h]
   |some B=>
    simp only [RM.acc,RM.see,hg] at h
    split at h
    ·split at h<;>(simp [RM.acc,RM.see] at h;simp [AV.bh,h])
    ·simp [RM.acc,RM.see] at h;simp [AV.bh,h]
  all_goals exact (nf h).elim
 case slc sz x lo hi mx=>
  split at h
  ·rename_i ik aE mx' _ _ _
   cases hs:ρ x<;>rw [hs] at h<;>simp only at h
   case own i q off n=>
    cases mx' with
    |none=>
     simp only at h
     split at h
     ·split at h
      ·simp [RM.acc,RM.see] at h;simp [AV.bh,h]
      ·cases hg:g i with
       |none=>simp [RM.acc,RM.see,hg] at h;simp [AV.bh,h]
       |some B=>
        simp only [RM.acc,RM.see,hg] at h
        split at h
        ·rw [gU.1,gU.2] at h;simpa [AV.bh] using h
        ·simp [RM.acc,RM.see] at h;simp [AV.bh,h]
      ·simp [RM.acc,RM.see] at h;simp [AV.bh,h]
     ·simp [RM.acc,RM.see] at h;simp [AV.bh,h]
    |some m=>
     simp only at h
     cases hg:g i with
     |none=>simp [RM.acc,RM.see,hg] at h;simp [AV.bh,h]
     |some B=>
      simp only [RM.acc,RM.see,hg] at h
      split at h
      ·rw [gU.1,gU.2] at h;simpa [AV.bh] using h
      ·simp [RM.acc,RM.see] at h;simp [AV.bh,h]
   all_goals first
    |exact (no h).elim
    |exact (nf h).elim
    |(split at h<;>first|exact (no h).elim|exact (nf h).elim)
  ·exact (nf h).elim
 case mup kd x k y=>
  split at h
  ·rename_i i k' hx hk
   cases hg:g i with
   |none=>simp [RM.acc,RM.see,hg] at h;simp [AV.bh,hx,h]
   |some B=>
    simp only [RM.acc,RM.see,hg] at h
    split at h
    ·split at h<;>(simp [RM.acc,RM.see] at h;simp [AV.bh,hx,h])
    ·simp [RM.acc,RM.see] at h;simp [AV.bh,hx,h]
  ·exact (nf h).elim
 case mlk kd z x k=>
  split at h
  ·rename_i i k' hx hk
   cases hg:g i with
   |none=>simp [RM.acc,RM.see,hg] at h;simp [AV.bh,hx,h]
   |some B=>
    simp only [RM.acc,RM.see,hg] at h
    split at h
    ·rw [gU.1,gU.2] at h;simpa [AV.bh,hx] using h
    ·simp [RM.acc,RM.see] at h;simp [AV.bh,hx,h]
  ·exact (nf h).elim
 case clr zs x=>
  cases hs:ρ x<;>rw [hs] at h<;>simp only at h
  case own i q off n=>
   cases hg:g i with
   |none=>simp [RM.acc,RM.see,hg] at h;simp [AV.bh,h]
   |some B=>
    simp only [RM.acc,RM.see,hg] at h
    split at h<;>(simp [RM.acc,RM.see] at h;simp [AV.bh,h])
  all_goals first|exact (nr h).elim|exact (nf h).elim
 case len s x=>
  cases s<;>simp only [AO.af] at h<;>cases hs:ρ x<;>rw [hs] at h<;>(try simp only at h)
  all_goals first
   |exact (nr h).elim
   |exact (nf h).elim
   |(split at h<;>first|exact (nr h).elim|exact (nf h).elim)
   |(simp [RM.acc,RM.see] at h;simp [AV.bh,h];done)
   |(split at h<;>first|exact (nr h).elim|exact (nf h).elim|(exfalso;simp_all;done))
 case isn kd neg x=>
  cases kd<;>simp only [AO.af] at h<;>cases hs:ρ x<;>rw [hs] at h<;>(try simp only at h)
  all_goals first
   |exact (nr h).elim
   |exact (nf h).elim
   |(split at h<;>first|exact (nr h).elim|exact (nf h).elim)
   |(simp [RM.acc,RM.see] at h;simp [AV.bh,h];done)
   |(split at h<;>first|exact (nr h).elim|exact (nf h).elim|(exfalso;simp_all;done))
 all_goals repeat' split at h
 all_goals first
  |exact (nr h).elim
  |exact (nf h).elim
  |exact (no h).elim
  |(simp [RM.acc,RM.see] at h;simp [AV.bh, *];done)
theorem zb:∀id,id∈(snap1 a).acc g++(snap1 a).see g->id∈a.bB:=by
 intro id h
 cases a<;>simp only [snap1] at h
 case own i s off n=>
  refine gf (L:=[i]) _ (fun j hj=> ?_) (fun els j hj=> ?_) id h
  ·have:=rh j hj;simpa [AV.bh] using this
  ·split at hj<;>simp [RM.acc,RM.see] at hj
 case ref i s a b=>
  cases hg:g i with
  |none=>simp [RM.acc,RM.see,hg] at h;simp [AV.bB,h]
  |some B=>
   simp only [RM.acc,RM.see,hg] at h
   split at h
   ·split at h
    ·split at h<;>(simp [RM.acc,RM.see] at h;simp [AV.bB,h])
    ·simp [RM.acc,RM.see] at h;simp [AV.bB,h]
   ·simp [RM.acc,RM.see] at h;simp [AV.bB,h]
 all_goals (split at h<;>simp [RM.acc,RM.see] at h)
theorem rn {g:Nat->Option Bk}:∀{l:List AV},∀id,id∈(fw l).acc g++(fw l).see g->id∈l.flatMap AV.bB
 |[],id,h=>by simp [fw,RM.acc,RM.see] at h
 |a::r,id,h=>by
  simp only [fw] at h
  refine gf (L:=(a::r).flatMap AV.bB) _ (fun j hj=> ?_) (fun x j hj=> ?_) id h
  ·rw [LI];exact Lr _ (zb j hj)
  ·refine gf (L:=(a::r).flatMap AV.bB) _ (fun j hj=> ?_) (fun x j hj=> ?_) j hj
   ·rw [LI];exact Ln _ (rn j hj)
   ·simp [RM.acc,RM.see] at hj
theorem Hk:∀id,id∈(dh a).acc g++(dh a).see g->id∈a.ids:=by
 intro id h
 cases a<;>simp only [dh] at h
 case agg cs=>exact gf (L:=cs.flatMap AV.bB) _ rn (fun x j hj=>by simp [RM.acc,RM.see] at hj) id h
 case fn f cs=>exact gf (L:=cs.flatMap AV.bB) _ rn (fun x j hj=>by simp [RM.acc,RM.see] at hj) id h
 case bf f cs=>exact gf (L:=cs.flatMap AV.bB) _ rn (fun x j hj=>by simp [RM.acc,RM.see] at hj) id h
 all_goals exact zb id h
theorem rp {g:Nat->Option Bk}:∀{l:List AV},∀id,id∈(du l).acc g++(du l).see g->id∈l.flatMap AV.ids
 |[],id,h=>by simp [du,RM.acc,RM.see] at h
 |a::r,id,h=>by
  simp only [du] at h
  refine gf (L:=(a::r).flatMap AV.ids) _ (fun j hj=> ?_) (fun x j hj=> ?_) id h
  ·rw [LI];exact Lr _ (Hk j hj)
  ·refine gf (L:=(a::r).flatMap AV.ids) _ (fun j hj=> ?_) (fun x j hj=> ?_) j hj
   ·rw [LI];exact Ln _ (rp j hj)
   ·simp [RM.acc,RM.see] at hj
section
variable {τ:Type} {dn:τ->Type} {D:TD τ dn} {N:au} {st:SS τ dn} {σ:Nat->AV} {g:Nat->Option Bk}
def SV.nr:SV τ dn->List Nat
 | .own nm _| .part nm _ _ _| .ref nm _ _ _| .mp nm=>[nm]
 | .rw _ _| .cH _ _ _ _=>[0]
 |_=>[]
def SV.n1:SV τ dn->List Nat
 | .own nm _| .part nm _ _ _| .ref nm _ _ _=>[nm]
 | .rw _ _| .cH _ _ _ _=>[0]
 |_=>[]
def SV.nms:SV τ dn->List Nat
 | .agg cs=>cs.flatMap SV.n1
 | .fn _ cs=>cs.flatMap SV.n1
 | .bf _ cs=>cs.flatMap SV.n1
 |a=>a.n1
def SV.fH:SV τ dn->Bool
 | .rw _ _| .cH _ _ _ _| .vg _ _ _=>false
 |_=>true
def SV.pl:SV τ dn->Bool
 | .agg cs| .fn _ cs| .bf _ cs=>cs.all SV.fH
 |a=>a.fH
theorem Hl:∀(v:SV τ dn) (id:Nat),v.fH=true->id∈(v.av D.toTE N).bh->∃nm,nm∈v.nr/\id=N.ι nm
 | .vg p c v,id,hp,h| .rw _ _,id,hp,h| .cH _ _ _ _,id,hp,h=>by simp [SV.fH] at hp
 | .own nm _,id,hp,h| .part nm _ _ _,id,hp,h| .ref nm _ _ _,id,hp,h| .mp nm,id,hp,h=>by
  simp only [SV.av,AV.bh,KT] at h;exact ⟨nm,by simp [SV.nr],h⟩
 | .vi _,id,hp,h| .vn _,id,hp,h| .vy _,id,hp,h| .vu _,id,hp,h| .vw _ _,id,hp,h| .vb _,id,hp,h| .vt _,id,hp,h| .vz _,id,hp,h| .vo _,id,hp,h| .agg _,id,hp,h| .aG _,id,hp,h| .vl _ _,id,hp,h| .vc _ _,id,hp,h| .emp,id,hp,h| .pim _ _,id,hp,h| .fn _ _,id,hp,h| .bf _ _,id,hp,h| .dead,id,hp,h=>by simp [SV.av,AV.bh] at h
theorem Hm:∀(v:SV τ dn) (id:Nat),v.fH=true->id∈(v.av D.toTE N).bB->∃nm,nm∈v.n1/\id=N.ι nm
 | .vg p c v,id,hp,h| .rw _ _,id,hp,h| .cH _ _ _ _,id,hp,h=>by simp [SV.fH] at hp
 | .own nm _,id,hp,h| .part nm _ _ _,id,hp,h| .ref nm _ _ _,id,hp,h=>by
  simp only [SV.av,AV.bB,KT] at h;exact ⟨nm,by simp [SV.n1],h⟩
 | .vi _,id,hp,h| .vn _,id,hp,h| .vy _,id,hp,h| .vu _,id,hp,h| .vw _ _,id,hp,h| .vb _,id,hp,h| .vt _,id,hp,h| .vz _,id,hp,h| .vo _,id,hp,h| .agg _,id,hp,h| .aG _,id,hp,h| .vl _ _,id,hp,h| .vc _ _,id,hp,h| .emp,id,hp,h| .pim _ _,id,hp,h| .fn _ _,id,hp,h| .bf _ _,id,hp,h| .dead,id,hp,h| .mp _,id,hp,h=>by simp [SV.av,AV.bB] at h
theorem Hn {cs:List (SV τ dn)} {id:Nat} (hp:cs.all SV.fH=true) (h:id∈(SV.b6 D.toTE N cs).flatMap AV.bB):∃nm,nm∈cs.flatMap SV.n1/\id=N.ι nm:=by
 rw [SV.ba] at h
 simp only [List.mem_flatMap,Li] at h
 obtain ⟨_,⟨v,hv,rfl⟩,h⟩:=h
 obtain ⟨nm,h1,h2⟩:=Hm v id (KQ.1 hp v hv) h
 exact ⟨nm,List.mem_flatMap.2 ⟨v,hv,h1⟩,h2⟩
theorem Ho:∀(v:SV τ dn) (id:Nat),v.pl=true->id∈(v.av D.toTE N).ids->∃nm,nm∈v.nms/\id=N.ι nm
 | .vg p c v,id,hp,h| .rw _ _,id,hp,h| .cH _ _ _ _,id,hp,h=>by simp [SV.pl,SV.fH] at hp
 | .agg cs,id,hp,h| .fn _ cs,id,hp,h| .bf _ cs,id,hp,h=>by simp only [SV.av,AV.ids] at h;exact Hn hp h
 | .own nm _,id,hp,h| .part nm _ _ _,id,hp,h| .ref nm _ _ _,id,hp,h=>by
  simp only [SV.av,AV.ids,AV.bB,KT] at h;exact ⟨nm,by simp [SV.nms,SV.n1],h⟩
 | .vi _,id,hp,h| .vn _,id,hp,h| .vy _,id,hp,h| .vu _,id,hp,h| .vw _ _,id,hp,h| .vb _,id,hp,h| .vt _,id,hp,h| .vz _,id,hp,h| .vo _,id,hp,h| .aG _,id,hp,h| .vl _ _,id,hp,h| .vc _ _,id,hp,h| .emp,id,hp,h| .pim _ _,id,hp,h| .dead,id,hp,h| .mp _,id,hp,h=>by simp [SV.av,AV.ids,AV.bB] at h
theorem Hp {v w:SV τ dn} (h:snap1S D st v=some w):v.fH=true:=by
 cases v<;>first|rfl|(simp [snap1S,SV.pu1] at h)
theorem zc:∀{vs ws:List (SV τ dn)},jS D st vs=some ws->vs.all SV.fH=true
 |[],ws,h=>rfl
 |v::r,ws,h=>by
  simp only [jS] at h
  split at h
  ·rename_i x l h1 h2
   rw [List.all_cons,Hp h1,zc h2];rfl
  ·simp at h
theorem Hq {v w:SV τ dn} (h:fG D st v=some w):v.pl=true:=by
 cases v with
 |agg cs|fn f cs|bf f cs=>
  simp only [fG,KR] at h;obtain ⟨l,hl,rfl⟩:=h
  exact zc hl
 |_=>first|rfl|(simp [fG,snap1S,SV.pu1] at h)
def fI (st:SS τ dn) (id:Nat):Prop:=∃t A,st.gm 0=some (.ar t A)/\dj A id
theorem o7 [DecidableEq τ]:∀{vs ws:List (SV τ dn)} {O:List Prop},lU D st vs=some (O,ws)->(∀p,p∈O->p)->∀id,id∈(vs.map (SV.av D.toTE N)).flatMap AV.ids->∃nm,nm∈vs.flatMap SV.nms/\(id=N.ι nm\/(nm=0/\fI st id))
 |[],ws,O,h,hO,id,hid=>by simp at hid
 |v::r,ws,O,h,hO,id,hid=>by
  simp only [lU] at h
  split at h
  ·rename_i O1 x O2 l h1 h2
   simp only [KJ,KZ] at h
   obtain ⟨rfl,rfl⟩:=h
   simp only [KW,LI,Lj] at hid ⊢
   rcases hid with hid|hid
   ·have other:((fG D st v).map fun w=>(([]:List Prop),w))=some (O1,x)->∃nm,(nm∈v.nms\/nm∈r.flatMap SV.nms)/\(id=N.ι nm\/(nm=0/\fI st id)):=fun h=>by
     simp only [KR,KZ] at h
     obtain ⟨c',h3,_,rfl⟩:=h
     obtain ⟨nm,q1,q2⟩:=Ho v id (Hq h3) hid
     exact ⟨nm, .inl q1, .inl q2⟩
    cases v with
    |rw t q=>
     refine ⟨0, .inl (by simp [SV.nms,SV.n1]), .inr ⟨rfl, ?_⟩⟩
     simp only [qY,uH] at h1
     split at h1
     ·rename_i A hA
      cases hp:D.pu t with
      |false=>rw [hp] at h1;simp at h1
      |true=>
       rw [hp,KP] at h1
       simp only [KJ,KZ] at h1
       obtain ⟨rfl,rfl⟩:=h1
       have hq:q.ok A:=hO _ (by simp)
       cases hk:q.kd with
       |nil=>simp [SV.av,hk,AV.ids,AV.bB] at hid
       |aN=>simp [SV.av,hk,AV.ids,AV.bB] at hid
       |own=>
        simp only [SV.av,hk,AV.ids,AV.bB,KT] at hid
        unfold Row.ok at hq
        rw [hk] at hq
        exact ⟨t,A,kL hA,hid▸hq.1⟩
     ·simp at h1
    |_=>exact other h1
   ·obtain ⟨nm,q1,q2⟩:=o7 h2 (fun p hp=>hO p (Ln _ hp)) id hid
    exact ⟨nm, .inr q1,q2⟩
  ·simp at h
def SV.kQ (v:SV τ dn):Bool:=v.fH
def SV.nvg:SV τ dn->Bool
 | .agg cs| .fn _ cs| .bf _ cs=>cs.all SV.kQ
 |a=>a.kQ
theorem Hr {v:SV τ dn} (h:v.kQ=true):(v.av D.toTE N).bB=v.n1.map N.ι:=by
 cases v<;>simp [SV.kQ,SV.fH] at h<;>simp [SV.av,AV.bB,SV.n1]
theorem rq:∀{cs:List (SV τ dn)},cs.all SV.kQ=true->(cs.map (SV.av D.toTE N)).flatMap AV.bB=(cs.flatMap SV.n1).map N.ι
 |[],_=>rfl
 |v::r,h=>by
  rw [List.all_cons,KM] at h
  rw [KW,LI,LI,Lz,Hr h.1,rq h.2]
theorem Hs {v:SV τ dn} (h:v.nvg=true):(v.av D.toTE N).ids=v.nms.map N.ι:=by
 cases v with
 |agg cs=>simp only [SV.av,AV.ids,SV.nms,SV.ba];exact rq h
 |fn f cs=>simp only [SV.av,AV.ids,SV.nms,SV.ba];exact rq h
 |bf f cs=>simp only [SV.av,AV.ids,SV.nms,SV.ba];exact rq h
 |vg p c v=>simp [SV.nvg,SV.kQ,SV.fH] at h
 |rw t r=>simp [SV.nvg,SV.kQ,SV.fH] at h
 |cH t r i o=>simp [SV.nvg,SV.kQ,SV.fH] at h
 |_=>simp [SV.av,AV.ids,AV.bB,SV.nms,SV.n1]
theorem zd:∀{vs:List (SV τ dn)},vs.all SV.nvg=true->(vs.map (SV.av D.toTE N)).flatMap AV.ids=(vs.flatMap SV.nms).map N.ι
 |[],_=>rfl
 |v::r,h=>by
  rw [List.all_cons,KM] at h
  rw [KW,LI,LI,Lz,Hs h.1,zd h.2]
def SV.mQ:SV τ dn->Bool
 | .vl _ _=>true
 |_=>false
def SV.mR:SV τ dn->Bool
 | .agg cs=>cs.any SV.mQ
 |a=>a.mQ
def SV.lb:SV τ dn->Bool
 | .aG vs=>vs.any SV.mR
 |a=>a.mR
theorem Ht {v:SV τ dn} (h:v.mQ=true):(v.av D.toTE N).cW=false:=by
 cases v<;>simp [SV.mQ] at h<;>rfl
theorem ze {v:SV τ dn} (h:v.mR=true):(v.av D.toTE N).dv=false:=by
 cases v with
 |agg cs=>
  simp only [SV.mR,MC] at h
  obtain ⟨c,hc,h⟩:=h
  simp only [SV.av,AV.dv,SV.ba]
  rw [Bool.eq_false_iff];intro hh
  rw [KQ] at hh
  have:=hh _ (List.mem_map_of_mem hc)
  rw [Ht h] at this;simp at this
 |vl t xs=>rfl
 |_=>simp [SV.mR,SV.mQ] at h
theorem Hu {v:SV τ dn} (h:v.lb=true):(v.av D.toTE N).nob=false:=by
 cases v with
 |aG cs=>
  simp only [SV.lb,MC] at h
  obtain ⟨c,hc,h⟩:=h
  simp only [SV.av,AV.nob,SV.ba]
  rw [Bool.eq_false_iff];intro hh
  rw [KQ] at hh
  have:=hh _ (List.mem_map_of_mem hc)
  rw [ze h] at this;simp at this
 |agg cs=>exact ze (v:= .agg cs) h
 |vl t xs=>rfl
 |_=>simp [SV.lb,SV.mR,SV.mQ] at h
def SS.nr (st:SS τ dn) (x:Arg):List Nat:=match st.ev x with
 |some v=>v.nr
 |none=>[]
def AO.nrs (st:SS τ dn):AO->List Nat
 | .load _ x| .nilc x| .fad _ x| .len _ x| .isn _ _ x| .clr _ x| .b2s x=>st.nr x
 | .store _ x _| .iad _ x _| .iap _ _ x _| .slc _ x _ _ _| .mup _ x _ _| .mlk _ _ x _=>st.nr x
 | .app _ _ s x=>st.nr x++st.nr s
 | .cpy _ x y=>st.nr y++st.nr x
 |_=>[]
def AO.kn (st:SS τ dn):AO->Bool
 | .load _ x| .nilc x| .fad _ x| .len _ x| .isn _ _ x| .clr _ x| .b2s x=>(st.ev x).isSome
 | .store _ x _| .iad _ x _| .iap _ _ x _| .slc _ x _ _ _| .mup _ x _ _| .mlk _ _ x _=>(st.ev x).isSome
 | .app _ _ s x=>(st.ev x).isSome&&(st.ev s).isSome
 | .cpy _ x y=>(st.ev y).isSome&&(st.ev x).isSome
 |_=>true
def SS.ngd (st:SS τ dn) (x:Arg):Bool:=match st.ev x with
 |some (.vg _ _ _)=>false
 |_=>true
theorem Hv (R:aS D N st σ g) (hk:ao.kn st=true) (hg:ao.lk.all st.ngd=true) (hrow:∀x,x∈ao.lk->∀v,st.ev x=some v->v.isRw=true->∀id,id∈(v.av D.toTE N).bh->fI st id):∀id,id∈(ao.af k (aD σ)).acc g++(ao.af k (aD σ)).see g->∃nm,nm∈ao.nrs st/\(id=N.ι nm\/(nm=0/\fI st id)):=by
 intro id h
 have h:=rk id h
 have one:∀{x:Arg},x∈ao.lk->(st.ev x).isSome=true->id∈(aD σ x).bh->∃nm,nm∈st.nr x/\(id=N.ι nm\/(nm=0/\fI st id)):=fun {x} hm hx h=>by
  obtain ⟨v,hv⟩:=MD.1 hx
  rw [R.ev hv] at h
  have uL:=KQ.1 hg x hm
  unfold SS.ngd at uL
  rw [hv] at uL
  have Hw:st.nr x=v.nr:=by unfold SS.nr;rw [hv]
  rw [Hw]
  cases hr:v.isRw with
  |true=>
   refine ⟨0, ?_, .inr ⟨rfl,hrow x hm v hv hr id h⟩⟩
   cases v<;>first|(simp [SV.isRw] at hr;done)|simp [SV.nr]
  |false=>
   obtain ⟨nm,h1,h2⟩:=Hl v id (by cases v<;>first|rfl|(simp at uL;done)|(simp [SV.isRw] at hr;done)) h
   exact ⟨nm,h1, .inl h2⟩
 cases ao<;>simp only [AO.refs] at h<;>simp only [AO.kn] at hk<;>simp only [AO.nrs]<;>first
  |exact one (by simp [AO.lk]) hk h
  |(simp at h;done)
  |skip
 ·simp only [KM] at hk
  rcases Lj.1 h with h|h
  ·obtain ⟨nm,h1,h2⟩:=one (by simp [AO.lk]) hk.1 h;exact ⟨nm,Lr _ h1,h2⟩
  ·obtain ⟨nm,h1,h2⟩:=one (by simp [AO.lk]) hk.2 h;exact ⟨nm,Ln _ h1,h2⟩
 ·simp only [KM] at hk
  rcases Lj.1 h with h|h
  ·obtain ⟨nm,h1,h2⟩:=one (by simp [AO.lk]) hk.1 h;exact ⟨nm,Lr _ h1,h2⟩
  ·obtain ⟨nm,h1,h2⟩:=one (by simp [AO.lk]) hk.2 h;exact ⟨nm,Ln _ h1,h2⟩
theorem Hx [DecidableEq τ] {r:SR τ dn} (h:kO D st ao=some r):ao.kn st=true:=by
 cases ao<;>first
  |rfl
  |skip
 case slc sz x lo hi mx=>
  simp only [AO.kn]
  simp only [kO] at h
  cases hb:(AO.lk (.slc sz x lo hi mx)).any st.rwa with
  |true=>rw [hb,KP] at h;simp [jN] at h
  |false=>
   rw [hb,K4] at h
   cases mx with
   |some m=>simp [sx] at h
   |none=>
    simp only [sx] at h
    split at h
    ·rename_i a _ _ h1 _ _;rw [h1];rfl
    ·simp at h
 all_goals simp only [AO.kn]
 all_goals simp only [kO] at h
 all_goals
  cases hb:(AO.lk _).any st.rwa with
  |true=>
   rw [hb,KP] at h
   simp only [jN] at h
   first
    |(simp at h;done)
    |(split at h<;>first|(simp at h;done)|(simp_all;done)|(split at h<;>first|(simp at h;done)|(simp_all;done)))
  |false=>
   rw [hb,K4] at h
   simp only [sx] at h
   first
    |(simp at h;done)
    |(simp only [Mj] at h;obtain ⟨_,h1,_⟩:=h;rw [h1];rfl)
    |(split at h<;>first|(simp at h;done)|(simp_all;done))
end
open Go.RowKit
section
variable {τ:Type} {dn:τ->Type}
mutual
def SV.dI (E:TE τ dn) (nm:Nat) (t:τ) (r:Row (dn t)):SV τ dn->SV τ dn
 | .own a sz=>bif Nat.beq a nm&&Nat.beq sz (E.sz t) then .rw t r else .own a sz
 | .ref a sz i o=>bif Nat.beq a nm&&Nat.beq sz (E.sz t) then .cH t r i o else .ref a sz i o
 | .agg cs=> .agg (SV.iZ E nm t r cs)
 | .aG cs=> .aG (SV.iZ E nm t r cs)
 | .fn f cs=> .fn f (SV.iZ E nm t r cs)
 | .bf f cs=> .bf f (SV.iZ E nm t r cs)
 | .vg p c v=> .vg p c (SV.dI E nm t r v)
 | .part a b c d=> .part a b c d
 | .pim cs o=> .pim cs o
 | .vc sz els=> .vc sz els
 | .mp a=> .mp a
 | .vi x=> .vi x
 | .vn x=> .vn x
 | .vy x=> .vy x
 | .vu x=> .vu x
 | .vw q x=> .vw q x
 | .vb c=> .vb c
 | .vt x=> .vt x
 | .vz x=> .vz x
 | .vo x=> .vo x
 | .vl a b=> .vl a b
 | .emp=> .emp
 | .rw a b=> .rw a b
 | .cH a b c d=> .cH a b c d
 | .dead=> .dead
def SV.iZ (E:TE τ dn) (nm:Nat) (t:τ) (r:Row (dn t)):List (SV τ dn)->List (SV τ dn)
 |[]=>[]
 |v::l=>SV.dI E nm t r v::SV.iZ E nm t r l
end
section
variable {E:TE τ dn} {N:au} {nm:Nat} {t:τ} {r:Row (dn t)}
mutual
theorem uM (hk:r.kd= .own) (h1:N.ι nm=r.id) (h2:N.ln nm=r.n):∀v:SV τ dn,(v.dI E nm t r).av E N=v.av E N
 | .own a sz=>by
  simp only [SV.dI]
  cases hb:(Nat.beq a nm&&Nat.beq sz (E.sz t)) with
  |false=>rfl
  |true=>
   rw [KM] at hb
   have e1:=K1 hb.1
   have e2:=K1 hb.2
   simp only [KP,SV.av,hk,e1,e2,h1,h2]
 | .ref a sz i o=>by
  simp only [SV.dI]
  cases hb:(Nat.beq a nm&&Nat.beq sz (E.sz t)) with
  |false=>rfl
  |true=>
   rw [KM] at hb
   have e1:=K1 hb.1
   have e2:=K1 hb.2
   simp only [KP,SV.av,hk,e1,e2,h1]
 | .agg cs| .aG cs| .fn f cs| .bf f cs=>by simp only [SV.dI,SV.av,uO hk h1 h2 cs]
 | .vg p c v=>by simp only [SV.dI,SV.av,uM hk h1 h2 v]
 | .part _ _ _ _| .pim _ _| .vc _ _| .mp _| .vi _| .vn _| .vy _| .vu _| .vw _ _| .vb _| .vt _| .vz _| .vo _| .vl _ _| .emp| .rw _ _| .cH _ _ _ _| .dead=>by simp only [SV.dI]
theorem uO (hk:r.kd= .own) (h1:N.ι nm=r.id) (h2:N.ln nm=r.n):∀cs:List (SV τ dn),SV.b6 E N (SV.iZ E nm t r cs)=SV.b6 E N cs
 |[]=>rfl
 |v::l=>by simp only [SV.iZ,SV.b6,uM hk h1 h2 v,uO hk h1 h2 l]
end
end
def SB.dI (E:TE τ dn) (nm:Nat) (t:τ) (r:Row (dn t)):SB τ dn->SB τ dn
 | .bc sz els=> .bc sz (els.map (SV.iZ E nm t r))
 | .mc els=> .mc (els.map (SV.iZ E nm t r))
 |B=>B
theorem Hy {E:TE τ dn} {t:τ} {r:Row (dn t)} (hk:r.kd= .own) (h1:N.ι nm=r.id) (h2:N.ln nm=r.n) (B:SB τ dn):(B.dI E nm t r).av E N=B.av E N/\(B.dI E nm t r).len=B.len:=by
 have hM:∀els:List (List (SV τ dn)),SV.bA E N (els.map (SV.iZ E nm t r))=SV.bA E N els:=by
  intro els
  induction els with
  |nil=>rfl
  |cons a l ih=>simp only [KW,SV.bA,ih,uO hk h1 h2]
 cases B with
 |bc sz els=>simp only [SB.dI,SB.av,hM,SB.len,K7,K5]
 |mc els=>simp only [SB.dI,SB.av,hM,SB.len,K5]
 |_=>exact ⟨rfl,rfl⟩
variable [DecidableEq τ]
def jX (D:TD τ dn) (st:SS τ dn) (nm:Nat) (t:τ):Option (List (dn t)):=match st.gm nm with
 |some (.bl t' xs)=>if h:t'=t then some (h▸xs) else (D.th t' t).map fun f=>xs.map f
 |some (.bc q els)=>if q=D.sz t then iV D t els else none
 |_=>none
theorem o8 {D:TD τ dn} {st:SS τ dn} (ok:aQ D) (R:aS D N st σ g) {t:τ} {xs:List (dn t)} (h:jX D st nm t=some xs):g (N.ι nm)=some ⟨D.sz t,xs.map (D.ea N.ρ t)⟩/\N.ln nm=xs.length:=by
 unfold jX at h
 split at h
 ·rename_i t' ys hB
  split at h
  ·rename_i he
   subst he
   simp only [KJ] at h;subst h
   exact R.gm hB
  ·simp only [KR] at h
   obtain ⟨f,hf,rfl⟩:=h
   obtain ⟨g1,g2⟩:=R.gm hB
   obtain ⟨q1,q2⟩:=ok.th N.ρ t' t f hf
   refine ⟨?_,by rw [g2];simp only [SB.len,K7]⟩
   rw [g1]
   simp only [SB.av,Mq,q1]
   congr 2
   exact MH fun x _=>(q2 x).symm
 ·rename_i q els hB
  split at h
  ·rename_i hq
   obtain ⟨g1,g2⟩:=R.gm hB
   have e1:=qR (N:=N) ok h
   have e2:=qS h
   refine ⟨?_,by rw [g2];exact e2⟩
   rw [g1];simp only [SB.av,hq,e1]
  ·simp at h
 ·simp at h
def SS.mS (D:TD τ dn) (st:SS τ dn) (nm:Nat):Option ((t:τ)×(List (Nat×List (dn t))×List (dn t))):=match st.gm 0 with
 |some (.ar t A)=>match jX D st nm t with
  |some xs=>bif !Nat.beq nm 0&&(st.rw nm&&st.rw 0) then some ⟨t,A,xs⟩ else none
  |none=>none
 |_=>none
def SS.tk (D:TD τ dn) (st:SS τ dn) (nm id:Nat) (t:τ) (A:List (Nat×List (dn t))) (xs:List (dn t)):SS τ dn:=
 ⟨st.rt,st.rm,st.t.map fun q=>(q.1,q.2.dI D.toTE nm t (Row.at (dn t) id xs.length)),(0,some (.ar t ((id,xs)::A)))::(nm,none)::st.m.map fun q=>(q.1,q.2.map (SB.dI D.toTE nm t (Row.at (dn t) id xs.length))),st.nx⟩
def uP:SV τ dn->Option Nat
 | .own nm _=>some nm
 |_=>none
def needs (D:TD τ dn) (st:SS τ dn):AO->List Nat
 | .store _ x y=>match st.ev x,st.ev y with
  |some (.ref nm _ _ _),some b=>match st.gm nm with
   |some (.bl t _)=>bif D.hr t then b.cells.filterMap uP else []
   |_=>[]
  |_,_=>[]
 | .app sz _ s x=>match st.ev s,st.ev x with
  |some (.own nm _),some b=>match st.gm nm with
   |some (.bl t _)=>bif D.hr t then (match st.cont D sz b with
    |some (.li els)=>els.flatMap fun cs=>cs.filterMap uP
    |_=>[]) else []
   |_=>[]
  |_,_=>[]
 |_=>[]
def ja (D:TD τ dn):List Nat->SS τ dn->(SS τ dn->Prop)->Prop
 |[],st,K=>K st
 |nm::r,st,K=>match st.mS D nm with
  |some ⟨t,A,xs⟩=>∀id,¬dj A id->ja D r (st.tk D nm id t A xs) K
  |none=>ja D r st K
end
section
variable {τ:Type} {dn:τ->Type} {D:TD τ dn} [DecidableEq τ]
theorem mT {α β:Type} (f:α->β):∀{l:List (Nat×α)} {i:Nat},getS (l.map fun q=>(q.1,f q.2)) i=(getS l i).map f
 |[],i=>rfl
 |(j,v)::r,i=>by
  rw [KW,aR,aR,mT f (l:=r)]
  by_cases h:i=j<;>simp [h]
theorem Hz (ok:aQ D) {st:SS τ dn} (R:Rel D N st s) {t:τ} {A:List (Nat×List (dn t))} {xs:List (dn t)} (h:st.mS D nm=some ⟨t,A,xs⟩):¬dj A (N.ι nm)/\Rel D N (st.tk D nm (N.ι nm) t A xs) s:=by
 unfold SS.mS at h
 split at h
 case h_2=>simp at h
 rename_i t' A' hU
 split at h
 case h_2=>simp at h
 rename_i ys hb
 cases hc:(!Nat.beq nm 0&&(st.rw nm&&st.rw 0)) with
 |false=>rw [hc] at h;simp at h
 |true=>
 rw [hc,KP,KJ] at h
 simp only [Sigma.mk.injEq] at h
 obtain ⟨rfl,h⟩:=h
 have h:=eq_of_heq h
 simp only [KZ] at h
 obtain ⟨rfl,rfl⟩:=h
 simp only [KM,K3] at hc
 obtain ⟨lh,hw,uQ⟩:=hc
 have zf:nm≠0:=fun e=>by subst e;simp at lh
 obtain ⟨⟨B1,m1⟩,r1⟩:=iu hw
 obtain ⟨⟨B2,m2⟩,r2⟩:=iu uQ
 have uR:B2= .ar t' A':=by
  have:=kN m2;rw [this] at hU;simpa using hU
 subst uR
 have hlt:=R.ml nm _ m1
 have o9:=R.ml 0 _ m2
 have ed:¬dj A' (N.ι nm):=fun hh=>(R.sp t' A' (fF hU) _ hh).2 nm _ (.inl m1) rfl
 have c8:∀a X,getS ((0,some (SB.ar t' ((N.ι nm,ys)::A')))::(nm,(none:Option (SB τ dn)))::st.m.map fun q=>(q.1,q.2.map (SB.dI D.toTE nm t' (Row.at (dn t') (N.ι nm) ys.length)))) a=some (some X)->
   (a=0/\X= .ar t' ((N.ι nm,ys)::A'))\/(a≠0/\a≠nm/\∃B,getS st.m a=some (some B)/\X=B.dI D.toTE nm t' (Row.at (dn t') (N.ι nm) ys.length)):=fun a X h=>by
  rw [aR,aR,mT (Option.map (SB.dI D.toTE nm t' (Row.at (dn t') (N.ι nm) ys.length)))] at h
  by_cases h0:a=0
  ·rw [KL h0] at h;simp only [KJ] at h;exact .inl ⟨h0,h.symm⟩
  ·rw [KK h0] at h
   by_cases h1:a=nm
   ·rw [KL h1] at h;simp at h
   ·rw [KK h1] at h
    simp only [KR] at h
    obtain ⟨x,hx,B,rfl,rfl⟩:=h
    exact .inr ⟨h0,h1,B,hx,rfl⟩
 have bq:∀t2 A2,(st.tk D nm (N.ι nm) t' A' ys).bd 0 (.ar t2 A2)->(SB.ar t' ((N.ι nm,ys)::A'):SB τ dn)= .ar t2 A2:=fun t2 A2 h=>by
  rcases h with h|h
  ·rcases c8 0 _ h with ⟨_,h⟩|⟨h,_⟩
   ·exact h.symm
   ·exact absurd rfl h
  ·have h':getS st.rm 0=some (some (.ar t2 A2)):=h
   rw [r2] at h';simp at h'
 refine ⟨ed,⟨fun N' hN=> ?_,R.inj,R.lt,fun a X h=> ?_,R.rl,fun t2 A2 h id hid=> ?_⟩⟩
 ·have A:=R.at_ N' hN
  have e1:N'.ι nm=N.ι nm:=(hN.1 nm hlt).1
  have hbl:=o8 ok A hb
  have e2:N'.ln nm=ys.length:=hbl.2
  refine ⟨fun i v h=> ?_,A.rs,fun a X h=> ?_,A.rb,fun t2 A2 h id hid=> ?_⟩
  ·have h':getS (st.t.map fun q=>(q.1,q.2.dI D.toTE nm t' (Row.at (dn t') (N.ι nm) ys.length))) i=some v:=h
   rw [mT (SV.dI D.toTE nm t' (Row.at (dn t') (N.ι nm) ys.length))] at h'
   simp only [KR] at h'
   obtain ⟨w,hw,rfl⟩:=h'
   rw [A.sl i w hw]
   exact (uM rfl e1 e2 w).symm
  ·rcases c8 a X h with ⟨rfl,rfl⟩|⟨h0,h1,B,hB,rfl⟩
   ·have:=A.bl 0 _ m2
    exact ⟨this.1,this.2⟩
   ·obtain ⟨p1,p2⟩:=Hy (E:=D.toTE) (N:=N') (r:=Row.at (dn t') (N.ι nm) ys.length) rfl e1 e2 B
    rw [p1,p2];exact A.bl a B hB
  ·have h':=bq t2 A2 h
   simp only [SB.ar.injEq] at h'
   obtain ⟨rfl,h'⟩:=h'
   have h':=eq_of_heq h'
   subst h'
   rw [yz]
   by_cases hi:id=N.ι nm
   ·rw [KL hi,hi, <-e1];exact hbl.1
   ·rw [KK hi]
    rcases ot.1 hid with hh|hh
    ·exact absurd hh hi
    ·exact A.ar _ A' (fF hU) id hh
 ·have h':getS ((0,some (SB.ar t' ((N.ι nm,ys)::A')))::(nm,(none:Option (SB τ dn)))::st.m.map fun q=>(q.1,q.2.map (SB.dI D.toTE nm t' (Row.at (dn t') (N.ι nm) ys.length)))) a=some X:=h
  show a<st.nx
  rw [aR,aR,mT (Option.map (SB.dI D.toTE nm t' (Row.at (dn t') (N.ι nm) ys.length)))] at h'
  by_cases h0:a=0
  ·subst h0;exact o9
  ·rw [KK h0] at h'
   by_cases h1:a=nm
   ·subst h1;exact hlt
   ·rw [KK h1] at h'
    simp only [KR] at h'
    obtain ⟨x,hx,_⟩:=h'
    exact R.ml a _ hx
 ·have h':=bq t2 A2 h
  simp only [SB.ar.injEq] at h'
  obtain ⟨rfl,h'⟩:=h'
  have h':=eq_of_heq h'
  subst h'
  have bd:∀a X,(getS (st.tk D nm (N.ι nm) t' A' ys).m a=some (some X)\/getS st.rm a=some (some X))->a≠nm/\a<st.nx/\∃X',getS st.m a=some (some X')\/getS st.rm a=some (some X'):=fun a X hX=>by
   rcases hX with hX|hX
   ·rcases c8 a X hX with ⟨rfl,rfl⟩|⟨h0,h1,B,hB,rfl⟩
    ·exact ⟨fun e=>zf e.symm,o9,_, .inl m2⟩
    ·exact ⟨h1,R.ml a _ hB,B, .inl hB⟩
   ·exact ⟨fun e=>by subst e;rw [r1] at hX;simp at hX,R.rl a _ hX,X, .inr hX⟩
  rcases ot.1 hid with hh|hh
  ·subst hh
   refine ⟨R.lt nm hlt,fun a X hX e=> ?_⟩
   obtain ⟨q1,q2,_⟩:=bd a X hX
   exact q1 (R.inj a nm q2 hlt e)
  ·obtain ⟨q1,q2⟩:=R.sp _ A' (fF hU) id hh
   refine ⟨q1,fun a X hX=> ?_⟩
   obtain ⟨_,_,X',jY⟩:=bd a X hX
   exact q2 a X' jY
theorem rr (ok:aQ D) {N:au} {s:S3} {K:SS τ dn->Prop}:∀{l:List Nat} {st:SS τ dn},Rel D N st s->ja D l st K->∃ah,Rel D N ah s/\ah.rt=st.rt/\ah.rm=st.rm/\ah.nx=st.nx/\K ah
 |[],st,R,h=>⟨st,R,rfl,rfl,rfl,h⟩
 |nm::r,st,R,h=>by
  simp only [ja] at h
  split at h
  ·rename_i t A xs ht
   obtain ⟨h1,h2⟩:=Hz ok R ht
   obtain ⟨ah,q1,q2,q3,q4,q5⟩:=rr ok h2 (h _ h1)
   exact ⟨ah,q1,q2,q3,q4,q5⟩
  ·exact rr ok R h
end
open Go.RowKit
section
variable {τ:Type} {dn:τ->Type}
abbrev JW (τ:Type) (dn:τ->Type):=FuncId->List (SV τ dn)->SS τ dn->(SV τ dn->SS τ dn->Prop)->Prop
structure bQ (τ:Type) (dn:τ->Type) where
 P:Program
 D:TD τ dn
 Δ:List (b7 τ dn)
 Ω:List (gT τ dn)
 fl:Nat
 J:JW τ dn
 hd:Bool
def ru (P:Program) (D:TD τ dn) (f:FuncId) (vs:List (SV τ dn)) (st:SS τ dn) (K:SV τ dn->SS τ dn->Prop) (N:au) (s:S3):Prop:=
 bT P f=true/\∃g1 k1 N' v st1,Fi P f (vs.map (SV.av D.toTE N)) s.g s.k (v.av D.toTE N') g1 k1/\(∀bF,N'.aW st1.nx bF->v.av D.toTE bF=v.av D.toTE N')/\N.aW st.nx N'/\st.nx<=st1.nx/\Rel D N' ⟨[],st.rm,[],st1.m,st1.nx⟩ ⟨s.σ,g1,k1⟩/\K v st1
structure bQ.Ok (C:bQ τ dn):Prop where
 ok:aQ C.D
 rv:∀c,c∈C.Δ->c.Ok C.P C.D
 zg:∀c,c∈C.Ω->c.Ok C.P C.D
 inl:∀{f vs st K N s},Rel C.D N st s->(∀N',N.aW st.nx N'->vs.map (SV.av C.D.toTE N')=vs.map (SV.av C.D.toTE N))->C.J f vs st K->ru C.P C.D f vs st K N s
def lV (D:TD τ dn):List (b7 τ dn)->FuncId->List (SV τ dn)->Option ((c:b7 τ dn)×PD dn c.ps)
 |[],_,_=>none
 |c::r,f,as_=>bif Nat.beq c.f f then (match ix D c.ps as_ with
  |some x=>some ⟨c,x⟩
  |none=>lV D r f as_) else lV D r f as_
theorem uS {D:TD τ dn}:∀{Δ:List (b7 τ dn)} {f:FuncId} {as_:List (SV τ dn)} {c:b7 τ dn} {x:PD dn c.ps},lV D Δ f as_=some ⟨c,x⟩->c∈Δ/\c.f=f/\ix D c.ps as_=some x
 |[],f,as_,c,x,h=>by simp [lV] at h
 |d::r,f,as_,c,x,h=>by
  have go:lV D r f as_=some ⟨c,x⟩->c∈d::r/\c.f=f/\ix D c.ps as_=some x:=fun h=>by
   obtain ⟨h1,h2,h3⟩:=uS h
   exact ⟨Lx _ h1,h2,h3⟩
  simp only [lV] at h
  cases hb:Nat.beq d.f f with
  |false=>rw [hb,K4] at h;exact go h
  |true=>
   rw [hb,KP] at h
   split at h
   ·rename_i y hy
    simp only [KJ] at h
    cases h
    exact ⟨LJ ..,K1 hb,hy⟩
   ·exact go h
def lW (D:TD τ dn):List (gT τ dn)->FuncId->List (SV τ dn)->Option ((c:gT τ dn)×PD dn c.ps)
 |[],_,_=>none
 |c::r,f,as_=>bif Nat.beq c.f f then (match ix D c.ps as_ with
  |some x=>some ⟨c,x⟩
  |none=>lW D r f as_) else lW D r f as_
theorem zh {D:TD τ dn}:∀{Δ:List (gT τ dn)} {f:FuncId} {as_:List (SV τ dn)} {c:gT τ dn} {x:PD dn c.ps},lW D Δ f as_=some ⟨c,x⟩->c∈Δ/\c.f=f/\ix D c.ps as_=some x
 |[],f,as_,c,x,h=>by simp [lW] at h
 |d::r,f,as_,c,x,h=>by
  have go:lW D r f as_=some ⟨c,x⟩->c∈d::r/\c.f=f/\ix D c.ps as_=some x:=fun h=>by
   obtain ⟨h1,h2,h3⟩:=zh h
   exact ⟨Lx _ h1,h2,h3⟩
  simp only [lW] at h
  cases hb:Nat.beq d.f f with
  |false=>rw [hb,K4] at h;exact go h
  |true=>
   rw [hb,KP] at h
   split at h
   ·rename_i y hy
    simp only [KJ] at h
    cases h
    exact ⟨LJ ..,K1 hb,hy⟩
   ·exact go h
def SV.cW:SV τ dn->Bool
 | .vi _| .vn _| .vy _| .vu _| .vw _ _| .vb _| .vt _| .vz _| .vo _| .emp| .dead=>true
 | .fn _ cs=>cs.isEmpty
 |_=>false
def SV.dv:SV τ dn->Bool
 | .agg cs=>cs.all SV.cW
 |a=>a.cW
def SV.nob:SV τ dn->Bool
 | .aG vs=>vs.all SV.dv
 |a=>a.dv
theorem zj {E:TE τ dn} {v:SV τ dn} (h:v.cW=true):(v.av E N).cW=true:=by
 cases v<;>simp [SV.cW] at h<;>simp [SV.av,AV.cW]
 subst h;rfl
theorem zk {E:TE τ dn} {v:SV τ dn} (h:v.dv=true):(v.av E N).dv=true:=by
 cases v with
 |agg cs=>
  simp only [SV.av,SV.dv,AV.dv,SV.ba,KQ,Li] at h ⊢
  rintro _ ⟨v,hv,rfl⟩;exact zj (h v hv)
 |vg p c v=>simp [SV.dv,SV.cW] at h
 |rw t r=>simp [SV.dv,SV.cW] at h
 |cH t r i o=>simp [SV.dv,SV.cW] at h
 |_=>
  simp only [SV.dv] at h
  exact zj (E:=E) (N:=N) h
theorem HA {E:TE τ dn} {v:SV τ dn} (h:v.nob=true):(v.av E N).nob=true:=by
 cases v with
 |aG cs=>
  simp only [SV.av,SV.nob,AV.nob,SV.ba,KQ,Li] at h ⊢
  rintro _ ⟨v,hv,rfl⟩;exact zk (h v hv)
 |vg p c v=>simp [SV.nob,SV.dv,SV.cW] at h
 |rw t r=>simp [SV.nob,SV.dv,SV.cW] at h
 |cH t r i o=>simp [SV.nob,SV.dv,SV.cW] at h
 |_=>
  simp only [SV.nob] at h
  exact zk (E:=E) (N:=N) h
def mU (st:SS τ dn) (x:Arg) (args:List Arg):Option (FuncId×List (SV τ dn)):=
 match st.ev x,args.mapM st.ev with
 |some (.fn f caps),some vs=>some (f,vs++caps)
 |some (.bf f first),some vs=>some (f,first++vs)
 |_,_=>none
theorem mV {D:TD τ dn} {st:SS τ dn} (R:aS D N st σ g) {x:Arg} {f:FuncId} {vs:List (SV τ dn)} (h:mU st x args=some (f,vs)) (k:Nat):
  (AO.af k (aD σ) (.call x args)).run g=some (.call f (vs.map (SV.av D.toTE N))):=by
 unfold mU at h
 split at h
 ·rename_i f' caps ry h1 h2
  simp only [KJ,KZ] at h;obtain ⟨rfl,rfl⟩:=h
  simp only [AO.af,R.ev h1,SV.av,RM.run,oR R h2,Lz,SV.ba]
 ·rename_i f' first ry h1 h2
  simp only [KJ,KZ] at h;obtain ⟨rfl,rfl⟩:=h
  simp only [AO.af,R.ev h1,SV.av,RM.run,oR R h2,Lz,SV.ba]
 ·simp at h
def zl [DecidableEq τ] (C:bQ τ dn) (st:SS τ dn) (x:Arg) (args:List Arg):Option (SR τ dn×List Nat):=
 match mU st x args with
 |some (f,vs)=>match lU C.D st vs with
  |some (O,as_)=>match lV C.D C.Δ f as_ with
   |some ⟨c,y⟩=>bif (c.val C.D y).nob||(vs.flatMap SV.nms).isEmpty then some (.val (O++[c.pre y]) (c.val C.D y),vs.flatMap SV.nms) else bif (c.val C.D y).lb&&(vs.all SV.nvg&&(vs.flatMap SV.nms).all st.rw) then some (.fa (O++[c.pre y]) (c.val C.D y) (vs.flatMap SV.nms),vs.flatMap SV.nms) else none
   |none=>match lW C.D C.Ω f as_ with
    |some ⟨c,y⟩=>some (.new (O++[c.pre y]) (.own st.nx (C.D.sz c.t)) (.bl c.t (c.res y)),vs.flatMap SV.nms)
    |none=>none
  |none=>none
 |none=>none
def SS.live (st:SS τ dn) (a:Nat):Bool:=Nat.blt a st.nx&&(st.gm a).isSome
def iy [DecidableEq τ] (C:bQ τ dn) (st:SS τ dn) (ao:AO):Option (SR τ dn×List Nat):=
 match ao with
 | .call x args=>match zl C st x args with
  |some (r,ns)=>bif ns.all st.live then some (r,ns) else none
  |none=>none
 |ao=>match kO C.D st ao with
  |some r=>bif (ao.nrs st).all st.live&&ao.lk.all st.ngd then some (r,ao.nrs st) else none
  |none=>none
def SR.nx (st:SS τ dn):SR τ dn->Nat
 | .new _ _ _| .mov _ _ _ _=>st.nx+1
 |_=>st.nx
theorem SR.rz (st:SS τ dn) (d:Option Nat) (r:SR τ dn):(r.st st d).nx=r.nx st:=by cases r<;>rfl
theorem uT {D:TD τ dn} (ok:aQ D) (h:N'.ρ=N.ρ) (t:τ) (x:dn t):(D.en t x).av D.toTE N=(D.en t x).av D.toTE N':=by
 have e:(D.es t x).map (SV.av D.toTE N)=(D.es t x).map (SV.av D.toTE N'):=by rw [ok.cI,ok.cI,h]
 cases ha:D.ag t with
 |true=>rw [o6 ha,SV.av,SV.av,SV.ba,SV.ba,e]
 |false=>
  unfold TD.en
  rw [ha,K4]
  cases hs:D.es t x with
  |nil=>rfl
  |cons v r=>rw [hs] at e;simp only [KW,Mw] at e;exact e.1
theorem zm {D:TD τ dn} (ok:aQ D) {N N':au} (h:N'.ρ=N.ρ):∀(rs:List τ) (x:RD dn rs),(gy D rs x).map (SV.av D.toTE N)=(gy D rs x).map (SV.av D.toTE N')
 |[],_=>rfl
 |[t],x=>by simp only [gy,KW,Lv,uT ok h t x]
 |t::s::r,x=>by simp only [gy,KW,uT ok h t x.1,zm ok h (s::r) x.2]
theorem zn {D:TD τ dn} (ok:aQ D) (h:N'.ρ=N.ρ) {c:b7 τ dn} {y:PD dn c.ps}:(c.val D y).av D.toTE N=(c.val D y).av D.toTE N':=by
 unfold b7.val;rw [rf,rf,zm ok h]
theorem HB [DecidableEq τ] {D:TD τ dn} {st:SS τ dn} {g:Nat->Option Bk} (R:aS D N st σ g) {r:SR τ dn} (h:kO D st ao=some r) (hO:∀p,p∈r.O->p):∀x,x∈ao.lk->∀v,st.ev x=some v->v.isRw=true->∀id,id∈(v.av D.toTE N).bh->fI st id:=by
 intro x hx v hv hr id hid
 unfold kO at h
 split at h
 ·simp [AO.lk] at hx
 ·have hb:(ao.lk.any st.rwa)=true:=MC.2 ⟨x,hx,by unfold SS.rwa;rw [hv];exact hr⟩
  rw [hb,KP] at h
  exact GQ R h hO hx hv hr id hid
theorem zp [DecidableEq τ] {C:bQ τ dn} (hC:C.Ok) {st:SS τ dn} (R:∀N',N.aW st.nx N'->aS C.D N' st σ g) (hg:bH σ o.guard=some true) {r:SR τ dn} {ns:List Nat} (h:iy C st o.ao=some (r,ns)) (hO:∀p,p∈r.O->p):
  ∃val ups acc,da C.P σ g k o val ups acc/\(∀N',(r.up N st k).aW (r.nx st) N'->val=r.v.av C.D.toTE N'/\ups=r.ups C.D N' k)/\(∀id,id∈acc->∃nm,nm∈ns/\(id=N.ι nm\/(nm=0/\fI st id)))/\r.may C.D N st/\(∀nm,nm∈ns->st.live nm=true):=by
 have blt:∀{l:List Nat},(l.all st.live)=true->∀nm,nm∈l->nm<st.nx:=fun h nm hn=>by
  have:=KQ.1 h nm hn
  unfold SS.live at this
  rw [KM] at this
  exact Ly this.1
 have rA:∀{l:List Nat},(l.all st.live)=true->∀nm,nm∈l->st.live nm=true:=fun h nm hn=>KQ.1 h nm hn
 have R0:=R N (N.dH _)
 have dD:∀N',(r.up N st k).aW (r.nx st) N'->N.aW st.nx N'/\r.fresh N' st.nx k:=fun N' hN=>by
  cases r with
  |val=>exact ⟨hN,trivial⟩
  |put=>exact ⟨hN,trivial⟩
  |fa=>exact ⟨hN,trivial⟩
  |dW=>exact ⟨hN,trivial⟩
  |new O v B=>
   refine ⟨au.ef (N.jP st.nx k B.len) hN (Nat.le_succ _), ?_, ?_⟩
   ·rw [(hN.1 st.nx (LQ _)).1];exact KL rfl
   ·rw [(hN.1 st.nx (LQ _)).2];exact KL rfl
  |mov O v o B=>
   refine ⟨au.ef (N.jP st.nx k B.len) hN (Nat.le_succ _), ?_, ?_⟩
   ·rw [(hN.1 st.nx (LQ _)).1];exact KL rfl
   ·rw [(hN.1 st.nx (LQ _)).2];exact KL rfl
 unfold iy at h
 split at h
 ·rename_i x args cr
  split at h
  ·rename_i r' ns' hc
   cases hb:(ns'.all st.live) with
   |false=>rw [hb] at h;simp at h
   |true=>
    rw [hb,KP,KJ,KZ] at h
    obtain ⟨rfl,rfl⟩:=h
    unfold zl at hc
    split at hc
    ·rename_i f vs dU
     split at hc
     ·rename_i Os as_ gI
      split at hc
      ·rename_i c y hf
       cases hcd:((c.val C.D y).nob||(vs.flatMap SV.nms).isEmpty) with
       |false=>
        rw [hcd,K4] at hc
        cases hce:((c.val C.D y).lb&&(vs.all SV.nvg&&(vs.flatMap SV.nms).all st.rw)) with
        |false=>rw [hce] at hc;simp at hc
        |true=>
         rw [hce,KP,KJ,KZ] at hc
         obtain ⟨rfl,rfl⟩:=hc
         rw [KM,KM] at hce
         obtain ⟨l1,l2,l3⟩:=hce
         obtain ⟨f1,f2,f3⟩:=uS hf
         obtain ⟨c1,c2⟩:=hC.rv c f1
         simp only [SR.O,Lj,KT] at hO
         have jZ:∀p,p∈Os->p:=fun p hp=>hO p (.inl hp)
         have hs:=qZ hC.ok R0 gI jZ
         have eJ:=(c2 y N (hO _ (.inr rfl))).args (re (N:=N) hC.ok f3)
         rw [f2] at eJ c1
         have hr:=da.call (P:=C.P) (fresh:=k) hg (by rw [cr];exact mV R0 dU k) c1 hs eJ
         have lK:lA (vs.map (SV.av C.D.toTE N)) ((c.val C.D y).av C.D.toTE N)=((vs.flatMap SV.nms).map N.ι).map fun i=>(i,none):=by
          unfold lA
          rw [KK (by rw [Hu l1];simp),zd l2]
         rw [lK] at hr
         refine ⟨_,_,_,hr,fun N' hN=>⟨zn hC.ok (dD N' hN).1.2, ?_⟩,fun id hid=> ?_,fun a ha=> ?_,rA hb⟩
         ·simp only [SR.ups]
          congr 1
          exact MH fun a ha=>((hN.1 a (blt hb a ha)).1).symm
         ·rcases Lj.1 hid with hid|hid
          ·have:=rk id hid
           rw [cr] at this;simp [AO.refs] at this
          ·exact o7 gI jZ id (rp id hid)
         ·exact iu (KQ.1 l3 a ha)
       |true=>
        rw [hcd,KP,KJ,KZ] at hc
        obtain ⟨rfl,rfl⟩:=hc
        obtain ⟨f1,f2,f3⟩:=uS hf
        obtain ⟨c1,c2⟩:=hC.rv c f1
        simp only [SR.O,Lj,KT] at hO
        have jZ:∀p,p∈Os->p:=fun p hp=>hO p (.inl hp)
        have key:∀N',N.aW st.nx N'->∃acc,da C.P σ g k o ((c.val C.D y).av C.D.toTE N') [] acc/\∀id,id∈acc->∃nm,nm∈vs.flatMap SV.nms/\(id=N'.ι nm\/(nm=0/\fI st id)):=fun N' hN=>by
         have R':=R N' hN
         have hs:=qZ hC.ok R' gI jZ
         have eJ:=(c2 y N' (hO _ (.inr rfl))).args (re (N:=N') hC.ok f3)
         rw [f2] at eJ c1
         have hr:=da.call (P:=C.P) (fresh:=k) hg (by rw [cr];exact mV R' dU k) c1 hs eJ
         have lK:lA (vs.map (SV.av C.D.toTE N')) ((c.val C.D y).av C.D.toTE N')=[]:=by
          unfold lA
          rw [K9] at hcd
          rcases hcd with hcd|hcd
          ·rw [KL (HA hcd)]
          ·split
           ·rfl
           ·rw [List.map_eq_nil_iff]
            rw [LN] at hcd
            rw [List.eq_nil_iff_forall_not_mem]
            intro id hid
            obtain ⟨nm,h1,_⟩:=o7 gI jZ id hid
            rw [hcd] at h1;simp at h1
         rw [lK] at hr
         refine ⟨_,hr,fun id hid=> ?_⟩
         rcases Lj.1 hid with hid|hid
         ·have:=rk id hid
          rw [cr] at this;simp [AO.refs] at this
         ·exact o7 gI jZ id (rp id hid)
        obtain ⟨acc,k1,k2⟩:=key N (N.dH _)
        refine ⟨_,_,acc,k1,fun N' hN=>⟨?_,rfl⟩,k2,trivial,rA hb⟩
        exact zn hC.ok (dD N' hN).1.2
      ·split at hc
       ·rename_i c y hf
        rw [KJ,KZ] at hc
        obtain ⟨rfl,rfl⟩:=hc
        obtain ⟨f1,f2,f3⟩:=zh hf
        obtain ⟨⟨c1,cn⟩,c2⟩:=hC.zg c f1
        simp only [SR.O,Lj,KT] at hO
        have jZ:∀p,p∈Os->p:=fun p hp=>hO p (.inl hp)
        have hs:=qZ hC.ok R0 gI jZ
        have mr:=Hj (c2 y N (hO _ (.inr rfl))) (re (N:=N) hC.ok f3)
        rw [f2] at mr c1
        have s7:∀cs,cs∈(c.res y).map (C.D.ea N.ρ c.t)->∀a,a∈cs->a.cW=true:=fun cs hcs a ha=>by
         obtain ⟨x,_,rfl⟩:=Li.1 hcs
         rw [<-hC.ok.cI N c.t x] at ha
         obtain ⟨v,hv,rfl⟩:=Li.1 ha
         exact Hi (KQ.1 (cn x) v hv)
        have hr:=da.lB (P:=C.P) (fresh:=k) hg (by rw [cr];exact mV R0 dU k) c1 hs mr s7
        refine ⟨_,_,_,hr,fun N' hN=> ?_,fun id hid=> ?_,rfl,rA hb⟩
        ·obtain ⟨uU,h1,h2⟩:=dD N' hN
         simp only [SR.v,SV.av,SR.ups,SB.av,h1,h2,uU.2,K7,SB.len,K5]
        ·rcases Lj.1 hid with hid|hid
         ·have:=rk id hid
          rw [cr] at this;simp [AO.refs] at this
         ·exact o7 gI jZ id (rp id hid)
       ·simp at hc
     ·simp at hc
    ·simp at hc
  ·simp at h
 ·split at h
  ·rename_i r' hr
   cases hb:((o.ao.nrs st).all st.live&&o.ao.lk.all st.ngd) with
   |false=>rw [hb] at h;simp at h
   |true=>
    rw [hb,KP,KJ,KZ] at h
    obtain ⟨rfl,rfl⟩:=h
    rw [KM] at hb
    obtain ⟨N1,uU⟩:∃N1,(r'.up N st k).aW (r'.nx st) N1:=⟨_,au.dH _ _⟩
    have A1:=dD N1 uU
    have e1:=(uG hC.ok (R N1 A1.1) hr hO).1 k hO A1.2
    refine ⟨_,_,_, .done hg e1,fun N' hN=> ?_,fun id hid=> ?_,(uG hC.ok R0 hr hO).2,rA hb.1⟩
    ·have A2:=dD N' hN
     have e2:=(uG hC.ok (R N' A2.1) hr hO).1 k hO A2.2
     rw [e1] at e2
     simp only [KJ,Out.done.injEq] at e2
     exact e2
    ·exact Hv R0 (Hx hr) hb.2 (HB R0 hr hO) id hid
  ·simp at h
structure NR where
 keys:List Nat
 acc:List Nat
 all:Bool:=false
 ra:Bool:=false
 ex:List Nat:=[]
 nw:Bool:=false
def rB (x y:NR):Bool:=bif x.all then !y.all&&(!y.ra&&(y.keys.isEmpty&&y.acc.all fun a=>x.ex.contains a)) else bif y.all then !x.ra&&(x.keys.isEmpty&&x.acc.all fun a=>y.ex.contains a) else ((!x.ra||y.keys.isEmpty)&&(!y.ra||x.keys.isEmpty))&&((x.keys.all fun id=> !y.acc.contains id&& !y.keys.contains id)&&(y.keys.all fun id=> !x.acc.contains id))
def uV (dep:List (List Nat)) (i j:Nat) (x y:NR):Bool:=(x.all&&x.keys.isEmpty)&&(y.nw&&(y.acc.isEmpty&&(!y.ra&&kG dep i j)))
def idsN (rs:List NR) (dep:List (List Nat)):Bool:=
 (List.range rs.length).all fun j=>(List.range j).all fun i=>((dep[j]?).getD []).contains i||(match rs[i]?,rs[j]? with|some x,some y=>rB x y||uV dep i j x y|_,_=>false)
def gV (N:au) (Q:Nat->Prop) (nm id:Nat):Prop:=(id=N.ι nm/\¬Q id)\/(nm=0/\Q id)
structure gW (N:au) (Q:Nat->Prop) (nx:Nat) (r:Rec) (x:NR):Prop where
 keys:x.all=false->∀id,id∈r.keys->∃nm,nm∈x.keys/\gV N Q nm id
 acc:x.all=false->x.ra=false->∀id,id∈r.acc->∃nm,nm∈x.acc/\gV N Q nm id
 kl:∀nm,nm∈x.keys->nm<nx
 al:∀nm,nm∈x.acc->nm<nx
 ex:∀nm,nm∈x.ex->nm<nx/\∀id,id∈r.keys->¬gV N Q nm id
 nw:x.nw=true->x.all=false/\∀id,id∈r.keys->r.fr<=id
 ca:x.all=true->x.keys.isEmpty=true->r.acc=[]
theorem gV.step {N N':au} {Q:Nat->Prop} {nx nm id:Nat} (h:gV N Q nm id) (hN:N.aW nx N') (hn:nm<nx):gV N' Q nm id:=by
 rcases h with ⟨h1,h2⟩|h
 ·exact .inl ⟨by rw [(hN.1 nm hn).1];exact h1,h2⟩
 ·exact .inr h
theorem gW.step {N N':au} {Q:Nat->Prop} {nx nx':Nat} {r:Rec} {x:NR} (h:gW N Q nx r x) (hN:N.aW nx N') (hx:nx<=nx'):gW N' Q nx' r x:=by
 refine ⟨fun ha id hid=> ?_,fun ha hb id hid=> ?_,fun nm hn=>K8 (h.kl nm hn) hx,fun nm hn=>K8 (h.al nm hn) hx,fun nm hn=>⟨K8 (h.ex nm hn).1 hx,fun id hid hq=>(h.ex nm hn).2 id hid ?_⟩,h.nw,h.ca⟩
 ·obtain ⟨nm,h1,h2⟩:=h.keys ha id hid
  exact ⟨nm,h1,h2.step hN (h.kl nm h1)⟩
 ·obtain ⟨nm,h1,h2⟩:=h.acc ha hb id hid
  exact ⟨nm,h1,h2.step hN (h.al nm h1)⟩
 ·rcases hq with ⟨h1,h2⟩|hq
  ·exact .inl ⟨h1.trans (hN.1 nm (h.ex nm hn).1).1,h2⟩
  ·exact .inr hq
theorem gW.nk {nx:Nat} {x:NR} (h:gW N Q nx r x) (ha:x.all=false) (h1:x.keys.isEmpty=true):r.keys=[]:=by
 rw [LN] at h1
 refine List.eq_nil_iff_forall_not_mem.2 fun id hid=> ?_
 obtain ⟨nm,q,_⟩:=h.keys ha id hid
 rw [h1] at q;simp at q
theorem gV.eq {nx a b id:Nat} (inj:∀a b,a<nx->b<nx->N.ι a=N.ι b->a=b) (ha:a<nx) (hb:b<nx) (h:gV N Q a id) (k:gV N Q b id):a=b:=by
 rcases h with ⟨h1,h2⟩|⟨h1,h2⟩<;>rcases k with ⟨k1,k2⟩|⟨k1,k2⟩
 ·exact inj a b ha hb (h1.symm.trans k1)
 ·exact absurd k2 h2
 ·exact absurd h2 k2
 ·rw [h1,k1]
theorem HC {nx:Nat} (inj:∀a b,a<nx->b<nx->N.ι a=N.ι b->a=b) {q:Rec} {x y:NR} (hr:gW N Q nx r x) (hq:gW N Q nx q y) (h:rB x y=true):eL r q=true:=by
 unfold rB at h
 unfold eL
 cases hx:x.all with
 |true=>
  rw [hx,KP] at h
  simp only [KM,K3] at h
  obtain ⟨h1,h2,h3,h4⟩:=h
  have e1:=hq.nk h1 h3
  rw [e1]
  simp only [List.all_nil,Bool.and_true,KQ,KM,K3,Lp,K6,Lk] at h4 ⊢
  refine fun id hid=>⟨fun hc=> ?_,by simp⟩
  obtain ⟨b,hb,eb⟩:=hq.acc h1 h2 _ hc
  exact (hr.ex b (h4 b hb)).2 id hid eb
 |false=>
  rw [hx,K4] at h
  cases hy:y.all with
  |true=>
   rw [hy,KP,KM,KM,K3] at h
   obtain ⟨h2,h3,h4⟩:=h
   have e1:=hr.nk hx h3
   rw [e1]
   simp only [List.all_nil,Bool.true_and,KQ,K3,Lp,K6,Lk] at h4 ⊢
   refine fun id hid hc=> ?_
   obtain ⟨b,hb,eb⟩:=hr.acc hx h2 _ hc
   exact (hq.ex b (h4 b hb)).2 id hid eb
  |false=>
   rw [hy,K4,KM] at h
   obtain ⟨zq,h⟩:=h
   rw [KM,K9,K9,K3,K3] at zq
   obtain ⟨mW,mX⟩:=zq
   simp only [KM,KQ,K3,Lp,K6] at h ⊢
   obtain ⟨h1,h2⟩:=h
   refine ⟨fun id hid=> ?_,fun id hid=> ?_⟩
   ·obtain ⟨a,ha,ea⟩:=hr.keys hx _ hid
    refine ⟨fun hc=> ?_,fun hc=> ?_⟩
    ·rcases mX with mX|mX
     case inr=>rw [LN] at mX;rw [mX] at ha;simp at ha
     obtain ⟨b,hb,eb⟩:=hq.acc hy mX _ hc
     have:=ea.eq inj (hr.kl a ha) (hq.al b hb) eb
     subst this;exact (h1 a ha).1 hb
    ·obtain ⟨b,hb,eb⟩:=hq.keys hy _ hc
     have:=ea.eq inj (hr.kl a ha) (hq.kl b hb) eb
     subst this;exact (h1 a ha).2 hb
   ·obtain ⟨a,ha,ea⟩:=hq.keys hy _ hid
    intro hc
    rcases mW with mW|mW
    case inr=>rw [LN] at mW;rw [mW] at ha;simp at ha
    obtain ⟨b,hb,eb⟩:=hr.acc hx mW _ hc
    have:=ea.eq inj (hq.kl a ha) (hr.al b hb) eb
    subst this;exact h2 a ha hb
inductive fJ (N:au) (Q:Nat->Prop) (nx:Nat):List Rec->List (Option Nat)->List NR->Prop
 |nil:fJ N Q nx [] [] []
 |cons {r:Rec} {c:Option Nat} {x:NR} {rs:List Rec} {hs:List (Option Nat)} {xs:List NR} (h:gW N Q nx r x) (hc:x.all=false->c=none) (t:fJ N Q nx rs hs xs):fJ N Q nx (r::rs) (c::hs) (x::xs)
theorem fJ.step {N N':au} {Q:Nat->Prop} {nx nx':Nat} {rs:List Rec} {hs:List (Option Nat)} {xs:List NR} (h:fJ N Q nx rs hs xs) (hN:N.aW nx N') (hx:nx<=nx'):fJ N' Q nx' rs hs xs:=by
 induction h with
 |nil=>exact .nil
 |cons h hc _ ih=>exact .cons (h.step hN hx) hc ih
theorem fJ.snoc {nx:Nat} {xs:List NR} (h:fJ N Q nx rs hs xs) {c:Option Nat} {x:NR} (hr:gW N Q nx r x) (hc:x.all=false->c=none):fJ N Q nx (rs++[r]) (hs++[c]) (xs++[x]):=by
 induction h with
 |nil=>exact .cons hr hc .nil
 |cons h hc _ ih=>exact .cons h hc ih
theorem fJ.len {nx:Nat} {xs:List NR} (h:fJ N Q nx rs hs xs):rs.length=xs.length:=by
 induction h with
 |nil=>rfl
 |cons _ _ _ ih=>simp [ih]
theorem fJ.get {nx:Nat} {xs:List NR} (h:fJ N Q nx rs hs xs):∀(i:Nat) x,xs[i]? =some x->∃r c,rs[i]? =some r/\hs[i]? =some c/\gW N Q nx r x/\(x.all=false->c=none):=by
 induction h with
 |nil=>intro i x hx;simp at hx
 |cons h hc _ ih=>
  intro i x hx
  cases i with
  |zero=>simp only [Ll,KJ] at hx;subst hx;exact ⟨_,_,rfl,rfl,h,hc⟩
  |succ i=>exact ih i x (by simpa using hx)
theorem zr {nx:Nat} (inj:∀a b,a<nx->b<nx->N.ι a=N.ι b->a=b) {xs:List NR} (h:fJ N Q nx rs hs xs) (hlt:∀(i j:Nat) ri rj,i<j->rs[i]? =some ri->rs[j]? =some rj->∀id,id∈ri.keys->id<rj.fr) (jF:∀(i:Nat) x,xs[i]? =some x->x.nw=true->i=jn) (hd:idsN xs dep=true):ew rs dep=true/\gP jn rs hs dep=true:=by
 unfold idsN at hd
 unfold ew gP
 simp only [KQ,Lo,K9] at hd ⊢
 refine ⟨fun j hj i hi=> ?_,fun j hj i hi=> ?_⟩
 ·rcases hd j (by rw [<-h.len];exact hj) i hi with h1|h1
  ·exact .inl h1
  ·right
   split at h1
   ·rename_i x y hx hy
    obtain ⟨r,_,hr,_,rC,_⟩:=h.get i x hx
    obtain ⟨q,_,hq,_,lX,_⟩:=h.get j y hy
    rw [hr,hq]
    rw [K9] at h1
    rcases h1 with h1|h1
    ·exact HC inj rC lX h1
    ·unfold uV at h1
     simp only [KM,K3] at h1
     obtain ⟨n1,n2,n3,n4,n5⟩:=h1
     have e1:=rC.ca n1.1 n1.2
     have e2:q.acc=[]:=by
      rw [LN] at n3
      refine List.eq_nil_iff_forall_not_mem.2 fun id hid=> ?_
      obtain ⟨nm,eR,_⟩:=lX.acc (lX.nw n2).1 n4 id hid
      rw [n3] at eR;simp at eR
     show eL r q=true
     unfold eL
     rw [e1,e2]
     simp only [List.contains_nil,LL,Bool.and_true,Bool.true_and,KM,KQ,K3,Lp,K6]
     refine ⟨fun id hid=>⟨by simp,fun hc=> ?_⟩,by simp⟩
     have b1:=hlt i j r q hi hr hq id hid
     have b2:=(lX.nw n2).2 id hc
     omega
   ·simp at h1
 ·rcases hd j (by rw [<-h.len];exact hj) i hi with h1|h1
  ·exact .inl h1
  ·right
   split at h1
   ·rename_i x y hx hy
    obtain ⟨r,c,hr,hc,rC,bW⟩:=h.get i x hx
    obtain ⟨q,e,hq,he,lX,uW⟩:=h.get j y hy
    rw [hr,hq]
    have emp:∀{r:Rec},r.keys=[]->r.ups.isEmpty=true:=fun {r} hk=>by
     unfold Rec.keys at hk
     rw [List.map_eq_nil_iff] at hk
     rw [hk];rfl
    rw [K9] at h1
    rcases h1 with h1|h1
    case inr=>
     unfold uV at h1
     simp only [KM,K3] at h1
     obtain ⟨n1,n2,n3,n4,n5⟩:=h1
     have ce:=uW (lX.nw n2).1
     subst ce
     have g7:b5 hs j=false:=by unfold b5;rw [he]
     have ej:=jF j y hy n2
     have eb:Nat.beq j jn=true:=by rw [ej];exact Nat.beq_refl _
     simp only [g7,eb,n5];simp
    unfold rB at h1
    cases hxa:x.all with
    |true=>
     rw [hxa,KP] at h1
     simp only [KM,K3] at h1
     have ce:=uW h1.1
     subst ce
     have k1:=lX.nk h1.1 h1.2.2.1
     have:b5 hs j=false:=by unfold b5;rw [he]
     simp only [this,emp k1];simp
    |false=>
     rw [hxa,K4] at h1
     have cc:=bW hxa
     subst cc
     have hi:b5 hs i=false:=by unfold b5;rw [hc]
     cases hya:y.all with
     |true=>
      rw [hya,KP,KM,KM] at h1
      have k1:=rC.nk hxa h1.2.1
      simp only [hi,emp k1];simp
     |false=>
      have ce:=uW hya
      subst ce
      have g7:b5 hs j=false:=by unfold b5;rw [he]
      simp only [hi,g7];simp
   ·simp at h1
theorem rD (h:Nat->Option Bk):∀(l:List Nat) (g:Nat->Option Bk) (id:Nat),aj g (l.map fun i=>(i,h i)) id=if id∈l then h id else g id
 |[],g,id=>by simp [aj]
 |a::r,g,id=>by
  rw [KW,aj,rD h r]
  by_cases h1:id∈r<;>by_cases h2:id=a<;>simp [h1,h2]
theorem uX (g h:Nat->Option Bk) (K id:Nat):aj g ((List.range K).map fun i=>(i,h i)) id=if id<K then h id else g id:=by
 rw [rD];simp only [Lo]
theorem zt {P:Program} {f:FuncId} {as_:List AV} {g1:Nat->Option Bk} {r:AV} (h:Fi P f as_ g k r g1 k1):Fi P f as_ g k r (aj g ((List.range (max k k1)).map fun i=>(i,g1 i))) (max k k1):=by
 intro E J base vs hG hm aX bW
 refine (h E J base vs hG hm aX bW).mono ?_
 rintro e w' ⟨v,E',he,hw,hle,hr,hM,hb,hk⟩
 refine ⟨v,E',he,hw,hle,hr, ?_,hb,fun id hid=>by have:=hk id hid;omega⟩
 have:aj g ((List.range (max k k1)).map fun i=>(i,g1 i))=g1:=by
  funext id
  rw [uX]
  by_cases hi:id<max k k1
  ·rw [KL hi]
  ·rw [KK hi]
   have e1:g id=none:=by
    cases hq:g id with
    |none=>rfl
    |some B=>exact absurd (aX id ((hm.live id).2 ⟨B,hq⟩).1) (by omega)
   have e2:g1 id=none:=by
    cases hq:g1 id with
    |none=>rfl
    |some B=>exact absurd (hk id ((hM.live id).2 ⟨B,hq⟩).1) (by omega)
   rw [e1,e2]
 rw [this];exact hM
def AO.uns:AO->List Nat
 | .pick c _ _=>c.slot
 |ao=>ao.nZ
def SS.set (st:SS τ dn) (d:Option Nat) (v:SV τ dn):SS τ dn:=⟨st.rt,st.rm,ga st.t d v,st.m,st.nx⟩
variable [DecidableEq τ]
def eT (z:Bool):List (Nat×Option (SB τ dn))->List (Nat×Option (SB τ dn))
 |[]=>[]
 |e::r=>bif Bool.xor (Nat.beq e.1 0) z then eT z r else e::eT z r
theorem zu {z:Bool}:∀{m:List (Nat×Option (SB τ dn))} {nm:Nat},getS (eT z m) nm=if Bool.xor (Nat.beq nm 0) z=true then none else getS m nm
 |[],nm=>by simp [eT,getS]
 |e::r,nm=>by
  have ih:=zu (z:=z) (m:=r) (nm:=nm)
  unfold eT
  cases hb:Bool.xor (Nat.beq e.1 0) z with
  |true=>
   rw [KP,ih,show (e::r)=((e.1,e.2)::r) from rfl,aR]
   by_cases q:nm=e.1
   ·rw [q,KL hb,KL hb]
   ·rw [KK q]
  |false=>
   rw [K4,show (e::eT z r)=((e.1,e.2)::eT z r) from rfl,aR,ih,show (e::r)=((e.1,e.2)::r) from rfl,aR]
   by_cases q:nm=e.1
   ·rw [q,KL rfl,KL rfl,hb];simp
   ·rw [KK q,KK q]
theorem lY {α:Type}:∀{a b:List (Nat×α)} {i:Nat},getS (a++b) i=(match getS a i with|some v=>some v|none=>getS b i)
 |[],b,i=>by simp [getS]
 |e::r,b,i=>by
  have ih:=lY (a:=r) (b:=b) (i:=i)
  rw [L2,show (e::(r++b))=((e.1,e.2)::(r++b)) from rfl,aR,show (e::r)=((e.1,e.2)::r) from rfl,aR,ih]
  by_cases q:i=e.1
  ·rw [KL q,KL q]
  ·rw [KK q,KK q]
def SS.hid (st:SS τ dn):SS τ dn:=⟨st.rt,eT false st.m++st.rm,st.t,eT true st.m,st.nx⟩
def lZ (l:List (Nat×Option (SB τ dn))):List (Nat×Option (SB τ dn))->List Nat
 |[]=>[]
 |e::r=>bif (match getS l e.1 with|some (some _)=>true|_=>false) then e.1::lZ l r else lZ l r
def SS.l0 (st:SS τ dn):List Nat:=lZ st.hid.rm st.hid.rm
def pa (rm:List (Nat×Option (SB τ dn))):List (Nat×Option (SB τ dn))->Bool
 |[]=>true
 |e::r=>(getS rm e.1).isNone&&pa rm r
def hidB (hd:Bool) (dep:Option (List (List Nat))) (st:SS τ dn) (vs:List (SV τ dn)):Bool:=dep.isSome&&((hd||SV.cY (fun _=>false) vs)&&pa st.rm (eT false st.m))
def HD (C:bQ τ dn):Arg->Bool
 | .c (.fn f _)=>(C.Δ.any fun c=>Nat.beq c.f f)||C.Ω.any fun c=>Nat.beq c.f f
 |_=>false
def HE (C:bQ τ dn) (dep:Option (List (List Nat))) (os:List aw):Bool:=dep.isNone||(os.any fun o=>match o.ao with
 | .call x _=> !HD C x
 | .app _ b _ _=>Nat.beq b 24
 |_=>false)||((os.any fun o=>match o.ao with
 | .call (.c (.fn f _)) _=>C.Ω.any fun c=>Nat.beq c.f f
 | .load (some _) _=>true
 | .msl _ b _ _ _=>Nat.beq b 24
 |_=>false)&&os.any fun o=>match o.ao with
 | .store _ _ _=>true
 |_=>false)
def SS.rE (st:SS τ dn):Bool:=match st.gm 0 with
 |some (.ar _ _)=>true
 |_=>false
def cU (B:Bool) (st:SS τ dn) (keys acc:List Nat) (nb:Bool:=false):NR:=⟨keys,acc,B&&(st.rE&&keys.any (Nat.beq 0)),B&&(st.rE&&acc.any (Nat.beq 0)),[],nb⟩
def mY (o:aw) (r:SR τ dn) (rs:List NR):Bool:=(match r with| .new _ _ _=>true|_=>false)&&(fY o&&(!(rs.any fun x=>x.nw)))
def SS.ff (st:SS τ dn) (i:Nat) (v:SV τ dn):SS τ dn:=⟨st.rt,st.rm,(i,v)::st.t,st.m,st.nx⟩
def uY (i:Option Nat) (st:SS τ dn) (K:SS τ dn->Prop):Prop:=match i with
 |none=>K st
 |some i=>match st.gt i with
  |some (.vb c)=>(c.tf true->K (st.ff i (.vt true)))/\(c.tf false->K (st.ff i (.vt false)))
  |_=>K st
theorem Rel.ff {D:TD τ dn} {N:au} {st:SS τ dn} {s:S3} (R:Rel D N st s) {i:Nat} {c:Cn} (h:st.gt i=some (.vb c)) {b:Bool} (hb:c.den=b):Rel D N (st.ff i (.vt b)) s:=by
 refine ⟨fun N' hN=> ?_,R.inj,R.lt,R.ml,R.rl,R.sp⟩
 have A:=R.at_ N' hN
 refine ⟨fun j v hv=> ?_,A.rs,A.bl,A.rb,A.ar⟩
 simp only [SS.ff,aR] at hv
 split at hv
 ·rename_i e
  simp only [KJ] at hv
  subst hv;subst e
  rw [A.gt h]
  simp only [SV.av,hb]
 ·exact A.sl j v hv
theorem HF {D:TD τ dn} {i:Option Nat} {st:SS τ dn} {K:SS τ dn->Prop} (R:Rel D N st s) (h:uY i st K):∃ah,Rel D N ah s/\ah.rt=st.rt/\ah.rm=st.rm/\ah.nx=st.nx/\K ah:=by
 unfold uY at h
 split at h
 ·exact ⟨st,R,rfl,rfl,rfl,h⟩
 ·split at h
  ·rename_i j c hc
   cases hd:c.den with
   |true=>exact ⟨_,R.ff hc hd,rfl,rfl,rfl,h.1 ((Cn.gR c true).2 hd)⟩
   |false=>exact ⟨_,R.ff hc hd,rfl,rfl,rfl,h.2 ((Cn.gR c false).2 hd)⟩
  ·exact ⟨st,R,rfl,rfl,rfl,h⟩
def mZ (C:bQ τ dn) (st:SS τ dn) (o:aw):Option Nat:=match o.guard with
 |some (i,_)=>match st.gt i with
  |some (.vb _)=>match o.ao with
   | .call _ _=>match iy C (st.unw o.ao.uns) o.ao with
    |some _=>none
    |none=>some i
   |_=>none
  |_=>none
 |none=>none
def m6 (C:bQ τ dn) (st:SS τ dn) (o:aw) (os:List aw) (K:SS τ dn->Prop):Prop:=match mZ C st o with
 |none=>K st
 |some i=>match o.guard with
  |some (_,w)=>match st.gt i with
   |some (.vb c)=>((c.pol w).tf true->eS (gS (st.ff i (.vt w)) (c.pol w) ((o::os).flatMap fun o=>o.ao.uns)) (K ((st.ff i (.vt w)).unw ((o::os).flatMap fun o=>o.ao.uns))))/\((c.pol w).tf false->K (st.ff i (.vt !w)))
   |_=>K st
  |none=>K st
theorem uZ {C:bQ τ dn} {st:SS τ dn} (h:(∀e,st.gd o.guard≠ .jR e)\/∃r,iy C (st.unw o.ao.uns) o.ao=some r):mZ C st o=none:=by
 unfold mZ
 split
 ·rename_i i w hg
  split
  ·rename_i c hc
   split
   ·rename_i x args cr
    split
    ·rfl
    ·rename_i hn
     rcases h with h|⟨r,h⟩
     ·exact absurd (by rw [hg];simp only [SS.gd,hc]) (h (c.pol w))
     ·rw [h] at hn;cases hn
   ·rfl
  ·rfl
 ·rfl
def wpOps (C:bQ τ dn) (n:Nat) (dep:Option (List (List Nat))) (B:Bool):List aw->List NR->SS τ dn->(SS τ dn->Prop)->Prop
 |[],rs,st,K=>match dep with
  |none=>K st
  |some d=>bif idsN rs d then K st else False
 |o::os,rs,st,K=>ja C.D (bif B then needs C.D st o.ao else []) st fun st=>m6 C st o os fun st=>bif dstS n st.rt o.dst then (match st.gd o.guard with
  | .yes=>match iy C st o.ao with
   |some (r,ns)=>eS r.O (wpOps C n dep B os (rs++[cU B st (r.keys st) ns (mY o r rs&& !(cU B st (r.keys st) ns).all)]) (r.st st o.dst) K)
   |none=>match o.ao with
    | .call x args=>match mU st x args with
     |some (f,vs)=>bif B then (bif hidB C.hd dep st vs then C.J f vs st.hid fun v st1=>wpOps C n dep B os (rs++[⟨[],[],true,false,st.l0,false⟩]) ⟨st.rt,st.rm,ga st.t o.dst v,st1.m++eT false st.m,st1.nx⟩ K else C.J f vs st fun v st1=>wpOps C n dep B os (rs++[⟨[],[],true,false,[],false⟩]) ⟨st.rt,st.rm,ga st.t o.dst v,st1.m,st1.nx⟩ K) else False
     |none=>False
    |_=>False
  | .no=>wpOps C n dep B os (rs++[⟨[],[],false,false,[],false⟩]) (st.set o.dst (.vo undef)) K
  | .jR e=>match iy C (st.unw o.ao.uns) o.ao with
   |some (.val O v,ns)=>eS (gS st e o.ao.uns++O.map fun p=>e.tf true->p) (wpOps C n dep B os (rs++[cU B st [] ns]) (st.set o.dst (.vg true e v)) K)
   |_=>False
  | .bad=>False) else False
structure eg (B:Bool) (Q:Nat->Prop) (N:au) (st:SS τ dn) (s:S3):Prop where
 q0:B=true->∀id,¬Q id
 qa:∀nm X,(getS st.m nm=some (some X)\/getS st.rm nm=some (some X))->¬Q (N.ι nm)
 qb:B=false->∀id,fI st id->Q id
 qk:∀id,Q id->id<s.k
theorem eg.pb {st:SS τ dn} (h:∀id,¬Q id):eg true Q N st s:=⟨fun _=>h,fun _ _ _=>h _,fun hh=>by simp at hh,fun id hid=>absurd hid (h id)⟩
theorem zw {C:bQ τ dn} {B:Bool} {st:SS τ dn} {K:SS τ dn->Prop} (R:Rel C.D N st s) (M:eg B Q N st s) (h:m6 C st o os K):∃ah,Rel C.D N ah s/\eg B Q N ah s/\ah.rt=st.rt/\ah.rm=st.rm/\ah.nx=st.nx/\K ah:=by
 unfold m6 at h
 split at h
 ·exact ⟨st,R,M,rfl,rfl,rfl,h⟩
 ·rename_i i _
  split at h
  ·rename_i _ w _
   split at h
   ·rename_i c hc
    cases hd:(c.pol w).den with
    |true=>
     have hcd:c.den=w:=by cases w<;>simpa [Cn.pol,Cn.den] using hd
     have R1:=R.ff hc hcd
     have h1:=(iv.1 (h.1 ((Cn.gR _ true).2 hd)))
     exact ⟨(st.ff i (.vt w)).unw ((o::os).flatMap fun o=>o.ao.uns),⟨fun N' hN=>yY (R1.at_ N' hN) hd h1.1,R1.inj,R1.lt,R1.ml,R1.rl,R1.sp⟩,⟨M.q0,M.qa,M.qb,M.qk⟩,rfl,rfl,rfl,h1.2⟩
    |false=>
     have hcd:c.den= !w:=by cases w<;>simpa [Cn.pol,Cn.den] using hd
     exact ⟨_,R.ff hc hcd,⟨M.q0,M.qa,M.qb,M.qk⟩,rfl,rfl,rfl,h.2 ((Cn.gR _ false).2 hd)⟩
   ·exact ⟨st,R,M,rfl,rfl,rfl,h⟩
  ·exact ⟨st,R,M,rfl,rfl,rfl,h⟩
theorem SR.HG {D:TD τ dn} {st:SS τ dn} {r:SR τ dn} (hm:r.may D N st) {X:SB τ dn} (h:getS (r.st st d).m nm=some (some X)\/getS (r.st st d).rm nm=some (some X)):(nm=st.nx/\r.nx st=st.nx+1)\/∃X',getS st.m nm=some (some X')\/getS st.rm nm=some (some X'):=by
 have rF:(r.st st d).rm=st.rm:=by cases r<;>rfl
 rw [rF] at h
 rcases h with h|h
 case inr=>exact .inr ⟨X, .inr h⟩
 cases r with
 |val O v=>exact .inr ⟨X, .inl h⟩
 |new O v B=>
  simp only [SR.st,aR] at h
  by_cases hn:nm=st.nx
  ·exact .inl ⟨hn,rfl⟩
  ·rw [KK hn] at h;exact .inr ⟨X, .inl h⟩
 |put O v dF B=>
  simp only [SR.st,aR] at h
  by_cases hn:nm=dF
  ·subst hn;obtain ⟨⟨B0,bV,_⟩,_⟩:=hm;exact .inr ⟨B0, .inl bV⟩
  ·rw [KK hn] at h;exact .inr ⟨X, .inl h⟩
 |mov O v aJ B=>
  simp only [SR.st,aR] at h
  by_cases hn:nm=st.nx
  ·exact .inl ⟨hn,rfl⟩
  ·rw [KK hn] at h
   by_cases ho:nm=aJ
   ·rw [KL ho] at h;simp at h
   ·rw [KK ho] at h;exact .inr ⟨X, .inl h⟩
 |fa O v ns=>
  rcases oV h with ⟨_,h2⟩|⟨_,h2⟩
  ·simp at h2
  ·exact .inr ⟨X, .inl h2⟩
 |dW O v id t row A=>
  simp only [SR.st,aR] at h
  by_cases hn:nm=0
  ·subst hn;exact .inr ⟨_, .inl hm.1⟩
  ·rw [KK hn] at h;exact .inr ⟨X, .inl h⟩
theorem SR.HH {D:TD τ dn} {st:SS τ dn} {r:SR τ dn} (hm:r.may D N st) {id:Nat} (h:fI (r.st st d) id):fI st id:=by
 obtain ⟨t,A,h,hid⟩:=h
 have bD:∀{x:SS τ dn} {dF:Nat} {B:Option (SB τ dn)} {t':List (Nat×SV τ dn)} {m:List (Nat×Option (SB τ dn))} {nx:Nat},(⟨st.rt,st.rm,t',(dF,B)::m,nx⟩:SS τ dn).gm 0=some (.ar t A)->(∀b,B=some b->b.gw=false)->(⟨st.rt,st.rm,st.t,m,st.nx⟩:SS τ dn).gm 0=some (.ar t A):=fun {x dF B t' m nx} h hB=>by
  rw [yQ (rt':=st.rt) (t':=st.t) (nx':=st.nx)] at h
  by_cases h0:0=dF
  ·rw [KL h0] at h;have:=hB _ h;simp [SB.gw] at this
  ·rw [KK h0] at h;exact h
 cases r with
 |val O v=>exact ⟨t,A,h,hid⟩
 |new O v B=>exact ⟨t,A,bD (x:=st) h (fun b hb=>by simp only [KJ] at hb;subst hb;exact hm),hid⟩
 |put O v dF B=>exact ⟨t,A,bD (x:=st) h (fun b hb=>by simp only [KJ] at hb;subst hb;exact hm.2.2),hid⟩
 |mov O v aJ B=>
  have h1:=bD (x:=st) h (fun b hb=>by simp only [KJ] at hb;subst hb;exact hm.2.2)
  exact ⟨t,A,bD (x:=st) h1 (fun b hb=>by simp at hb),hid⟩
 |fa O v ns=>
  refine ⟨t,A, ?_,hid⟩
  have hh:∀(l:List Nat),(⟨st.rt,st.rm,st.t,(l.map fun a=>(a,(none:Option (SB τ dn))))++st.m,st.nx⟩:SS τ dn).gm 0=some (.ar t A)->st.gm 0=some (.ar t A):=by
   intro l
   induction l with
   |nil=>exact fun h=>h
   |cons a l ih=>
    intro h
    rw [KW,L2] at h
    exact ih (bD (x:=st) h (fun b hb=>by simp at hb))
  exact hh ns h
 |dW O v jQ t0 row A0=>
  simp only [SR.st] at h
  rw [yQ (rt':=st.rt) (t':=st.t) (nx':=st.nx),KL rfl,KJ] at h
  simp only [SB.ar.injEq] at h
  obtain ⟨rfl,h⟩:=h
  have h:=eq_of_heq h
  subst h
  refine ⟨t0,A0,kN hm.1, ?_⟩
  rcases ot.1 hid with hh|hh
  ·subst hh;exact hm.2.2
  ·exact hh
theorem m7 {st:SS τ dn} (h:st.live nm=true):nm<st.nx/\∃X,getS st.m nm=some (some X)\/getS st.rm nm=some (some X):=by
 unfold SS.live at h
 rw [KM] at h
 obtain ⟨B,hB⟩:=MD.1 h.2
 exact ⟨Ly h.1,B,fF hB⟩
theorem zx {st:SS τ dn} {id:Nat} (h:fI st id):st.rE=true:=by
 obtain ⟨t,A,h,_⟩:=h
 unfold SS.rE;rw [h]
theorem zy (h:0∈l):l.any (Nat.beq 0)=true:=MC.2 ⟨0,h,rfl⟩
theorem zA {B:Bool} {st:SS τ dn} {s:S3} (M:eg B Q N st s) {keys acc:List Nat} (ha:(cU B st keys acc).ra=false) {id:Nat} (hn:nm∈acc) (hl:st.live nm=true) (h:id=N.ι nm\/(nm=0/\fI st id)):gV N Q nm id:=by
 rcases h with h|⟨rfl,h⟩
 ·obtain ⟨_,X,hX⟩:=m7 hl
  exact .inl ⟨h,by rw [h];exact M.qa nm X hX⟩
 ·cases B with
  |false=>exact .inr ⟨rfl,M.qb rfl id h⟩
  |true=>
   simp only [cU,zx h,zy hn,Bool.and_true] at ha
   simp at ha
theorem u0 {l:List (Nat×Option (SB τ dn))}:∀{m:List (Nat×Option (SB τ dn))} {nm:Nat},nm∈lZ l m->∃B,getS l nm=some (some B)
 |[],nm,h=>by simp [lZ] at h
 |e::r,nm,h=>by
  have go:nm∈lZ l r->∃B,getS l nm=some (some B):=u0
  unfold lZ at h
  cases hb:(match getS l e.1 with|some (some _)=>true|_=>false) with
  |false=>rw [hb,K4] at h;exact go h
  |true=>
   rw [hb,KP] at h
   rcases KU.1 h with rfl|h
   ·split at hb
    ·rename_i B hB;exact ⟨B,hB⟩
    ·cases hb
   ·exact go h
theorem zB {rm:List (Nat×Option (SB τ dn))}:∀{m:List (Nat×Option (SB τ dn))} {nm:Nat} {v:Option (SB τ dn)},pa rm m=true->getS m nm=some v->getS rm nm=none
 |[],nm,v,_,h=>by simp [getS] at h
 |e::r,nm,v,hd,h=>by
  unfold pa at hd
  rw [KM] at hd
  rw [show (e::r)=((e.1,e.2)::r) from rfl,aR] at h
  by_cases q:nm=e.1
  ·rw [q];exact Option.isNone_iff_eq_none.1 hd.1
  ·rw [KK q] at h;exact zB hd.2 h
theorem m8 {z:Bool} {m:List (Nat×Option (SB τ dn))} {v:Option (SB τ dn)} (h:getS (eT z m) nm=some v):getS m nm=some v/\Bool.xor (Nat.beq nm 0) z=false:=by
 rw [zu] at h
 split at h
 ·cases h
 ·rename_i q;exact ⟨h,by simpa using q⟩
theorem HI {C:bQ τ dn} (hC:C.Ok) {dep:Option (List (List Nat))} {xs:List NR} {st:SS τ dn} {K:SS τ dn->Prop} (R:Rel C.D N st s) (M:eg true Q N st s)
  (g1:st.gd o.guard= .yes->bH s.σ o.guard=some true) (cq:st.gd o.guard= .yes) {x:Arg} (cr:o.ao= .call x args) (hd:dstS n st.rt o.dst=true) {f:FuncId} {vs:List (SV τ dn)} (dU:mU st x args=some (f,vs)) (fv:∀N',N.aW st.nx N'->vs.map (SV.av C.D.toTE N')=vs.map (SV.av C.D.toTE N)) (hh:hidB C.hd dep st vs=true)
  (h:C.J f vs st.hid fun v st1=>wpOps C n dep true os (xs++[⟨[],[],true,false,st.l0,false⟩]) ⟨st.rt,st.rm,ga st.t o.dst v,st1.m++eT false st.m,st1.nx⟩ K):
  (∃val ups acc x cJ N',da C.P s.σ s.g s.k o val ups acc/\wpOps C n dep true os (xs++[x]) cJ K/\N.aW st.nx N'/\st.nx<=cJ.nx/\gW N' Q cJ.nx ⟨o.dst,val,ups,acc,s.k⟩ x/\(x.nw=true->fY o=true/\(xs.any fun x=>x.nw)=false)/\(cJ.rt=st.rt/\cJ.rm=st.rm)/\∃k1,s.k<=k1/\(∀id,id∈ups.map Prod.fst->id<k1)/\Rel C.D N' cJ ⟨bp n o.dst val s.σ,aj s.g ups,k1⟩/\eg true Q N' cJ ⟨bp n o.dst val s.σ,aj s.g ups,k1⟩)\/
  ∃f as_ r ups k1 cJ N',bH s.σ o.guard=some true/\o.ao.allocs=false/\(o.ao.af s.k (aD s.σ)).run s.g=some (.call f as_)/\bT C.P f=true/\Fi C.P f as_ s.g s.k r (aj s.g ups) k1/\(s.k<=k1/\∀id,id∈ups.map Prod.fst->id<k1)/\(∃ex,(∀nm,nm∈ex->nm<cJ.nx/\∀id,id∈ups.map Prod.fst->¬gV N' Q nm id)/\wpOps C n dep true os (xs++[⟨[],[],true,false,ex,false⟩]) cJ K)/\N.aW st.nx N'/\st.nx<=cJ.nx/\(cJ.rt=st.rt/\cJ.rm=st.rm)/\Rel C.D N' cJ ⟨bp n o.dst r s.σ,aj s.g ups,k1⟩/\eg true Q N' cJ ⟨bp n o.dst r s.σ,aj s.g ups,k1⟩:=by
 have nF:pa st.rm (eT false st.m)=true:=by
  unfold hidB at hh
  rw [KM,KM] at hh
  exact hh.2.2
 have cC:∀nm B,st.hid.bd nm B->st.bd nm B:=fun nm B hB=>by
  rcases hB with hB|hB
  ·exact .inl (m8 hB).1
  ·simp only [SS.hid,lY] at hB
   split at hB
   ·rename_i v hv
    rw [hB] at hv
    exact .inl (m8 hv).1
   ·exact .inr hB
 have fP:∀nm v,getS st.hid.rm nm=some v->getS st.m nm=some v\/getS st.rm nm=some v:=fun nm v hv=>by
  simp only [SS.hid,lY] at hv
  split at hv
  ·rename_i w hw
   rw [hv] at hw
   exact .inl (m8 hw).1
  ·exact .inr hv
 have Rh:Rel C.D N st.hid s:=by
  refine ⟨fun N' hN=> ?_,R.inj,R.lt,fun nm B hB=>R.ml nm B (m8 hB).1,fun nm B hB=> ?_,fun t A h id hid=> ?_⟩
  ·have A:=R.at_ N' hN
   refine ⟨A.sl,A.rs,fun nm B hB=>A.bl nm B (m8 hB).1,fun nm B hB=> ?_,fun t X hX id hid=>A.ar t X (cC 0 _ hX) id hid⟩
   rcases fP nm _ hB with q|q
   ·exact A.bl nm B q
   ·exact A.rb nm B q
  ·rcases fP nm _ hB with q|q
   ·exact R.ml nm B q
   ·exact R.rl nm B q
  ·obtain ⟨q1,q2⟩:=R.sp t A (cC 0 _ h) id hid
   exact ⟨q1,fun nm B hB=>q2 nm B (cC nm B hB)⟩
 have hc0:=mV R.here dU s.k
 obtain ⟨h1,j0,k1,N',v,st1,h2,h3,h4,h5,h6,h7⟩:=hC.inl Rh fv h
 have u4:∀id,id<k1->aj s.g ((List.range (max s.k k1)).map fun i=>(i,j0 i)) id=j0 id:=fun id hid=>by rw [uX,KL (by omega)]
 have hu:aj s.g (((List.range (max s.k k1)).filter fun i=> !(st.l0.map N'.ι).contains i).map fun i=>(i,j0 i))=aj s.g ((List.range (max s.k k1)).map fun i=>(i,j0 i)):=by
  funext id
  rw [rD,rD]
  simp only [List.mem_filter]
  by_cases q1:id∈List.range (max s.k k1)
  ·by_cases q2:(st.l0.map N'.ι).contains id=true
   ·rw [KK (by rw [q2];simp),KL q1]
    obtain ⟨nm,hn,rfl⟩:=Li.1 (L1.1 q2)
    obtain ⟨B,hB⟩:=u0 hn
    exact ((Rh.at_ N' h4).rb nm B hB).1.trans (h6.here.rb nm B hB).1.symm
   ·rw [KL ⟨q1,by simpa using q2⟩,KL q1]
  ·rw [KK (fun q=>q1 q.1),KK q1]
 have pc:∀nm B,(getS (st1.m++eT false st.m) nm=some (some B)\/getS st.rm nm=some (some B))->(getS st1.m nm=some (some B)\/getS st.hid.rm nm=some (some B)):=fun nm B hB=>by
  rcases hB with hB|hB
  ·rw [lY] at hB
   split at hB
   ·rename_i w hw
    rw [hB] at hw;exact .inl hw
   ·exact .inr (by simp only [SS.hid,lY,hB])
  ·right
   simp only [SS.hid,lY]
   split
   ·rename_i w hw
    rw [zB nF hw] at hB;cases hB
   ·exact hB
 refine .inr ⟨f,_,_,_,max s.k k1,_,N',g1 cq,by rw [cr];rfl,by rw [cr];exact hc0,h1,by rw [hu];exact zt h2,⟨Nat.le_max_left _ _,fun id hid=> ?_⟩,⟨st.l0,fun nm hn=> ?_,h7⟩,h4,h5,⟨rfl,rfl⟩, ?_,eg.pb (M.q0 rfl)⟩
 ·rw [Mq] at hid
  obtain ⟨i,hi,rfl⟩:=Li.1 hid
  exact Lo.1 (List.mem_filter.1 hi).1
 ·obtain ⟨B,hB⟩:=u0 hn
  refine ⟨h6.rl nm _ hB,fun id hid hq=> ?_⟩
  rcases hq with ⟨hq,_⟩|⟨_,hq⟩
  ·rw [Mq] at hid
   obtain ⟨i,hi,rfl⟩:=Li.1 hid
   have lq:=(List.mem_filter.1 hi).2
   simp only [Function.comp_apply] at hq
   subst hq
   have hq:(st.l0.map N'.ι).contains (N'.ι nm)=true:=L1.2 (List.mem_map_of_mem hn)
   rw [hq] at lq
   simp at lq
  ·exact M.q0 rfl id hq
 ·rw [hu]
  refine ⟨fun bF hN=> ?_,h6.inj,fun a ha=>K8 (h6.lt a ha) (Nat.le_max_right _ _),fun nm B hB=> ?_,fun nm B hB=> ?_,fun t A hg id hid=> ?_⟩
  ·have A:=h6.at_ bF hN
   have A0:=R.at_ bF (au.ef h4 hN h5)
   obtain ⟨q1,q2⟩:=kM (D:=C.D) (n:=n) (v:=v) (a:=v.av C.D.toTE N') hd A0.sl A0.rs (h3 bF hN).symm
   have hlt:∀nm,nm<st1.nx->bF.ι nm<k1:=fun nm hn=>by rw [(hN.1 nm hn).1];exact h6.lt nm hn
   have hb:∀nm B,(getS (st1.m++eT false st.m) nm=some (some B)\/getS st.rm nm=some (some B))->aj s.g ((List.range (max s.k k1)).map fun i=>(i,j0 i)) (bF.ι nm)=some (B.av C.D.toTE bF)/\bF.ln nm=B.len:=fun nm B hB=>by
    rcases pc nm B hB with hB|hB
    ·exact ⟨(u4 _ (hlt nm (h6.ml nm _ hB))).trans (A.bl nm B hB).1,(A.bl nm B hB).2⟩
    ·exact ⟨(u4 _ (hlt nm (h6.rl nm _ hB))).trans (A.rb nm B hB).1,(A.rb nm B hB).2⟩
   exact ⟨q1,q2,fun nm B hB=>hb nm B (.inl hB),fun nm B hB=>hb nm B (.inr hB),fun t A' hg id hid=>(u4 _ (h6.sp t A' (pc 0 _ hg) id hid).1).trans (A.ar t A' (pc 0 _ hg) id hid)⟩
  ·simp only [lY] at hB
   split at hB
   ·rename_i w hw;exact h6.ml nm w hw
   ·exact K8 (R.ml nm B (m8 hB).1) h5
  ·exact K8 (R.rl nm B hB) h5
  ·obtain ⟨q1,q2⟩:=h6.sp t A (pc 0 _ hg) id hid
   exact ⟨K8 q1 (Nat.le_max_right _ _),fun nm B hB=>q2 nm B (pc nm B hB)⟩
theorem zC {C:bQ τ dn} (hC:C.Ok) {dep:Option (List (List Nat))} {B:Bool} {xs:List NR} {ek:SS τ dn} {K:SS τ dn->Prop} (R0:Rel C.D N ek s) (M0:eg B Q N ek s) (h9:wpOps C n dep B (o::os) xs ek K):
  (∃val ups acc x cJ N',da C.P s.σ s.g s.k o val ups acc/\wpOps C n dep B os (xs++[x]) cJ K/\N.aW ek.nx N'/\ek.nx<=cJ.nx/\gW N' Q cJ.nx ⟨o.dst,val,ups,acc,s.k⟩ x/\(x.nw=true->fY o=true/\(xs.any fun x=>x.nw)=false)/\(cJ.rt=ek.rt/\cJ.rm=ek.rm)/\∃k1,s.k<=k1/\(∀id,id∈ups.map Prod.fst->id<k1)/\Rel C.D N' cJ ⟨bp n o.dst val s.σ,aj s.g ups,k1⟩/\eg B Q N' cJ ⟨bp n o.dst val s.σ,aj s.g ups,k1⟩)\/
  ∃f as_ r ups k1 cJ N',bH s.σ o.guard=some true/\o.ao.allocs=false/\(o.ao.af s.k (aD s.σ)).run s.g=some (.call f as_)/\bT C.P f=true/\Fi C.P f as_ s.g s.k r (aj s.g ups) k1/\(s.k<=k1/\∀id,id∈ups.map Prod.fst->id<k1)/\(∃ex,(∀nm,nm∈ex->nm<cJ.nx/\∀id,id∈ups.map Prod.fst->¬gV N' Q nm id)/\wpOps C n dep B os (xs++[⟨[],[],true,false,ex,false⟩]) cJ K)/\N.aW ek.nx N'/\ek.nx<=cJ.nx/\(cJ.rt=ek.rt/\cJ.rm=ek.rm)/\Rel C.D N' cJ ⟨bp n o.dst r s.σ,aj s.g ups,k1⟩/\eg B Q N' cJ ⟨bp n o.dst r s.σ,aj s.g ups,k1⟩:=by
 have h:=h9
 simp only [wpOps] at h
 have h0:∃aK,Rel C.D N aK s/\eg B Q N aK s/\aK.rt=ek.rt/\aK.rm=ek.rm/\aK.nx=ek.nx/\(bif dstS n aK.rt o.dst then (match aK.gd o.guard with
  | .yes=>match iy C aK o.ao with
   |some (r,ns)=>eS r.O (wpOps C n dep B os (xs++[cU B aK (r.keys aK) ns (mY o r xs&& !(cU B aK (r.keys aK) ns).all)]) (r.st aK o.dst) K)
   |none=>match o.ao with
    | .call x args=>match mU aK x args with
     |some (f,vs)=>bif B then (bif hidB C.hd dep aK vs then C.J f vs aK.hid fun v st1=>wpOps C n dep B os (xs++[⟨[],[],true,false,aK.l0,false⟩]) ⟨aK.rt,aK.rm,ga aK.t o.dst v,st1.m++eT false aK.m,st1.nx⟩ K else C.J f vs aK fun v st1=>wpOps C n dep B os (xs++[⟨[],[],true,false,[],false⟩]) ⟨aK.rt,aK.rm,ga aK.t o.dst v,st1.m,st1.nx⟩ K) else False
     |none=>False
    |_=>False
  | .no=>wpOps C n dep B os (xs++[⟨[],[],false,false,[],false⟩]) (aK.set o.dst (.vo undef)) K
  | .jR e=>match iy C (aK.unw o.ao.uns) o.ao with
   |some (.val O v,ns)=>eS (gS aK e o.ao.uns++O.map fun p=>e.tf true->p) (wpOps C n dep B os (xs++[cU B aK [] ns]) (aK.set o.dst (.vg true e v)) K)
   |_=>False
  | .bad=>False) else False):=by
  cases B with
  |false=>
   simp only [K4,ja] at h
   exact zw R0 M0 h
  |true=>
   obtain ⟨aK,q1,q2,q3,q4,q5⟩:=rr hC.ok R0 h
   obtain ⟨kR,p1,p2,p3,p4,p5,p6⟩:=zw q1 (eg.pb (M0.q0 rfl)) q5
   exact ⟨kR,p1,p2,p3.trans q2,p4.trans q3,p5.trans q4,p6⟩
 clear h
 obtain ⟨st,R,M,z1,z2,z3,h⟩:=h0
 rw [<-z1, <-z2, <-z3]
 clear z1 z2 z3
 clear R0 M0 h9 ek
 cases hd:dstS n st.rt o.dst with
 |false=>rw [hd] at h;exact h.elim
 |true=>
  rw [hd,KP] at h
  obtain ⟨g1,g2,g3⟩:=G9 R.here (x:=o.guard)
  split at h
  ·rename_i cq
   split at h
   ·rename_i r ns hr
    rw [iv] at h
    obtain ⟨hO,h⟩:=h
    obtain ⟨val,ups,acc,e1,e2,e3,e4,e5⟩:=zp hC R.at_ (g1 cq) hr hO
    have fg:=R.go hd e4 (val:=val) (ups:=ups) (fun N' hN=>(e2 N' (by rw [SR.rz] at hN;exact hN)).1) (fun N' hN=>(e2 N' (by rw [SR.rz] at hN;exact hN)).2)
    have dD:N.aW st.nx (r.up N st s.k):=by
     cases r<;>first|exact N.dH _|exact N.jP _ _ _
    have nP:st.nx<=(r.st st o.dst).nx:=by rw [SR.rz];cases r<;>simp [SR.nx]
    have hu:=(e2 _ (au.dH (r.nx st) (r.up N st s.k))).2
    have hZ:s.k<=r.k1 s.k:=by cases r<;>simp [SR.k1]
    have zD:∀nm X,nm<st.nx->(getS st.m nm=some (some X)\/getS st.rm nm=some (some X))->¬Q ((r.up N st s.k).ι nm):=fun nm X hn hX=>by rw [(dD.1 nm hn).1];exact M.qa nm X hX
    have HJ:r.nx st=st.nx+1->¬Q ((r.up N st s.k).ι st.nx):=fun hx hq=>by
     have:=M.qk _ hq
     cases r with
     |new O v B'=>simp only [SR.up,au.cN,KN] at this;omega
     |mov O v aJ B'=>simp only [SR.up,au.cN,KN] at this;omega
     |_=>simp [SR.nx] at hx
    have HK:eg B Q (r.up N st s.k) (r.st st o.dst) ⟨bp n o.dst val s.σ,aj s.g ups,r.k1 s.k⟩:=by
     refine ⟨M.q0,fun nm X hX=> ?_,fun hB id hid=>M.qb hB id (SR.HH e4 hid),fun id hid=>K8 (M.qk id hid) hZ⟩
     rcases SR.HG e4 hX with ⟨h1,h2⟩|⟨X',h1⟩
     ·rw [h1];exact HJ h2
     ·refine zD nm X' ?_ h1
      rcases h1 with h1|h1
      ·exact R.ml nm _ h1
      ·exact R.rl nm _ h1
    refine .inl ⟨val,ups,acc,_,_,_,e1,h,dD,nP,⟨fun ha id hid=> ?_,fun _ ha id hid=> ?_,fun nm hn=> ?_,fun nm hn=>K8 (m7 (e5 nm hn)).1 nP,fun nm hn=>by simp [cU] at hn,fun hn=> ?_,fun ha hk=> ?_⟩,fun hn=> ?_,⟨by cases r<;>rfl,by cases r<;>rfl⟩,r.k1 s.k,hZ,fun id hid=> ?_,fg,HK⟩
    ·have hid:id∈ups.map Prod.fst:=hid
     rw [hu] at hid
     cases r with
     |val O v=>simp [SR.ups] at hid
     |new O v B'=>
      simp only [SR.ups,KW,Lv,KT] at hid
      subst hid
      refine ⟨st.nx,by simp [cU,SR.keys], .inl ⟨by simp [SR.up,au.cN],fun hq=> ?_⟩⟩
      have:=M.qk _ hq;omega
     |put O v nm B'=>
      simp only [SR.ups,SR.up,KW,Lv,KT] at hid
      obtain ⟨⟨B0,bV,_⟩,_⟩:=e4
      exact ⟨nm,by simp [cU,SR.keys], .inl ⟨hid,by rw [hid];exact M.qa nm _ (.inl bV)⟩⟩
     |fa O v ns'=>
      simp only [SR.ups,SR.up,Mq,Li,Function.comp_apply] at hid
      obtain ⟨a,zE,rfl⟩:=hid
      obtain ⟨⟨B0,bV⟩,_⟩:=e4 a zE
      exact ⟨a,zE, .inl ⟨rfl,M.qa a _ (.inl bV)⟩⟩
     |mov O v aJ B'=>
      obtain ⟨⟨B0,bV⟩,_⟩:=e4
      have fB:=R.ml aJ _ bV
      simp only [SR.ups,KW,Lv,KU,LO,or_false] at hid
      rcases hid with hid|hid
      ·exact ⟨aJ,by simp [cU,SR.keys], .inl ⟨hid,by rw [hid];exact zD aJ _ fB (.inl bV)⟩⟩
      ·subst hid
       refine ⟨st.nx,by simp [cU,SR.keys], .inl ⟨by simp [SR.up,au.cN],fun hq=> ?_⟩⟩
       have:=M.qk _ hq;omega
     |dW O v jQ t row A=>
      simp only [SR.ups,KW,Lv,KT] at hid
      subst hid
      have hrow:fI st id:=⟨t,A,kN e4.1,e4.2.2⟩
      cases B with
      |false=>exact ⟨0,by simp [cU,SR.keys], .inr ⟨rfl,M.qb rfl id hrow⟩⟩
      |true=>
       simp only [cU,SR.keys,zx hrow,zy (KT.2 rfl),Bool.and_true] at ha
       simp at ha
    ·obtain ⟨nm,q1,q2⟩:=e3 id hid
     exact ⟨nm,q1,(zA (keys:=r.keys st) M ha q1 (e5 nm q1) q2).step dD (m7 (e5 nm q1)).1⟩
    ·rw [SR.rz]
     have hn:nm∈r.keys st:=hn
     cases r with
     |val O v=>simp [SR.keys] at hn
     |new O v B'=>simp only [SR.keys,KT] at hn;simp only [SR.nx];omega
     |put O v nm' B'=>
      simp only [SR.keys,KT] at hn
      subst hn;obtain ⟨⟨B0,bV,_⟩,_⟩:=e4;exact R.ml _ _ bV
     |fa O v ns'=>obtain ⟨⟨B0,bV⟩,_⟩:=e4 nm hn;exact R.ml _ _ bV
     |mov O v aJ B'=>
      obtain ⟨⟨B0,bV⟩,_⟩:=e4
      have:=R.ml _ _ bV
      simp only [SR.keys,KU,LO,or_false] at hn
      simp only [SR.nx]
      rcases hn with rfl|rfl<;>omega
     |dW O v jQ t row A=>
      simp only [SR.keys,KT] at hn
      subst hn;exact R.ml _ _ e4.1
    ·have hn:(mY o r xs&& !(cU B st (r.keys st) ns).all)=true:=hn
     rw [KM] at hn
     have nB:=hn.2
     rw [K3] at nB
     refine ⟨nB,fun id hid=> ?_⟩
     have hid:id∈ups.map Prod.fst:=hid
     rw [hu] at hid
     cases r with
     |new O v B'=>
      simp only [SR.ups,KW,Lv,KT] at hid
      subst hid;exact KO _
     |_=>simp [mY] at hn
    ·have hk:(r.keys st).isEmpty=true:=hk
     rw [LN] at hk
     simp [cU,hk] at ha
    ·have hn:(mY o r xs&& !(cU B st (r.keys st) ns).all)=true:=hn
     rw [KM] at hn
     have h1:=hn.1
     unfold mY at h1
     rw [KM,KM,K3] at h1
     exact h1.2
    ·rw [hu] at hid
     cases r with
     |val O v=>simp [SR.ups] at hid
     |new O v B'=>simp only [SR.ups,KW,Lv,KT] at hid;simp only [SR.k1];omega
     |put O v nm' B'=>
      simp only [SR.ups,SR.up,KW,Lv,KT] at hid
      subst hid;obtain ⟨⟨B0,bV,_⟩,_⟩:=e4;exact R.lt _ (R.ml _ _ bV)
     |fa O v ns'=>
      simp only [SR.ups,Mq,Li,Function.comp_apply] at hid
      obtain ⟨a,ha,rfl⟩:=hid
      obtain ⟨⟨B0,bV⟩,_⟩:=e4 a ha;exact R.lt _ (R.ml _ _ bV)
     |mov O v aJ B'=>
      obtain ⟨⟨B0,bV⟩,_⟩:=e4
      have h0:=R.ml _ _ bV
      have:=R.lt _ h0
      simp only [SR.ups,SR.up,KW,Lv,KU,LO,or_false] at hid
      simp only [SR.k1]
      rcases hid with rfl|rfl
      ·rw [((N.jP st.nx s.k B'.len).1 aJ h0).1];omega
      ·omega
     |dW O v jQ t row A=>
      simp only [SR.ups,KW,Lv,KT] at hid
      subst hid
      exact (R.sp t A (.inl e4.1) id e4.2.2).1
   ·split at h
    ·rename_i x args cr
     split at h
     ·rename_i f vs dU
      cases B with
      |false=>exact h.elim
      |true=>
      rw [KP] at h
      have hc0:=mV R.here dU s.k
      have fv:∀N',N.aW st.nx N'->vs.map (SV.av C.D.toTE N')=vs.map (SV.av C.D.toTE N):=fun N' hN=>by
       have lI:=mV (R.at_ N' hN) dU s.k
       rw [hc0] at lI
       simp only [KJ,Out.call.injEq,true_and] at lI
       exact lI.symm
      cases hh:hidB C.hd dep st vs with
      |true=>
       rw [hh,KP] at h
       exact HI hC R M g1 cq cr hd dU fv hh h
      |false=>
      rw [hh,K4] at h
      obtain ⟨h1,j0,k1,N',v,st1,h2,h3,h4,h5,h6,h7⟩:=hC.inl R fv h
      have u5:∀id,id<k1->aj s.g ((List.range (max s.k k1)).map fun i=>(i,j0 i)) id=j0 id:=fun id hid=>by rw [uX,KL (by omega)]
      refine .inr ⟨f,_,_,(List.range (max s.k k1)).map fun i=>(i,j0 i),max s.k k1,_,N',g1 cq,by rw [cr];rfl,by rw [cr];exact hc0,h1,zt h2,⟨Nat.le_max_left _ _,fun id hid=>by simpa using hid⟩,⟨[],fun nm hn=>by simp at hn,h7⟩,h4,h5,⟨rfl,rfl⟩, ?_,eg.pb (M.q0 rfl)⟩
      refine ⟨fun bF hN=> ?_,h6.inj,fun a ha=>K8 (h6.lt a ha) (Nat.le_max_right _ _),h6.ml,h6.rl,fun t A hg id hid=>⟨K8 (h6.sp t A hg id hid).1 (Nat.le_max_right _ _),(h6.sp t A hg id hid).2⟩⟩
      have A:=h6.at_ bF hN
      have A0:=R.at_ bF (au.ef h4 hN h5)
      obtain ⟨q1,q2⟩:=kM (D:=C.D) (n:=n) (v:=v) (a:=v.av C.D.toTE N') hd A0.sl A0.rs (h3 bF hN).symm
      have hlt:∀nm,nm<st1.nx->bF.ι nm<k1:=fun nm hn=>by rw [(hN.1 nm hn).1];exact h6.lt nm hn
      exact ⟨q1,q2,fun nm B hB=>⟨(u5 _ (hlt nm (h6.ml nm _ hB))).trans (A.bl nm B hB).1,(A.bl nm B hB).2⟩,fun nm B hB=>⟨(u5 _ (hlt nm (h6.rl nm _ hB))).trans (A.rb nm B hB).1,(A.rb nm B hB).2⟩,fun t A' hg id hid=>(u5 _ (h6.sp t A' hg id hid).1).trans (A.ar t A' hg id hid)⟩
     ·exact h.elim
    ·exact h.elim
  ·rename_i cq
   left
   have fg:=R.go (r:= .val [] (.vo undef)) hd trivial (val:= .v undef) (ups:=[]) (fun _ _=>rfl) (fun _ _=>rfl)
   exact ⟨.v undef,[],[],_,_,N, .skip (g2 cq),h,N.dH _,KO _,⟨fun _ id hid=>by simp [Rec.keys] at hid,fun _ _ id hid=>by simp at hid,fun nm hn=>by simp at hn,fun nm hn=>by simp at hn,fun nm hn=>by simp at hn,fun hn=>by simp at hn,fun hn=>by simp at hn⟩,fun hn=>by simp at hn,⟨rfl,rfl⟩,s.k,KO _,fun id hid=>by simp at hid,fg,M.q0,M.qa,M.qb,M.qk⟩
  ·rename_i e cq
   left
   split at h
   ·rename_i O v ns hr
    rw [iv] at h
    obtain ⟨hO,h⟩:=h
    have u6:∀p,p∈gS st e o.ao.uns->p:=fun p hp=>hO p (Lr _ hp)
    have hg:=g3 e cq
    cases hden:e.den with
    |false=>
     rw [hden] at hg
     have hv:∀N':au,(.v undef:AV)=((SV.vg true e v:SV τ dn)).av C.D.toTE N':=fun N'=>by simp [SV.av,hden]
     have fg:=R.go (r:= .val [] (.vg true e v)) hd trivial (val:= .v undef) (ups:=[]) (fun N' _=>hv N') (fun _ _=>rfl)
     have HL:∀nm,nm∈ns->nm<st.nx:=by
      have dd:=hr
      unfold iy at dd
      split at dd
      ·split at dd
       ·rename_i r' ns' _
        cases hb:(ns'.all (st.unw o.ao.uns).live) with
        |false=>rw [hb] at dd;simp at dd
        |true=>
         rw [hb,KP,KJ,KZ] at dd
         intro nm hn
         rw [<-dd.2] at hn
         exact (m7 (KQ.1 hb nm hn)).1
       ·simp at dd
      ·split at dd
       ·cases hb:((o.ao.nrs (st.unw o.ao.uns)).all (st.unw o.ao.uns).live&&o.ao.lk.all (st.unw o.ao.uns).ngd) with
        |false=>rw [hb] at dd;simp at dd
        |true=>
         rw [hb,KP,KJ,KZ] at dd
         rw [KM] at hb
         intro nm hn
         rw [<-dd.2] at hn
         exact (m7 (KQ.1 hb.1 nm hn)).1
       ·simp at dd
     exact ⟨.v undef,[],[],_,_,N, .skip hg,h,N.dH _,KO _,⟨fun _ id hid=>by simp [Rec.keys] at hid,fun _ _ id hid=>by simp at hid,fun nm hn=>by simp [cU] at hn,HL,fun nm hn=>by simp [cU] at hn,fun hn=>by simp [cU] at hn,fun hn=>by simp [cU] at hn⟩,fun hn=>by simp [cU] at hn,⟨rfl,rfl⟩,s.k,KO _,fun id hid=>by simp at hid,fg,M.q0,M.qa,M.qb,M.qk⟩
    |true=>
     rw [hden] at hg
     have et:=(Cn.gR e true).2 hden
     have HM:∀p,p∈(SR.val O v:SR τ dn).O->p:=fun p hp=>hO _ (Ln _ (Li.2 ⟨p,hp,rfl⟩)) et
     obtain ⟨val,ups,acc,e1,e2,e3,e4,e5⟩:=zp (st:=st.unw o.ao.uns) hC (fun N' hN=>yY (R.at_ N' hN) hden u6) hg hr HM
     have hv:∀N',N.aW st.nx N'->val=((SV.vg true e v:SV τ dn)).av C.D.toTE N':=fun N' hN=>by
      rw [(e2 N' hN).1];simp only [SV.av,hden,KN];rfl
     have hu:ups=[]:=(e2 N (N.dH _)).2
     have fg:=R.go (r:= .val [] (.vg true e v)) hd trivial (val:=val) (ups:=ups) (fun N' hN=>hv N' hN) (fun _ _=>hu)
     refine ⟨val,ups,acc,_,_,N,e1,h,N.dH _,KO _,⟨fun _ id hid=> ?_,fun _ ha id hid=> ?_,fun nm hn=>by simp [cU] at hn,fun nm hn=>(m7 (e5 nm hn)).1,fun nm hn=>by simp [cU] at hn,fun hn=>by simp [cU] at hn,fun hn=>by simp [cU] at hn⟩,fun hn=>by simp [cU] at hn,⟨rfl,rfl⟩,s.k,KO _,fun id hid=> ?_,fg,M.q0,M.qa,M.qb,M.qk⟩
     ·have hid:id∈ups.map Prod.fst:=hid
      rw [hu] at hid;simp at hid
     ·obtain ⟨nm,q1,q2⟩:=e3 id hid
      exact ⟨nm,q1,zA M ha q1 (e5 nm q1) q2⟩
     ·rw [hu] at hid;simp at hid
   ·exact h.elim
  ·exact h.elim
theorem rG {C:bQ τ dn} (hC:C.Ok) {n k0:Nat}:∀{os:List aw} {xs:List NR} {st:SS τ dn} {K:SS τ dn->Prop} {N:au} {s:S3},Rel C.D N st s->wpOps C n none true os xs st K->
  ∃s' N' ah,fy C.P n k0 os s.σ s.g s.k s'.σ s'.g s'.k/\Rel C.D N' ah s'/\(ah.rt=st.rt/\ah.rm=st.rm)/\N.aW st.nx N'/\st.nx<=ah.nx/\K ah
 |[],xs,st,K,N,s,R,h=>⟨s,N,st, .nil,R,⟨rfl,rfl⟩,N.dH _,KO _,h⟩
 |o::os,xs,st,K,N,s,R,h=>by
  rcases zC hC R (eg.pb (Q:=fun _=>False) fun _ h=>h) h with ⟨val,ups,acc,x,ah,N',h1,h2,h3,h4,_,_,h5,k1,h6,h7,h8,_⟩|⟨f,as_,r,ups,k1,ah,N',h1,_,h2,h3,h4,_,⟨ex,_,h5⟩,h6,h7,h8,h9,_⟩
  ·obtain ⟨s',N2,aK,q1,q2,q3,q4,q5,q6⟩:=rG hC (k0:=k0) h8 h2
   exact ⟨s',N2,aK, .cons h1 h6 h7 q1,q2,⟨q3.1.trans h5.1,q3.2.trans h5.2⟩,au.ef h3 q4 h4,Lg h4 q5,q6⟩
  ·obtain ⟨s',N2,aK,q1,q2,q3,q4,q5,q6⟩:=rG hC (k0:=k0) h9 h5
   exact ⟨s',N2,aK, .inl h1 h2 h3 h4 q1,q2,⟨q3.1.trans h8.1,q3.2.trans h8.2⟩,au.ef h6 q4 h7,Lg h7 q5,q6⟩
theorem jb {α:Type} {l:List α} {x y:α} (h:(l++[x])[i]? =some y):l[i]? =some y\/(i=l.length/\y=x):=by
 rcases Ls i l.length with q|q
 ·rw [LH q] at h;exact .inl h
 ·rw [LX q] at h
  right
  cases hd:i - l.length with
  |zero=>rw [hd] at h;simp at h;exact ⟨by omega,h.symm⟩
  |succ m=>rw [hd] at h;simp at h
structure pe (pre:List aw) (rs:List Rec) (xs:List NR) (k:Nat):Prop where
 pl:pre.length=xs.length
 rl:rs.length=xs.length
 kb:∀(i:Nat) r,rs[i]? =some r->∀id,id∈r.keys->id<k
 lt:∀(i j:Nat) ri rj,i<j->rs[i]? =some ri->rs[j]? =some rj->∀id,id∈ri.keys->id<rj.fr
 nw:∀(i:Nat) x,xs[i]? =some x->x.nw=true->(∀o,pre[i]? =some o->fY o=true)/\∀(j:Nat) y,xs[j]? =some y->y.nw=true->j=i
theorem pe.snoc {pre:List aw} {xs:List NR} (h:pe pre rs xs k) {x:NR} (hk:k<=k1) (hr:r.fr=k) (hb:∀id,id∈r.keys->id<k1) (hx:x.nw=true->fY o=true/\(xs.any fun x=>x.nw)=false):pe (pre++[o]) (rs++[r]) (xs++[x]) k1:=by
 have ed:∀(i:Nat) y,xs[i]? =some y->y.nw=true->x.nw=true->False:=fun i y hy hn HN=>by
  have:=(hx HN).2
  rw [List.any_eq_false] at this
  exact this y (Lq hy) hn
 refine ⟨by simp [h.pl],by simp [h.rl],fun i r' hr' id hid=> ?_,fun i j ri rj aO hi hj id hid=> ?_,fun i y hy hn=>⟨fun o' gj=> ?_,fun j z hz u7=> ?_⟩⟩
 ·rcases jb hr' with q|⟨_,rfl⟩
  ·exact K8 (h.kb i r' q id hid) hk
  ·exact hb id hid
 ·rcases jb hj with q|⟨q,rfl⟩
  ·rcases jb hi with p|⟨p,rfl⟩
   ·exact h.lt i j ri rj aO p q id hid
   ·have:=(KS.1 q).1;omega
  ·rcases jb hi with p|⟨p,rfl⟩
   ·rw [hr];exact h.kb i ri p id hid
   ·omega
 ·rcases jb hy with q|⟨q,rfl⟩
  ·rcases jb gj with p|⟨p,rfl⟩
   ·exact (h.nw i y q hn).1 o' p
   ·have:=(KS.1 q).1
    have:=h.pl;omega
  ·rcases jb gj with p|⟨p,rfl⟩
   ·have:=(KS.1 p).1
    have:=h.pl;omega
   ·exact (hx hn).1
 ·rcases jb hy with q|⟨q,rfl⟩
  ·rcases jb hz with p|⟨p,rfl⟩
   ·exact (h.nw i y q hn).2 j z p u7
   ·exact (ed i y q hn u7).elim
  ·rcases jb hz with p|⟨p,rfl⟩
   ·exact (ed j z p u7 hn).elim
   ·omega
theorem rH {C:bQ τ dn} (hC:C.Ok) {n:Nat} {dep:List (List Nat)} {B:Bool} {Q:Nat->Prop}:∀{os:List aw} {pre:List aw} {xs:List NR} {rs:List Rec} {hs:List (Option Nat)} {st:SS τ dn} {K:SS τ dn->Prop} {N:au} {s:S3},Rel C.D N st s->eg B Q N st s->fJ N Q st.nx rs hs xs->pe pre rs xs s.k->wpOps C n (some dep) B os xs st K->
  ∃jn,(∀o,(pre++os)[jn]? =some o->fY o=true)/\∃s' N' ah,gQ C.P n dep jn os s.σ s.g s.k rs hs s'.σ s'.g s'.k/\Rel C.D N' ah s'/\(ah.rt=st.rt/\ah.rm=st.rm)/\N.aW st.nx N'/\st.nx<=ah.nx/\K ah
 |[],pre,xs,rs,hs,st,K,N,s,R,M,pf,hk,h=>by
  simp only [wpOps] at h
  cases hb:idsN xs dep with
  |false=>rw [hb] at h;exact h.elim
  |true=>
   rw [hb,KP] at h
   by_cases hx:∃(i:Nat) (x:NR),xs[i]? =some x/\x.nw=true
   ·obtain ⟨i,x,h1,h2⟩:=hx
    have hq:=zr R.inj pf hk.lt (jn:=i) (fun j y hy hn=>(hk.nw i x h1 h2).2 j y hy hn) hb
    exact ⟨i,by rw [List.append_nil];exact (hk.nw i x h1 h2).1,s,N,st, .nil hq.1 hq.2,R,⟨rfl,rfl⟩,N.dH _,KO _,h⟩
   ·have hq:=zr R.inj pf hk.lt (jn:=pre.length) (fun j y hy hn=>absurd ⟨j,y,hy,hn⟩ hx) hb
    exact ⟨pre.length,fun o ho=>by simp at ho,s,N,st, .nil hq.1 hq.2,R,⟨rfl,rfl⟩,N.dH _,KO _,h⟩
 |o::os,pre,xs,rs,hs,st,K,N,s,R,M,pf,hk,h=>by
  rcases zC hC R M h with ⟨val,ups,acc,x,ah,N',h1,h2,h3,h4,h5,HO,zF,k1,h6,h7,h8,hM⟩|⟨f,as_,r,ups,k1,ah,N',h1,ld,h2,h3,h4,hZ,⟨ex,hex,h5⟩,h6,h7,h8,h9,hM⟩
  ·obtain ⟨jn,hj,s',N2,aK,q1,q2,q3,q4,q5,q6⟩:=rH hC (pre:=pre++[o]) h8 hM ((pf.step h3 h4).snoc (c:=none) h5 (fun _=>rfl)) (hk.snoc (r:=⟨o.dst,val,ups,acc,s.k⟩) h6 rfl h7 HO) h2
   exact ⟨jn,fun o' gj=>hj o' (by rw [L4];exact gj),s',N2,aK, .cons h1 h6 h7 q1,q2,⟨q3.1.trans zF.1,q3.2.trans zF.2⟩,au.ef h3 q4 h4,Lg h4 q5,q6⟩
  ·obtain ⟨jn,hj,s',N2,aK,q1,q2,q3,q4,q5,q6⟩:=rH hC (pre:=pre++[o]) (rs:=rs++[⟨o.dst,r,ups,[],s.k⟩]) (hs:=hs++[some k1]) h9 hM ((pf.step h6 h7).snoc (r:=⟨o.dst,r,ups,[],s.k⟩) (c:=some k1) (x:=⟨[],[],true,false,ex,false⟩) ⟨fun hh=>by simp at hh,fun hh=>by simp at hh,fun nm hn=>by simp at hn,fun nm hn=>by simp at hn,hex,fun hh=>by simp at hh,fun _ _=>rfl⟩ (fun hh=>by simp at hh)) (hk.snoc (r:=⟨o.dst,r,ups,[],s.k⟩) hZ.1 rfl hZ.2 (fun hh=>by simp at hh)) h5
   exact ⟨jn,fun o' gj=>hj o' (by rw [L4];exact gj),s',N2,aK, .fi h1 ld h2 h3 h4 hZ.1 hZ.2 q1,q2,⟨q3.1.trans h8.1,q3.2.trans h8.2⟩,au.ef h6 q4 h7,Lg h7 q5,q6⟩
theorem HP {C:bQ τ dn} (hC:C.Ok) {B:Bool} {st:SS τ dn} {K:SS τ dn->Prop} (R:Rel C.D N st s) (h:wpOps C n (some dep) B os [] st K):
  ∃jn,(∀o,os[jn]? =some o->fY o=true)/\∃s' N' ah,gQ C.P n dep jn os s.σ s.g s.k [] [] s'.σ s'.g s'.k/\Rel C.D N' ah s'/\(ah.rt=st.rt/\ah.rm=st.rm)/\N.aW st.nx N'/\st.nx<=ah.nx/\K ah:=by
 have h0:pe [] [] [] s.k:=⟨rfl,rfl,fun i r h=>by simp at h,fun i j ri rj _ h=>by simp at h,fun i x h=>by simp at h⟩
 cases B with
 |true=>exact rH (pre:=[]) hC R (eg.pb (Q:=fun _=>False) fun _ h=>h) .nil h0 h
 |false=>
  refine rH (pre:=[]) (Q:=fI st) hC R ⟨fun hh=>by simp at hh,fun nm X hX ⟨t,A,hg,hid⟩=>(R.sp t A (fF hg) _ hid).2 nm X hX rfl,fun _ id h=>h,fun id ⟨t,A,hg,hid⟩=>(R.sp t A (fF hg) _ hid).1⟩ .nil h0 h
end
open Go.RowKit
variable {xs:List NR} {x:NR}
def ED (P:Program) (n k0:Nat) (ac:AC) (s:S3) (e:Ex) (s':S3):Prop:=EW P n k0 ac s fun x t=>x=e/\t=s'
def Ex.iW (i:Nat):Ex->Ex
 | .exit j=>if j=i then .normal else .exit j
 |e=>e
section
variable {P:Program} {n k0:Nat} {s s' t:S3} {a b:AC} {e:Ex}
theorem ED.skip:ED P n k0 .skip s .normal s:=EW.skip ⟨rfl,rfl⟩
theorem ED.ret:ED P n k0 .ret s .ret s:=EW.ret ⟨rfl,rfl⟩
theorem ED.exit {i:Nat}:ED P n k0 (.exit i) s (.exit i) s:=EW.exit ⟨rfl,rfl⟩
theorem ED.seq (h:ED P n k0 a s .normal t) (k:ED P n k0 b t e s'):ED P n k0 (.seq a b) s e s':=
 EW.seq (EW.jz h fun x u hu=>by obtain ⟨rfl,rfl⟩:=hu;exact k)
theorem ED.zG (h:ED P n k0 a s e t) (he:e≠ .normal):ED P n k0 (.seq a b) s e t:=
 EW.seq (EW.jz h fun x u hu=>by
  obtain ⟨rfl,rfl⟩:=hu
  cases x with
  |normal=>exact absurd rfl he
  |exit i=>exact ⟨rfl,rfl⟩
  |ret=>exact ⟨rfl,rfl⟩)
theorem ED.cond {c:Arg} {p:Bool} (hc:aD s.σ c= .v (.bool p)) (h:ED P n k0 (if p=true then a else b) s e t):ED P n k0 (.cond c a b) s e t:=EW.cond hc h
theorem ED.block {i:Nat} (h:ED P n k0 a s e t):ED P n k0 (.block i a) s (e.iW i) t:=
 EW.block (EW.jz h fun x u hu=>by
  obtain ⟨rfl,rfl⟩:=hu
  cases x with
  |normal=>exact ⟨rfl,rfl⟩
  |exit j=>
   simp only [Ex.inBlock,Ex.iW]
   split
   all_goals (first|trivial|exact ⟨rfl,rfl⟩|simp_all)
  |ret=>exact ⟨rfl,rfl⟩)
theorem ED.iS (h:s.Le k0 n t) (k:ED P n k0 a t e s'):ED P n k0 a s e s':=EW.iS h k
inductive Ch (P:Program) (n k0:Nat) (a:AC) (e:Ex) (s':S3):Nat->S3->Prop
 |last {s:S3} (h:ED P n k0 a s e s') (he:e≠ .normal):Ch P n k0 a e s' 0 s
 |step {m:Nat} {s t u:S3} (h:ED P n k0 a s .normal t) (hw:t.Le k0 n u) (c:Ch P n k0 a e s' m u):Ch P n k0 a e s' (m+1) s
theorem ED.post (h:ED P n k0 a s e t) (hw:t.Le k0 n u):ED P n k0 a s e u:=by
 intro rd c E0 J base w0 ac w bU hc hk hr
 refine wpIn_mono (h rd c E0 J base w0 ac w bU hc hk hr) fun e' a' w' ⟨x,s1,⟨h1,h2⟩,h3,h4⟩=>⟨x,u,⟨h1,rfl⟩,h3, ?_⟩
 subst h2
 exact hw E0 J base w0 a' w' hk h4
theorem ED.loop {m:Nat} (h:Ch P n k0 a e s' m s):ED P n k0 (.loop a) s e s':=by
 refine EW.loop (fun m t=>Ch P n k0 a e s' m t) h fun m t hc=> ?_
 cases hc with
 |last h he=>
  refine EW.jz h fun x u hu=> ?_
  obtain ⟨rfl,rfl⟩:=hu
  cases x with
  |normal=>exact absurd rfl he
  |exit i=>exact ⟨rfl,rfl⟩
  |ret=>exact ⟨rfl,rfl⟩
 | @step m _ t u h hw c=>
  refine EW.jz (ED.post h hw) fun x v hv=> ?_
  obtain ⟨rfl,rfl⟩:=hv
  exact ⟨m,LQ m,c⟩
theorem ED.bI {os:List aw} (h:fy P n k0 os s.σ s.g s.k s'.σ s'.g s'.k):ED P n k0 (.bI os none) s .normal s':=EW.bI h ⟨rfl,rfl⟩
theorem ED.draw (hj:∀o,os[jn]? =some o->fY o=true) (h:gQ P n dep jn os s.σ s.g s.k [] [] s'.σ s'.g s'.k):ED P n k0 (.bI os (some dep)) s .normal s':=EW.EM hj h ⟨rfl,rfl⟩
theorem S3.HQ (h:∀i,bJ (s.σ i) (σ' i)):s.Le k0 n ⟨σ',s.g,s.k⟩:=by
 intro E0 J base w0 a w _ hr
 obtain ⟨E,h1,h2,h3,h4,h5,h6⟩:=hr.ex
 exact ⟨⟨E,h1,h2,fun t=>h t E _ (h3 t),h4,h5,h6⟩,hr.size,hr.below,hr.gl⟩
theorem S3.Le.trans' (h:s.Le k0 n t) (k:t.Le k0 n u):s.Le k0 n u:=fun E0 J base w0 a w hk hr=>k E0 J base w0 a w hk (h E0 J base w0 a w hk hr)
theorem S3.Le.kS:s.Le k0 n s:=fun _ _ _ _ _ _ _ hr=>hr
theorem S3.HR (hσ:s.σ i= .emp) (hz:sz≠0):s.Le k0 n ⟨fun j=>if j=i then .own s.k sz 0 0 else s.σ j,aj s.g [(s.k,some ⟨sz,[]⟩)],s.k+1⟩:=by
 intro E0 J base w0 a w hk hr
 obtain ⟨E,rfl,hle,hs,hm,aX,hmk⟩:=hr.ex
 obtain ⟨E',hw,hE,hM,k1,k2,k3,k4,k5⟩:=hm.pV (fresh:=s.k) (fun hh=>LZ _ (aX _ hh)) sz
 refine ⟨⟨E',hw,hle.trans hE,fun j=> ?_,hM,fun id hid=> ?_,hmk.step hE⟩,hr.size,hr.below,hr.gl⟩
 ·show ae E' _ (if j=i then _ else _)
  by_cases hj:j=i
  ·rw [KL hj]
   have:=hs j
   rw [hj,hσ] at this
   obtain ⟨A,hA⟩:=tF this
   rw [hj,hA]
   exact .bL k1 k2 k3 k5 hz
  ·rw [KK hj];exact (hs j).step hE
 ·show id<s.k+1
  rcases k4 id hid with h|h
  ·have:=aX id h;omega
  ·omega
end
section
variable {τ:Type} {dn:τ->Type}
def au.same (p:Nat->Bool) (N N':au):Prop:=(∀a,p a=true->N'.ι a=N.ι a/\N'.ln a=N.ln a)/\N'.ρ=N.ρ
mutual
theorem m9 {E:TE τ dn} {p:Nat->Bool} {N N':au} (hN:N.same p N'):∀(v:SV τ dn),v.fr p=true->v.av E N'=v.av E N
 | .own nm sz,h=>by simp only [SV.fr] at h;simp only [SV.av,hN.1 nm h]
 | .part nm sz o l,h=>by simp only [SV.fr] at h;simp only [SV.av,hN.1 nm h]
 | .ref nm sz i o,h=>by simp only [SV.fr] at h;simp only [SV.av,hN.1 nm h]
 | .mp nm,h=>by simp only [SV.fr] at h;simp only [SV.av,hN.1 nm h]
 | .agg cs,h| .aG cs,h| .fn _ cs,h| .bf _ cs,h| .pim cs _,h=>by simp only [SV.fr] at h;simp only [SV.av,u9 hN cs h]
 | .vc _ els,h=>by simp only [SV.fr] at h;simp only [SV.av,rI hN els h]
 | .vg p c v,h=>by simp only [SV.fr] at h;simp only [SV.av,m9 hN v h]
 | .vl t xs,h=>by simp only [SV.av,hN.2]
 | .rw t r,h=>by simp only [SV.av,hN.2]
 | .cH t r i o,h=>by simp only [SV.av,hN.2]
 | .vi _,_| .vn _,_| .vy _,_| .vu _,_| .vw _ _,_| .vb _,_| .vt _,_| .vz _,_| .vo _,_| .emp,_| .dead,_=>by simp only [SV.av]
theorem u9 {E:TE τ dn} {p:Nat->Bool} {N N':au} (hN:N.same p N'):∀(cs:List (SV τ dn)),SV.cY p cs=true->SV.b6 E N' cs=SV.b6 E N cs
 |[],_=>rfl
 |v::r,h=>by
  simp only [SV.cY,KM] at h
  simp only [SV.b6,m9 hN v h.1,u9 hN r h.2]
theorem rI {E:TE τ dn} {p:Nat->Bool} {N N':au} (hN:N.same p N'):∀(els:List (List (SV τ dn))),SV.jG p els=true->SV.bA E N' els=SV.bA E N els
 |[],_=>rfl
 |v::r,h=>by
  simp only [SV.jG,KM] at h
  simp only [SV.bA,u9 hN v h.1,rI hN r h.2]
end
def SB.fr (p:Nat->Bool):SB τ dn->Bool
 | .bl _ _=>true
 | .bc _ els=>SV.jG p els
 | .mc els=>SV.jG p els
 | .ar _ _=>true
theorem zH {E:TE τ dn} (hN:N.same p N') (B:SB τ dn) (h:B.fr p=true):B.av E N'=B.av E N:=by
 cases B with
 |bl t xs=>simp only [SB.av,hN.2]
 |bc sz els=>simp only [SB.fr] at h;simp only [SB.av,rI hN els h]
 |mc els=>simp only [SB.fr] at h;simp only [SB.av,rI hN els h]
 |ar t A=>rfl
def hasN (l:List Nat) (a:Nat):Bool:=l.any (Nat.beq a)
theorem j1 {a:Nat}:hasN l a=true↔a∈l:=by
 unfold hasN
 rw [MC]
 constructor
 ·rintro ⟨b,h1,h2⟩;rw [K1 h2];exact h1
 ·intro h;exact ⟨a,h,Nat.beq_refl a⟩
def j2 (p:Nat->Bool):List Nat->List (Nat×SV τ dn)->List (Nat×SV τ dn)
 |_,[]=>[]
 |seen,(i,v)::r=>bif hasN seen i then j2 p seen r else bif v.fr p then (i,v)::j2 p (i::seen) r else j2 p (i::seen) r
theorem vd {p:Nat->Bool}:∀{t:List (Nat×SV τ dn)} {seen:List Nat} {i:Nat} {v:SV τ dn},getS (j2 p seen t) i=some v->getS t i=some v/\v.fr p=true/\¬i∈seen
 |[],seen,i,v,h=>by simp [j2,getS] at h
 |(j,w)::r,seen,i,v,h=>by
  simp only [j2] at h
  cases hs:hasN seen j with
  |true=>
   rw [hs,KP] at h
   obtain ⟨h1,h2,h3⟩:=vd h
   refine ⟨?_,h2,h3⟩
   rw [aR,KK];exact h1
   intro e;subst e;exact h3 (j1.1 hs)
  |false=>
   rw [hs,K4] at h
   have hj:¬j∈seen:=fun hh=>by rw [j1.2 hh] at hs;simp at hs
   have next:getS (j2 p (j::seen) r) i=some v->getS ((j,w)::r) i=some v/\v.fr p=true/\¬i∈seen:=fun h=>by
    obtain ⟨h1,h2,h3⟩:=vd h
    simp only [KU,not_or] at h3
    exact ⟨by rw [aR,KK h3.1];exact h1,h2,h3.2⟩
   cases hf:w.fr p with
   |true=>
    rw [hf,KP,aR] at h
    by_cases hi:i=j
    ·rw [KL hi,KJ] at h
     subst h;subst hi
     exact ⟨by rw [aR,KL rfl],hf,hj⟩
    ·rw [KK hi] at h;exact next h
   |false=>rw [hf,K4] at h;exact next h
def jc (p:Nat->Bool):List Nat->List (Nat×Option (SB τ dn))->List (Nat×Option (SB τ dn))
 |_,[]=>[]
 |seen,(i,v)::r=>bif hasN seen i then jc p seen r else match v with
  |some B=>bif B.fr p&&p i then (i,some B)::jc p (i::seen) r else jc p (i::seen) r
  |none=>jc p (i::seen) r
theorem ve {p:Nat->Bool}:∀{t:List (Nat×Option (SB τ dn))} {seen:List Nat} {i:Nat} {v:Option (SB τ dn)},getS (jc p seen t) i=some v->getS t i=some v/\(∃B,v=some B/\B.fr p=true)/\p i=true/\¬i∈seen
 |[],seen,i,v,h=>by simp [jc,getS] at h
 |(j,w)::r,seen,i,v,h=>by
  simp only [jc] at h
  cases hs:hasN seen j with
  |true=>
   rw [hs,KP] at h
   obtain ⟨h1,h2,h4,h3⟩:=ve h
   refine ⟨?_,h2,h4,h3⟩
   rw [aR,KK];exact h1
   intro e;subst e;exact h3 (j1.1 hs)
  |false=>
   rw [hs,K4] at h
   have hj:¬j∈seen:=fun hh=>by rw [j1.2 hh] at hs;simp at hs
   have next:getS (jc p (j::seen) r) i=some v->getS ((j,w)::r) i=some v/\(∃B,v=some B/\B.fr p=true)/\p i=true/\¬i∈seen:=fun h=>by
    obtain ⟨h1,h2,h4,h3⟩:=ve h
    simp only [KU,not_or] at h3
    exact ⟨by rw [aR,KK h3.1];exact h1,h2,h4,h3.2⟩
   cases w with
   |none=>exact next h
   |some B=>
    simp only at h
    cases hf:(B.fr p&&p j) with
    |true=>
     rw [hf,KP,aR] at h
     rw [KM] at hf
     by_cases hi:i=j
     ·rw [KL hi,KJ] at h
      subst h;subst hi
      exact ⟨by rw [aR,KL rfl],⟨B,rfl,hf.1⟩,hf.2,hj⟩
     ·rw [KK hi] at h;exact next h
    |false=>rw [hf,K4] at h;exact next h
theorem fh {a b:List (Nat×α)}:getS (a++b) i=(getS a i).or (getS b i):=by
 induction a with
 |nil=>simp [getS]
 |cons q r ih=>
  obtain ⟨j,v⟩:=q
  rw [L2,aR,aR,ih]
  split<;>simp
theorem gX {l:List (Nat×α)} {v:α} (h:getS l i=some v):(i,v)∈l:=by
 induction l with
 |nil=>simp [getS] at h
 |cons q r ih=>
  obtain ⟨j,w⟩:=q
  rw [aR] at h
  by_cases hi:i=j
  ·rw [KL hi,KJ] at h;subst h;subst hi;exact LJ ..
  ·rw [KK hi] at h;exact Lx _ (ih h)
inductive VK (τ:Type) where
 |sl (i:Nat) (t:τ)
 |ow (i:Nat) (t:τ)
 |bl (nm:Nat) (t:τ)
 |ce (nm:Nat) (t:τ)
 |ar (t:τ)
 |pt (i nm sz:Nat)
 |so (q f:Nat) (t:τ) (cs:List (Nat×Nat))
 |sg (q f:Nat) (t S:τ) (fx:List (Nat×τ×Nat×Nat))
abbrev VK.T (dn:τ->Type):VK τ->Type
 | .sl _ t=>dn t
 | .ow _ t=>List (dn t)
 | .bl _ t=>List (dn t)
 | .ce _ t=>dn t
 | .ar t=>List (Nat×List (dn t))
 | .pt _ _ _=>Nat×Nat
 | .so _ _ t _=>List (dn t)
 | .sg _ _ t S _=>dn S×List (dn t)
abbrev VT (dn:τ->Type):List (VK τ)->Type
 |[]=>Unit
 |v::r=>v.T dn×VT dn r
def rJ:(vs:List (VK τ))->(VT dn vs->Prop)->Prop
 |[],F=>F ()
 |_::r,F=>∀x,rJ r fun y=>F (x,y)
theorem rK:∀{vs:List (VK τ)} {F:VT dn vs->Prop},rJ vs F↔∀x,F x
 |[],F=>⟨fun h _=>h,fun h=>h ()⟩
 |_::r,F=>⟨fun h x=>rK.1 (h x.1) x.2,fun h x=>rK.2 fun y=>h (x,y)⟩
def kT (cs:List (Nat×Nat)) (f n sz:Nat):List (SV τ dn):=(cs.map fun c=>(.own c.1 c.2:SV τ dn)).set f (.own n sz)
def soE:List (SV τ dn)->List (Nat×Nat)->Nat->Nat->Bool
 |[],[],_,_=>true
 | .own a z::r,c::l,j,f=>(Nat.beq j f||(Nat.beq a c.1&&Nat.beq z c.2))&&soE r l (j+1) f
 |_,_,_,_=>false
theorem zI:∀{vs:List (SV τ dn)} {cs:List (Nat×Nat)} {j f n sz:Nat},soE vs cs j f=true->j<=f->vs[f - j]? =some (.own n sz)->vs=kT cs (f - j) n sz
 |[],[],j,f,n,sz,_,_,h=>by simp at h
 |[],c::l,j,f,n,sz,h,_,_=>by simp [soE] at h
 |v::r,[],j,f,n,sz,h,_,_=>by cases v<;>simp [soE] at h
 |v::r,c::l,j,f,n,sz,h,hj,hf=>by
  have hv:∃a z,v= .own a z:=by cases v<;>first|exact ⟨_,_,rfl⟩|simp [soE] at h
  obtain ⟨a,z,rfl⟩:=hv
  simp only [soE,KM,K9] at h
  obtain ⟨h1,h2⟩:=h
  by_cases e:j=f
  ·subst e
   rw [Nat.sub_self] at hf ⊢
   simp only [Ll,KJ] at hf
   rw [hf]
   unfold kT
   rw [KW,List.set_cons_zero]
   congr 1
   have key:∀{r:List (SV τ dn)} {l:List (Nat×Nat)} {k:Nat},soE r l k j=true->j<k->r=l.map fun c=>(.own c.1 c.2:SV τ dn):=by
    intro r
    induction r with
    |nil=>intro l k h _;cases l with
     |nil=>rfl
     |cons c l=>simp [soE] at h
    |cons v r ih=>
     intro l k h hk
     cases l with
     |nil=>cases v<;>simp [soE] at h
     |cons c l=>
      have hv:∃a z,v= .own a z:=by cases v<;>first|exact ⟨_,_,rfl⟩|simp [soE] at h
      obtain ⟨a,z,rfl⟩:=hv
      simp only [soE,KM,K9] at h
      obtain ⟨h1,h2⟩:=h
      rcases h1 with h1|⟨h1,h3⟩
      ·have:=K1 h1;omega
      ·rw [KW,ih h2 (by omega),K1 h1,K1 h3]
   exact key h2 (by omega)
  ·rcases h1 with h1|⟨h1,h3⟩
   ·exact absurd (K1 h1) e
   ·have e2:f - j=(f - (j+1))+1:=by omega
    rw [e2] at hf ⊢
    rw [LD] at hf
    have ih:=zI h2 (by omega) hf
    unfold kT at ih ⊢
    rw [KW,List.set_cons_succ, <-ih,K1 h1,K1 h3]
theorem HS {E:TE τ dn} {m:Nat} (h1:N'.ι n=N.ι m) (h2:N'.ln n=N.ln m) (hF:∀c,c∈cs->N'.ι c.1=N.ι c.1/\N'.ln c.1=N.ln c.1):(kT cs f n sz:List (SV τ dn)).map (SV.av E N')=(kT cs f m sz:List (SV τ dn)).map (SV.av E N):=by
 unfold kT
 rw [Mb,Mb]
 have e1:(SV.own n sz:SV τ dn).av E N'=(SV.own m sz:SV τ dn).av E N:=by simp only [SV.av,h1,h2]
 rw [e1]
 congr 1
 rw [Mq,Mq]
 refine MH fun c hc=> ?_
 obtain ⟨q1,q2⟩:=hF c hc
 simp only [Function.comp_apply,SV.av,q1,q2]
def setX {κ α:Type} (h:Nat×κ->α):List α->List (Nat×κ)->List α
 |l,[]=>l
 |l,c::r=>(setX h l r).set c.1 (h c)
theorem pg {κ α:Type} {h:Nat×κ->α} {l:List α}:∀{r:List (Nat×κ)},(setX h l r).length=l.length
 |[]=>rfl
 |c::r=>by simp only [setX,List.length_set];exact pg
theorem vf {κ α β:Type} {h:Nat×κ->α} {u:α->β} {l:List α}:∀{r:List (Nat×κ)},(setX h l r).map u=setX (fun c=>u (h c)) (l.map u) r
 |[]=>rfl
 |c::r=>by simp only [setX,Mb];rw [vf]
theorem zJ {κ α:Type} {h h':Nat×κ->α} {l:List α}:∀{r:List (Nat×κ)},(∀c,c∈r->h c=h' c)->setX h l r=setX h' l r
 |[],_=>rfl
 |c::r,e=>by simp only [setX];rw [e c (LJ ..),zJ fun d hd=>e d (Lx _ hd)]
theorem vh {κ α:Type} {h:Nat×κ->α} {l:List α} {j:Nat}:∀{r:List (Nat×κ)},(∀c,c∈r->c.1≠j)->(setX h l r)[j]? =l[j]?
 |[],_=>rfl
 |c::r,e=>by simp only [setX];rw [MI (e c (LJ ..))];exact vh fun d hd=>e d (Lx _ hd)
theorem zK {κ α:Type} {h:Nat×κ->α} {l L:List α} {j:Nat} (hl:l.length=L.length):∀{r:List (Nat×κ)},(∀c,c∈r->L[c.1]? =some (h c))->(∃c,c∈r/\c.1=j)->(setX h l r)[j]? =L[j]?
 |[],_,⟨_,hc,_⟩=>by simp at hc
 |c::r,e,hx=>by
  simp only [setX]
  by_cases q:c.1=j
  ·subst q
   have e1:=e c (LJ ..)
   have:=(KS.1 e1).1
   rw [List.getElem?_set_self (by rw [pg,hl];exact this),e1]
  ·rw [MI q]
   refine zK hl (fun d hd=>e d (Lx _ hd)) ?_
   obtain ⟨d,hd,rfl⟩:=hx
   rcases KU.1 hd with rfl|hd
   ·exact absurd rfl q
   ·exact ⟨d,hd,rfl⟩
theorem HT {κ α:Type} {h h':Nat×κ->α} {L:List α} {r:List (Nat×κ)} {y z:α} (h1:∀c,c∈r->L[c.1]? =some (h c)) (h2:L[f]? =some z):(setX h ((setX h' L r).set f y) r).set f z=L:=by
 apply List.ext_getElem?
 intro j
 by_cases e:f=j
 ·subst e
  have:=(KS.1 h2).1
  rw [List.getElem?_set_self (by rw [pg,List.length_set,pg];exact this),h2]
 ·rw [MI e]
  by_cases q:∃c,c∈r/\c.1=j
  ·exact zK (by rw [List.length_set,pg]) h1 q
  ·have q':∀c,c∈r->c.1≠j:=fun c hc e2=>q ⟨c,hc,e2⟩
   rw [vh q',MI e,vh q']
def chkX (vs:List (SV τ dn)) (fx:List (Nat×τ×Nat×Nat)):Bool:=fx.all fun c=>match vs[c.1]? with
 |some (.own a z)=>Nat.beq a c.2.2.1&&Nat.beq z c.2.2.2
 |_=>false
def ofX (c:Nat×τ×Nat×Nat):SV τ dn:= .vl c.2.1 []
def rL (c:Nat×τ×Nat×Nat):SV τ dn:= .own c.2.2.1 c.2.2.2
def l4 (N:au) (c:Nat×τ×Nat×Nat):AV:= .own (N.ι c.2.2.1) c.2.2.2 0 (N.ln c.2.2.1)
theorem zL {E:TE τ dn} (c:Nat×τ×Nat×Nat):(rL c:SV τ dn).av E N=l4 N c:=by simp only [rL,l4,SV.av]
theorem HU {vs:List (SV τ dn)} {fx:List (Nat×τ×Nat×Nat)} (h:chkX vs fx=true) {E:TE τ dn}:∀c,c∈fx->(vs.map (SV.av E N))[c.1]? =some (l4 N c):=fun c hc=>by
 have:=KQ.1 h c hc
 revert this
 cases hv:vs[c.1]? with
 |none=>intro h;simp at h
 |some w=>
  cases w with
  |own a z=>
   intro h
   simp only [KM] at h
   rw [Ld,hv, <-zL (E:=E),rL, <-K1 h.1, <-K1 h.2];rfl
  |_=>intro h;simp at h
variable [DecidableEq τ]
def eC (D:TD τ dn) (st:SS τ dn):(v:VK τ)->Option (v.T dn)
 | .sl i t=>match st.gt i with
  |some v=>jT D t v
  |none=>none
 | .ow i t=>match st.gt i with
  |some (.own nm sz)=>if sz=D.sz t then jX D st nm t else none
  |_=>none
 | .bl nm t=>jX D st nm t
 | .ce nm t=>match st.gm nm with
  |some (.bc q [cs])=>if q=D.sz t/\cs.all SV.ne=true then D.ds t cs else none
  |_=>none
 | .ar t=>st.fb t
 | .pt i nm sz=>match st.gt i with
  |some (.part nm' sz' off len)=>bif Nat.beq nm' nm&&Nat.beq sz' sz then some (off,len) else none
  |_=>none
 | .so q f t cs=>match st.gm q with
  |some (.bc Q [vs])=>match vs[f]? with
   |some (.own nm sz)=>bif Nat.beq Q cs.length&&(soE vs cs 0 f&&Nat.beq sz (D.sz t)) then jX D st nm t else none
   |_=>none
  |_=>none
 | .sg q f t S fx=>match st.gm q with
  |some (.bc Q [vs])=>match vs[f]? with
   |some (.own nm sz)=>bif Nat.beq Q (D.sz S)&&(Nat.beq sz (D.sz t)&&(((setX ofX vs fx).set f (.vl t [])).all SV.ne&&chkX vs fx)) then (match D.ds S ((setX ofX vs fx).set f (.vl t [])),jX D st nm t with
    |some x,some l=>some (x,l)
    |_,_=>none) else none
   |_=>none
  |_=>none
def j3 (D:TD τ dn) (st:SS τ dn):(vs:List (VK τ))->Option (VT dn vs)
 |[]=>some ()
 |v::r=>match eC D st v,j3 D st r with
  |some x,some y=>some (x,y)
  |_,_=>none
def nmV (st:SS τ dn):VK τ->Nat
 | .sl _ _=>0
 | .pt _ nm _=>nm
 | .ow i _=>match st.gt i with
  |some (.own nm _)=>nm
  |_=>0
 | .bl nm _| .ce nm _=>nm
 | .ar _=>0
 | .so q f _ _| .sg q f _ _ _=>match st.gm q with
  |some (.bc _ [vs])=>match vs[f]? with
   |some (.own nm _)=>nm
   |_=>0
  |_=>0
def kU:VK τ->Bool
 | .ow _ _=>true
 | .so _ _ _ _=>true
 | .sg _ _ _ _ _=>true
 |_=>false
def eo:VK τ->Bool
 | .sl _ _=>true
 |_=>false
def dN:List (VK τ)->List Nat
 |[]=>[]
 | .sl i _::r| .ow i _::r| .pt i _ _::r=>i::dN r
 |_::r=>dN r
def l5:List (VK τ)->List Nat->List Nat
 | .sl _ _::r,_::l=>l5 r l
 | .pt _ _ _::r,_::l=>l5 r l
 | .so q _ _ _::r,n::l=>n::q::l5 r l
 | .sg q _ _ _ _::r,n::l=>n::q::l5 r l
 |_::r,n::l=>n::l5 r l
 |_,_=>[]
def movesV:List (VK τ)->List Nat->List Nat
 | .ow _ _::r,n::l=>n::movesV r l
 | .so _ _ _ _::r,n::l=>n::movesV r l
 | .sg _ _ _ _ _::r,n::l=>n::movesV r l
 |_::r,_::l=>movesV r l
 |_,_=>[]
def gg:List (VK τ)->List Nat
 |[]=>[]
 | .so q _ _ cs::r=>q::(cs.map Prod.fst++gg r)
 | .sg q _ _ _ fx::r=>q::(fx.map (fun c=>c.2.2.1)++gg r)
 |_::r=>gg r
def bw (D:TD τ dn):(vs:List (VK τ))->List Nat->VT dn vs->List (Nat×SV τ dn)
 | .sl i t::r,_::l,x=>(i,D.en t x.1)::bw D r l x.2
 | .ow i t::r,n::l,x=>(i, .own n (D.sz t))::bw D r l x.2
 | .bl _ _::r,_::l,x=>bw D r l x.2
 | .ce _ _::r,_::l,x=>bw D r l x.2
 | .ar _::r,_::l,x=>bw D r l x.2
 | .pt i nm sz::r,_::l,x=>(i, .part nm sz x.1.1 x.1.2)::bw D r l x.2
 | .so _ _ _ _::r,_::l,x=>bw D r l x.2
 | .sg _ _ _ _ _::r,_::l,x=>bw D r l x.2
 |_,_,_=>[]
def putM (D:TD τ dn):(vs:List (VK τ))->List Nat->VT dn vs->List (Nat×Option (SB τ dn))
 | .sl _ _::r,_::l,x=>putM D r l x.2
 | .ow _ t::r,n::l,x=>(n,some (.bl t x.1))::putM D r l x.2
 | .bl _ t::r,n::l,x=>(n,some (.bl t x.1))::putM D r l x.2
 | .ce _ t::r,n::l,x=>(n,some (.bc (D.sz t) [D.es t x.1]))::putM D r l x.2
 | .ar t::r,n::l,x=>(n,some (.ar t x.1))::putM D r l x.2
 | .pt _ _ _::r,_::l,x=>putM D r l x.2
 | .so q f t cs::r,n::l,x=>(n,some (.bl t x.1))::(q,some (.bc cs.length [kT cs f n (D.sz t)]))::putM D r l x.2
 | .sg q f t S fx::r,n::l,x=>(n,some (.bl t x.1.2))::(q,some (.bc (D.sz S) [(setX rL (D.es S x.1.1) fx).set f (.own n (D.sz t))]))::putM D r l x.2
 |_,_,_=>[]
def dx:List (VK τ)->List Nat->List Nat->Nat->Nat
 | .ow _ _::r,n::l,m::l',a=>bif Nat.beq a n then m else dx r l l' a
 | .so _ _ _ _::r,n::l,m::l',a=>bif Nat.beq a n then m else dx r l l' a
 | .sg _ _ _ _ _::r,n::l,m::l',a=>bif Nat.beq a n then m else dx r l l' a
 |_::r,_::l,_::l',a=>dx r l l' a
 |_,_,_,a=>a
def ph:List Nat->Bool
 |[]=>true
 |a::r=> !hasN r a&&ph r
end
section
variable {τ:Type} {dn:τ->Type} {D:TD τ dn} {N:au} {st:SS τ dn} {σ:Nat->AV} {g:Nat->Option Bk}
def zM (D:TD τ dn) (N:au) (σ:Nat->AV) (g:Nat->Option Bk):(v:VK τ)->Nat->v.T dn->Prop
 | .sl i t,_,x=>bJ (σ i) ((D.en t x).av D.toTE N)
 | .ow i t,n,x=>σ i= .own (N.ι n) (D.sz t) 0 (N.ln n)/\g (N.ι n)=some ⟨D.sz t,x.map (D.ea N.ρ t)⟩/\N.ln n=x.length
 | .bl nm t,n,x=>n=nm/\g (N.ι n)=some ⟨D.sz t,x.map (D.ea N.ρ t)⟩/\N.ln n=x.length
 | .ce nm t,n,x=>n=nm/\g (N.ι n)=some ⟨D.sz t,[D.ea N.ρ t x]⟩/\N.ln n=1
 | .ar t,n,x=>n=0/\g (N.ι n)=some ⟨D.sz t,[]⟩/\N.ln n=0
 | .pt i nm sz,n,x=>n=nm/\σ i= .own (N.ι n) sz x.1 x.2
 | .so q f t cs,n,x=>(g (N.ι n)=some ⟨D.sz t,x.map (D.ea N.ρ t)⟩/\N.ln n=x.length)/\(g (N.ι q)=some ⟨cs.length,[(kT cs f n (D.sz t):List (SV τ dn)).map (SV.av D.toTE N)]⟩/\N.ln q=1)
 | .sg q f t S fx,n,x=>(g (N.ι n)=some ⟨D.sz t,x.2.map (D.ea N.ρ t)⟩/\N.ln n=x.2.length)/\(g (N.ι q)=some ⟨D.sz S,[(setX (l4 N) (D.ea N.ρ S x.1) fx).set f (.own (N.ι n) (D.sz t) 0 (N.ln n))]⟩/\N.ln q=1)
theorem HV [DecidableEq τ] (ok:aQ D) (R:aS D N st σ g) {v:VK τ} {x:v.T dn} (h:eC D st v=some x):zM D N σ g v (nmV st v) x:=by
 cases v with
 |sl i t=>
  simp only [eC] at h
  split at h
  ·rename_i w hw
   show bJ (σ i) _
   rw [R.gt hw];exact q9 ok h
  ·simp at h
 |ow i t=>
  simp only [eC] at h
  split at h
  ·rename_i nm sz hw
   split at h
   ·rename_i hs
    have hn:nmV st (.ow i t)=nm:=by simp only [nmV,hw]
    rw [hn]
    refine ⟨?_,o8 ok R h⟩
    rw [R.gt hw,hs];rfl
   ·simp at h
  ·simp at h
 |bl nm t=>exact ⟨rfl,o8 ok R h⟩
 |ce nm t=>
  simp only [eC] at h
  split at h
  ·rename_i q cs hB
   split at h
   ·rename_i hq
    obtain ⟨g1,g2⟩:=R.gm hB
    refine ⟨rfl, ?_,g2⟩
    show g (N.ι nm)=_
    rw [g1];simp only [SB.av,SV.bA,SV.ba,hq.1,ok.oy N t _ _ h hq.2]
   ·simp at h
  ·simp at h
 |ar t=>
  simp only [eC] at h
  obtain ⟨g1,g2⟩:=R.gm (kL h)
  exact ⟨rfl,g1,g2⟩
 |pt i nm sz=>
  simp only [eC] at h
  split at h
  ·rename_i nm' sz' off len hw
   cases hb:(Nat.beq nm' nm&&Nat.beq sz' sz) with
   |false=>rw [hb] at h;simp at h
   |true=>
    rw [hb,KP,KJ] at h
    subst h
    rw [KM] at hb
    have e1:=K1 hb.1
    have e2:=K1 hb.2
    subst e1;subst e2
    exact ⟨rfl,R.gt hw⟩
  ·simp at h
 |so q f t cs=>
  simp only [eC] at h
  split at h
  ·rename_i Q vs hB
   split at h
   ·rename_i nm sz hf
    cases hb:(Nat.beq Q cs.length&&(soE vs cs 0 f&&Nat.beq sz (D.sz t))) with
    |false=>rw [hb] at h;simp at h
    |true=>
     rw [hb,KP] at h
     simp only [KM] at hb
     obtain ⟨b1,b2,b3⟩:=hb
     have hn:nmV st (.so q f t cs)=nm:=by simp only [nmV,hB,hf]
     obtain ⟨g1,g2⟩:=R.gm hB
     have e:=zI b2 (Nat.zero_le _) hf
     rw [Nat.sub_zero,K1 b3] at e
     rw [hn]
     refine ⟨o8 ok R h, ?_,g2⟩
     rw [g1,e,K1 b1];simp only [SB.av,SV.bA,SV.ba]
   ·simp at h
  ·simp at h
 |sg q f t S fx=>
  simp only [eC] at h
  split at h
  ·rename_i Q vs hB
   split at h
   ·rename_i nm sz hf
    cases hb:(Nat.beq Q (D.sz S)&&(Nat.beq sz (D.sz t)&&(((setX ofX vs fx).set f (.vl t [])).all SV.ne&&chkX vs fx))) with
    |false=>rw [hb] at h;simp at h
    |true=>
     rw [hb,KP] at h
     simp only [KM] at hb
     obtain ⟨b1,b2,b3,b4⟩:=hb
     split at h
     ·rename_i y l hx hl
      simp only [KJ] at h;subst h
      have hn:nmV st (.sg q f t S fx)=nm:=by simp only [nmV,hB,hf]
      obtain ⟨g1,g2⟩:=R.gm hB
      have e:=ok.oy N S _ _ hx b3
      rw [hn]
      refine ⟨o8 ok R hl, ?_,g2⟩
      have hz:=K1 b2
      have gH:(vs.map (SV.av D.toTE N))[f]? =some (.own (N.ι nm) (D.sz t) 0 (N.ln nm)):=by rw [Ld,hf, <-hz];rfl
      rw [g1,K1 b1, <-e,Mb,vf,HT (HU b4) gH]
      simp only [SB.av,SV.bA,SV.ba]
     ·simp at h
   ·simp at h
  ·simp at h
inductive iz (D:TD τ dn) (N:au) (σ:Nat->AV) (g:Nat->Option Bk):(vs:List (VK τ))->List Nat->VT dn vs->Prop
 |nil:iz D N σ g [] [] ()
 |cons {v:VK τ} {vs:List (VK τ)} {n:Nat} {l:List Nat} {x:v.T dn} {y:VT dn vs} (h:zM D N σ g v n x) (t:iz D N σ g vs l y):iz D N σ g (v::vs) (n::l) (x,y)
theorem rN [DecidableEq τ] (ok:aQ D) (R:aS D N st σ g):∀{vs:List (VK τ)} {x:VT dn vs},j3 D st vs=some x->iz D N σ g vs (vs.map (nmV st)) x
 |[],x,h=> .nil
 |v::r,x,h=>by
  simp only [j3] at h
  split at h
  ·rename_i a b h1 h2
   simp only [KJ] at h;subst h
   exact .cons (HV ok R h1) (rN ok R h2)
  ·simp at h
theorem vj {vs:List (VK τ)} {T A:List Nat} {a:Nat} (h:¬a∈movesV vs T):dx vs T A a=a:=by
 induction vs generalizing T A with
 |nil=>simp [dx]
 |cons v r ih=>
  cases T with
  |nil=>cases v<;>simp [dx]
  |cons n l=>
   cases A with
   |nil=>cases v<;>simp [dx]
   |cons m l'=>
    cases v with
    |ow i t=>
     simp only [movesV,KU,not_or] at h
     simp only [dx]
     have:Nat.beq a n=false:=by
      cases hb:Nat.beq a n with
      |false=>rfl
      |true=>exact absurd (K1 hb) h.1
     rw [this,K4];exact ih h.2
    |so q f t cs=>
     simp only [movesV,KU,not_or] at h
     simp only [dx]
     have:Nat.beq a n=false:=by
      cases hb:Nat.beq a n with
      |false=>rfl
      |true=>exact absurd (K1 hb) h.1
     rw [this,K4];exact ih h.2
    |sg q f t S fx=>
     simp only [movesV,KU,not_or] at h
     simp only [dx]
     have:Nat.beq a n=false:=by
      cases hb:Nat.beq a n with
      |false=>rfl
      |true=>exact absurd (K1 hb) h.1
     rw [this,K4];exact ih h.2
    |_=>
     simp only [movesV] at h
     simp only [dx];exact ih h
theorem vm (D:TD τ dn) {N N':au} {σ:Nat->AV} {g:Nat->Option Bk} (jd:N'.ρ=N.ρ) (ok:aQ D):∀{vs:List (VK τ)} {A T:List Nat} {x:VT dn vs},iz D N σ g vs A x->T.length=A.length->
  (∀(j:Nat) v (n m:Nat),vs[j]? =some v->T[j]? =some n->A[j]? =some m->eo v=true\/(N'.ι n=N.ι m/\N'.ln n=N.ln m/\(kU v=true\/n=m)))->(∀a,a∈gg vs->N'.ι a=N.ι a/\N'.ln a=N.ln a)->iz D N' σ g vs T x
 |[],[],[],x,h,hl,hN,hF=> .nil
 |[],[],_::_,x,h,hl,hN,hF=>by simp at hl
 |v::r,a::A,[],x,h,hl,hN,hF=>by simp at hl
 |v::r,a::A,n::T,x,h,hl,hN,hF=>by
  cases h with
  |cons h t=>
   refine .cons ?_ (vm D jd ok t (by simpa using hl) (fun j v n m h0 h1 h2=>hN (j+1) v n m (by simpa using h0) (by simpa using h1) (by simpa using h2)) (fun a ha=>hF a (by cases v<;>simp only [gg]<;>first|exact ha|exact Lx _ (Ln _ ha)|exact Lx _ ha)))
   have fP:=hN 0 v n a rfl rfl rfl
   cases v with
   |sl i t=>show bJ (σ i) _;rw [<-uT ok jd];exact h
   |ow i t=>
    obtain ⟨e1,e2,_⟩:=fP.resolve_left (by simp [eo])
    obtain ⟨h1,h2,h3⟩:=h;exact ⟨by rw [e1,e2];exact h1,by rw [e1,jd];exact h2,by rw [e2];exact h3⟩
   |bl nm t=>
    obtain ⟨e1,e2,e3⟩:=fP.resolve_left (by simp [eo])
    obtain ⟨h1,h2,h3⟩:=h
    have:n=a:=by simpa [kU] using e3
    exact ⟨this.trans h1,by rw [e1,jd];exact h2,by rw [e2];exact h3⟩
   |pt i nm sz=>
    obtain ⟨e1,e2,e3⟩:=fP.resolve_left (by simp [eo])
    obtain ⟨h1,h2⟩:=h
    have:n=a:=by simpa [kU] using e3
    exact ⟨this.trans h1,by rw [e1];exact h2⟩
   |ar t=>
    obtain ⟨e1,e2,e3⟩:=fP.resolve_left (by simp [eo])
    obtain ⟨h1,h2,h3⟩:=h
    have:n=a:=by simpa [kU] using e3
    exact ⟨this.trans h1,by rw [e1];exact h2,by rw [e2];exact h3⟩
   |ce nm t=>
    obtain ⟨e1,e2,e3⟩:=fP.resolve_left (by simp [eo])
    obtain ⟨h1,h2,h3⟩:=h
    have:n=a:=by simpa [kU] using e3
    exact ⟨this.trans h1,by rw [e1,jd];exact h2,by rw [e2];exact h3⟩
   |so q f t cs=>
    obtain ⟨e1,e2,_⟩:=fP.resolve_left (by simp [eo])
    obtain ⟨⟨h1,h2⟩,h3,h4⟩:=h
    obtain ⟨q1,q2⟩:=hF q (LJ ..)
    have hc:∀c,c∈cs->N'.ι c.1=N.ι c.1/\N'.ln c.1=N.ln c.1:=fun c hc=>hF c.1 (Lx _ (Lr _ (Li.2 ⟨c,hc,rfl⟩)))
    refine ⟨⟨by rw [e1,jd];exact h1,by rw [e2];exact h2⟩, ?_,by rw [q2];exact h4⟩
    rw [q1,HS e1 e2 hc];exact h3
   |sg q f t S fx=>
    obtain ⟨e1,e2,_⟩:=fP.resolve_left (by simp [eo])
    obtain ⟨⟨h1,h2⟩,h3,h4⟩:=h
    obtain ⟨q1,q2⟩:=hF q (LJ ..)
    have hc:∀c,c∈fx->l4 N' c=l4 N c:=fun c hc=>by
     obtain ⟨w1,w2⟩:=hF c.2.2.1 (Lx _ (Lr _ (Li.2 ⟨c,hc,rfl⟩)))
     unfold l4;rw [w1,w2]
    exact ⟨⟨by rw [e1,jd];exact h1,by rw [e2];exact h2⟩,by rw [q1,jd,e1,e2,zJ hc];exact h3,by rw [q2];exact h4⟩
theorem j4:∀{vs:List (VK τ)} {T:List Nat} {x:VT dn vs},iz D N σ g vs T x->∀i v,(i,v)∈bw D vs T x->bJ (σ i) (v.av D.toTE N)
 |[],[],x,h,i,v,hm=>by simp [bw] at hm
 |[],_::_,x,h,i,v,hm=>by simp [bw] at hm
 |w::r,[],x,h,i,v,hm=>by cases h
 |w::r,n::T,x,h,i,v,hm=>by
  cases h with
  |cons h t=>
   cases w with
   |sl j ty=>
    simp only [bw,KU,KZ] at hm
    rcases hm with ⟨rfl,rfl⟩|hm
    ·exact h
    ·exact j4 t i v hm
   |ow j ty=>
    simp only [bw,KU,KZ] at hm
    rcases hm with ⟨rfl,rfl⟩|hm
    ·exact bJ.of_eq h.1
    ·exact j4 t i v hm
   |bl nm ty=>simp only [bw] at hm;exact j4 t i v hm
   |ce nm ty=>simp only [bw] at hm;exact j4 t i v hm
   |ar ty=>simp only [bw] at hm;exact j4 t i v hm
   |so q f ty cs=>simp only [bw] at hm;exact j4 t i v hm
   |sg q f ty S fx=>simp only [bw] at hm;exact j4 t i v hm
   |pt j nm sz=>
    simp only [bw,KU,KZ] at hm
    rcases hm with ⟨rfl,rfl⟩|hm
    ·obtain ⟨h1,h2⟩:=h;subst h1;exact bJ.of_eq h2
    ·exact j4 t i v hm
theorem je (ok:aQ D):∀{vs:List (VK τ)} {T:List Nat} {x:VT dn vs},iz D N σ g vs T x->∀nm B,(nm,B)∈putM D vs T x->∃B',B=some B'/\g (N.ι nm)=some (B'.av D.toTE N)/\N.ln nm=B'.len
 |[],[],x,h,nm,B,hm=>by simp [putM] at hm
 |[],_::_,x,h,nm,B,hm=>by simp [putM] at hm
 |w::r,[],x,h,nm,B,hm=>by cases h
 |w::r,n::T,x,h,nm,B,hm=>by
  cases h with
  |cons h t=>
   cases w with
   |sl j ty=>simp only [putM] at hm;exact je ok t nm B hm
   |ow j ty=>
    simp only [putM,KU,KZ] at hm
    rcases hm with ⟨rfl,rfl⟩|hm
    ·exact ⟨_,rfl,h.2⟩
    ·exact je ok t nm B hm
   |bl nm' ty=>
    simp only [putM,KU,KZ] at hm
    rcases hm with ⟨rfl,rfl⟩|hm
    ·exact ⟨_,rfl,h.2⟩
    ·exact je ok t nm B hm
   |ce nm' ty=>
    simp only [putM,KU,KZ] at hm
    rcases hm with ⟨rfl,rfl⟩|hm
    ·obtain ⟨h1,h2,h3⟩:=h
     refine ⟨_,rfl, ?_,h3⟩
     rw [h2];simp only [SB.av,SV.bA,SV.ba,ok.cI]
    ·exact je ok t nm B hm
   |pt j nm sz=>simp only [putM] at hm;exact je ok t _ B hm
   |so q f ty cs=>
    simp only [putM,KU,KZ] at hm
    rcases hm with ⟨rfl,rfl⟩|⟨rfl,rfl⟩|hm
    ·exact ⟨_,rfl,h.1⟩
    ·refine ⟨_,rfl, ?_,h.2.2⟩
     rw [h.2.1];simp only [SB.av,SV.bA,SV.ba]
    ·exact je ok t _ B hm
   |sg q f ty S fx=>
    simp only [putM,KU,KZ] at hm
    rcases hm with ⟨rfl,rfl⟩|⟨rfl,rfl⟩|hm
    ·exact ⟨_,rfl,h.1⟩
    ·refine ⟨_,rfl, ?_,h.2.2⟩
     rw [h.2.1];simp only [SB.av,SV.bA,SV.ba,Mb,vf,zL,ok.cI,SV.av]
    ·exact je ok t _ B hm
   |ar ty=>
    simp only [putM,KU,KZ] at hm
    rcases hm with ⟨rfl,rfl⟩|hm
    ·exact ⟨_,rfl,h.2⟩
    ·exact je ok t nm B hm
def okT (p:Nat->Bool):List (VK τ)->List Nat->Bool
 | .pt _ nm _::r,n::l=>p n&&(p nm&&okT p r l)
 | .sl _ _::r,_::l=>okT p r l
 | .so q _ _ cs::r,n::l=>p n&&(p q&&(cs.all (fun c=>p c.1)&&okT p r l))
 | .sg q _ _ _ fx::r,n::l=>p n&&(p q&&(fx.all (fun c=>p c.2.2.1)&&okT p r l))
 |_::r,n::l=>p n&&okT p r l
 |_,_=>true
theorem zN {p:Nat->Bool}:∀{vs:List (VK τ)} {T:List Nat},okT p vs T=true->∀(j:Nat) v n,vs[j]? =some v->T[j]? =some n->eo v=true\/p n=true
 |[],T,h,j,v,n,h1,h2=>by simp at h1
 |w::r,[],h,j,v,n,h1,h2=>by simp at h2
 |w::r,m::l,h,j,v,n,h1,h2=>by
  cases j with
  |zero=>
   simp only [Ll,KJ] at h1 h2
   subst h1;subst h2
   cases w<;>simp only [okT,KM] at h<;>first
    |exact .inl rfl
    |exact .inr h.1
  |succ j=>
   have hr:okT p r l=true:=by
    cases w<;>simp only [okT,KM] at h<;>first
     |exact h
     |exact h.2
     |exact h.2.2.2
     |exact h.2.2
   exact zN hr j v n (by simpa using h1) (by simpa using h2)
theorem j5 {p:Nat->Bool}:∀{vs:List (VK τ)} {T:List Nat},okT p vs T=true->T.length=vs.length->∀a,a∈gg vs->p a=true
 |[],T,h,_,a,ha=>by simp [gg] at ha
 |w::r,[],h,hl,a,ha=>by simp at hl
 |w::r,m::l,h,hl,a,ha=>by
  have c9:l.length=r.length:=by simpa using hl
  cases w with
  |so q f t cs=>
   simp only [okT,KM] at h
   simp only [gg,KU,Lj,Li] at ha
   rcases ha with rfl|⟨c,hc,rfl⟩|ha
   ·exact h.2.1
   ·exact KQ.1 h.2.2.1 c hc
   ·exact j5 h.2.2.2 c9 a ha
  |sg q f t S fx=>
   simp only [okT,KM] at h
   simp only [gg,KU,Lj,Li] at ha
   rcases ha with rfl|⟨c,hc,rfl⟩|ha
   ·exact h.2.1
   ·exact KQ.1 h.2.2.1 c hc
   ·exact j5 h.2.2.2 c9 a ha
  |sl i t=>simp only [okT] at h;exact j5 h c9 a ha
  |pt i nm sz=>simp only [okT,KM] at h;exact j5 h.2.2 c9 a ha
  |ow i t=>simp only [okT,KM] at h;exact j5 h.2 c9 a ha
  |bl i t=>simp only [okT,KM] at h;exact j5 h.2 c9 a ha
  |ce i t=>simp only [okT,KM] at h;exact j5 h.2 c9 a ha
  |ar t=>simp only [okT,KM] at h;exact j5 h.2 c9 a ha
theorem vp (ok:aQ D) (t:τ) (x:dn t):(D.en t x).fr p=true:=by
 have h:=ok.nf p t x
 unfold TD.en
 cases ha:D.ag t with
 |true=>rw [KP];simp only [SV.fr];exact h
 |false=>
  rw [K4]
  cases hs:D.es t x with
  |nil=>rfl
  |cons v r=>rw [hs] at h;simp only [SV.cY,KM] at h;exact h.1
theorem jf (ok:aQ D) {p:Nat->Bool}:∀{vs:List (VK τ)} {T:List Nat} {x:VT dn vs},okT p vs T=true->∀i v,(i,v)∈bw D vs T x->v.fr p=true/\i∈dN vs
 |[],[],x,hp,i,v,hm=>by simp [bw] at hm
 |[],_::_,x,hp,i,v,hm=>by simp [bw] at hm
 |w::r,[],x,hp,i,v,hm=>by cases w<;>simp [bw] at hm
 |w::r,n::T,x,hp,i,v,hm=>by
  cases w with
  |sl j ty=>
   simp only [okT] at hp
   simp only [bw,KU,KZ] at hm
   simp only [dN,KU]
   rcases hm with ⟨rfl,rfl⟩|hm
   ·exact ⟨vp ok _ _, .inl rfl⟩
   ·have ih:=jf ok hp i v hm;exact ⟨ih.1, .inr ih.2⟩
  |ow j ty=>
   simp only [okT,KM] at hp
   simp only [bw,KU,KZ] at hm
   simp only [dN,KU]
   rcases hm with ⟨rfl,rfl⟩|hm
   ·exact ⟨by simp only [SV.fr];exact hp.1, .inl rfl⟩
   ·have ih:=jf ok hp.2 i v hm;exact ⟨ih.1, .inr ih.2⟩
  |bl nm ty=>
   simp only [okT,KM] at hp
   simp only [bw] at hm;simp only [dN];exact jf ok hp.2 i v hm
  |ce nm ty=>
   simp only [okT,KM] at hp
   simp only [bw] at hm;simp only [dN];exact jf ok hp.2 i v hm
  |ar ty=>
   simp only [okT,KM] at hp
   simp only [bw] at hm;simp only [dN];exact jf ok hp.2 i v hm
  |pt j nm sz=>
   simp only [okT,KM] at hp
   simp only [bw,KU,KZ] at hm
   simp only [dN,KU]
   rcases hm with ⟨rfl,rfl⟩|hm
   ·exact ⟨by simp only [SV.fr];exact hp.2.1, .inl rfl⟩
   ·have ih:=jf ok hp.2.2 i v hm;exact ⟨ih.1, .inr ih.2⟩
  |so q f ty cs=>
   simp only [okT,KM] at hp
   simp only [bw] at hm;simp only [dN];exact jf ok hp.2.2.2 i v hm
  |sg q f ty S fx=>
   simp only [okT,KM] at hp
   simp only [bw] at hm;simp only [dN];exact jf ok hp.2.2.2 i v hm
theorem l6 {p:Nat->Bool}:∀{vs:List (VK τ)} {T:List Nat} {x:VT dn vs},okT p vs T=true->∀nm B,(nm,B)∈putM D vs T x->p nm=true
 |[],[],x,hp,nm,B,hm=>by simp [putM] at hm
 |[],_::_,x,hp,nm,B,hm=>by simp [putM] at hm
 |w::r,[],x,hp,nm,B,hm=>by cases w<;>simp [putM] at hm
 |w::r,n::T,x,hp,nm,B,hm=>by
  cases w with
  |sl j ty=>simp only [okT] at hp;simp only [putM] at hm;exact l6 hp nm B hm
  |pt j nm' sz=>simp only [okT,KM] at hp;simp only [putM] at hm;exact l6 hp.2.2 nm B hm
  |so q f ty cs=>
   simp only [okT,KM] at hp
   simp only [putM,KU,KZ] at hm
   rcases hm with ⟨rfl,_⟩|⟨rfl,_⟩|hm
   ·exact hp.1
   ·exact hp.2.1
   ·exact l6 hp.2.2.2 nm B hm
  |sg q f ty S fx=>
   simp only [okT,KM] at hp
   simp only [putM,KU,KZ] at hm
   rcases hm with ⟨rfl,_⟩|⟨rfl,_⟩|hm
   ·exact hp.1
   ·exact hp.2.1
   ·exact l6 hp.2.2.2 nm B hm
  |_=>
   simp only [okT,KM] at hp
   simp only [putM,KU,KZ] at hm
   rcases hm with ⟨rfl,_⟩|hm
   ·exact hp.1
   ·exact l6 hp.2 nm B hm
def lessB (nx:Nat) (a:Nat):Bool:=Nat.blt a nx
theorem pj {nx a:Nat} (h:lessB nx a=true):a<nx:=Ly h
theorem HW {nx:Nat} {N:au} (h:N.aW nx N'):N.same (lessB nx) N':=⟨fun a ha=>h.1 a (pj ha),h.2⟩
theorem zO (ok:aQ D) {vs:List (VK τ)} {T:List Nat} {x:VT dn vs} {rt:List (Nat×SV τ dn)} {rm:List (Nat×Option (SB τ dn))} {nx:Nat} (hV:iz D N s.σ s.g vs T x) (hT:okT (lessB nx) vs T=true) (hl:T.length=vs.length)
  (HX:∀i v,getS rt i=some v->s.σ i=v.av D.toTE N/\v.fr (lessB nx)=true/\¬i∈dN vs) (rF:∀nm B,getS rm nm=some B->nm<nx/\∀B',B=some B'->s.g (N.ι nm)=some (B'.av D.toTE N)/\N.ln nm=B'.len/\B'.fr (lessB nx)=true)
  (inj:∀a b,a<nx->b<nx->N.ι a=N.ι b->a=b) (lt:∀a,a<nx->N.ι a<s.k)
  (zP:∀t A,(⟨rt,rm,bw D vs T x,putM D vs T x,nx⟩:SS τ dn).bd 0 (.ar t A)->∀id,dj A id->s.g id=some ⟨D.sz t,(eQ A id).map (D.ea N.ρ t)⟩/\id<s.k/\∀nm B,(⟨rt,rm,bw D vs T x,putM D vs T x,nx⟩:SS τ dn).bd nm B->N.ι nm≠id):
  ∃s',s.Le k0 n s'/\Rel D N ⟨rt,rm,bw D vs T x,putM D vs T x,nx⟩ s':=by
 let σ':Nat->AV:=fun i=>match getS (bw D vs T x) i with
  |some v=>v.av D.toTE N
  |none=>s.σ i
 refine ⟨⟨σ',s.g,s.k⟩,S3.HQ fun i=> ?_,fun N' hN=> ?_,inj,lt,fun nm B h=>pj (l6 hT nm B (gX h)),fun nm B h=>(rF nm B h).1,fun t A h id hid=>(zP t A h id hid).2⟩
 ·show bJ (s.σ i) (match getS (bw D vs T x) i with|some v=>v.av D.toTE N|none=>s.σ i)
  split
  ·rename_i v hv;exact j4 hV i v (gX hv)
  ·exact bJ.refl
 ·have hs:=HW hN
  have HY:iz D N' s.σ s.g vs T x:=by
   refine vm D hN.2 ok hV rfl (fun j v n m h0 h1 h2=> ?_) fun a ha=>hs.1 a (j5 hT hl a ha)
   rw [h1] at h2;simp only [KJ] at h2;subst h2
   rcases zN hT j v n h0 h1 with h|h
   ·exact .inl h
   ·exact .inr ⟨(hs.1 n h).1,(hs.1 n h).2, .inr rfl⟩
  refine ⟨fun i v h=> ?_,fun i v h=> ?_,fun nm B h=> ?_,fun nm B h=> ?_,fun t A h id hid=>by rw [hN.2];exact (zP t A h id hid).1⟩
  ·show (match getS (bw D vs T x) i with|some v=>v.av D.toTE N|none=>s.σ i)=_
   have h':getS (bw D vs T x) i=some v:=h
   rw [h']
   exact (m9 hs v (jf ok hT i v (gX h')).1).symm
  ·show (match getS (bw D vs T x) i with|some v=>v.av D.toTE N|none=>s.σ i)=_
   obtain ⟨h1,h2,h3⟩:=HX i v h
   split
   ·rename_i w hw;exact absurd (jf ok hT i w (gX hw)).2 h3
   ·rw [h1];exact (m9 hs v h2).symm
  ·obtain ⟨B',e,h1,h2⟩:=je ok HY nm (some B) (gX h)
   simp only [KJ] at e;subst e
   exact ⟨h1,h2⟩
  ·obtain ⟨h0,h1⟩:=rF nm (some B) h
   obtain ⟨q1,q2,q3⟩:=h1 B rfl
   exact ⟨by rw [(hN.1 nm h0).1,q1,zH hs B q3],by rw [(hN.1 nm h0).2];exact q2⟩
def l7:VK τ->Bool
 | .pt _ _ _=>true
 |_=>false
theorem HZ [DecidableEq τ] {v:VK τ} {x:v.T dn} (h:eC D st v=some x):(eo v=true\/l7 v=true)\/∃B,st.gm (nmV st v)=some B:=by
 have bl:∀{nm t} {xs:List (dn t)},jX D st nm t=some xs->∃B,st.gm nm=some B:=fun {nm t xs} h=>by
  unfold jX at h
  split at h
  ·rename_i hB;exact ⟨_,hB⟩
  ·rename_i hB;exact ⟨_,hB⟩
  ·simp at h
 cases v with
 |sl i t=>exact .inl (.inl rfl)
 |pt i nm sz=>exact .inl (.inr rfl)
 |ow i t=>
  simp only [eC] at h
  split at h
  ·rename_i nm sz hw
   split at h
   ·have hn:nmV st (.ow i t)=nm:=by simp only [nmV,hw]
    rw [hn];exact .inr (bl h)
   ·simp at h
  ·simp at h
 |bl nm t=>exact .inr (bl h)
 |ce nm t=>
  simp only [eC] at h
  split at h
  ·rename_i hB;exact .inr ⟨_,hB⟩
  ·simp at h
 |ar t=>exact .inr ⟨_,kL h⟩
 |so q f t cs=>
  simp only [eC] at h
  split at h
  ·rename_i Q vs hB
   split at h
   ·rename_i nm sz hf
    have hn:nmV st (.so q f t cs)=nm:=by simp only [nmV,hB,hf]
    cases hb:(Nat.beq Q cs.length&&(soE vs cs 0 f&&Nat.beq sz (D.sz t))) with
    |false=>rw [hb] at h;simp at h
    |true=>rw [hb,KP] at h;rw [hn];exact .inr (bl h)
   ·simp at h
  ·simp at h
 |sg q f t S fx=>
  simp only [eC] at h
  split at h
  ·rename_i Q vs hB
   split at h
   ·rename_i nm sz hf
    have hn:nmV st (.sg q f t S fx)=nm:=by simp only [nmV,hB,hf]
    cases hb:(Nat.beq Q (D.sz S)&&(Nat.beq sz (D.sz t)&&(((setX ofX vs fx).set f (.vl t [])).all SV.ne&&chkX vs fx))) with
    |false=>rw [hb] at h;simp at h
    |true=>
     rw [hb,KP] at h
     split at h
     ·rename_i y l hx hl
      rw [hn];exact .inr (bl hl)
     ·simp at h
   ·simp at h
  ·simp at h
theorem H0 [DecidableEq τ] {t S:τ} {fx:List (Nat×τ×Nat×Nat)} {x:(VK.sg q f t S fx).T dn} (h:eC D st (.sg q f t S fx)=some x):∃B,st.gm q=some B:=by
 simp only [eC] at h
 split at h
 ·rename_i Q vs hB;exact ⟨_,hB⟩
 ·simp at h
theorem H2 [DecidableEq τ] {t:τ} {x:(VK.so q f t cs).T dn} (h:eC D st (.so q f t cs)=some x):∃B,st.gm q=some B:=by
 simp only [eC] at h
 split at h
 ·rename_i Q vs hB;exact ⟨_,hB⟩
 ·simp at h
theorem rO [DecidableEq τ] {st:SS τ dn}:∀{vs:List (VK τ)} {T:List Nat} {x:VT dn vs},j3 D st vs=some x->T.length=vs.length->∀nm B,(nm,some B)∈putM D vs T x->(∃(j:Nat) (v:VK τ),vs[j]? =some v/\T[j]? =some nm/\eo v=false/\(∃B',st.gm (nmV st v)=some B')/\(∀t A,B= .ar t A->v= .ar t/\st.gm 0=some (.ar t A)))\/(nm∈gg vs/\(∃B',st.gm nm=some B')/\∀t A,B≠ .ar t A)
 |[],[],x,h,hl,nm,B,hm=>by simp [putM] at hm
 |[],_::_,x,h,hl,nm,B,hm=>by simp at hl
 |v::r,[],x,h,hl,nm,B,hm=>by simp at hl
 |v::r,n::T,x,h,hl,nm,B,hm=>by
  simp only [j3] at h
  split at h
  case h_2=>simp at h
  rename_i a b h1 h2
  simp only [KJ] at h;subst h
  have ih:(nm,some B)∈putM D r T b->(∃(j:Nat) (w:VK τ),(v::r)[j]? =some w/\(n::T)[j]? =some nm/\eo w=false/\(∃B',st.gm (nmV st w)=some B')/\(∀t A,B= .ar t A->w= .ar t/\st.gm 0=some (.ar t A)))\/(nm∈gg (v::r)/\(∃B',st.gm nm=some B')/\∀t A,B≠ .ar t A):=fun hm=>by
   rcases rO h2 (by simpa using hl) nm B hm with ⟨j,w,q⟩|⟨q1,q2⟩
   ·exact .inl ⟨j+1,w,by simpa using q⟩
   ·exact .inr ⟨by cases v<;>simp only [gg]<;>first|exact q1|exact Lx _ (Ln _ q1)|exact Lx _ q1,q2⟩
  have hal:=HZ h1
  cases v with
  |sl i t=>simp only [putM] at hm;exact ih hm
  |pt i nm' sz=>simp only [putM] at hm;exact ih hm
  |so q f t cs=>
   simp only [putM,KU,KZ,KJ] at hm
   rcases hm with ⟨rfl,rfl⟩|⟨rfl,rfl⟩|hm
   ·exact .inl ⟨0,_,rfl,rfl,rfl,hal.resolve_left (by simp [eo,l7]),fun t A e=>by simp at e⟩
   ·exact .inr ⟨LJ ..,H2 h1,fun t A e=>by simp at e⟩
   ·exact ih hm
  |sg q f t S fx=>
   simp only [putM,KU,KZ,KJ] at hm
   rcases hm with ⟨rfl,rfl⟩|⟨rfl,rfl⟩|hm
   ·exact .inl ⟨0,_,rfl,rfl,rfl,hal.resolve_left (by simp [eo,l7]),fun t A e=>by simp at e⟩
   ·exact .inr ⟨LJ ..,H0 h1,fun t A e=>by simp at e⟩
   ·exact ih hm
  |ow i t=>
   simp only [putM,KU,KZ,KJ] at hm
   rcases hm with ⟨rfl,rfl⟩|hm
   ·exact .inl ⟨0,_,rfl,rfl,rfl,hal.resolve_left (by simp [eo,l7]),fun t A e=>by simp at e⟩
   ·exact ih hm
  |bl i t=>
   simp only [putM,KU,KZ,KJ] at hm
   rcases hm with ⟨rfl,rfl⟩|hm
   ·exact .inl ⟨0,_,rfl,rfl,rfl,hal.resolve_left (by simp [eo,l7]),fun t A e=>by simp at e⟩
   ·exact ih hm
  |ce i t=>
   simp only [putM,KU,KZ,KJ] at hm
   rcases hm with ⟨rfl,rfl⟩|hm
   ·exact .inl ⟨0,_,rfl,rfl,rfl,hal.resolve_left (by simp [eo,l7]),fun t A e=>by simp at e⟩
   ·exact ih hm
  |ar t=>
   simp only [putM,KU,KZ,KJ] at hm
   rcases hm with ⟨rfl,rfl⟩|hm
   ·refine .inl ⟨0,_,rfl,rfl,rfl,hal.resolve_left (by simp [eo,l7]),fun t' A e=> ?_⟩
    simp only [SB.ar.injEq] at e
    obtain ⟨rfl,e⟩:=e
    have e:=eq_of_heq e
    subst e
    exact ⟨rfl,kL h1⟩
   ·exact ih hm
end
open Go.RowKit
inductive Fz (g:Nat->Option Bk) (F:List Nat):AV->AV->Prop
 |refl {a:AV}:Fz g F a a
 |snap {a a':AV} (hid:∀id,id∈a.bB->id∈F) (h:(snap1 a).run g=some a'):Fz g F a a'
 |agg {cs ds:List AV} (hl:cs.length=ds.length) (h:∀(i:Nat) c d,cs[i]? =some c->ds[i]? =some d->Fz g F c d):Fz g F (.agg cs) (.agg ds)
 |aG {cs ds:List AV} (hl:cs.length=ds.length) (h:∀(i:Nat) c d,cs[i]? =some c->ds[i]? =some d->Fz g F c d):Fz g F (.aG cs) (.aG ds)
 |fn {f:FuncId} {cs ds:List AV} (hl:cs.length=ds.length) (h:∀(i:Nat) c d,cs[i]? =some c->ds[i]? =some d->Fz g F c d):Fz g F (.fn f cs) (.fn f ds)
 |bf {f:FuncId} {cs ds:List AV} (hl:cs.length=ds.length) (h:∀(i:Nat) c d,cs[i]? =some c->ds[i]? =some d->Fz g F c d):Fz g F (.bf f cs) (.bf f ds)
theorem H3 (h:(snap1 a).run g=some a'):Pu a':=by
 have other:(if a.pu1=true then RM.ret a else RM.fail).run g=some a'->Pu a':=fun h=>by
  split at h
  ·rename_i hp;simp only [RM.run,KJ] at h;subst h;exact AV.qc hp
  ·simp [RM.run] at h
 cases a with
 |own id sz off n=>
  simp only [snap1] at h
  obtain ⟨els,h1,h2⟩:=cz h
  split at h2
  ·simp only [RM.run,KJ] at h2;subst h2;exact .aN
  ·simp [RM.run] at h2
 |ref id sz i o=>
  simp only [snap1,RM.run] at h
  cases hB:g id with
  |none=>simp [hB] at h
  |some B=>
   simp only [hB] at h
   split at h
   ·split at h
    ·split at h
     ·simp only [RM.run,KJ] at h;subst h;exact .pim
     ·simp [RM.run] at h
    ·simp [RM.run] at h
   ·simp [RM.run] at h
 |_=>exact other h
section
variable {E E':Env} {J:Nat->Prop} {base:Nat} {g:Nat->Option Bk} {F:List Nat}
theorem H4 (hm:aB E J base g) (hE:E.Le E') (hw:E'.w=E.w) (hI:∀id b B,id∈F->g id=some B->E.loc id=some b->E'.I b) (iO:∀b,E.I b->E'.I b) (hf:Fz g F a a'):∀{v:Value},ae E v a->ae E' v a':=by
 have cells:∀{vs:Array Value} {cs ds:List AV},cs.length=ds.length->(∀(i:Nat) c d,cs[i]? =some c->ds[i]? =some d->∀{v:Value},ae E v c->ae E' v d)->(∀(i:Nat) v c,vs[i]? =some v->cs[i]? =some c->ae E v c)->∀(i:Nat) v d,vs[i]? =some v->ds[i]? =some d->ae E' v d:=fun {vs cs ds} hl ih h i v d hv hd=>by
  have hi:i<cs.length:=by rw [hl];exact (KS.1 hd).1
  exact ih i cs[i] d (K0 hi) hd (h i v _ hv (K0 hi))
 induction hf with
 |refl=>intro v h;exact h.step hE
 | @snap a a' hid h=>
  intro v hr
  have h1:=sZ hm E'.I hr h (fun b hb=>by
   rcases hb with hb|⟨id,B,h1,h2,h3⟩
   ·exact iO b hb
   ·exact hI id b B (hid id h1) h2 h3)
  exact ae.pure (E:=Proofs.Ytpoikkflcpklgaa.E0 E.w E'.I) (E':=E') (fun b hb=>⟨hb,fun o=>by rw [hw];rfl⟩) h1 (H3 h)
 |agg hl h ih=>intro v hr;cases hr with|agg c9 hr=>exact .agg (c9.trans hl) (cells hl (fun i c d h1 h2 v h3=>ih i c d h1 h2 h3) hr)
 |aG hl h ih=>intro v hr;cases hr with|aG c9 hr=>exact .aG (c9.trans hl) (cells hl (fun i c d h1 h2 v h3=>ih i c d h1 h2 h3) hr)
 |fn hl h ih=>intro v hr;cases hr with|fn c9 hr=>exact .fn (c9.trans hl) (cells hl (fun i c d h1 h2 v h3=>ih i c d h1 h2 h3) hr)
 |bf hl h ih=>intro v hr;cases hr with|bf c9 hr=>exact .bf (c9.trans hl) (cells hl (fun i c d h1 h2 v h3=>ih i c d h1 h2 h3) hr)
def j6 (g:Nat->Option Bk) (F:List Nat) (els fN:List (List AV)):Prop:=els.length=fN.length/\∀(i:Nat) cs ds,els[i]? =some cs->fN[i]? =some ds->cs.length=ds.length/\∀(j:Nat) c d,cs[j]? =some c->ds[j]? =some d->Fz g F c d
theorem j6.refl {els:List (List AV)}:j6 g F els els:=⟨rfl,fun i cs ds h1 h2=>by rw [h1] at h2;cases h2;exact ⟨rfl,fun j c d h3 h4=>by rw [h3] at h4;cases h4;exact .refl⟩⟩
theorem S3.zQ {g':Nat->Option Bk} (hσ:∀i,Fz s.g F (s.σ i) (σ' i)) (hF:∀id,id∈F->∃B,s.g id=some B) (zR:∀id,id∈F->g' id=none) (zS:∀id,¬id∈F->s.g id=none->g' id=none) (zT:∀id B,¬id∈F->s.g id=some B->∃B',g' id=some B'/\B'.sz=B.sz/\j6 s.g F B.els B'.els):s.Le k0 n ⟨σ',g',s.k⟩:=by
 intro E0 J base w0 a w hk hr
 obtain ⟨E,rfl,hle,hs,hm,aX,hmk⟩:=hr.ex
 obtain ⟨E',hw,hE,hM,k1,k2,k3⟩:=hm.kill F (fun id hid=>by obtain ⟨B,hB⟩:=hF id hid;exact ((hm.live id).2 ⟨B,hB⟩).1)
 have rep:∀{a a':AV},Fz s.g F a a'->∀{v:Value},ae E v a->ae E' v a':=fun h=>H4 hm hE hw k2 k3 h
 have key:∀id,aj s.g (F.map fun id=>(id,none)) id=if id∈F then none else s.g id:=fun id=>oT F s.g id
 refine ⟨⟨E',hw,hle.trans hE,fun j=>rep (hσ j) (hs j), ?_,fun id hid=>aX id (k1 id hid),hmk.step hE⟩,hr.size,hr.below,hr.gl⟩
 have aJ:∀{id B'},g' id=some B'->¬id∈F/\∃B,s.g id=some B/\B'.sz=B.sz/\j6 s.g F B.els B'.els:=fun {id B'} h=>by
  by_cases hid:id∈F
  ·rw [zR id hid] at h;simp at h
  ·refine ⟨hid, ?_⟩
   cases hB:s.g id with
   |none=>rw [zS id hid hB] at h;simp at h
   |some B=>
    obtain ⟨B2,q1,q2,q3⟩:=zT id B hid hB
    rw [q1] at h;simp only [KJ] at h;subst h
    exact ⟨B,rfl,q2,q3⟩
 have kq:∀{id B},¬id∈F->s.g id=some B->aj s.g (F.map fun id=>(id,none)) id=some B:=fun h1 h2=>by rw [key,KK h1];exact h2
 refine ⟨fun id=> ?_,fun id B' hg=> ?_,fun id cm b B1 B2 h1 h2 h3 h4=> ?_,fun id b B' hg hb hI=> ?_,hM.low,hM.size,fun id B' hg hz=> ?_,hM.gi,fun b hX=>⟨(hM.xo b hX).1,(hM.xo b hX).2.1,fun k B1 hk he=> ?_⟩⟩
 ·show _↔∃B,g' id=some B
  rw [hM.live id,key]
  by_cases hid:id∈F
  ·rw [KL hid,zR id hid]
  ·rw [KK hid]
   cases hB:s.g id with
   |none=>rw [zS id hid hB]
   |some B=>
    obtain ⟨B',q1,_⟩:=zT id B hid hB
    rw [q1];exact ⟨fun _=>⟨_,rfl⟩,fun _=>⟨_,rfl⟩⟩
 ·obtain ⟨hid,B,hB,hz,fp,hf⟩:=aJ hg
  have nM:=(hM.live id).2 ⟨B,kq hid hB⟩
  have zU:=(hm.live id).2 ⟨B,hB⟩
  have hloc:E'.loc id=E.loc id:=(hE.loc id zU.1 zU.2).resolve_left nM.2
  rw [hloc]
  have h0:=hm.at_ id B hB
  cases hl:E.loc id with
  |none=>
   rw [hl] at h0
   have ks:B.els=[]:=h0
   show B'.els=[]
   rw [ks] at fp
   exact L9 (by simpa using fp.symm)
  |some b=>
   rw [hl] at h0
   have get:∀{els fN:List (List AV)} {i:Nat} {ds:List AV},els.length=fN.length->fN[i]? =some ds->∃cs,els[i]? =some cs:=fun {els fN i ds} hl h=>⟨_,K0 (by rw [hl];exact (KS.1 h).1)⟩
   obtain ⟨h1,⟨hz0,arr,t,h2,h3,h4⟩|⟨hz0,es,c,h2,h3,h4⟩⟩:=h0
   ·refine .iE ⟨h1,arr,t,by rw [hw];exact h2,by rw [<-fp,hz];exact h3,fun i ds hi=> ?_⟩ (by rw [hz];exact hz0)
    obtain ⟨cs,hc⟩:=get fp hi
    obtain ⟨e1,e2⟩:=hf i cs ds hc hi
    refine ⟨by rw [<-e1,hz];exact (h4 i cs hc).1,fun j d hj=> ?_⟩
    have aU:j<cs.length:=by rw [e1];exact (KS.1 hj).1
    obtain ⟨u,u1,u2,u3⟩:=(h4 i cs hc).2 j cs[j] (K0 aU)
    exact ⟨u,by rw [hz];exact u1,u2,rep (e2 j _ d (K0 aU) hj) u3⟩
   ·refine .ofMap ⟨h1,es,c,by rw [hw];exact h2,by rw [<-fp];exact h3,fun i e ds he hi=> ?_⟩ (by rw [hz];exact hz0)
    obtain ⟨cs,hc⟩:=get fp hi
    obtain ⟨e1,e2⟩:=hf i cs ds hc hi
    obtain ⟨x,rfl,x2,x3⟩:=h4 i e cs he hc
    match ds,e1 with
    |[d1,d2],_=>
     have f1:=e2 0 _ d1 rfl rfl
     have f2:=e2 1 _ d2 rfl rfl
     have:d1= .v e.key:=by
      generalize hq:(AV.v e.key)=q at f1
      cases f1 with
      |refl=>rfl
      |snap _ h=>subst hq;simp [snap1,AV.pu1,RM.run] at h;exact h.symm
      |_=>simp at hq
     subst this
     exact ⟨d2,rfl,x2,rep f2 x3⟩
 ·obtain ⟨q1,B3,q2,_⟩:=aJ h1
  obtain ⟨q3,B4,q4,_⟩:=aJ h2
  exact hM.apart id cm b B3 B4 (kq q1 q2) (kq q3 q4) h3 h4
 ·obtain ⟨q1,B3,q2,_⟩:=aJ hg
  exact hM.out id b B3 (kq q1 q2) hb hI
 ·obtain ⟨q1,B3,q2,q3,q4,_⟩:=aJ hg
  rw [<-q4]
  exact hM.len id B3 (kq q1 q2) (by rw [<-q3];exact hz)
 ·obtain ⟨q1,B3,q2,_⟩:=aJ hk
  exact (hM.xo b hX).2.2 k B3 (kq q1 q2) he
end
section
variable {τ:Type} {dn:τ->Type} [DecidableEq τ]
def rP (D:TD τ dn) (ta:τ) (A:List (Nat×List (dn ta))):SB τ dn->Option (SB τ dn×Prop)
 | .bl t K=>match D.fz t ta A with
  |some ⟨t',f,O⟩=>some (.bl t' (K.map f),∀x,x∈K->O x)
  |none=>none
 |_=>none
def kV (D:TD τ dn) (st:SS τ dn) (ta:τ) (A:List (Nat×List (dn ta))):List Nat->List (Nat×(SB τ dn×Prop))
 |[]=>[]
 |nm::l=>match st.gm nm with
  |some B=>match rP D ta A B with
   |some q=>bif !Nat.beq nm 0&&st.rw nm then (nm,q)::kV D st ta A l else kV D st ta A l
   |none=>kV D st ta A l
  |none=>kV D st ta A l
theorem pk {D:TD τ dn} {st:SS τ dn} {ta:τ} {A:List (Nat×List (dn ta))}:∀{l:List Nat} {q:Nat×(SB τ dn×Prop)},q∈kV D st ta A l->∃B,st.gm q.1=some B/\rP D ta A B=some q.2/\q.1≠0/\st.rw q.1=true
 |[],q,h=>by simp [kV] at h
 |nm::l,q,h=>by
  simp only [kV] at h
  split at h
  ·rename_i B hB
   split at h
   ·rename_i p hp
    cases hc:(!Nat.beq nm 0&&st.rw nm) with
    |false=>rw [hc,K4] at h;exact pk h
    |true=>
     rw [hc,KP,KU] at h
     rcases h with rfl|h
     ·simp only [KM,K3] at hc
      exact ⟨B,hB,hp,fun e=>by have:=hc.1;rw [show nm=0 from e] at this;simp at this,hc.2⟩
     ·exact pk h
   ·exact pk h
  ·exact pk h
def SS.rQ (D:TD τ dn) (st:SS τ dn) (l:List Nat):Option (List Prop×SS τ dn):=match st.gm 0 with
 |some (.ar ta A)=>match kV D st ta A l with
  |[]=>none
  |q::L=>bif D.pu ta&&st.rw 0 then some ((q::L).map (fun q=>q.2.2),⟨st.rt,st.rm,st.t,(q::L).map (fun q=>(q.1,some q.2.1))++(0,some (.ar ta []))::st.m,st.nx⟩) else none
 |_=>none
theorem zV {α β:Type} {f:β->α} {r:List (Nat×α)}:∀{L:List (Nat×β)} {a:Nat},(∃q,q∈L/\q.1=a/\getS (L.map (fun q=>(q.1,f q.2))++r) a=some (f q.2))\/((∀q,q∈L->q.1≠a)/\getS (L.map (fun q=>(q.1,f q.2))++r) a=getS r a)
 |[],a=> .inr ⟨fun q h=>by simp at h,rfl⟩
 |q::L,a=>by
  rw [KW,L2,aR]
  by_cases h:a=q.1
  ·rw [KL h];exact .inl ⟨q,LJ ..,h.symm,rfl⟩
  ·rw [KK h]
   rcases zV (f:=f) (r:=r) (L:=L) (a:=a) with ⟨p,h1,h2,h3⟩|⟨h1,h2⟩
   ·exact .inl ⟨p,Lx _ h1,h2,h3⟩
   ·refine .inr ⟨fun p hp=> ?_,h2⟩
    rcases KU.1 hp with rfl|hp
    ·exact fun e=>h e.symm
    ·exact h1 p hp
theorem zW {D:TD τ dn} (ok:aQ D) {st ah:SS τ dn} (R:Rel D N st s) (h:st.rQ D l=some (O,ah)) (hO:∀p,p∈O->p):∃s',s.Le k0 n s'/\Rel D N ah s'/\ah.rt=st.rt/\ah.rm=st.rm/\ah.nx=st.nx:=by
 unfold SS.rQ at h
 split at h
 case h_2=>simp at h
 rename_i ta A hU
 split at h
 ·simp at h
 rename_i q0 L0 hL
 cases hc:(D.pu ta&&st.rw 0) with
 |false=>rw [hc] at h;simp at h
 |true=>
 rw [hc,KP,KJ,KZ] at h
 obtain ⟨rfl,rfl⟩:=h
 have cK:∀q,q∈q0::L0->∃B,st.gm q.1=some B/\rP D ta A B=some q.2/\q.1≠0/\st.rw q.1=true:=fun q hq=>pk (l:=l) (by rw [hL];exact hq)
 generalize q0::L0=L at hO cK
 clear hL q0 L0
 simp only [KM] at hc
 obtain ⟨H5,uQ⟩:=hc
 obtain ⟨⟨B2,m2⟩,r2⟩:=iu uQ
 have uR:B2= .ar ta A:=by have:=kN m2;rw [this] at hU;simpa using hU
 subst uR
 have o9:=R.ml 0 _ m2
 have hA:=R.here
 have hrow:=hA.ar ta A (.inl m2)
 have H6:=R.sp ta A (.inl m2)
 have hq:∀q,q∈L->∃t K t' f O,getS st.m q.1=some (some (.bl t K))/\getS st.rm q.1=none/\q.1≠0/\D.fz t ta A=some ⟨t',f,O⟩/\q.2.1= .bl t' (K.map f)/\∀x,x∈K->O x:=fun q hq=>by
  obtain ⟨B,h1,h2,h3,h4⟩:=cK q hq
  obtain ⟨⟨B1,m1⟩,r1⟩:=iu h4
  have hB1:B1=B:=by have:=kN m1;rw [this] at h1;simpa using h1
  subst hB1
  unfold rP at h2
  split at h2
  case h_2=>simp at h2
  rename_i t K
  split at h2
  case h_2=>simp at h2
  rename_i t' f O l8
  simp only [KJ] at h2
  have e1:q.2.1= .bl t' (K.map f):=by rw [<-h2]
  have e2:q.2.2=∀x,x∈K->O x:=by rw [<-h2]
  have e3:q.2.2:=hO _ (Li.2 ⟨q,hq,rfl⟩)
  exact ⟨t,K,t',f,O,m1,r1,h3,l8,e1,e2▸e3⟩
 have pn:∀q p,q∈L->p∈L->q.1=p.1->q=p:=fun q p hq hp e=>by
  obtain ⟨B,h1,h2,_⟩:=cK q hq
  obtain ⟨C,g1,g2,_⟩:=cK p hp
  rw [e,g1] at h1
  simp only [KJ] at h1;subst h1
  rw [g2] at h2
  simp only [KJ] at h2
  exact Prod.ext e h2.symm
 let F:List Nat:=A.map Prod.fst
 have vq:∀{id},id∈F↔dj A id:=fun {id}=>Iff.rfl
 let φ:AV->AV:=fun a=>match a with
  | .own id sz off n=>if id∈F then ((snap1 (.own id sz off n)).run s.g).getD (.own id sz off n) else .own id sz off n
  |a=>a
 have H7:∀a,a.pu1=true->φ a=a:=fun a ha=>by cases a<;>first|rfl|(simp [AV.pu1] at ha)
 have H8:∀a,Fz s.g F a (φ a):=fun a=>by
  cases a with
  |own id sz off n=>
   show Fz s.g F _ (if id∈F then _ else _)
   by_cases hid:id∈F
   ·rw [KL hid]
    cases hs:(snap1 (.own id sz off n)).run s.g with
    |none=>exact .refl
    |some a'=>exact .snap (fun i hi=>by simp only [AV.bB,KT] at hi;subst hi;exact hid) hs
   ·rw [KK hid];exact .refl
  |_=>exact .refl
 have H9:∀id n,dj A id->(eQ A id).length=n->φ (.own id (D.sz ta) 0 n)= .aN (D.sz ta) ((eQ A id).map (D.ea N.ρ ta)):=fun id n hid hn=>by
  show (if id∈F then _ else _)=_
  rw [KL (vq.2 hid)]
  have c1:(content (D.sz ta) (.own id (D.sz ta) 0 n)).run s.g=some ((eQ A id).map (D.ea N.ρ ta)):=by
   simp only [content,RM.run,hrow id hid, <-hn,KY,K7,KO,K5,KN,Mz]
   rw [Mf (by simp)]
  have bq:(((eQ A id).map (D.ea N.ρ ta)).all fun cs=>cs.all AV.pu1)=true:=by
   simp only [KQ,Li]
   rintro _ ⟨y,_,rfl⟩
   have:=ok.pu1 N ta y H5
   simpa [KQ] using this
  simp only [snap1]
  rw [de c1]
  simp only [bq,KN,RM.run,LM]
 have ed:∀a B,st.bd a B->¬N.ι a∈F:=fun a B hB hh=>(H6 _ (vq.1 hh)).2 a B hB rfl
 have hlt:∀q,q∈L->q.1<st.nx:=fun q gn=>by
  obtain ⟨t,K,t',f,O,h1,_⟩:=hq q gn
  exact R.ml _ _ h1
 let g':Nat->Option Bk:=fun id=>if id∈F then none else match L.find? fun q=>N.ι q.1==id with
  |some q=>some (q.2.1.av D.toTE N)
  |none=>s.g id
 have gc:∀id,¬id∈F->(∃q,q∈L/\N.ι q.1=id/\g' id=some (q.2.1.av D.toTE N))\/((∀q,q∈L->N.ι q.1≠id)/\g' id=s.g id):=fun id hid=>by
  show (∃q,q∈L/\N.ι q.1=id/\(if id∈F then none else match L.find? (fun q=>N.ι q.1==id) with|some q=>some (q.2.1.av D.toTE N)|none=>s.g id)=some (q.2.1.av D.toTE N))\/((∀q,q∈L->N.ι q.1≠id)/\(if id∈F then none else match L.find? (fun q=>N.ι q.1==id) with|some q=>some (q.2.1.av D.toTE N)|none=>s.g id)=s.g id)
  rw [KK hid]
  cases hf:L.find? (fun q=>N.ι q.1==id) with
  |none=>
   rw [List.find?_eq_none] at hf
   exact .inr ⟨fun q hq e=>by have:=hf q hq;simp [e] at this,rfl⟩
  |some q=>
   have h1:=List.find?_some hf
   simp only [beq_iff_eq] at h1
   exact .inl ⟨q,List.mem_of_find?_eq_some hf,h1,rfl⟩
 refine ⟨⟨s.σ,g',s.k⟩,S3.zQ (F:=F) (fun i=> .refl) (fun id hid=>⟨_,hrow id (vq.1 hid)⟩) (fun id hid=>KL hid) (fun id hid hn=> ?_) (fun id B hid hB=> ?_), ?_,rfl,rfl,rfl⟩
 ·show g' id=none
  rcases gc id hid with ⟨q,h1,h2,h3⟩|⟨h1,h2⟩
  ·obtain ⟨t,K,t',f,O,m1,_⟩:=hq q h1
   rw [<-h2,(hA.bl _ _ m1).1] at hn;simp at hn
  ·rw [h2];exact hn
 ·show ∃B',g' id=some B'/\_
  rcases gc id hid with ⟨q,h1,h2,h3⟩|⟨h1,h2⟩
  ·obtain ⟨t,K,t',f,O,m1,_,_,l8,e1,Ia⟩:=hq q h1
   obtain ⟨hz,hcv⟩:=ok.fz N φ t ta A t' f O l8 H7 H9
   rw [<-h2,(hA.bl _ _ m1).1] at hB
   simp only [SB.av,KJ] at hB
   subst hB
   refine ⟨_,h3,by rw [e1];exact hz,by rw [e1];simp [SB.av],fun i cs ds h1 h2=> ?_⟩
   rw [e1] at h2
   simp only [SB.av,Ld,KR] at h1 h2
   obtain ⟨x,hx,rfl⟩:=h1
   obtain ⟨_,⟨y,hy,rfl⟩,rfl⟩:=h2
   rw [hx] at hy;simp only [KJ] at hy;subst hy
   have e:=hcv x (Ia x (Lq hx))
   rw [<-e]
   refine ⟨by simp,fun j c d h3 h4=> ?_⟩
   rw [Ld,h3] at h4
   simp only [KV,KJ] at h4
   subst h4;exact H8 c
  ·rw [h2];exact ⟨B,hB,rfl,j6.refl⟩
 ·have c8:∀a X,getS (L.map (fun q=>(q.1,some q.2.1))++(0,some (SB.ar ta ([]:List (Nat×List (dn ta)))))::st.m) a=some X->(∃q,q∈L/\q.1=a/\X=some q.2.1)\/(a=0/\X=some (.ar ta []))\/(a≠0/\(∀q,q∈L->q.1≠a)/\getS st.m a=some X):=fun a X h=>by
   rcases zV (f:=fun p:SB τ dn×Prop=>some p.1) (r:=(0,some (SB.ar ta ([]:List (Nat×List (dn ta)))))::st.m) (L:=L) (a:=a) with ⟨q,h1,h2,h3⟩|⟨h1,h2⟩
   ·rw [h3] at h;simp only [KJ] at h;exact .inl ⟨q,h1,h2,h.symm⟩
   ·rw [h2,aR] at h
    by_cases h0:a=0
    ·rw [KL h0] at h;simp only [KJ] at h;exact .inr (.inl ⟨h0,h.symm⟩)
    ·rw [KK h0] at h;exact .inr (.inr ⟨h0,h1,h⟩)
  have zX:∀t2 A2,(⟨st.rt,st.rm,st.t,L.map (fun q=>(q.1,some q.2.1))++(0,some (.ar ta []))::st.m,st.nx⟩:SS τ dn).bd 0 (.ar t2 A2)->∀id,¬dj A2 id:=fun t2 A2 h id hid=>by
   rcases h with h|h
   ·rcases c8 0 _ h with ⟨q,h1,e,_⟩|⟨_,e⟩|⟨e,_⟩
    ·obtain ⟨t,K,t',f,O,m1,_,hz,_⟩:=hq q h1
     exact hz e
    ·simp only [KJ,SB.ar.injEq] at e
     obtain ⟨rfl,e⟩:=e
     have e:=eq_of_heq e
     subst e;exact yy hid
    ·exact e rfl
   ·have h':getS st.rm 0=some (some (.ar t2 A2)):=h
    rw [r2] at h';simp at h'
  refine ⟨fun N' hN=> ?_,R.inj,R.lt,fun a X h=> ?_,R.rl,fun t2 A2 h id hid=>absurd hid (zX t2 A2 h id)⟩
  ·have A':=R.at_ N' hN
   have vr:∀a B,st.bd a B->a<st.nx->(∀q,q∈L->q.1≠a)->g' (N'.ι a)=s.g (N'.ι a):=fun a B hB ha aA=>by
    rw [(hN.1 a ha).1]
    rcases gc (N.ι a) (ed a B hB) with ⟨q,h1,h2,_⟩|⟨_,h2⟩
    ·exact absurd (R.inj q.1 a (hlt q h1) ha h2) (aA q h1)
    ·exact h2
   refine ⟨A'.sl,A'.rs,fun a B h=> ?_,fun a B h=> ?_,fun t2 A2 h id hid=>absurd hid (zX t2 A2 h id)⟩
   ·rcases c8 a _ h with ⟨q,h1,rfl,e⟩|⟨rfl,e⟩|⟨h0,h1,h2⟩
    ·simp only [KJ] at e;subst e
     obtain ⟨t,K,t',f,O,m1,_,_,_,e1,_⟩:=hq q h1
     refine ⟨?_, ?_⟩
     ·show g' (N'.ι q.1)=_
      rw [(hN.1 q.1 (hlt q h1)).1]
      rcases gc (N.ι q.1) (ed q.1 _ (.inl m1)) with ⟨p,p1,p2,p3⟩|⟨p1,_⟩
      ·have:=pn p q p1 h1 (R.inj p.1 q.1 (hlt p p1) (hlt q h1) p2)
       subst this
       rw [p3,e1];simp only [SB.av,hN.2]
      ·exact absurd rfl (p1 q h1)
     ·have:=(A'.bl q.1 _ m1).2
      rw [this,e1];simp [SB.len]
    ·simp only [KJ] at e;subst e
     have:=A'.bl 0 _ m2
     exact ⟨(vr 0 _ (.inl m2) o9 (fun q h1 e=>by obtain ⟨t,K,t',f,O,_,_,hz,_⟩:=hq q h1;exact hz e)).trans this.1,this.2⟩
    ·have:=A'.bl a B h2
     exact ⟨(vr a B (.inl h2) (R.ml a _ h2) h1).trans this.1,this.2⟩
   ·have h':getS st.rm a=some (some B):=h
    have:=A'.rb a B h'
    exact ⟨(vr a B (.inr h') (R.rl a _ h') (fun q h1 e=>by subst e;obtain ⟨t,K,t',f,O,_,hr,_⟩:=hq q h1;rw [hr] at h';simp at h')).trans this.1,this.2⟩
  ·rcases c8 a _ h with ⟨q,h1,rfl,_⟩|⟨rfl,_⟩|⟨_,_,h2⟩
   ·exact hlt q h1
   ·exact o9
   ·exact R.ml a _ h2
mutual
def SV.dJ (D:TD τ dn) (st:SS τ dn) (nm:Nat):SV τ dn->SV τ dn
 | .own a sz=>bif Nat.beq a nm then (snap1S D st (.own a sz)).getD (.own a sz) else .own a sz
 | .ref a sz i o=>bif Nat.beq a nm then (snap1S D st (.ref a sz i o)).getD (.ref a sz i o) else .ref a sz i o
 | .agg cs=> .agg (SV.gh D st nm cs)
 | .aG cs=> .aG (SV.gh D st nm cs)
 | .fn f cs=> .fn f (SV.gh D st nm cs)
 | .bf f cs=> .bf f (SV.gh D st nm cs)
 | .vg p c v=> .vg p c v
 | .part a b c d=> .part a b c d
 | .pim cs o=> .pim cs o
 | .vc sz els=> .vc sz els
 | .mp a=> .mp a
 | .vi x=> .vi x
 | .vn x=> .vn x
 | .vy x=> .vy x
 | .vu x=> .vu x
 | .vw q x=> .vw q x
 | .vb c=> .vb c
 | .vt x=> .vt x
 | .vz x=> .vz x
 | .vo x=> .vo x
 | .vl a b=> .vl a b
 | .emp=> .emp
 | .rw a b=> .rw a b
 | .cH a b c d=> .cH a b c d
 | .dead=> .dead
def SV.gh (D:TD τ dn) (st:SS τ dn) (nm:Nat):List (SV τ dn)->List (SV τ dn)
 |[]=>[]
 |v::l=>SV.dJ D st nm v::SV.gh D st nm l
end
section
variable {D:TD τ dn} {N N':au} {st:SS τ dn} {σ:Nat->AV} {g:Nat->Option Bk} {nm:Nat}
theorem zY (ok:aQ D) (R:aS D N st σ g) (R':aS D N' st σ g) {v:SV τ dn} (hid:∀id,id∈(v.av D.toTE N).bB->id∈[N.ι nm]):Fz g [N.ι nm] (v.av D.toTE N) (((snap1S D st v).getD v).av D.toTE N)/\(v.av D.toTE N'=v.av D.toTE N->((snap1S D st v).getD v).av D.toTE N'=((snap1S D st v).getD v).av D.toTE N):=by
 cases hs:snap1S D st v with
 |none=>exact ⟨.refl,fun h=>h⟩
 |some w=>
  have h1:=qW ok R hs
  refine ⟨.snap hid h1,fun h=> ?_⟩
  have h2:=qW ok R' hs
  rw [h,h1] at h2
  simpa using h2.symm
mutual
theorem vA (ok:aQ D) (R:aS D N st σ g) (R':aS D N' st σ g):∀v:SV τ dn,Fz g [N.ι nm] (v.av D.toTE N) ((v.dJ D st nm).av D.toTE N)/\(v.av D.toTE N'=v.av D.toTE N->(v.dJ D st nm).av D.toTE N'=(v.dJ D st nm).av D.toTE N)
 | .own a sz=>by
  simp only [SV.dJ]
  cases hb:Nat.beq a nm with
  |false=>exact ⟨.refl,fun h=>h⟩
  |true=>
   rw [KP]
   have:=K1 hb
   subst this
   exact zY ok R R' (fun id hid=>by simpa [SV.av,AV.bB] using hid)
 | .ref a sz i o=>by
  simp only [SV.dJ]
  cases hb:Nat.beq a nm with
  |false=>exact ⟨.refl,fun h=>h⟩
  |true=>
   rw [KP]
   have:=K1 hb
   subst this
   exact zY ok R R' (fun id hid=>by simpa [SV.av,AV.bB] using hid)
 | .agg cs=>by
  obtain ⟨h1,h2,h3⟩:=na ok R R' cs
  simp only [SV.dJ,SV.av]
  exact ⟨.agg h1 h2,fun h=>by simp only [AV.agg.injEq] at h ⊢; exact h3 h⟩
 | .aG cs=>by
  obtain ⟨h1,h2,h3⟩:=na ok R R' cs
  simp only [SV.dJ,SV.av]
  exact ⟨.aG h1 h2,fun h=>by simp only [AV.aG.injEq] at h ⊢; exact h3 h⟩
 | .fn f cs=>by
  obtain ⟨h1,h2,h3⟩:=na ok R R' cs
  simp only [SV.dJ,SV.av]
  exact ⟨.fn h1 h2,fun h=>by simp only [AV.fn.injEq,true_and] at h ⊢; exact h3 h⟩
 | .bf f cs=>by
  obtain ⟨h1,h2,h3⟩:=na ok R R' cs
  simp only [SV.dJ,SV.av]
  exact ⟨.bf h1 h2,fun h=>by simp only [AV.bf.injEq,true_and] at h ⊢; exact h3 h⟩
 | .vg p c v=>⟨by simp only [SV.dJ];exact .refl,fun h=>by simp only [SV.dJ];exact h⟩
 | .part _ _ _ _| .pim _ _| .vc _ _| .mp _| .vi _| .vn _| .vy _| .vu _| .vw _ _| .vb _| .vt _| .vz _| .vo _| .vl _ _| .emp| .rw _ _| .cH _ _ _ _| .dead=>⟨by simp only [SV.dJ];exact .refl,fun h=>by simp only [SV.dJ];exact h⟩
theorem na (ok:aQ D) (R:aS D N st σ g) (R':aS D N' st σ g):∀cs:List (SV τ dn),(SV.b6 D.toTE N cs).length=(SV.b6 D.toTE N (SV.gh D st nm cs)).length/\(∀(i:Nat) c d,(SV.b6 D.toTE N cs)[i]? =some c->(SV.b6 D.toTE N (SV.gh D st nm cs))[i]? =some d->Fz g [N.ι nm] c d)/\(SV.b6 D.toTE N' cs=SV.b6 D.toTE N cs->SV.b6 D.toTE N' (SV.gh D st nm cs)=SV.b6 D.toTE N (SV.gh D st nm cs))
 |[]=>⟨rfl,fun i c d h=>by simp [SV.b6] at h,fun _=>rfl⟩
 |v::l=>by
  obtain ⟨h1,h2,h3⟩:=na ok R R' l
  obtain ⟨q1,q2⟩:=vA ok R R' v
  simp only [SV.gh,SV.b6]
  refine ⟨by simp [h1],fun i c d hc hd=> ?_,fun h=> ?_⟩
  ·cases i with
   |zero=>simp only [Ll,KJ] at hc hd;subst hc;subst hd;exact q1
   |succ i=>exact h2 i c d (by simpa using hc) (by simpa using hd)
  ·simp only [Mw] at h ⊢
   exact ⟨q2 h.1,h3 h.2⟩
end
def SB.dK (D:TD τ dn) (st:SS τ dn) (nm:Nat):SB τ dn->SB τ dn
 | .bc sz els=> .bc sz (els.map (SV.gh D st nm))
 |B=>B
theorem zZ (ok:aQ D) (R:aS D N st σ g) (R':aS D N' st σ g):∀els:List (List (SV τ dn)),j6 g [N.ι nm] (SV.bA D.toTE N els) (SV.bA D.toTE N (els.map (SV.gh D st nm)))/\(SV.bA D.toTE N' els=SV.bA D.toTE N els->SV.bA D.toTE N' (els.map (SV.gh D st nm))=SV.bA D.toTE N (els.map (SV.gh D st nm)))
 |[]=>⟨⟨rfl,fun i c d h=>by simp [SV.bA] at h⟩,fun _=>rfl⟩
 |cs::l=>by
  obtain ⟨⟨h1,h2⟩,h3⟩:=zZ ok R R' l
  obtain ⟨q1,q2,q3⟩:=na ok R R' (nm:=nm) cs
  simp only [KW,SV.bA]
  refine ⟨⟨by simp [h1],fun i c d hc hd=> ?_⟩,fun h=> ?_⟩
  ·cases i with
   |zero=>simp only [Ll,KJ] at hc hd;subst hc;subst hd;exact ⟨q1,q2⟩
   |succ i=>exact h2 i c d (by simpa using hc) (by simpa using hd)
  ·simp only [Mw] at h ⊢
   exact ⟨q3 h.1,h3 h.2⟩
theorem vB (ok:aQ D) (R:aS D N st σ g) (R':aS D N' st σ g) (B:SB τ dn):((B.dK D st nm).av D.toTE N).sz=(B.av D.toTE N).sz/\j6 g [N.ι nm] (B.av D.toTE N).els ((B.dK D st nm).av D.toTE N).els/\(B.av D.toTE N'=B.av D.toTE N->(B.dK D st nm).av D.toTE N'=(B.dK D st nm).av D.toTE N)/\(B.dK D st nm).len=B.len/\∀t A,B.dK D st nm= .ar t A↔B= .ar t A:=by
 cases B with
 |bc sz els=>
  obtain ⟨h1,h2⟩:=zZ ok R R' (nm:=nm) els
  refine ⟨rfl,h1,fun h=> ?_,by simp [SB.dK,SB.len],fun t A=>by simp [SB.dK]⟩
  simp only [SB.dK,SB.av,Bk.mk.injEq,true_and] at h ⊢
  exact h2 h
 |_=>exact ⟨rfl,j6.refl,fun h=>h,rfl,fun t A=>Iff.rfl⟩
def SS.rR (D:TD τ dn) (st:SS τ dn) (nm:Nat):Option (SS τ dn):=
 bif !Nat.beq nm 0&&(st.rw nm&&st.rm.all fun q=>(getS st.m q.1).isNone) then
  some ⟨st.rt,st.rm,st.t.map fun q=>(q.1,bif (getS st.rt q.1).isSome then q.2 else q.2.dJ D st nm),(nm,none)::st.m.map fun q=>(q.1,q.2.map (SB.dK D st nm)),st.nx⟩
 else none
theorem z0 {α β:Type} (f:Nat->α->β):∀{l:List (Nat×α)} {i:Nat},getS (l.map fun q=>(q.1,f q.1 q.2)) i=(getS l i).map (f i)
 |[],i=>rfl
 |(j,v)::r,i=>by
  rw [KW,aR,aR,z0 f (l:=r)]
  by_cases h:i=j
  ·subst h;simp
  ·simp [h]
end
theorem z4 {D:TD τ dn} (ok:aQ D) {st ah:SS τ dn} (R:Rel D N st s) (h:st.rR D nm=some ah):∃s',s.Le k0 n s'/\Rel D N ah s'/\ah.rt=st.rt/\ah.rm=st.rm/\ah.nx=st.nx:=by
 unfold SS.rR at h
 cases hc:(!Nat.beq nm 0&&(st.rw nm&&st.rm.all fun q=>(getS st.m q.1).isNone)) with
 |false=>rw [hc] at h;simp at h
 |true=>
 rw [hc,KP,KJ] at h
 subst h
 simp only [KM,K3] at hc
 obtain ⟨lh,hw,cA⟩:=hc
 have zf:nm≠0:=fun e=>by subst e;simp at lh
 obtain ⟨⟨B1,m1⟩,r1⟩:=iu hw
 have hlt:=R.ml nm _ m1
 have hA:=R.here
 have Ib:∀a B,getS st.rm a=some B->getS st.m a=none:=fun a B h=>by
  have:=KQ.1 cA _ (gX h)
  simpa using this
 let g':Nat->Option Bk:=fun id=>if id=N.ι nm then none else match (List.range st.nx).find? fun a=>N.ι a==id with
  |some a=>match getS st.m a with
   |some (some B)=>some ((B.dK D st nm).av D.toTE N)
   |_=>s.g id
  |none=>s.g id
 let σ':Nat->AV:=fun i=>match getS st.rt i with
  |some _=>s.σ i
  |none=>match getS st.t i with
   |some v=>(v.dJ D st nm).av D.toTE N
   |none=>s.σ i
 have find:∀a,a<st.nx->(List.range st.nx).find? (fun b=>N.ι b==N.ι a)=some a:=fun a ha=>by
  cases hf:(List.range st.nx).find? (fun b=>N.ι b==N.ι a) with
  |none=>
   rw [List.find?_eq_none] at hf
   exact absurd (hf a (Lo.2 ha)) (by simp)
  |some b=>
   have h1:=List.find?_some hf
   have h2:=Lo.1 (List.mem_of_find?_eq_some hf)
   simp only [beq_iff_eq] at h1
   rw [R.inj b a h2 ha h1]
 have z5:∀a B,getS st.m a=some (some B)->a≠nm->g' (N.ι a)=some ((B.dK D st nm).av D.toTE N):=fun a B hB aA=>by
  have ha:=R.ml a _ hB
  show (if N.ι a=N.ι nm then none else match (List.range st.nx).find? (fun b=>N.ι b==N.ι a) with|some a=>(match getS st.m a with|some (some B)=>some ((B.dK D st nm).av D.toTE N)|_=>s.g _)|none=>s.g _)=_
  rw [KK (fun e=>aA (R.inj a nm ha hlt e)),find a ha]
  simp only [hB]
 have Ic:∀a B,getS st.rm a=some (some B)->g' (N.ι a)=s.g (N.ι a):=fun a B hB=>by
  have ha:=R.rl a _ hB
  have aA:a≠nm:=fun e=>by subst e;rw [r1] at hB;simp at hB
  show (if N.ι a=N.ι nm then none else match (List.range st.nx).find? (fun b=>N.ι b==N.ι a) with|some a=>(match getS st.m a with|some (some B)=>some ((B.dK D st nm).av D.toTE N)|_=>s.g _)|none=>s.g _)=_
  rw [KK (fun e=>aA (R.inj a nm ha hlt e)),find a ha]
  simp only [Ib a _ hB]
 have bV:=(hA.bl nm _ m1).1
 have vC:∀id,id≠N.ι nm->g' id=s.g id\/∃a B,id=N.ι a/\getS st.m a=some (some B)/\a≠nm/\g' id=some ((B.dK D st nm).av D.toTE N):=fun id hid=>by
  show (if id=N.ι nm then none else match (List.range st.nx).find? (fun b=>N.ι b==id) with|some a=>(match getS st.m a with|some (some B)=>some ((B.dK D st nm).av D.toTE N)|_=>s.g id)|none=>s.g id)=_\/_
  rw [KK hid]
  cases hf:(List.range st.nx).find? (fun b=>N.ι b==id) with
  |none=>exact .inl rfl
  |some a=>
   have h1:=List.find?_some hf
   simp only [beq_iff_eq] at h1
   cases hq:getS st.m a with
   |none=>exact .inl (by simp only [hq])
   |some x=>
    cases x with
    |none=>exact .inl (by simp only [hq])
    |some B=>
     have aA:a≠nm:=fun e=>hid (by rw [<-h1,e])
     exact .inr ⟨a,B,h1.symm,hq,aA,by rw [<-h1];exact z5 a B hq aA⟩
 refine ⟨⟨σ',g',s.k⟩,S3.zQ (F:=[N.ι nm]) (fun i=> ?_) (fun id hid=> ?_) (fun id hid=> ?_) (fun id hid hn=> ?_) (fun id B hid hB=> ?_), ?_,rfl,rfl,rfl⟩
 ·show Fz s.g _ (s.σ i) (match getS st.rt i with|some _=>s.σ i|none=>match getS st.t i with|some v=>(v.dJ D st nm).av D.toTE N|none=>s.σ i)
  split
  ·exact .refl
  ·split
   ·rename_i v hv
    rw [hA.sl i v hv];exact (vA ok hA hA v).1
   ·exact .refl
 ·simp only [KT] at hid;subst hid;exact ⟨_,bV⟩
 ·simp only [KT] at hid;subst hid;exact KL rfl
 ·simp only [KT] at hid
  rcases vC id hid with h|⟨a,B,rfl,h2,h3,h4⟩
  ·rw [h];exact hn
  ·rw [(hA.bl a B h2).1] at hn;simp at hn
 ·simp only [KT] at hid
  rcases vC id hid with h|⟨a,B2,rfl,h2,h3,h4⟩
  ·exact ⟨B,by rw [h];exact hB,rfl,j6.refl⟩
  ·rw [(hA.bl a B2 h2).1] at hB
   simp only [KJ] at hB;subst hB
   obtain ⟨q1,q2,_⟩:=vB ok hA hA (nm:=nm) B2
   exact ⟨_,h4,q1,q2⟩
 ·have c8:∀a X,getS ((nm,(none:Option (SB τ dn)))::st.m.map fun q=>(q.1,q.2.map (SB.dK D st nm))) a=some (some X)->a≠nm/\∃B,getS st.m a=some (some B)/\X=B.dK D st nm:=fun a X h=>by
   rw [aR,mT (Option.map (SB.dK D st nm))] at h
   by_cases h1:a=nm
   ·rw [KL h1] at h;simp at h
   ·rw [KK h1] at h
    simp only [KR] at h
    obtain ⟨x,hx,B,rfl,rfl⟩:=h
    exact ⟨h1,B,hx,rfl⟩
  have cC:∀a X,(⟨st.rt,st.rm,st.t.map fun q=>(q.1,bif (getS st.rt q.1).isSome then q.2 else q.2.dJ D st nm),(nm,none)::st.m.map fun q=>(q.1,q.2.map (SB.dK D st nm)),st.nx⟩:SS τ dn).bd a X->∃X',st.bd a X'/\∀t A,X= .ar t A->X'= .ar t A:=fun a X h=>by
   rcases h with h|h
   ·obtain ⟨_,B,hB,rfl⟩:=c8 a X h
    exact ⟨B, .inl hB,fun t A e=>((vB ok hA hA (nm:=nm) B).2.2.2.2 t A).1 e⟩
   ·exact ⟨X, .inr h,fun t A e=>e⟩
  refine ⟨fun N' hN=> ?_,R.inj,R.lt,fun a X h=> ?_,R.rl,fun t A h id hid=> ?_⟩
  ·have A':=R.at_ N' hN
   refine ⟨fun i v h=> ?_,fun i v h=> ?_,fun a X h=> ?_,fun a X h=> ?_,fun t A h id hid=> ?_⟩
   ·have h':getS (st.t.map fun q=>(q.1,bif (getS st.rt q.1).isSome then q.2 else q.2.dJ D st nm)) i=some v:=h
    rw [z0 (fun (j:Nat) (w:SV τ dn)=>bif (getS st.rt j).isSome then w else w.dJ D st nm)] at h'
    simp only [KR] at h'
    obtain ⟨w,hw2,rfl⟩:=h'
    show (match getS st.rt i with|some _=>s.σ i|none=>match getS st.t i with|some v=>(v.dJ D st nm).av D.toTE N|none=>s.σ i)=_
    cases hr:getS st.rt i with
    |some u=>simp only [Option.isSome_some,KP];exact A'.sl i w hw2
    |none=>
     simp only [hw2,Option.isSome_none,K4]
     exact ((vA ok hA A' w).2 ((A'.sl i w hw2).symm.trans (hA.sl i w hw2))).symm
   ·show (match getS st.rt i with|some _=>s.σ i|none=>match getS st.t i with|some v=>(v.dJ D st nm).av D.toTE N|none=>s.σ i)=_
    have h':getS st.rt i=some v:=h
    simp only [h'];exact A'.rs i v h'
   ·obtain ⟨h1,B,hB,rfl⟩:=c8 a X h
    obtain ⟨q1,q2,q3,q4,q5⟩:=vB ok hA A' (nm:=nm) B
    have ha:=R.ml a _ hB
    refine ⟨?_,by rw [q4];exact (A'.bl a B hB).2⟩
    show g' (N'.ι a)=_
    rw [(hN.1 a ha).1,z5 a B hB h1]
    congr 1
    refine (q3 ?_).symm
    have e1:=(A'.bl a B hB).1
    rw [(hN.1 a ha).1,(hA.bl a B hB).1] at e1
    simpa using e1.symm
   ·have h':getS st.rm a=some (some X):=h
    have ha:=R.rl a _ h'
    refine ⟨?_,(A'.rb a X h').2⟩
    show g' (N'.ι a)=_
    have e1:=(A'.rb a X h').1
    rw [(hN.1 a ha).1] at e1 ⊢
    rw [Ic a X h'];exact e1
   ·obtain ⟨X',h1,h2⟩:=cC 0 _ h
    have h2:=h2 t A rfl
    subst h2
    have e:=A'.ar t A h1 id hid
    have hs:=(R.sp t A h1 id hid).2
    show g' id=_
    rcases vC id (fun e=>hs nm _ (.inl m1) e.symm) with h3|⟨a,B,rfl,h4,_,_⟩
    ·rw [h3];exact e
    ·exact absurd rfl (hs a B (.inl h4))
  ·have h':getS ((nm,(none:Option (SB τ dn)))::st.m.map fun q=>(q.1,q.2.map (SB.dK D st nm))) a=some X:=h
   rw [aR,mT (Option.map (SB.dK D st nm))] at h'
   show a<st.nx
   by_cases h1:a=nm
   ·subst h1;exact hlt
   ·rw [KK h1] at h'
    simp only [KR] at h'
    obtain ⟨x,hx,_⟩:=h'
    exact R.ml a _ hx
  ·obtain ⟨X',h1,h2⟩:=cC 0 _ h
   have h2:=h2 t A rfl
   subst h2
   obtain ⟨q1,q2⟩:=R.sp t A h1 id hid
   refine ⟨q1,fun a X hX=> ?_⟩
   obtain ⟨X',h3,_⟩:=cC a X hX
   exact q2 a X' h3
def z6:SV τ dn->List Nat
 | .own nm _| .ref nm _ _ _=>[nm]
 |_=>[]
def z7:SV τ dn->List Nat
 | .agg cs| .fn _ cs| .bf _ cs| .aG cs=>cs.flatMap z6
 |v=>z6 v
def po (D:TD τ dn) (F:Nat->SS τ dn->(SS τ dn->Prop)->Prop):List Nat->SS τ dn->(SS τ dn->Prop)->Prop
 |[],st,K=>K st
 |a::l,st,K=>F a st fun st=>match st.rR D a with
  |some ah=>po D F l ah K
  |none=>po D F l st K
def pq (D:TD τ dn):Nat->Nat->SS τ dn->(SS τ dn->Prop)->Prop
 |0,_,st,K=>K st
 |d+1,nm,st,K=>po D (pq D d) (match st.gm nm with
  |some (.bc _ els)=>els.flatMap fun (cs:List (SV τ dn))=>cs.flatMap z7
  |_=>([]:List Nat)) st fun st=>match st.rQ D [nm] with
   |some (O,ah)=>eS O (K ah)
   |none=>K st
theorem z8 {D:TD τ dn} (ok:aQ D) {N:au} {n k0:Nat}:∀(d nm:Nat) {st:SS τ dn} {s:S3} {K:SS τ dn->Prop},Rel D N st s->pq D d nm st K->∃s' ah,s.Le k0 n s'/\Rel D N ah s'/\ah.rt=st.rt/\ah.rm=st.rm/\ah.nx=st.nx/\K ah
 |0,nm,st,s,K,R,h=>⟨s,st,S3.Le.kS,R,rfl,rfl,rfl,h⟩
 |d+1,nm,st,s,K,R,h=>by
  simp only [pq] at h
  have go:∀(l:List Nat) {st:SS τ dn} {s:S3} {K:SS τ dn->Prop},Rel D N st s->po D (pq D d) l st K->∃s' ah,s.Le k0 n s'/\Rel D N ah s'/\ah.rt=st.rt/\ah.rm=st.rm/\ah.nx=st.nx/\K ah:=by
   intro l
   induction l with
   |nil=>intro st s K R h;exact ⟨s,st,S3.Le.kS,R,rfl,rfl,rfl,h⟩
   |cons a l ih=>
    intro st s K R h
    simp only [po] at h
    obtain ⟨s1,st1,p1,p2,p3,p4,p5,h1⟩:=z8 ok d a R h
    split at h1
    ·rename_i aK hf
     obtain ⟨s2,q1,q2,q3,q4,q5⟩:=z4 (n:=n) (k0:=k0) ok p2 hf
     obtain ⟨s3,kR,r1,r2,r3,r4,r5,r6⟩:=ih q2 h1
     exact ⟨s3,kR,(p1.trans' q1).trans' r1,r2,r3.trans (q3.trans p3),r4.trans (q4.trans p4),r5.trans (q5.trans p5),r6⟩
    ·obtain ⟨s3,kR,r1,r2,r3,r4,r5,r6⟩:=ih p2 h1
     exact ⟨s3,kR,p1.trans' r1,r2,r3.trans p3,r4.trans p4,r5.trans p5,r6⟩
  obtain ⟨s1,st1,p1,p2,p3,p4,p5,h1⟩:=go _ R h
  split at h1
  ·rename_i O ah hf
   rw [iv] at h1
   obtain ⟨s',q1,q2,q3,q4,q5⟩:=zW (n:=n) (k0:=k0) ok p2 hf h1.1
   exact ⟨s',ah,p1.trans' q1,q2,q3.trans p3,q4.trans p4,q5.trans p5,h1.2⟩
  ·exact ⟨s1,st1,p1,p2,p3,p4,p5,h1⟩
def kW (D:TD τ dn) (w:Bool):List Nat->SS τ dn->(SS τ dn->Prop)->Prop
 |[],st,K=>K st
 |a::l,st,K=>pq D 4 a st fun st=>bif w then (match st.rR D a with
  |some ah=>kW D w l ah K
  |none=>kW D w l st K) else kW D w l st K
theorem vD {D:TD τ dn} (ok:aQ D) {N:au} {n k0:Nat} {w:Bool}:∀(l:List Nat) {st:SS τ dn} {s:S3} {K:SS τ dn->Prop},Rel D N st s->kW D w l st K->∃s' ah,s.Le k0 n s'/\Rel D N ah s'/\ah.rt=st.rt/\ah.rm=st.rm/\ah.nx=st.nx/\K ah
 |[],st,s,K,R,h=>⟨s,st,S3.Le.kS,R,rfl,rfl,rfl,h⟩
 |a::l,st,s,K,R,h=>by
  simp only [kW] at h
  obtain ⟨s1,st1,p1,p2,p3,p4,p5,h1⟩:=z8 (n:=n) (k0:=k0) ok 4 a R h
  have rest:∀{aK:SS τ dn} {s2:S3},s.Le k0 n s2->Rel D N aK s2->aK.rt=st.rt->aK.rm=st.rm->aK.nx=st.nx->kW D w l aK K->∃s' ah,s.Le k0 n s'/\Rel D N ah s'/\ah.rt=st.rt/\ah.rm=st.rm/\ah.nx=st.nx/\K ah:=fun q1 q2 q3 q4 q5 hh=>by
   obtain ⟨s3,kR,r1,r2,r3,r4,r5,r6⟩:=vD ok l q2 hh
   exact ⟨s3,kR,q1.trans' r1,r2,r3.trans q3,r4.trans q4,r5.trans q5,r6⟩
  cases w with
  |false=>exact rest p1 p2 p3 p4 p5 h1
  |true=>
   rw [KP] at h1
   split at h1
   ·rename_i aK hf
    obtain ⟨s2,q1,q2,q3,q4,q5⟩:=z4 (n:=n) (k0:=k0) ok p2 hf
    exact rest (p1.trans' q1) q2 (q3.trans p3) (q4.trans p4) (q5.trans p5) h1
   ·exact rest p1 p2 p3 p4 p5 h1
def nc (D:TD τ dn) (w:Bool) (l:List Nat) (st:SS τ dn) (K:SS τ dn->Prop):Prop:=match st.rQ D l with
 |some (O,ah)=>eS O (kW D w l ah K)
 |none=>kW D w l st K
theorem vE {D:TD τ dn} (ok:aQ D) {w:Bool} (l:List Nat) {st:SS τ dn} {K:SS τ dn->Prop} (R:Rel D N st s) (h:nc D w l st K):∃s' ah,s.Le k0 n s'/\Rel D N ah s'/\ah.rt=st.rt/\ah.rm=st.rm/\ah.nx=st.nx/\K ah:=by
 unfold nc at h
 split at h
 ·rename_i O ah hf
  rw [iv] at h
  obtain ⟨s1,p1,p2,p3,p4,p5⟩:=zW (n:=n) (k0:=k0) ok R hf h.1
  obtain ⟨s2,aK,q1,q2,q3,q4,q5,q6⟩:=vD ok l p2 h.2
  exact ⟨s2,aK,p1.trans' q1,q2,q3.trans p3,q4.trans p4,q5.trans p5,q6⟩
 ·exact vD ok l R h
def SS.rS (st:SS τ dn) (ss:List Nat):List Nat:=ss.flatMap fun i=>match st.gt i with
 |some v=>z7 v
 |none=>[]
end
open Go.RowKit
section
variable {τ:Type} {dn:τ->Type}
def nd (c:Cn) (b:Bool) (st ah:SS τ dn):List Nat->Option (List (Nat×SV τ dn))
 |[]=>some []
 |d::r=>match st.gt d with
  |none=>nd c b st ah r
  |some x=>match ah.gt d with
   |none=>none
   |some y=>match oX c (bif b then x else y) (bif b then y else x),nd c b st ah r with
    |some v,some l=>some ((d,v)::l)
    |_,_=>none
theorem rU {c:Cn} {b:Bool} {st ah:SS τ dn}:∀{ds:List Nat} {l:List (Nat×SV τ dn)},nd c b st ah ds=some l->∀{i v},getS l i=some v->∃x y,st.gt i=some x/\ah.gt i=some y/\oX c (bif b then x else y) (bif b then y else x)=some v
 |[],l,h,i,v,hv=>by simp only [nd,KJ] at h;subst h;simp [getS] at hv
 |d::r,l,h,i,v,hv=>by
  simp only [nd] at h
  split at h
  ·exact rU h hv
  ·rename_i x hx
   split at h
   ·simp at h
   ·rename_i y hy
    split at h
    ·rename_i w l' hw hl
     simp only [KJ] at h;subst h
     rw [aR] at hv
     by_cases hi:i=d
     ·subst hi
      rw [KL rfl,KJ] at hv;subst hv
      exact ⟨x,y,hx,hy,hw⟩
     ·rw [KK hi] at hv;exact rU hl hv
    ·simp at h
def j7 (ds:List Nat):List (Nat×SV τ dn)->List (Nat×SV τ dn)
 |[]=>[]
 |q::r=>bif hasN ds q.1 then j7 ds r else q::j7 ds r
theorem rV {ds:List Nat}:∀{l:List (Nat×SV τ dn)} {i:Nat} {v:SV τ dn},getS (j7 ds l) i=some v->hasN ds i=false/\getS l i=some v
 |[],i,v,h=>by simp [j7,getS] at h
 |q::r,i,v,h=>by
  simp only [j7] at h
  cases hq:hasN ds q.1 with
  |true=>
   rw [hq,KP] at h
   obtain ⟨h1,h2⟩:=rV h
   refine ⟨h1, ?_⟩
   obtain ⟨j,w⟩:=q
   rw [aR,KK (fun e=>by subst e;rw [h1] at hq;simp at hq)];exact h2
  |false=>
   rw [hq,K4] at h
   obtain ⟨j,w⟩:=q
   rw [aR] at h ⊢
   by_cases hi:i=j
   ·subst hi;rw [KL rfl] at h ⊢; exact ⟨hq,h⟩
   ·rw [KK hi] at h ⊢; exact rV h
theorem vF {st:SS τ dn} {v:SV τ dn} (h:d≠some i):getS (st.set d v).t i=getS st.t i:=by
 cases d with
 |none=>rfl
 |some j=>
  show getS ((j,v)::st.t) i=_
  rw [aR,KK (fun e=>h (by rw [e]))]
variable [DecidableEq τ]
def l9 (C:bQ τ dn) (n:Nat):List aw->SS τ dn->Option (List Prop×SS τ dn)
 |[],st=>some ([],st)
 |o::os,st=>bif dstS n st.rt o.dst&&(needs C.D st o.ao).isEmpty then (match st.gd o.guard with
  | .yes=>match iy C st o.ao with
   |some (.val O v,_)=>(l9 C n os (st.set o.dst v)).map fun q=>(O++q.1,q.2)
   |_=>none
  | .no=>l9 C n os (st.set o.dst (.vo undef))
  | .jR e=>match iy C (st.unw o.ao.uns) o.ao with
   |some (.val O v,_)=>(l9 C n os (st.set o.dst (.vg true e v))).map fun q=>((gS st e o.ao.uns++O.map fun p=>e.tf true->p)++q.1,q.2)
   |_=>none
  | .bad=>none) else none
theorem rW {C:bQ τ dn} {n:Nat}:∀{os:List aw} {st ah:SS τ dn} {O:List Prop},l9 C n os st=some (O,ah)->(ah.rt=st.rt/\ah.rm=st.rm/\ah.m=st.m/\ah.nx=st.nx)/\(∀i,hasN (os.filterMap fun o=>o.dst) i=false->getS ah.t i=getS st.t i)/\((∀p,p∈O->p)->∀xs,wpOps C n none true os xs st fun x=>x=ah)
 |[],st,ah,O,h=>by
  simp only [l9,KJ,KZ] at h
  obtain ⟨rfl,rfl⟩:=h
  exact ⟨⟨rfl,rfl,rfl,rfl⟩,fun _ _=>rfl,fun _ _=>rfl⟩
 |o::os,st,ah,O,h=>by
  simp only [l9] at h
  cases hdd:(dstS n st.rt o.dst&&(needs C.D st o.ao).isEmpty) with
  |false=>rw [hdd] at h;simp at h
  |true=>
   rw [hdd,KP] at h
   rw [KM,LN] at hdd
   obtain ⟨hd,aA⟩:=hdd
   have nh:∀i,hasN ((o::os).filterMap fun o=>o.dst) i=false->o.dst≠some i/\hasN (os.filterMap fun o=>o.dst) i=false:=fun i hi=>by
    have hn:¬i∈(o::os).filterMap fun o=>o.dst:=fun hh=>by rw [j1.2 hh] at hi;simp at hi
    refine ⟨fun e=>hn (List.mem_filterMap.2 ⟨o,LJ ..,e⟩), ?_⟩
    cases hb:hasN (os.filterMap fun o=>o.dst) i with
    |false=>rfl
    |true=>
     obtain ⟨q,q1,q2⟩:=List.mem_filterMap.1 (j1.1 hb)
     exact absurd (List.mem_filterMap.2 ⟨q,Lx _ q1,q2⟩) hn
   split at h
   ·rename_i hg
    split at h
    ·rename_i O1 v ns hr
     rw [KR] at h
     obtain ⟨⟨O2,aK⟩,h1,h2⟩:=h
     simp only [KZ] at h2
     obtain ⟨rfl,rfl⟩:=h2
     obtain ⟨p1,p2,p3⟩:=rW h1
     refine ⟨p1,fun i hi=>(p2 i (nh i hi).2).trans (vF (nh i hi).1),fun hO xs=> ?_⟩
     have hgi:mZ C st o=none:=uZ (.inl fun e=>by rw [hg];simp)
     simp only [wpOps,KP,aA,ja,m6,hgi,hd,hg,hr]
     rw [iv]
     exact ⟨fun p hp=>hO p (Lr _ hp),p3 (fun p hp=>hO p (Ln _ hp)) _⟩
    ·simp at h
   ·rename_i hg
    obtain ⟨p1,p2,p3⟩:=rW h
    refine ⟨p1,fun i hi=>(p2 i (nh i hi).2).trans (vF (nh i hi).1),fun hO xs=> ?_⟩
    have hgi:mZ C st o=none:=uZ (.inl fun e=>by rw [hg];simp)
    simp only [wpOps,KP,aA,ja,m6,hgi,hd,hg]
    exact p3 hO _
   ·rename_i e hg
    split at h
    ·rename_i O1 v ns hr
     rw [KR] at h
     obtain ⟨⟨O2,aK⟩,h1,h2⟩:=h
     simp only [KZ] at h2
     obtain ⟨rfl,rfl⟩:=h2
     obtain ⟨p1,p2,p3⟩:=rW h1
     refine ⟨p1,fun i hi=>(p2 i (nh i hi).2).trans (vF (nh i hi).1),fun hO xs=> ?_⟩
     have hgi:mZ C st o=none:=uZ (.inr ⟨_,hr⟩)
     simp only [wpOps,KP,aA,ja,m6,hgi,hd,hg,hr]
     rw [iv]
     exact ⟨fun p hp=>hO p (Lr _ hp),p3 (fun p hp=>hO p (Ln _ hp)) _⟩
    ·simp at h
   ·simp at h
def rX (C:bQ τ dn) (n:Nat) (c:Cn) (b:Bool) (os:List aw) (st:SS τ dn):Option (List Prop×SS τ dn):=
 match l9 C n os st with
 |some (O,ah)=>(nd c b st ah (os.filterMap fun o=>o.dst)).map fun l=>(O.map fun p=>c.tf (!b)->p,⟨st.rt,st.rm,l++j7 (os.filterMap fun o=>o.dst) st.t,st.m,st.nx⟩)
 |none=>none
theorem z9 {C:bQ τ dn} (hC:C.Ok) {c:Cn} {b:Bool} {st aK:SS τ dn} (h:rX C n c b os st=some (O,aK)) (hO:∀p,p∈O->p) (R:Rel C.D N st s):
  (aK.rt=st.rt/\aK.rm=st.rm/\aK.nx=st.nx)/\(c.den=b->Rel C.D N aK s)/\(c.den= !b->∃s' N',fy C.P n k0 os s.σ s.g s.k s'.σ s'.g s'.k/\Rel C.D N' aK s'/\N.aW st.nx N'):=by
 unfold rX at h
 split at h
 case h_2=>simp at h
 rename_i O1 ah hp
 rw [KR] at h
 obtain ⟨l,hl,he⟩:=h
 simp only [KZ] at he
 obtain ⟨rfl,rfl⟩:=he
 obtain ⟨⟨e1,e2,e3,e4⟩,p2,p3⟩:=rW hp
 refine ⟨⟨rfl,rfl,rfl⟩,fun hc=> ?_,fun hc=> ?_⟩
 ·refine ⟨fun N' hN=> ?_,R.inj,R.lt,R.ml,R.rl,R.sp⟩
  have A:=R.at_ N' hN
  refine ⟨fun i v hv=> ?_,A.rs,A.bl,A.rb,A.ar⟩
  have hv':getS (l++j7 (os.filterMap fun o=>o.dst) st.t) i=some v:=hv
  rw [fh] at hv'
  cases hq:getS l i with
  |some w=>
   rw [hq] at hv';simp only [Ms,KJ] at hv';subst hv'
   obtain ⟨x,y,q1,q2,q3⟩:=rU hl hq
   rw [uE q3,hc,A.gt q1]
   cases b<;>simp
  |none=>rw [hq] at hv';simp only [Mc] at hv';exact A.sl i v (rV hv').2
 ·have u6:∀p,p∈O1->p:=fun p hp=>hO _ (Li.2 ⟨p,hp,rfl⟩) ((Cn.gR c (!b)).2 hc)
  obtain ⟨s',N',st1,r1,r2,r3,r4,r5,r6⟩:=rG hC (k0:=k0) R (p3 u6 [])
  subst r6
  have cC:∀a X,(⟨st.rt,st.rm,l++j7 (os.filterMap fun o=>o.dst) st.t,st.m,st.nx⟩:SS τ dn).bd a X->st1.bd a X:=fun a X hX=>by
   rcases hX with hX|hX
   ·exact .inl (by rw [e3];exact hX)
   ·exact .inr (by rw [e2];exact hX)
  refine ⟨s',N',r1,⟨fun bF hN=> ?_, ?_, ?_, ?_, ?_,fun t A h id hid=>⟨(r2.sp t A (cC 0 _ h) id hid).1,fun nm B hB=>(r2.sp t A (cC 0 _ h) id hid).2 nm B (cC nm B hB)⟩⟩,r4⟩
  ·have A:=r2.at_ bF (by rw [e4];exact hN)
   refine ⟨fun i v hv=> ?_,fun i v hv=>A.rs i v (by rw [e1];exact hv),fun nm B hB=>A.bl nm B (by rw [e3];exact hB),fun nm B hB=>A.rb nm B (by rw [e2];exact hB),fun t A' h id hid=>A.ar t A' (cC 0 _ h) id hid⟩
   have hv':getS (l++j7 (os.filterMap fun o=>o.dst) st.t) i=some v:=hv
   rw [fh] at hv'
   cases hq:getS l i with
   |some w=>
    rw [hq] at hv';simp only [Ms,KJ] at hv';subst hv'
    obtain ⟨x,y,q1,q2,q3⟩:=rU hl hq
    rw [uE q3,hc,A.gt q2]
    cases b<;>simp
   |none=>
    rw [hq] at hv';simp only [Mc] at hv'
    obtain ⟨k1,k2⟩:=rV hv'
    exact A.sl i v (by rw [p2 i k1];exact k2)
  ·have:=r2.inj;rw [e4] at this;exact this
  ·have:=r2.lt;rw [e4] at this;exact this
  ·have:=r2.ml;rw [e3,e4] at this;exact this
  ·have:=r2.rl;rw [e2,e4] at this;exact this
end
end Go.Proofs.Ytpoikkflcpklgaa
