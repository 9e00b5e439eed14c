/- Two ways that come together. No condition. -/
import Derived.Test.YtboaekdecndckaaPSxK
import Derived.Test.YtboaekdecndckaaPFieldM
set_option linter.unusedSectionVars false
set_option linter.unusedSimpArgs false
set_option linter.unusedVariables false
namespace Go.Proofs.Ytboaekdecndckaa
open Go.RowKit
def AV.idr:AV→List Nat
 | .own id _ _ _| .ref id _ _ _| .mp id=>[id]
 |_=>[]
def AO.refs (ρ:Arg→AV):AO→List Nat
 | .load _ x| .nilc x| .fad _ x| .len _ x| .isn _ _ x| .clr _ x| .b2s x=>(ρ x).idr
 | .store _ x _| .iad _ x _| .iap _ _ x _| .slc _ x _ _ _| .mup _ x _ _| .mlk _ _ x _=>(ρ x).idr
 | .app _ _ s x=>(ρ x).idr++(ρ s).idr
 | .cpy _ x y=>(ρ y).idr++(ρ x).idr
 |_=>[]
theorem opt_acc {α:Type} {g:Nat→Option Bk} {x:Option α}:(RM.opt x).acc g=[]∧(RM.opt x).see g=[]:=by cases x<;>exact ⟨rfl,rfl⟩
theorem bind_refs {α β:Type} {g:Nat→Option Bk} {f:α→RM β} {L:List Nat}:∀(m:RM α),(∀id,id∈m.acc g++m.see g→id∈L)→(∀a id,id∈(f a).acc g++(f a).see g→id∈L)→∀id,id∈(m.bind f).acc g++(m.bind f).see g→id∈L
 | .ret a,_,h2,id,h=>h2 a id h
 | .fail,_,_,id,h=>by simp [RM.bind,RM.acc,RM.see] at h
 | .rd i k,h1,h2,id,h=>by
  cases hg:g i with
  |none=>
   simp only [RM.bind,RM.acc,RM.see,hg,List.append_nil,List.mem_singleton] at h
   exact h1 id (by simp [RM.acc,hg,h])
  |some B=>
   simp only [RM.bind,RM.acc,RM.see,hg,List.cons_append,List.mem_cons] at h
   rcases h with h|h
   ·exact h1 id (by simp [RM.acc,hg,h])
   ·exact bind_refs (k B) (fun j hj=>h1 j (by simp only [RM.acc,RM.see,hg,List.cons_append,List.mem_cons];exact .inr hj)) h2 id h
 | .lv i k,h1,h2,id,h=>by
  simp only [RM.bind,RM.acc,RM.see,List.mem_append,List.mem_cons] at h
  rcases h with h|h|h
  ·exact bind_refs k (fun j hj=>h1 j (by simp only [RM.acc,RM.see,List.mem_append,List.mem_cons] at hj ⊢; rcases hj with hj|hj<;>simp [hj])) h2 id (List.mem_append_left _ h)
  ·exact h1 id (by simp [RM.see,h])
  ·exact bind_refs k (fun j hj=>h1 j (by simp only [RM.acc,RM.see,List.mem_append,List.mem_cons] at hj ⊢; rcases hj with hj|hj<;>simp [hj])) h2 id (List.mem_append_right _ h)
theorem content_refs {sz:Nat} {a:AV} {g:Nat→Option Bk}:∀id,id∈(content sz a).acc g++(content sz a).see g→id∈a.idr:=by
 intro id h
 cases a<;>simp only [content] at h
 case own i s off n=>
  cases hg:g i with
  |none=>simp [RM.acc,RM.see,hg] at h;simp [AV.idr,h]
  |some B=>
   simp only [RM.acc,RM.see,hg] at h
   split at h<;>(simp [RM.acc,RM.see] at h;simp [AV.idr,h])
 all_goals first
  |(split at h<;>simp [RM.acc,RM.see] at h)
  |(simp [RM.acc,RM.see] at h)
theorem refs_mem {ao:AO} {k:Nat} {ρ:Arg→AV} {g:Nat→Option Bk}:∀id,id∈(ao.sem k ρ).acc g++(ao.sem k ρ).see g→id∈ao.refs ρ:=by
 intro id h
 have no:∀{x:Option Out},id∈(RM.opt x).acc g++(RM.opt x).see g→False:=fun {x} h=>by rw [opt_acc.1,opt_acc.2] at h;simp at h
 have nr:∀{x:Out},id∈(RM.ret x).acc g++(RM.ret x).see g→False:=fun {x} h=>by simp [RM.acc,RM.see] at h
 have nf:id∈(RM.fail:RM Out).acc g++(RM.fail:RM Out).see g→False:=fun h=>by simp [RM.acc,RM.see] at h
 cases ao<;>simp only [AO.sem] at h<;>simp only [AO.refs]
 case b2s x=>
  refine bind_refs (L:=(ρ x).idr) _ (fun j hj=>content_refs j hj) (fun ys j hj=> ?_) id h
  rw [opt_acc.1,opt_acc.2] at hj;simp at hj
 case app sz by_ s x=>
  refine bind_refs (L:=(ρ x).idr++(ρ s).idr) _ (fun j hj=>List.mem_append_left _ (content_refs j hj)) (fun ys j hj=> ?_) id h
  cases hs:ρ s<;>rw [hs] at hj<;>simp only at hj
  case own i q off n=>
   cases hg:g i with
   |none=>simp [RM.acc,RM.see,hg] at hj;simp [AV.idr,hj]
   |some B=>
    simp only [RM.acc,RM.see,hg] at hj
    split at hj
    ·simp [RM.acc,RM.see] at hj;simp [AV.idr,hj]
    ·split at hj<;>(simp [RM.acc,RM.see] at hj;simp [AV.idr,hj])
  all_goals first
   |(split at hj<;>simp [RM.acc,RM.see] at hj)
   |(simp [RM.acc,RM.see] at hj)
 case cpy sz x y=>
  refine bind_refs (L:=(ρ y).idr++(ρ x).idr) _ (fun j hj=>List.mem_append_left _ (content_refs j hj)) (fun ys j hj=> ?_) id h
  cases hs:ρ x<;>rw [hs] at hj<;>simp only at hj
  case own i q off n=>
   cases hg:g i with
   |none=>simp [RM.acc,RM.see,hg] at hj;simp [AV.idr,hj]
   |some B=>
    simp only [RM.acc,RM.see,hg] at hj
    split at hj<;>(simp [RM.acc,RM.see] at hj;simp [AV.idr,hj])
  all_goals (simp [RM.acc,RM.see] at hj)
 case load m x=>
  cases hs:ρ x<;>rw [hs] at h<;>simp only at h
  case ref i q a b=>
   cases hg:g i with
   |none=>simp [RM.acc,RM.see,hg] at h;simp [AV.idr,h]
   |some B=>
    simp only [RM.acc,RM.see,hg] at h
    split at h
    ·rw [opt_acc.1,opt_acc.2] at h;simpa [AV.idr] using h
    ·simp [RM.acc,RM.see] at h;simp [AV.idr,h]
  all_goals first|exact (no h).elim|exact (nf h).elim
 case store n x y=>
  cases hs:ρ x<;>rw [hs] at h<;>simp only at h
  case ref i q a b=>
   cases hg:g i with
   |none=>simp [RM.acc,RM.see,hg] at h;simp [AV.idr,h]
   |some B=>
    simp only [RM.acc,RM.see,hg] at h
    split at h
    ·split at h<;>(simp [RM.acc,RM.see] at h;simp [AV.idr,h])
    ·simp [RM.acc,RM.see] at h;simp [AV.idr,h]
  all_goals exact (nf h).elim
 case slc sz x lo hi mx=>
  split at h
  ·rename_i lo' hi' mx' _ _ _
   cases hs:ρ x<;>rw [hs] at h<;>simp only at h
   case own i q off n=>
    cases mx' with
    |none=>
     simp only at h
     split at h
     ·split at h
      ·simp [RM.acc,RM.see] at h;simp [AV.idr,h]
      ·cases hg:g i with
       |none=>simp [RM.acc,RM.see,hg] at h;simp [AV.idr,h]
       |some B=>
        simp only [RM.acc,RM.see,hg] at h
        split at h
        ·rw [opt_acc.1,opt_acc.2] at h;simpa [AV.idr] using h
        ·simp [RM.acc,RM.see] at h;simp [AV.idr,h]
      ·simp [RM.acc,RM.see] at h;simp [AV.idr,h]
     ·simp [RM.acc,RM.see] at h;simp [AV.idr,h]
    |some m=>
     simp only at h
     cases hg:g i with
     |none=>simp [RM.acc,RM.see,hg] at h;simp [AV.idr,h]
     |some B=>
      simp only [RM.acc,RM.see,hg] at h
      split at h
      ·rw [opt_acc.1,opt_acc.2] at h;simpa [AV.idr] using h
      ·simp [RM.acc,RM.see] at h;simp [AV.idr,h]
   all_goals first
    |exact (no h).elim
    |exact (nf h).elim
    |(split at h<;>first|exact (no h).elim|exact (nf h).elim)
  ·exact (nf h).elim
 case mup kd x k y=>
  split at h
  ·rename_i i k' hx hk
   cases hg:g i with
   |none=>simp [RM.acc,RM.see,hg] at h;simp [AV.idr,hx,h]
   |some B=>
    simp only [RM.acc,RM.see,hg] at h
    split at h
    ·split at h<;>(simp [RM.acc,RM.see] at h;simp [AV.idr,hx,h])
    ·simp [RM.acc,RM.see] at h;simp [AV.idr,hx,h]
  ·exact (nf h).elim
 case mlk kd z x k=>
  split at h
  ·rename_i i k' hx hk
   cases hg:g i with
   |none=>simp [RM.acc,RM.see,hg] at h;simp [AV.idr,hx,h]
   |some B=>
    simp only [RM.acc,RM.see,hg] at h
    split at h
    ·rw [opt_acc.1,opt_acc.2] at h;simpa [AV.idr,hx] using h
    ·simp [RM.acc,RM.see] at h;simp [AV.idr,hx,h]
  ·exact (nf h).elim
 case clr zs x=>
  cases hs:ρ x<;>rw [hs] at h<;>simp only at h
  case own i q off n=>
   cases hg:g i with
   |none=>simp [RM.acc,RM.see,hg] at h;simp [AV.idr,h]
   |some B=>
    simp only [RM.acc,RM.see,hg] at h
    split at h<;>(simp [RM.acc,RM.see] at h;simp [AV.idr,h])
  all_goals first|exact (nr h).elim|exact (nf h).elim
 case len s x=>
  cases s<;>simp only [AO.sem] at h<;>cases hs:ρ x<;>rw [hs] at h<;>(try simp only at h)
  all_goals first
   |exact (nr h).elim
   |exact (nf h).elim
   |(split at h<;>first|exact (nr h).elim|exact (nf h).elim)
   |(simp [RM.acc,RM.see] at h;simp [AV.idr,h];done)
   |(split at h<;>first|exact (nr h).elim|exact (nf h).elim|(exfalso;simp_all;done))
 case isn kd neg x=>
  cases kd<;>simp only [AO.sem] at h<;>cases hs:ρ x<;>rw [hs] at h<;>(try simp only at h)
  all_goals first
   |exact (nr h).elim
   |exact (nf h).elim
   |(split at h<;>first|exact (nr h).elim|exact (nf h).elim)
   |(simp [RM.acc,RM.see] at h;simp [AV.idr,h];done)
   |(split at h<;>first|exact (nr h).elim|exact (nf h).elim|(exfalso;simp_all;done))
 all_goals repeat' split at h
 all_goals first
  |exact (nr h).elim
  |exact (nf h).elim
  |exact (no h).elim
  |(simp [RM.acc,RM.see] at h;simp [AV.idr, *];done)
theorem snap1_refs {a:AV} {g:Nat→Option Bk}:∀id,id∈(snap1 a).acc g++(snap1 a).see g→id∈a.id1:=by
 intro id h
 cases a<;>simp only [snap1] at h
 case own i s off n=>
  refine bind_refs (L:=[i]) _ (fun j hj=> ?_) (fun els j hj=> ?_) id h
  ·have:=content_refs j hj;simpa [AV.idr] using this
  ·split at hj<;>simp [RM.acc,RM.see] at hj
 case ref i s a b=>
  cases hg:g i with
  |none=>simp [RM.acc,RM.see,hg] at h;simp [AV.id1,h]
  |some B=>
   simp only [RM.acc,RM.see,hg] at h
   split at h
   ·split at h
    ·split at h<;>(simp [RM.acc,RM.see] at h;simp [AV.id1,h])
    ·simp [RM.acc,RM.see] at h;simp [AV.id1,h]
   ·simp [RM.acc,RM.see] at h;simp [AV.id1,h]
 all_goals (split at h<;>simp [RM.acc,RM.see] at h)
theorem snapL_refs {g:Nat→Option Bk}:∀{l:List AV},∀id,id∈(snapL l).acc g++(snapL l).see g→id∈l.flatMap AV.id1
 |[],id,h=>by simp [snapL,RM.acc,RM.see] at h
 |a::r,id,h=>by
  simp only [snapL] at h
  refine bind_refs (L:=(a::r).flatMap AV.id1) _ (fun j hj=> ?_) (fun x j hj=> ?_) id h
  ·rw [List.flatMap_cons];exact List.mem_append_left _ (snap1_refs j hj)
  ·refine bind_refs (L:=(a::r).flatMap AV.id1) _ (fun j hj=> ?_) (fun x j hj=> ?_) j hj
   ·rw [List.flatMap_cons];exact List.mem_append_right _ (snapL_refs j hj)
   ·simp [RM.acc,RM.see] at hj
theorem snapA_refs {a:AV} {g:Nat→Option Bk}:∀id,id∈(snapA a).acc g++(snapA a).see g→id∈a.ids:=by
 intro id h
 cases a<;>simp only [snapA] at h
 case agg cs=>exact bind_refs (L:=cs.flatMap AV.id1) _ snapL_refs (fun x j hj=>by simp [RM.acc,RM.see] at hj) id h
 case fn f cs=>exact bind_refs (L:=cs.flatMap AV.id1) _ snapL_refs (fun x j hj=>by simp [RM.acc,RM.see] at hj) id h
 case bf f cs=>exact bind_refs (L:=cs.flatMap AV.id1) _ snapL_refs (fun x j hj=>by simp [RM.acc,RM.see] at hj) id h
 all_goals exact snap1_refs id h
theorem snapAs_refs {g:Nat→Option Bk}:∀{l:List AV},∀id,id∈(snapAs l).acc g++(snapAs l).see g→id∈l.flatMap AV.ids
 |[],id,h=>by simp [snapAs,RM.acc,RM.see] at h
 |a::r,id,h=>by
  simp only [snapAs] at h
  refine bind_refs (L:=(a::r).flatMap AV.ids) _ (fun j hj=> ?_) (fun x j hj=> ?_) id h
  ·rw [List.flatMap_cons];exact List.mem_append_left _ (snapA_refs j hj)
  ·refine bind_refs (L:=(a::r).flatMap AV.ids) _ (fun j hj=> ?_) (fun x j hj=> ?_) j hj
   ·rw [List.flatMap_cons];exact List.mem_append_right _ (snapAs_refs j hj)
   ·simp [RM.acc,RM.see] at hj
section
variable {τ:Type} {dn:τ→Type} {D:TD τ dn} {N:Nms} {st:SS τ dn} {σ:Nat→AV} {g:Nat→Option Bk}
def SV.nr:SV τ dn→List Nat
 | .own nm _| .part nm _ _ _| .ref nm _ _ _| .mp nm=>[nm]
 | .rw _ _| .rwp _ _ _ _=>[0]
 |_=>[]
def SV.n1:SV τ dn→List Nat
 | .own nm _| .part nm _ _ _| .ref nm _ _ _=>[nm]
 | .rw _ _| .rwp _ _ _ _=>[0]
 |_=>[]
def SV.nms:SV τ dn→List Nat
 | .agg cs=>cs.flatMap SV.n1
 | .fn _ cs=>cs.flatMap SV.n1
 | .bf _ cs=>cs.flatMap SV.n1
 |a=>a.n1
def SV.pl1:SV τ dn→Bool
 | .rw _ _| .rwp _ _ _ _| .vg _ _ _=>false
 |_=>true
def SV.pl:SV τ dn→Bool
 | .agg cs| .fn _ cs| .bf _ cs=>cs.all SV.pl1
 |a=>a.pl1
theorem nr_av:∀(v:SV τ dn) (id:Nat),v.pl1=true→id∈(v.av D.toTE N).idr→∃nm,nm∈v.nr∧id=N.ι nm
 | .vg p c v,id,hp,h| .rw _ _,id,hp,h| .rwp _ _ _ _,id,hp,h=>by simp [SV.pl1] at hp
 | .own nm _,id,hp,h| .part nm _ _ _,id,hp,h| .ref nm _ _ _,id,hp,h| .mp nm,id,hp,h=>by
  simp only [SV.av,AV.idr,List.mem_singleton] at h;exact ⟨nm,by simp [SV.nr],h⟩
 | .vi _,id,hp,h| .vn _,id,hp,h| .vy _,id,hp,h| .vu _,id,hp,h| .vw _ _,id,hp,h| .vb _,id,hp,h| .vt _,id,hp,h| .vz _,id,hp,h| .vo _,id,hp,h| .agg _,id,hp,h| .tup _,id,hp,h| .vl _ _,id,hp,h| .vc _ _,id,hp,h| .emp,id,hp,h| .pim _ _,id,hp,h| .fn _ _,id,hp,h| .bf _ _,id,hp,h| .dead,id,hp,h=>by simp [SV.av,AV.idr] at h
theorem n1_av:∀(v:SV τ dn) (id:Nat),v.pl1=true→id∈(v.av D.toTE N).id1→∃nm,nm∈v.n1∧id=N.ι nm
 | .vg p c v,id,hp,h| .rw _ _,id,hp,h| .rwp _ _ _ _,id,hp,h=>by simp [SV.pl1] at hp
 | .own nm _,id,hp,h| .part nm _ _ _,id,hp,h| .ref nm _ _ _,id,hp,h=>by
  simp only [SV.av,AV.id1,List.mem_singleton] at h;exact ⟨nm,by simp [SV.n1],h⟩
 | .vi _,id,hp,h| .vn _,id,hp,h| .vy _,id,hp,h| .vu _,id,hp,h| .vw _ _,id,hp,h| .vb _,id,hp,h| .vt _,id,hp,h| .vz _,id,hp,h| .vo _,id,hp,h| .agg _,id,hp,h| .tup _,id,hp,h| .vl _ _,id,hp,h| .vc _ _,id,hp,h| .emp,id,hp,h| .pim _ _,id,hp,h| .fn _ _,id,hp,h| .bf _ _,id,hp,h| .dead,id,hp,h| .mp _,id,hp,h=>by simp [SV.av,AV.id1] at h
theorem n1L_av {cs:List (SV τ dn)} {id:Nat} (hp:cs.all SV.pl1=true) (h:id∈(SV.avL D.toTE N cs).flatMap AV.id1):∃nm,nm∈cs.flatMap SV.n1∧id=N.ι nm:=by
 rw [SV.avL_map] at h
 simp only [List.mem_flatMap,List.mem_map] at h
 obtain ⟨_,⟨v,hv,rfl⟩,h⟩:=h
 obtain ⟨nm,h1,h2⟩:=n1_av v id (List.all_eq_true.1 hp v hv) h
 exact ⟨nm,List.mem_flatMap.2 ⟨v,hv,h1⟩,h2⟩
theorem nms_av:∀(v:SV τ dn) (id:Nat),v.pl=true→id∈(v.av D.toTE N).ids→∃nm,nm∈v.nms∧id=N.ι nm
 | .vg p c v,id,hp,h| .rw _ _,id,hp,h| .rwp _ _ _ _,id,hp,h=>by simp [SV.pl,SV.pl1] at hp
 | .agg cs,id,hp,h| .fn _ cs,id,hp,h| .bf _ cs,id,hp,h=>by simp only [SV.av,AV.ids] at h;exact n1L_av hp h
 | .own nm _,id,hp,h| .part nm _ _ _,id,hp,h| .ref nm _ _ _,id,hp,h=>by
  simp only [SV.av,AV.ids,AV.id1,List.mem_singleton] at h;exact ⟨nm,by simp [SV.nms,SV.n1],h⟩
 | .vi _,id,hp,h| .vn _,id,hp,h| .vy _,id,hp,h| .vu _,id,hp,h| .vw _ _,id,hp,h| .vb _,id,hp,h| .vt _,id,hp,h| .vz _,id,hp,h| .vo _,id,hp,h| .tup _,id,hp,h| .vl _ _,id,hp,h| .vc _ _,id,hp,h| .emp,id,hp,h| .pim _ _,id,hp,h| .dead,id,hp,h| .mp _,id,hp,h=>by simp [SV.av,AV.ids,AV.id1] at h
theorem snap1_pl {v w:SV τ dn} (h:snap1S D st v=some w):v.pl1=true:=by
 cases v<;>first|rfl|(simp [snap1S,SV.pu1] at h)
theorem snapL_pl:∀{vs ws:List (SV τ dn)},snapLS D st vs=some ws→vs.all SV.pl1=true
 |[],ws,h=>rfl
 |v::r,ws,h=>by
  simp only [snapLS] at h
  split at h
  ·rename_i x l h1 h2
   rw [List.all_cons,snap1_pl h1,snapL_pl h2];rfl
  ·simp at h
theorem snapA_pl {v w:SV τ dn} (h:snapAS D st v=some w):v.pl=true:=by
 cases v with
 |agg cs|fn f cs|bf f cs=>
  simp only [snapAS,Option.map_eq_some_iff] at h;obtain ⟨l,hl,rfl⟩:=h
  exact snapL_pl hl
 |_=>first|rfl|(simp [snapAS,snap1S,SV.pu1] at h)
def isRow (st:SS τ dn) (id:Nat):Prop:=∃t A,st.gm 0=some (.ar t A)∧hasA A id
theorem snapM_nms [DecidableEq τ]:∀{vs ws:List (SV τ dn)} {O:List Prop},snapMO D st vs=some (O,ws)→(∀p,p∈O→p)→∀id,id∈(vs.map (SV.av D.toTE N)).flatMap AV.ids→∃nm,nm∈vs.flatMap SV.nms∧(id=N.ι nm∨(nm=0∧isRow st id))
 |[],ws,O,h,hO,id,hid=>by simp at hid
 |v::r,ws,O,h,hO,id,hid=>by
  simp only [snapMO] at h
  split at h
  ·rename_i O1 x O2 l h1 h2
   simp only [Option.some.injEq,Prod.mk.injEq] at h
   obtain ⟨rfl,rfl⟩:=h
   simp only [List.map_cons,List.flatMap_cons,List.mem_append] at hid ⊢
   rcases hid with hid|hid
   ·have other:((snapAS D st v).map fun w=>(([]:List Prop),w))=some (O1,x)→∃nm,(nm∈v.nms∨nm∈r.flatMap SV.nms)∧(id=N.ι nm∨(nm=0∧isRow st id)):=fun h=>by
     simp only [Option.map_eq_some_iff,Prod.mk.injEq] at h
     obtain ⟨c',h3,_,rfl⟩:=h
     obtain ⟨nm,q1,q2⟩:=nms_av v id (snapA_pl h3) hid
     exact ⟨nm, .inl q1, .inl q2⟩
    cases v with
    |rw t q=>
     refine ⟨0, .inl (by simp [SV.nms,SV.n1]), .inr ⟨rfl, ?_⟩⟩
     simp only [snapAO,snapRw] at h1
     split at h1
     ·rename_i A hA
      cases hp:D.pu t with
      |false=>rw [hp] at h1;simp at h1
      |true=>
       rw [hp,cond_true] at h1
       simp only [Option.some.injEq,Prod.mk.injEq] at h1
       obtain ⟨rfl,rfl⟩:=h1
       have hq:q.ok A:=hO _ (by simp)
       cases hk:q.kd with
       |nil=>simp [SV.av,hk,AV.ids,AV.id1] at hid
       |lst=>simp [SV.av,hk,AV.ids,AV.id1] at hid
       |own=>
        simp only [SV.av,hk,AV.ids,AV.id1,List.mem_singleton] at hid
        unfold Row.ok at hq
        rw [hk] at hq
        exact ⟨t,A,arA_gm hA,hid▸hq.1⟩
     ·simp at h1
    |_=>exact other h1
   ·obtain ⟨nm,q1,q2⟩:=snapM_nms h2 (fun p hp=>hO p (List.mem_append_right _ hp)) id hid
    exact ⟨nm, .inr q1,q2⟩
  ·simp at h
def SV.nvg1 (v:SV τ dn):Bool:=v.pl1
def SV.nvg:SV τ dn→Bool
 | .agg cs| .fn _ cs| .bf _ cs=>cs.all SV.nvg1
 |a=>a.nvg1
theorem id1_eq {v:SV τ dn} (h:v.nvg1=true):(v.av D.toTE N).id1=v.n1.map N.ι:=by
 cases v<;>simp [SV.nvg1,SV.pl1] at h<;>simp [SV.av,AV.id1,SV.n1]
theorem idL_eq:∀{cs:List (SV τ dn)},cs.all SV.nvg1=true→(cs.map (SV.av D.toTE N)).flatMap AV.id1=(cs.flatMap SV.n1).map N.ι
 |[],_=>rfl
 |v::r,h=>by
  rw [List.all_cons,Bool.and_eq_true] at h
  rw [List.map_cons,List.flatMap_cons,List.flatMap_cons,List.map_append,id1_eq h.1,idL_eq h.2]
theorem ids_eq {v:SV τ dn} (h:v.nvg=true):(v.av D.toTE N).ids=v.nms.map N.ι:=by
 cases v with
 |agg cs=>simp only [SV.av,AV.ids,SV.nms,SV.avL_map];exact idL_eq h
 |fn f cs=>simp only [SV.av,AV.ids,SV.nms,SV.avL_map];exact idL_eq h
 |bf f cs=>simp only [SV.av,AV.ids,SV.nms,SV.avL_map];exact idL_eq h
 |vg p c v=>simp [SV.nvg,SV.nvg1,SV.pl1] at h
 |rw t r=>simp [SV.nvg,SV.nvg1,SV.pl1] at h
 |rwp t r i o=>simp [SV.nvg,SV.nvg1,SV.pl1] at h
 |_=>simp [SV.av,AV.ids,AV.id1,SV.nms,SV.n1]
theorem idsL_eq:∀{vs:List (SV τ dn)},vs.all SV.nvg=true→(vs.map (SV.av D.toTE N)).flatMap AV.ids=(vs.flatMap SV.nms).map N.ι
 |[],_=>rfl
 |v::r,h=>by
  rw [List.all_cons,Bool.and_eq_true] at h
  rw [List.map_cons,List.flatMap_cons,List.flatMap_cons,List.map_append,ids_eq h.1,idsL_eq h.2]
def SV.lb1:SV τ dn→Bool
 | .vl _ _=>true
 |_=>false
def SV.lb2:SV τ dn→Bool
 | .agg cs=>cs.any SV.lb1
 |a=>a.lb1
def SV.lb:SV τ dn→Bool
 | .tup vs=>vs.any SV.lb2
 |a=>a.lb2
theorem lb1_av {v:SV τ dn} (h:v.lb1=true):(v.av D.toTE N).nob1=false:=by
 cases v<;>simp [SV.lb1] at h<;>rfl
theorem lb2_av {v:SV τ dn} (h:v.lb2=true):(v.av D.toTE N).nob2=false:=by
 cases v with
 |agg cs=>
  simp only [SV.lb2,List.any_eq_true] at h
  obtain ⟨c,hc,h⟩:=h
  simp only [SV.av,AV.nob2,SV.avL_map]
  rw [Bool.eq_false_iff];intro hh
  rw [List.all_eq_true] at hh
  have:=hh _ (List.mem_map_of_mem hc)
  rw [lb1_av h] at this;simp at this
 |vl t xs=>rfl
 |_=>simp [SV.lb2,SV.lb1] at h
theorem lb_av {v:SV τ dn} (h:v.lb=true):(v.av D.toTE N).nob=false:=by
 cases v with
 |tup cs=>
  simp only [SV.lb,List.any_eq_true] at h
  obtain ⟨c,hc,h⟩:=h
  simp only [SV.av,AV.nob,SV.avL_map]
  rw [Bool.eq_false_iff];intro hh
  rw [List.all_eq_true] at hh
  have:=hh _ (List.mem_map_of_mem hc)
  rw [lb2_av h] at this;simp at this
 |agg cs=>exact lb2_av (v:= .agg cs) h
 |vl t xs=>rfl
 |_=>simp [SV.lb,SV.lb2,SV.lb1] at h
def SS.nr (st:SS τ dn) (x:Arg):List Nat:=match st.ev x with
 |some v=>v.nr
 |none=>[]
def AO.nrs (st:SS τ dn):AO→List Nat
 | .load _ x| .nilc x| .fad _ x| .len _ x| .isn _ _ x| .clr _ x| .b2s x=>st.nr x
 | .store _ x _| .iad _ x _| .iap _ _ x _| .slc _ x _ _ _| .mup _ x _ _| .mlk _ _ x _=>st.nr x
 | .app _ _ s x=>st.nr x++st.nr s
 | .cpy _ x y=>st.nr y++st.nr x
 |_=>[]
def AO.kn (st:SS τ dn):AO→Bool
 | .load _ x| .nilc x| .fad _ x| .len _ x| .isn _ _ x| .clr _ x| .b2s x=>(st.ev x).isSome
 | .store _ x _| .iad _ x _| .iap _ _ x _| .slc _ x _ _ _| .mup _ x _ _| .mlk _ _ x _=>(st.ev x).isSome
 | .app _ _ s x=>(st.ev x).isSome&&(st.ev s).isSome
 | .cpy _ x y=>(st.ev y).isSome&&(st.ev x).isSome
 |_=>true
def SS.ngd (st:SS τ dn) (x:Arg):Bool:=match st.ev x with
 |some (.vg _ _ _)=>false
 |_=>true
theorem nrs_ok (R:RelAt D N st σ g) {ao:AO} {k:Nat} (hk:ao.kn st=true) (hg:ao.lk.all st.ngd=true) (hrow:∀x,x∈ao.lk→∀v,st.ev x=some v→v.isRw=true→∀id,id∈(v.av D.toTE N).idr→isRow st id):∀id,id∈(ao.sem k (argσ σ)).acc g++(ao.sem k (argσ σ)).see g→∃nm,nm∈ao.nrs st∧(id=N.ι nm∨(nm=0∧isRow st id)):=by
 intro id h
 have h:=refs_mem id h
 have one:∀{x:Arg},x∈ao.lk→(st.ev x).isSome=true→id∈(argσ σ x).idr→∃nm,nm∈st.nr x∧(id=N.ι nm∨(nm=0∧isRow st id)):=fun {x} hm hx h=>by
  obtain ⟨v,hv⟩:=Option.isSome_iff_exists.1 hx
  rw [R.ev hv] at h
  have hgx:=List.all_eq_true.1 hg x hm
  unfold SS.ngd at hgx
  rw [hv] at hgx
  have hnr:st.nr x=v.nr:=by unfold SS.nr;rw [hv]
  rw [hnr]
  cases hr:v.isRw with
  |true=>
   refine ⟨0, ?_, .inr ⟨rfl,hrow x hm v hv hr id h⟩⟩
   cases v<;>first|(simp [SV.isRw] at hr;done)|simp [SV.nr]
  |false=>
   obtain ⟨nm,h1,h2⟩:=nr_av v id (by cases v<;>first|rfl|(simp at hgx;done)|(simp [SV.isRw] at hr;done)) h
   exact ⟨nm,h1, .inl h2⟩
 cases ao<;>simp only [AO.refs] at h<;>simp only [AO.kn] at hk<;>simp only [AO.nrs]<;>first
  |exact one (by simp [AO.lk]) hk h
  |(simp at h;done)
  |skip
 ·simp only [Bool.and_eq_true] at hk
  rcases List.mem_append.1 h with h|h
  ·obtain ⟨nm,h1,h2⟩:=one (by simp [AO.lk]) hk.1 h;exact ⟨nm,List.mem_append_left _ h1,h2⟩
  ·obtain ⟨nm,h1,h2⟩:=one (by simp [AO.lk]) hk.2 h;exact ⟨nm,List.mem_append_right _ h1,h2⟩
 ·simp only [Bool.and_eq_true] at hk
  rcases List.mem_append.1 h with h|h
  ·obtain ⟨nm,h1,h2⟩:=one (by simp [AO.lk]) hk.1 h;exact ⟨nm,List.mem_append_left _ h1,h2⟩
  ·obtain ⟨nm,h1,h2⟩:=one (by simp [AO.lk]) hk.2 h;exact ⟨nm,List.mem_append_right _ h1,h2⟩
theorem sx_kn [DecidableEq τ] {ao:AO} {r:SR τ dn} (h:sxp D st ao=some r):ao.kn st=true:=by
 cases ao<;>first
  |rfl
  |skip
 case slc sz x lo hi mx=>
  simp only [AO.kn]
  simp only [sxp] at h
  cases hb:(AO.lk (.slc sz x lo hi mx)).any st.rwa with
  |true=>rw [hb,cond_true] at h;simp [sxR] at h
  |false=>
   rw [hb,cond_false] at h
   cases mx with
   |some m=>simp [sx] at h
   |none=>
    simp only [sx] at h
    split at h
    ·rename_i a _ _ h1 _ _;rw [h1];rfl
    ·simp at h
 all_goals simp only [AO.kn]
 all_goals simp only [sxp] at h
 all_goals
  cases hb:(AO.lk _).any st.rwa with
  |true=>
   rw [hb,cond_true] at h
   simp only [sxR] at h
   first
    |(simp at h;done)
    |(split at h<;>first|(simp at h;done)|(simp_all;done)|(split at h<;>first|(simp at h;done)|(simp_all;done)))
  |false=>
   rw [hb,cond_false] at h
   simp only [sx] at h
   first
    |(simp at h;done)
    |(simp only [Option.bind_eq_some_iff] at h;obtain ⟨_,h1,_⟩:=h;rw [h1];rfl)
    |(split at h<;>first|(simp at h;done)|(simp_all;done))
end
open Go.RowKit
section
variable {τ:Type} {dn:τ→Type}
mutual
def SV.tks (E:TE τ dn) (nm:Nat) (t:τ) (r:Row (dn t)):SV τ dn→SV τ dn
 | .own a sz=>bif Nat.beq a nm&&Nat.beq sz (E.sz t) then .rw t r else .own a sz
 | .ref a sz i o=>bif Nat.beq a nm&&Nat.beq sz (E.sz t) then .rwp t r i o else .ref a sz i o
 | .agg cs=> .agg (SV.tksL E nm t r cs)
 | .tup cs=> .tup (SV.tksL E nm t r cs)
 | .fn f cs=> .fn f (SV.tksL E nm t r cs)
 | .bf f cs=> .bf f (SV.tksL E nm t r cs)
 | .vg p c v=> .vg p c (SV.tks E nm t r v)
 | .part a b c d=> .part a b c d
 | .pim cs o=> .pim cs o
 | .vc sz els=> .vc sz els
 | .mp a=> .mp a
 | .vi x=> .vi x
 | .vn x=> .vn x
 | .vy x=> .vy x
 | .vu x=> .vu x
 | .vw q x=> .vw q x
 | .vb c=> .vb c
 | .vt x=> .vt x
 | .vz x=> .vz x
 | .vo x=> .vo x
 | .vl a b=> .vl a b
 | .emp=> .emp
 | .rw a b=> .rw a b
 | .rwp a b c d=> .rwp a b c d
 | .dead=> .dead
def SV.tksL (E:TE τ dn) (nm:Nat) (t:τ) (r:Row (dn t)):List (SV τ dn)→List (SV τ dn)
 |[]=>[]
 |v::l=>SV.tks E nm t r v::SV.tksL E nm t r l
end
section
variable {E:TE τ dn} {N:Nms} {nm:Nat} {t:τ} {r:Row (dn t)}
mutual
theorem tks_av (hk:r.kd= .own) (h1:N.ι nm=r.id) (h2:N.ln nm=r.n):∀v:SV τ dn,(v.tks E nm t r).av E N=v.av E N
 | .own a sz=>by
  simp only [SV.tks]
  cases hb:(Nat.beq a nm&&Nat.beq sz (E.sz t)) with
  |false=>rfl
  |true=>
   rw [Bool.and_eq_true] at hb
   have e1:=Nat.eq_of_beq_eq_true hb.1
   have e2:=Nat.eq_of_beq_eq_true hb.2
   simp only [cond_true,SV.av,hk,e1,e2,h1,h2]
 | .ref a sz i o=>by
  simp only [SV.tks]
  cases hb:(Nat.beq a nm&&Nat.beq sz (E.sz t)) with
  |false=>rfl
  |true=>
   rw [Bool.and_eq_true] at hb
   have e1:=Nat.eq_of_beq_eq_true hb.1
   have e2:=Nat.eq_of_beq_eq_true hb.2
   simp only [cond_true,SV.av,hk,e1,e2,h1]
 | .agg cs| .tup cs| .fn f cs| .bf f cs=>by simp only [SV.tks,SV.av,tksL_av hk h1 h2 cs]
 | .vg p c v=>by simp only [SV.tks,SV.av,tks_av hk h1 h2 v]
 | .part _ _ _ _| .pim _ _| .vc _ _| .mp _| .vi _| .vn _| .vy _| .vu _| .vw _ _| .vb _| .vt _| .vz _| .vo _| .vl _ _| .emp| .rw _ _| .rwp _ _ _ _| .dead=>by simp only [SV.tks]
theorem tksL_av (hk:r.kd= .own) (h1:N.ι nm=r.id) (h2:N.ln nm=r.n):∀cs:List (SV τ dn),SV.avL E N (SV.tksL E nm t r cs)=SV.avL E N cs
 |[]=>rfl
 |v::l=>by simp only [SV.tksL,SV.avL,tks_av hk h1 h2 v,tksL_av hk h1 h2 l]
end
end
def SB.tks (E:TE τ dn) (nm:Nat) (t:τ) (r:Row (dn t)):SB τ dn→SB τ dn
 | .bc sz els=> .bc sz (els.map (SV.tksL E nm t r))
 | .mc els=> .mc (els.map (SV.tksL E nm t r))
 |B=>B
theorem tksB_av {E:TE τ dn} {N:Nms} {nm:Nat} {t:τ} {r:Row (dn t)} (hk:r.kd= .own) (h1:N.ι nm=r.id) (h2:N.ln nm=r.n) (B:SB τ dn):(B.tks E nm t r).av E N=B.av E N∧(B.tks E nm t r).len=B.len:=by
 have hM:∀els:List (List (SV τ dn)),SV.avM E N (els.map (SV.tksL E nm t r))=SV.avM E N els:=by
  intro els
  induction els with
  |nil=>rfl
  |cons a l ih=>simp only [List.map_cons,SV.avM,ih,tksL_av hk h1 h2]
 cases B with
 |bc sz els=>simp only [SB.tks,SB.av,hM,SB.len,List.length_map,and_self]
 |mc els=>simp only [SB.tks,SB.av,hM,SB.len,and_self]
 |_=>exact ⟨rfl,rfl⟩
variable [DecidableEq τ]
def blkL (D:TD τ dn) (st:SS τ dn) (nm:Nat) (t:τ):Option (List (dn t)):=match st.gm nm with
 |some (.bl t' xs)=>if h:t'=t then some (h▸xs) else (D.th t' t).map fun f=>xs.map f
 |some (.bc q els)=>if q=D.sz t then decL D t els else none
 |_=>none
theorem blkL_ok {D:TD τ dn} {N:Nms} {st:SS τ dn} {σ:Nat→AV} {g:Nat→Option Bk} (ok:TDok D) (R:RelAt D N st σ g) {nm:Nat} {t:τ} {xs:List (dn t)} (h:blkL D st nm t=some xs):g (N.ι nm)=some ⟨D.sz t,xs.map (D.ea N.ρ t)⟩∧N.ln nm=xs.length:=by
 unfold blkL at h
 split at h
 ·rename_i t' ys hB
  split at h
  ·rename_i he
   subst he
   simp only [Option.some.injEq] at h;subst h
   exact R.gm hB
  ·simp only [Option.map_eq_some_iff] at h
   obtain ⟨f,hf,rfl⟩:=h
   obtain ⟨g1,g2⟩:=R.gm hB
   obtain ⟨q1,q2⟩:=ok.th N.ρ t' t f hf
   refine ⟨?_,by rw [g2];simp only [SB.len,List.length_map]⟩
   rw [g1]
   simp only [SB.av,List.map_map,q1]
   congr 2
   exact List.map_congr_left fun x _=>(q2 x).symm
 ·rename_i q els hB
  split at h
  ·rename_i hq
   obtain ⟨g1,g2⟩:=R.gm hB
   have e1:=decL_ok (N:=N) ok h
   have e2:=decL_len h
   refine ⟨?_,by rw [g2];exact e2⟩
   rw [g1];simp only [SB.av,hq,e1]
  ·simp at h
 ·simp at h
def SS.tkn (D:TD τ dn) (st:SS τ dn) (nm:Nat):Option ((t:τ)×(List (Nat×List (dn t))×List (dn t))):=match st.gm 0 with
 |some (.ar t A)=>match blkL D st nm t with
  |some xs=>bif !Nat.beq nm 0&&(st.rw nm&&st.rw 0) then some ⟨t,A,xs⟩ else none
  |none=>none
 |_=>none
def SS.tk (D:TD τ dn) (st:SS τ dn) (nm id:Nat) (t:τ) (A:List (Nat×List (dn t))) (xs:List (dn t)):SS τ dn:=
 ⟨st.rt,st.rm,st.t.map fun q=>(q.1,q.2.tks D.toTE nm t (Row.at (dn t) id xs.length)),(0,some (.ar t ((id,xs)::A)))::(nm,none)::st.m.map fun q=>(q.1,q.2.map (SB.tks D.toTE nm t (Row.at (dn t) id xs.length))),st.nx⟩
def ownN:SV τ dn→Option Nat
 | .own nm _=>some nm
 |_=>none
def needs (D:TD τ dn) (st:SS τ dn):AO→List Nat
 | .store _ x y=>match st.ev x,st.ev y with
  |some (.ref nm _ _ _),some b=>match st.gm nm with
   |some (.bl t _)=>bif D.hr t then b.cells.filterMap ownN else []
   |_=>[]
  |_,_=>[]
 | .app sz _ s x=>match st.ev s,st.ev x with
  |some (.own nm _),some b=>match st.gm nm with
   |some (.bl t _)=>bif D.hr t then (match st.cont D sz b with
    |some (.li els)=>els.flatMap fun cs=>cs.filterMap ownN
    |_=>[]) else []
   |_=>[]
  |_,_=>[]
 |_=>[]
def tkW (D:TD τ dn):List Nat→SS τ dn→(SS τ dn→Prop)→Prop
 |[],st,K=>K st
 |nm::r,st,K=>match st.tkn D nm with
  |some ⟨t,A,xs⟩=>∀id,¬hasA A id→tkW D r (st.tk D nm id t A xs) K
  |none=>tkW D r st K
end
section
variable {τ:Type} {dn:τ→Type} {D:TD τ dn} [DecidableEq τ]
theorem getS_map {α β:Type} (f:α→β):∀{l:List (Nat×α)} {i:Nat},getS (l.map fun q=>(q.1,f q.2)) i=(getS l i).map f
 |[],i=>rfl
 |(j,v)::r,i=>by
  rw [List.map_cons,getS_cons,getS_cons,getS_map f (l:=r)]
  by_cases h:i=j<;>simp [h]
theorem tk_rel (ok:TDok D) {N:Nms} {st:SS τ dn} {s:S3} (R:Rel D N st s) {nm:Nat} {t:τ} {A:List (Nat×List (dn t))} {xs:List (dn t)} (h:st.tkn D nm=some ⟨t,A,xs⟩):¬hasA A (N.ι nm)∧Rel D N (st.tk D nm (N.ι nm) t A xs) s:=by
 unfold SS.tkn at h
 split at h
 case h_2=>simp at h
 rename_i t' A' hgm
 split at h
 case h_2=>simp at h
 rename_i ys hb
 cases hc:(!Nat.beq nm 0&&(st.rw nm&&st.rw 0)) with
 |false=>rw [hc] at h;simp at h
 |true=>
 rw [hc,cond_true,Option.some.injEq] at h
 simp only [Sigma.mk.injEq] at h
 obtain ⟨rfl,h⟩:=h
 have h:=eq_of_heq h
 simp only [Prod.mk.injEq] at h
 obtain ⟨rfl,rfl⟩:=h
 simp only [Bool.and_eq_true,Bool.not_eq_true'] at hc
 obtain ⟨hn0,hw,hw0⟩:=hc
 have hnz:nm≠0:=fun e=>by subst e;simp at hn0
 obtain ⟨⟨B1,m1⟩,r1⟩:=rw_may hw
 obtain ⟨⟨B2,m2⟩,r2⟩:=rw_may hw0
 have hB2:B2= .ar t' A':=by
  have:=gm_m m2;rw [this] at hgm;simpa using hgm
 subst hB2
 have hlt:=R.ml nm _ m1
 have hlt0:=R.ml 0 _ m2
 have hno:¬hasA A' (N.ι nm):=fun hh=>(R.sp t' A' (gm_alive hgm) _ hh).2 nm _ (.inl m1) rfl
 have hm':∀a X,getS ((0,some (SB.ar t' ((N.ι nm,ys)::A')))::(nm,(none:Option (SB τ dn)))::st.m.map fun q=>(q.1,q.2.map (SB.tks D.toTE nm t' (Row.at (dn t') (N.ι nm) ys.length)))) a=some (some X)→
   (a=0∧X= .ar t' ((N.ι nm,ys)::A'))∨(a≠0∧a≠nm∧∃B,getS st.m a=some (some B)∧X=B.tks D.toTE nm t' (Row.at (dn t') (N.ι nm) ys.length)):=fun a X h=>by
  rw [getS_cons,getS_cons,getS_map (Option.map (SB.tks D.toTE nm t' (Row.at (dn t') (N.ι nm) ys.length)))] at h
  by_cases h0:a=0
  ·rw [if_pos h0] at h;simp only [Option.some.injEq] at h;exact .inl ⟨h0,h.symm⟩
  ·rw [if_neg h0] at h
   by_cases h1:a=nm
   ·rw [if_pos h1] at h;simp at h
   ·rw [if_neg h1] at h
    simp only [Option.map_eq_some_iff] at h
    obtain ⟨x,hx,B,rfl,rfl⟩:=h
    exact .inr ⟨h0,h1,B,hx,rfl⟩
 have hall:∀t2 A2,(st.tk D nm (N.ι nm) t' A' ys).alv 0 (.ar t2 A2)→(SB.ar t' ((N.ι nm,ys)::A'):SB τ dn)= .ar t2 A2:=fun t2 A2 h=>by
  rcases h with h|h
  ·rcases hm' 0 _ h with ⟨_,h⟩|⟨h,_⟩
   ·exact h.symm
   ·exact absurd rfl h
  ·have h':getS st.rm 0=some (some (.ar t2 A2)):=h
   rw [r2] at h';simp at h'
 refine ⟨hno,⟨fun N' hN=> ?_,R.inj,R.lt,fun a X h=> ?_,R.rl,fun t2 A2 h id hid=> ?_⟩⟩
 ·have A:=R.at_ N' hN
  have e1:N'.ι nm=N.ι nm:=(hN.1 nm hlt).1
  have hbl:=blkL_ok ok A hb
  have e2:N'.ln nm=ys.length:=hbl.2
  refine ⟨fun i v h=> ?_,A.rs,fun a X h=> ?_,A.rb,fun t2 A2 h id hid=> ?_⟩
  ·have h':getS (st.t.map fun q=>(q.1,q.2.tks D.toTE nm t' (Row.at (dn t') (N.ι nm) ys.length))) i=some v:=h
   rw [getS_map (SV.tks D.toTE nm t' (Row.at (dn t') (N.ι nm) ys.length))] at h'
   simp only [Option.map_eq_some_iff] at h'
   obtain ⟨w,hw,rfl⟩:=h'
   rw [A.sl i w hw]
   exact (tks_av rfl e1 e2 w).symm
  ·rcases hm' a X h with ⟨rfl,rfl⟩|⟨h0,h1,B,hB,rfl⟩
   ·have:=A.bl 0 _ m2
    exact ⟨this.1,this.2⟩
   ·obtain ⟨p1,p2⟩:=tksB_av (E:=D.toTE) (N:=N') (r:=Row.at (dn t') (N.ι nm) ys.length) rfl e1 e2 B
    rw [p1,p2];exact A.bl a B hB
  ·have h':=hall t2 A2 h
   simp only [SB.ar.injEq] at h'
   obtain ⟨rfl,h'⟩:=h'
   have h':=eq_of_heq h'
   subst h'
   rw [lkA_cons]
   by_cases hi:id=N.ι nm
   ·rw [if_pos hi,hi, ←e1];exact hbl.1
   ·rw [if_neg hi]
    rcases hasA_cons.1 hid with hh|hh
    ·exact absurd hh hi
    ·exact A.ar _ A' (gm_alive hgm) id hh
 ·have h':getS ((0,some (SB.ar t' ((N.ι nm,ys)::A')))::(nm,(none:Option (SB τ dn)))::st.m.map fun q=>(q.1,q.2.map (SB.tks D.toTE nm t' (Row.at (dn t') (N.ι nm) ys.length)))) a=some X:=h
  show a<st.nx
  rw [getS_cons,getS_cons,getS_map (Option.map (SB.tks D.toTE nm t' (Row.at (dn t') (N.ι nm) ys.length)))] at h'
  by_cases h0:a=0
  ·subst h0;exact hlt0
  ·rw [if_neg h0] at h'
   by_cases h1:a=nm
   ·subst h1;exact hlt
   ·rw [if_neg h1] at h'
    simp only [Option.map_eq_some_iff] at h'
    obtain ⟨x,hx,_⟩:=h'
    exact R.ml a _ hx
 ·have h':=hall t2 A2 h
  simp only [SB.ar.injEq] at h'
  obtain ⟨rfl,h'⟩:=h'
  have h':=eq_of_heq h'
  subst h'
  have alv:∀a X,(getS (st.tk D nm (N.ι nm) t' A' ys).m a=some (some X)∨getS st.rm a=some (some X))→a≠nm∧a<st.nx∧∃X',getS st.m a=some (some X')∨getS st.rm a=some (some X'):=fun a X hX=>by
   rcases hX with hX|hX
   ·rcases hm' a X hX with ⟨rfl,rfl⟩|⟨h0,h1,B,hB,rfl⟩
    ·exact ⟨fun e=>hnz e.symm,hlt0,_, .inl m2⟩
    ·exact ⟨h1,R.ml a _ hB,B, .inl hB⟩
   ·exact ⟨fun e=>by subst e;rw [r1] at hX;simp at hX,R.rl a _ hX,X, .inr hX⟩
  rcases hasA_cons.1 hid with hh|hh
  ·subst hh
   refine ⟨R.lt nm hlt,fun a X hX e=> ?_⟩
   obtain ⟨q1,q2,_⟩:=alv a X hX
   exact q1 (R.inj a nm q2 hlt e)
  ·obtain ⟨q1,q2⟩:=R.sp _ A' (gm_alive hgm) id hh
   refine ⟨q1,fun a X hX=> ?_⟩
   obtain ⟨_,_,X',hX'⟩:=alv a X hX
   exact q2 a X' hX'
theorem tkW_ok (ok:TDok D) {N:Nms} {s:S3} {K:SS τ dn→Prop}:∀{l:List Nat} {st:SS τ dn},Rel D N st s→tkW D l st K→∃st',Rel D N st' s∧st'.rt=st.rt∧st'.rm=st.rm∧st'.nx=st.nx∧K st'
 |[],st,R,h=>⟨st,R,rfl,rfl,rfl,h⟩
 |nm::r,st,R,h=>by
  simp only [tkW] at h
  split at h
  ·rename_i t A xs ht
   obtain ⟨h1,h2⟩:=tk_rel ok R ht
   obtain ⟨st',q1,q2,q3,q4,q5⟩:=tkW_ok ok h2 (h _ h1)
   exact ⟨st',q1,q2,q3,q4,q5⟩
  ·exact tkW_ok ok R h
end
open Go.RowKit
section
variable {τ:Type} {dn:τ→Type}
abbrev JW (τ:Type) (dn:τ→Type):=FuncId→List (SV τ dn)→SS τ dn→(SV τ dn→SS τ dn→Prop)→Prop
structure Cfg (τ:Type) (dn:τ→Type) where
 P:Program
 D:TD τ dn
 Δ:List (Con τ dn)
 Ω:List (ConO τ dn)
 fl:Nat
 J:JW τ dn
 hd:Bool
def JOut (P:Program) (D:TD τ dn) (f:FuncId) (vs:List (SV τ dn)) (st:SS τ dn) (K:SV τ dn→SS τ dn→Prop) (N:Nms) (s:S3):Prop:=
 callable P f=true∧∃g1 k1 N' v st1,Fi P f (vs.map (SV.av D.toTE N)) s.g s.k (v.av D.toTE N') g1 k1∧(∀N'',N'.agree st1.nx N''→v.av D.toTE N''=v.av D.toTE N')∧N.agree st.nx N'∧st.nx≤st1.nx∧Rel D N' ⟨[],st.rm,[],st1.m,st1.nx⟩ ⟨s.σ,g1,k1⟩∧K v st1
structure Cfg.Ok (C:Cfg τ dn):Prop where
 ok:TDok C.D
 con:∀c,c∈C.Δ→c.Ok C.P C.D
 cno:∀c,c∈C.Ω→c.Ok C.P C.D
 inl:∀{f vs st K N s},Rel C.D N st s→(∀N',N.agree st.nx N'→vs.map (SV.av C.D.toTE N')=vs.map (SV.av C.D.toTE N))→C.J f vs st K→JOut C.P C.D f vs st K N s
def findC (D:TD τ dn):List (Con τ dn)→FuncId→List (SV τ dn)→Option ((c:Con τ dn)×PD dn c.ps)
 |[],_,_=>none
 |c::r,f,as_=>bif Nat.beq c.f f then (match decP D c.ps as_ with
  |some x=>some ⟨c,x⟩
  |none=>findC D r f as_) else findC D r f as_
theorem findC_ok {D:TD τ dn}:∀{Δ:List (Con τ dn)} {f:FuncId} {as_:List (SV τ dn)} {c:Con τ dn} {x:PD dn c.ps},findC D Δ f as_=some ⟨c,x⟩→c∈Δ∧c.f=f∧decP D c.ps as_=some x
 |[],f,as_,c,x,h=>by simp [findC] at h
 |d::r,f,as_,c,x,h=>by
  have go:findC D r f as_=some ⟨c,x⟩→c∈d::r∧c.f=f∧decP D c.ps as_=some x:=fun h=>by
   obtain ⟨h1,h2,h3⟩:=findC_ok h
   exact ⟨List.mem_cons_of_mem _ h1,h2,h3⟩
  simp only [findC] at h
  cases hb:Nat.beq d.f f with
  |false=>rw [hb,cond_false] at h;exact go h
  |true=>
   rw [hb,cond_true] at h
   split at h
   ·rename_i y hy
    simp only [Option.some.injEq] at h
    cases h
    exact ⟨List.mem_cons_self ..,Nat.eq_of_beq_eq_true hb,hy⟩
   ·exact go h
def findO (D:TD τ dn):List (ConO τ dn)→FuncId→List (SV τ dn)→Option ((c:ConO τ dn)×PD dn c.ps)
 |[],_,_=>none
 |c::r,f,as_=>bif Nat.beq c.f f then (match decP D c.ps as_ with
  |some x=>some ⟨c,x⟩
  |none=>findO D r f as_) else findO D r f as_
theorem findO_ok {D:TD τ dn}:∀{Δ:List (ConO τ dn)} {f:FuncId} {as_:List (SV τ dn)} {c:ConO τ dn} {x:PD dn c.ps},findO D Δ f as_=some ⟨c,x⟩→c∈Δ∧c.f=f∧decP D c.ps as_=some x
 |[],f,as_,c,x,h=>by simp [findO] at h
 |d::r,f,as_,c,x,h=>by
  have go:findO D r f as_=some ⟨c,x⟩→c∈d::r∧c.f=f∧decP D c.ps as_=some x:=fun h=>by
   obtain ⟨h1,h2,h3⟩:=findO_ok h
   exact ⟨List.mem_cons_of_mem _ h1,h2,h3⟩
  simp only [findO] at h
  cases hb:Nat.beq d.f f with
  |false=>rw [hb,cond_false] at h;exact go h
  |true=>
   rw [hb,cond_true] at h
   split at h
   ·rename_i y hy
    simp only [Option.some.injEq] at h
    cases h
    exact ⟨List.mem_cons_self ..,Nat.eq_of_beq_eq_true hb,hy⟩
   ·exact go h
def SV.nob1:SV τ dn→Bool
 | .vi _| .vn _| .vy _| .vu _| .vw _ _| .vb _| .vt _| .vz _| .vo _| .emp| .dead=>true
 | .fn _ cs=>cs.isEmpty
 |_=>false
def SV.nob2:SV τ dn→Bool
 | .agg cs=>cs.all SV.nob1
 |a=>a.nob1
def SV.nob:SV τ dn→Bool
 | .tup vs=>vs.all SV.nob2
 |a=>a.nob2
theorem nob1_av {E:TE τ dn} {N:Nms} {v:SV τ dn} (h:v.nob1=true):(v.av E N).nob1=true:=by
 cases v<;>simp [SV.nob1] at h<;>simp [SV.av,AV.nob1]
 subst h;rfl
theorem nob2_av {E:TE τ dn} {N:Nms} {v:SV τ dn} (h:v.nob2=true):(v.av E N).nob2=true:=by
 cases v with
 |agg cs=>
  simp only [SV.av,SV.nob2,AV.nob2,SV.avL_map,List.all_eq_true,List.mem_map] at h ⊢
  rintro _ ⟨v,hv,rfl⟩;exact nob1_av (h v hv)
 |vg p c v=>simp [SV.nob2,SV.nob1] at h
 |rw t r=>simp [SV.nob2,SV.nob1] at h
 |rwp t r i o=>simp [SV.nob2,SV.nob1] at h
 |_=>
  simp only [SV.nob2] at h
  exact nob1_av (E:=E) (N:=N) h
theorem nob_av {E:TE τ dn} {N:Nms} {v:SV τ dn} (h:v.nob=true):(v.av E N).nob=true:=by
 cases v with
 |tup cs=>
  simp only [SV.av,SV.nob,AV.nob,SV.avL_map,List.all_eq_true,List.mem_map] at h ⊢
  rintro _ ⟨v,hv,rfl⟩;exact nob2_av (h v hv)
 |vg p c v=>simp [SV.nob,SV.nob2,SV.nob1] at h
 |rw t r=>simp [SV.nob,SV.nob2,SV.nob1] at h
 |rwp t r i o=>simp [SV.nob,SV.nob2,SV.nob1] at h
 |_=>
  simp only [SV.nob] at h
  exact nob2_av (E:=E) (N:=N) h
def calleeS (st:SS τ dn) (x:Arg) (args:List Arg):Option (FuncId×List (SV τ dn)):=
 match st.ev x,args.mapM st.ev with
 |some (.fn f caps),some vs=>some (f,vs++caps)
 |some (.bf f first),some vs=>some (f,first++vs)
 |_,_=>none
theorem calleeS_ok {D:TD τ dn} {N:Nms} {st:SS τ dn} {σ:Nat→AV} {g:Nat→Option Bk} (R:RelAt D N st σ g) {x:Arg} {args:List Arg} {f:FuncId} {vs:List (SV τ dn)} (h:calleeS st x args=some (f,vs)) (k:Nat):
  (AO.sem k (argσ σ) (.call x args)).run g=some (.call f (vs.map (SV.av D.toTE N))):=by
 unfold calleeS at h
 split at h
 ·rename_i f' caps vs' h1 h2
  simp only [Option.some.injEq,Prod.mk.injEq] at h;obtain ⟨rfl,rfl⟩:=h
  simp only [AO.sem,R.ev h1,SV.av,RM.run,mapM_ev R h2,List.map_append,SV.avL_map]
 ·rename_i f' first vs' h1 h2
  simp only [Option.some.injEq,Prod.mk.injEq] at h;obtain ⟨rfl,rfl⟩:=h
  simp only [AO.sem,R.ev h1,SV.av,RM.run,mapM_ev R h2,List.map_append,SV.avL_map]
 ·simp at h
def callS [DecidableEq τ] (C:Cfg τ dn) (st:SS τ dn) (x:Arg) (args:List Arg):Option (SR τ dn×List Nat):=
 match calleeS st x args with
 |some (f,vs)=>match snapMO C.D st vs with
  |some (O,as_)=>match findC C.D C.Δ f as_ with
   |some ⟨c,y⟩=>bif (c.val C.D y).nob||(vs.flatMap SV.nms).isEmpty then some (.val (O++[c.pre y]) (c.val C.D y),vs.flatMap SV.nms) else bif (c.val C.D y).lb&&(vs.all SV.nvg&&(vs.flatMap SV.nms).all st.rw) then some (.kil (O++[c.pre y]) (c.val C.D y) (vs.flatMap SV.nms),vs.flatMap SV.nms) else none
   |none=>match findO C.D C.Ω f as_ with
    |some ⟨c,y⟩=>some (.new (O++[c.pre y]) (.own st.nx (C.D.sz c.t)) (.bl c.t (c.res y)),vs.flatMap SV.nms)
    |none=>none
  |none=>none
 |none=>none
def SS.live (st:SS τ dn) (a:Nat):Bool:=Nat.blt a st.nx&&(st.gm a).isSome
def opR [DecidableEq τ] (C:Cfg τ dn) (st:SS τ dn) (ao:AO):Option (SR τ dn×List Nat):=
 match ao with
 | .call x args=>match callS C st x args with
  |some (r,ns)=>bif ns.all st.live then some (r,ns) else none
  |none=>none
 |ao=>match sxp C.D st ao with
  |some r=>bif (ao.nrs st).all st.live&&ao.lk.all st.ngd then some (r,ao.nrs st) else none
  |none=>none
def SR.nx (st:SS τ dn):SR τ dn→Nat
 | .new _ _ _| .mov _ _ _ _=>st.nx+1
 |_=>st.nx
theorem SR.st_nx (st:SS τ dn) (d:Option Nat) (r:SR τ dn):(r.st st d).nx=r.nx st:=by cases r<;>rfl
theorem en_ρ {D:TD τ dn} (ok:TDok D) {N N':Nms} (h:N'.ρ=N.ρ) (t:τ) (x:dn t):(D.en t x).av D.toTE N=(D.en t x).av D.toTE N':=by
 have e:(D.es t x).map (SV.av D.toTE N)=(D.es t x).map (SV.av D.toTE N'):=by rw [ok.es_av,ok.es_av,h]
 cases ha:D.ag t with
 |true=>rw [en_ag ha,SV.av,SV.av,SV.avL_map,SV.avL_map,e]
 |false=>
  unfold TD.en
  rw [ha,cond_false]
  cases hs:D.es t x with
  |nil=>rfl
  |cons v r=>rw [hs] at e;simp only [List.map_cons,List.cons.injEq] at e;exact e.1
theorem enR_ρ {D:TD τ dn} (ok:TDok D) {N N':Nms} (h:N'.ρ=N.ρ):∀(rs:List τ) (x:RD dn rs),(enR D rs x).map (SV.av D.toTE N)=(enR D rs x).map (SV.av D.toTE N')
 |[],_=>rfl
 |[t],x=>by simp only [enR,List.map_cons,List.map_nil,en_ρ ok h t x]
 |t::s::r,x=>by simp only [enR,List.map_cons,en_ρ ok h t x.1,enR_ρ ok h (s::r) x.2]
theorem con_ρ {D:TD τ dn} (ok:TDok D) {N N':Nms} (h:N'.ρ=N.ρ) {c:Con τ dn} {y:PD dn c.ps}:(c.val D y).av D.toTE N=(c.val D y).av D.toTE N':=by
 unfold Con.val;rw [oneS_av,oneS_av,enR_ρ ok h]
theorem sxp_see [DecidableEq τ] {D:TD τ dn} {N:Nms} {st:SS τ dn} {σ:Nat→AV} {g:Nat→Option Bk} (R:RelAt D N st σ g) {ao:AO} {r:SR τ dn} (h:sxp D st ao=some r) (hO:∀p,p∈r.O→p):∀x,x∈ao.lk→∀v,st.ev x=some v→v.isRw=true→∀id,id∈(v.av D.toTE N).idr→isRow st id:=by
 intro x hx v hv hr id hid
 unfold sxp at h
 split at h
 ·simp [AO.lk] at hx
 ·have hb:(ao.lk.any st.rwa)=true:=List.any_eq_true.2 ⟨x,hx,by unfold SS.rwa;rw [hv];exact hr⟩
  rw [hb,cond_true] at h
  exact sxR_see R h hO hx hv hr id hid
theorem opR_ok [DecidableEq τ] {C:Cfg τ dn} (hC:C.Ok) {N:Nms} {st:SS τ dn} {σ:Nat→AV} {g:Nat→Option Bk} {k:Nat} (R:∀N',N.agree st.nx N'→RelAt C.D N' st σ g) {o:AOper} (hg:guardA σ o.guard=some true) {r:SR τ dn} {ns:List Nat} (h:opR C st o.ao=some (r,ns)) (hO:∀p,p∈r.O→p):
  ∃val ups acc,OpRun C.P σ g k o val ups acc∧(∀N',(r.up N st k).agree (r.nx st) N'→val=r.v.av C.D.toTE N'∧ups=r.ups C.D N' k)∧(∀id,id∈acc→∃nm,nm∈ns∧(id=N.ι nm∨(nm=0∧isRow st id)))∧r.may C.D N st∧(∀nm,nm∈ns→st.live nm=true):=by
 have blt:∀{l:List Nat},(l.all st.live)=true→∀nm,nm∈l→nm<st.nx:=fun h nm hn=>by
  have:=List.all_eq_true.1 h nm hn
  unfold SS.live at this
  rw [Bool.and_eq_true] at this
  exact Nat.le_of_ble_eq_true this.1
 have blv:∀{l:List Nat},(l.all st.live)=true→∀nm,nm∈l→st.live nm=true:=fun h nm hn=>List.all_eq_true.1 h nm hn
 have R0:=R N (N.agree_refl _)
 have hag:∀N',(r.up N st k).agree (r.nx st) N'→N.agree st.nx N'∧r.fresh N' st.nx k:=fun N' hN=>by
  cases r with
  |val=>exact ⟨hN,trivial⟩
  |put=>exact ⟨hN,trivial⟩
  |kil=>exact ⟨hN,trivial⟩
  |rput=>exact ⟨hN,trivial⟩
  |new O v B=>
   refine ⟨Nms.agree_trans (N.upd_agree st.nx k B.len) hN (Nat.le_succ _), ?_, ?_⟩
   ·rw [(hN.1 st.nx (Nat.lt_succ_self _)).1];exact if_pos rfl
   ·rw [(hN.1 st.nx (Nat.lt_succ_self _)).2];exact if_pos rfl
  |mov O v o B=>
   refine ⟨Nms.agree_trans (N.upd_agree st.nx k B.len) hN (Nat.le_succ _), ?_, ?_⟩
   ·rw [(hN.1 st.nx (Nat.lt_succ_self _)).1];exact if_pos rfl
   ·rw [(hN.1 st.nx (Nat.lt_succ_self _)).2];exact if_pos rfl
 unfold opR at h
 split at h
 ·rename_i x args hao
  split at h
  ·rename_i r' ns' hc
   cases hb:(ns'.all st.live) with
   |false=>rw [hb] at h;simp at h
   |true=>
    rw [hb,cond_true,Option.some.injEq,Prod.mk.injEq] at h
    obtain ⟨rfl,rfl⟩:=h
    unfold callS at hc
    split at hc
    ·rename_i f vs hcal
     split at hc
     ·rename_i Os as_ hsn
      split at hc
      ·rename_i c y hf
       cases hcd:((c.val C.D y).nob||(vs.flatMap SV.nms).isEmpty) with
       |false=>
        rw [hcd,cond_false] at hc
        cases hce:((c.val C.D y).lb&&(vs.all SV.nvg&&(vs.flatMap SV.nms).all st.rw)) with
        |false=>rw [hce] at hc;simp at hc
        |true=>
         rw [hce,cond_true,Option.some.injEq,Prod.mk.injEq] at hc
         obtain ⟨rfl,rfl⟩:=hc
         rw [Bool.and_eq_true,Bool.and_eq_true] at hce
         obtain ⟨l1,l2,l3⟩:=hce
         obtain ⟨f1,f2,f3⟩:=findC_ok hf
         obtain ⟨c1,c2⟩:=hC.con c f1
         simp only [SR.O,List.mem_append,List.mem_singleton] at hO
         have hOs:∀p,p∈Os→p:=fun p hp=>hO p (.inl hp)
         have hs:=snapMO_ok hC.ok R0 hsn hOs
         have hfn:=(c2 y N (hO _ (.inr rfl))).args (decP_le (N:=N) hC.ok f3)
         rw [f2] at hfn c1
         have hr:=OpRun.call (P:=C.P) (fresh:=k) hg (by rw [hao];exact calleeS_ok R0 hcal k) c1 hs hfn
         have hup:callUps (vs.map (SV.av C.D.toTE N)) ((c.val C.D y).av C.D.toTE N)=((vs.flatMap SV.nms).map N.ι).map fun i=>(i,none):=by
          unfold callUps
          rw [if_neg (by rw [lb_av l1];simp),idsL_eq l2]
         rw [hup] at hr
         refine ⟨_,_,_,hr,fun N' hN=>⟨con_ρ hC.ok (hag N' hN).1.2, ?_⟩,fun id hid=> ?_,fun a ha=> ?_,blv hb⟩
         ·simp only [SR.ups]
          congr 1
          exact List.map_congr_left fun a ha=>((hN.1 a (blt hb a ha)).1).symm
         ·rcases List.mem_append.1 hid with hid|hid
          ·have:=refs_mem id hid
           rw [hao] at this;simp [AO.refs] at this
          ·exact snapM_nms hsn hOs id (snapAs_refs id hid)
         ·exact rw_may (List.all_eq_true.1 l3 a ha)
       |true=>
        rw [hcd,cond_true,Option.some.injEq,Prod.mk.injEq] at hc
        obtain ⟨rfl,rfl⟩:=hc
        obtain ⟨f1,f2,f3⟩:=findC_ok hf
        obtain ⟨c1,c2⟩:=hC.con c f1
        simp only [SR.O,List.mem_append,List.mem_singleton] at hO
        have hOs:∀p,p∈Os→p:=fun p hp=>hO p (.inl hp)
        have key:∀N',N.agree st.nx N'→∃acc,OpRun C.P σ g k o ((c.val C.D y).av C.D.toTE N') [] acc∧∀id,id∈acc→∃nm,nm∈vs.flatMap SV.nms∧(id=N'.ι nm∨(nm=0∧isRow st id)):=fun N' hN=>by
         have R':=R N' hN
         have hs:=snapMO_ok hC.ok R' hsn hOs
         have hfn:=(c2 y N' (hO _ (.inr rfl))).args (decP_le (N:=N') hC.ok f3)
         rw [f2] at hfn c1
         have hr:=OpRun.call (P:=C.P) (fresh:=k) hg (by rw [hao];exact calleeS_ok R' hcal k) c1 hs hfn
         have hup:callUps (vs.map (SV.av C.D.toTE N')) ((c.val C.D y).av C.D.toTE N')=[]:=by
          unfold callUps
          rw [Bool.or_eq_true] at hcd
          rcases hcd with hcd|hcd
          ·rw [if_pos (nob_av hcd)]
          ·split
           ·rfl
           ·rw [List.map_eq_nil_iff]
            rw [List.isEmpty_iff] at hcd
            rw [List.eq_nil_iff_forall_not_mem]
            intro id hid
            obtain ⟨nm,h1,_⟩:=snapM_nms hsn hOs id hid
            rw [hcd] at h1;simp at h1
         rw [hup] at hr
         refine ⟨_,hr,fun id hid=> ?_⟩
         rcases List.mem_append.1 hid with hid|hid
         ·have:=refs_mem id hid
          rw [hao] at this;simp [AO.refs] at this
         ·exact snapM_nms hsn hOs id (snapAs_refs id hid)
        obtain ⟨acc,k1,k2⟩:=key N (N.agree_refl _)
        refine ⟨_,_,acc,k1,fun N' hN=>⟨?_,rfl⟩,k2,trivial,blv hb⟩
        exact con_ρ hC.ok (hag N' hN).1.2
      ·split at hc
       ·rename_i c y hf
        rw [Option.some.injEq,Prod.mk.injEq] at hc
        obtain ⟨rfl,rfl⟩:=hc
        obtain ⟨f1,f2,f3⟩:=findO_ok hf
        obtain ⟨⟨c1,cn⟩,c2⟩:=hC.cno c f1
        simp only [SR.O,List.mem_append,List.mem_singleton] at hO
        have hOs:∀p,p∈Os→p:=fun p hp=>hO p (.inl hp)
        have hs:=snapMO_ok hC.ok R0 hsn hOs
        have hfo:=fo_args (c2 y N (hO _ (.inr rfl))) (decP_le (N:=N) hC.ok f3)
        rw [f2] at hfo c1
        have hnob:∀cs,cs∈(c.res y).map (C.D.ea N.ρ c.t)→∀a,a∈cs→a.nob1=true:=fun cs hcs a ha=>by
         obtain ⟨x,_,rfl⟩:=List.mem_map.1 hcs
         rw [←hC.ok.es_av N c.t x] at ha
         obtain ⟨v,hv,rfl⟩:=List.mem_map.1 ha
         exact nob0_av (List.all_eq_true.1 (cn x) v hv)
        have hr:=OpRun.callO (P:=C.P) (fresh:=k) hg (by rw [hao];exact calleeS_ok R0 hcal k) c1 hs hfo hnob
        refine ⟨_,_,_,hr,fun N' hN=> ?_,fun id hid=> ?_,rfl,blv hb⟩
        ·obtain ⟨hN1,h1,h2⟩:=hag N' hN
         simp only [SR.v,SV.av,SR.ups,SB.av,h1,h2,hN1.2,List.length_map,SB.len,and_self]
        ·rcases List.mem_append.1 hid with hid|hid
         ·have:=refs_mem id hid
          rw [hao] at this;simp [AO.refs] at this
         ·exact snapM_nms hsn hOs id (snapAs_refs id hid)
       ·simp at hc
     ·simp at hc
    ·simp at hc
  ·simp at h
 ·split at h
  ·rename_i r' hr
   cases hb:((o.ao.nrs st).all st.live&&o.ao.lk.all st.ngd) with
   |false=>rw [hb] at h;simp at h
   |true=>
    rw [hb,cond_true,Option.some.injEq,Prod.mk.injEq] at h
    obtain ⟨rfl,rfl⟩:=h
    rw [Bool.and_eq_true] at hb
    obtain ⟨N1,hN1⟩:∃N1,(r'.up N st k).agree (r'.nx st) N1:=⟨_,Nms.agree_refl _ _⟩
    have A1:=hag N1 hN1
    have e1:=(sxp_ok hC.ok (R N1 A1.1) hr hO).1 k hO A1.2
    refine ⟨_,_,_, .done hg e1,fun N' hN=> ?_,fun id hid=> ?_,(sxp_ok hC.ok R0 hr hO).2,blv hb.1⟩
    ·have A2:=hag N' hN
     have e2:=(sxp_ok hC.ok (R N' A2.1) hr hO).1 k hO A2.2
     rw [e1] at e2
     simp only [Option.some.injEq,Out.done.injEq] at e2
     exact e2
    ·exact nrs_ok R0 (sx_kn hr) hb.2 (sxp_see R0 hr hO) id hid
  ·simp at h
structure NR where
 keys:List Nat
 acc:List Nat
 all:Bool:=false
 ra:Bool:=false
 ex:List Nat:=[]
 nw:Bool:=false
def freeN (x y:NR):Bool:=bif x.all then !y.all&&(!y.ra&&(y.keys.isEmpty&&y.acc.all fun a=>x.ex.contains a)) else bif y.all then !x.ra&&(x.keys.isEmpty&&x.acc.all fun a=>y.ex.contains a) else ((!x.ra||y.keys.isEmpty)&&(!y.ra||x.keys.isEmpty))&&((x.keys.all fun id=> !y.acc.contains id&& !y.keys.contains id)&&(y.keys.all fun id=> !x.acc.contains id))
def newN (dep:List (List Nat)) (i j:Nat) (x y:NR):Bool:=(x.all&&x.keys.isEmpty)&&(y.nw&&(y.acc.isEmpty&&(!y.ra&&depAll dep i j)))
def idsN (rs:List NR) (dep:List (List Nat)):Bool:=
 (List.range rs.length).all fun j=>(List.range j).all fun i=>((dep[j]?).getD []).contains i||(match rs[i]?,rs[j]? with|some x,some y=>freeN x y||newN dep i j x y|_,_=>false)
def NmQ (N:Nms) (Q:Nat→Prop) (nm id:Nat):Prop:=(id=N.ι nm∧¬Q id)∨(nm=0∧Q id)
structure RecN (N:Nms) (Q:Nat→Prop) (nx:Nat) (r:Rec) (x:NR):Prop where
 keys:x.all=false→∀id,id∈r.keys→∃nm,nm∈x.keys∧NmQ N Q nm id
 acc:x.all=false→x.ra=false→∀id,id∈r.acc→∃nm,nm∈x.acc∧NmQ N Q nm id
 kl:∀nm,nm∈x.keys→nm<nx
 al:∀nm,nm∈x.acc→nm<nx
 ex:∀nm,nm∈x.ex→nm<nx∧∀id,id∈r.keys→¬NmQ N Q nm id
 nw:x.nw=true→x.all=false∧∀id,id∈r.keys→r.fr≤id
 ca:x.all=true→x.keys.isEmpty=true→r.acc=[]
theorem NmQ.step {N N':Nms} {Q:Nat→Prop} {nx nm id:Nat} (h:NmQ N Q nm id) (hN:N.agree nx N') (hn:nm<nx):NmQ N' Q nm id:=by
 rcases h with ⟨h1,h2⟩|h
 ·exact .inl ⟨by rw [(hN.1 nm hn).1];exact h1,h2⟩
 ·exact .inr h
theorem RecN.step {N N':Nms} {Q:Nat→Prop} {nx nx':Nat} {r:Rec} {x:NR} (h:RecN N Q nx r x) (hN:N.agree nx N') (hx:nx≤nx'):RecN N' Q nx' r x:=by
 refine ⟨fun ha id hid=> ?_,fun ha hb id hid=> ?_,fun nm hn=>Nat.lt_of_lt_of_le (h.kl nm hn) hx,fun nm hn=>Nat.lt_of_lt_of_le (h.al nm hn) hx,fun nm hn=>⟨Nat.lt_of_lt_of_le (h.ex nm hn).1 hx,fun id hid hq=>(h.ex nm hn).2 id hid ?_⟩,h.nw,h.ca⟩
 ·obtain ⟨nm,h1,h2⟩:=h.keys ha id hid
  exact ⟨nm,h1,h2.step hN (h.kl nm h1)⟩
 ·obtain ⟨nm,h1,h2⟩:=h.acc ha hb id hid
  exact ⟨nm,h1,h2.step hN (h.al nm h1)⟩
 ·rcases hq with ⟨h1,h2⟩|hq
  ·exact .inl ⟨h1.trans (hN.1 nm (h.ex nm hn).1).1,h2⟩
  ·exact .inr hq
theorem RecN.nk {N:Nms} {Q:Nat→Prop} {nx:Nat} {r:Rec} {x:NR} (h:RecN N Q nx r x) (ha:x.all=false) (h1:x.keys.isEmpty=true):r.keys=[]:=by
 rw [List.isEmpty_iff] at h1
 refine List.eq_nil_iff_forall_not_mem.2 fun id hid=> ?_
 obtain ⟨nm,q,_⟩:=h.keys ha id hid
 rw [h1] at q;simp at q
theorem NmQ.eq {N:Nms} {Q:Nat→Prop} {nx a b id:Nat} (inj:∀a b,a<nx→b<nx→N.ι a=N.ι b→a=b) (ha:a<nx) (hb:b<nx) (h:NmQ N Q a id) (k:NmQ N Q b id):a=b:=by
 rcases h with ⟨h1,h2⟩|⟨h1,h2⟩<;>rcases k with ⟨k1,k2⟩|⟨k1,k2⟩
 ·exact inj a b ha hb (h1.symm.trans k1)
 ·exact absurd k2 h2
 ·exact absurd h2 k2
 ·rw [h1,k1]
theorem freeN_ok {N:Nms} {Q:Nat→Prop} {nx:Nat} (inj:∀a b,a<nx→b<nx→N.ι a=N.ι b→a=b) {r q:Rec} {x y:NR} (hr:RecN N Q nx r x) (hq:RecN N Q nx q y) (h:freeN x y=true):idFree r q=true:=by
 unfold freeN at h
 unfold idFree
 cases hx:x.all with
 |true=>
  rw [hx,cond_true] at h
  simp only [Bool.and_eq_true,Bool.not_eq_true'] at h
  obtain ⟨h1,h2,h3,h4⟩:=h
  have e1:=hq.nk h1 h3
  rw [e1]
  simp only [List.all_nil,Bool.and_true,List.all_eq_true,Bool.and_eq_true,Bool.not_eq_true',List.contains_eq_mem,decide_eq_false_iff_not,decide_eq_true_eq] at h4 ⊢
  refine fun id hid=>⟨fun hc=> ?_,by simp⟩
  obtain ⟨b,hb,eb⟩:=hq.acc h1 h2 _ hc
  exact (hr.ex b (h4 b hb)).2 id hid eb
 |false=>
  rw [hx,cond_false] at h
  cases hy:y.all with
  |true=>
   rw [hy,cond_true,Bool.and_eq_true,Bool.and_eq_true,Bool.not_eq_true'] at h
   obtain ⟨h2,h3,h4⟩:=h
   have e1:=hr.nk hx h3
   rw [e1]
   simp only [List.all_nil,Bool.true_and,List.all_eq_true,Bool.not_eq_true',List.contains_eq_mem,decide_eq_false_iff_not,decide_eq_true_eq] at h4 ⊢
   refine fun id hid hc=> ?_
   obtain ⟨b,hb,eb⟩:=hr.acc hx h2 _ hc
   exact (hq.ex b (h4 b hb)).2 id hid eb
  |false=>
   rw [hy,cond_false,Bool.and_eq_true] at h
   obtain ⟨hra,h⟩:=h
   rw [Bool.and_eq_true,Bool.or_eq_true,Bool.or_eq_true,Bool.not_eq_true',Bool.not_eq_true'] at hra
   obtain ⟨hra1,hra2⟩:=hra
   simp only [Bool.and_eq_true,List.all_eq_true,Bool.not_eq_true',List.contains_eq_mem,decide_eq_false_iff_not] at h ⊢
   obtain ⟨h1,h2⟩:=h
   refine ⟨fun id hid=> ?_,fun id hid=> ?_⟩
   ·obtain ⟨a,ha,ea⟩:=hr.keys hx _ hid
    refine ⟨fun hc=> ?_,fun hc=> ?_⟩
    ·rcases hra2 with hra2|hra2
     case inr=>rw [List.isEmpty_iff] at hra2;rw [hra2] at ha;simp at ha
     obtain ⟨b,hb,eb⟩:=hq.acc hy hra2 _ hc
     have:=ea.eq inj (hr.kl a ha) (hq.al b hb) eb
     subst this;exact (h1 a ha).1 hb
    ·obtain ⟨b,hb,eb⟩:=hq.keys hy _ hc
     have:=ea.eq inj (hr.kl a ha) (hq.kl b hb) eb
     subst this;exact (h1 a ha).2 hb
   ·obtain ⟨a,ha,ea⟩:=hq.keys hy _ hid
    intro hc
    rcases hra1 with hra1|hra1
    case inr=>rw [List.isEmpty_iff] at hra1;rw [hra1] at ha;simp at ha
    obtain ⟨b,hb,eb⟩:=hr.acc hx hra1 _ hc
    have:=ea.eq inj (hq.kl a ha) (hr.al b hb) eb
    subst this;exact h2 a ha hb
inductive RecsN (N:Nms) (Q:Nat→Prop) (nx:Nat):List Rec→List (Option Nat)→List NR→Prop
 |nil:RecsN N Q nx [] [] []
 |cons {r:Rec} {c:Option Nat} {x:NR} {rs:List Rec} {hs:List (Option Nat)} {xs:List NR} (h:RecN N Q nx r x) (hc:x.all=false→c=none) (t:RecsN N Q nx rs hs xs):RecsN N Q nx (r::rs) (c::hs) (x::xs)
theorem RecsN.step {N N':Nms} {Q:Nat→Prop} {nx nx':Nat} {rs:List Rec} {hs:List (Option Nat)} {xs:List NR} (h:RecsN N Q nx rs hs xs) (hN:N.agree nx N') (hx:nx≤nx'):RecsN N' Q nx' rs hs xs:=by
 induction h with
 |nil=>exact .nil
 |cons h hc _ ih=>exact .cons (h.step hN hx) hc ih
theorem RecsN.snoc {N:Nms} {Q:Nat→Prop} {nx:Nat} {rs:List Rec} {hs:List (Option Nat)} {xs:List NR} (h:RecsN N Q nx rs hs xs) {r:Rec} {c:Option Nat} {x:NR} (hr:RecN N Q nx r x) (hc:x.all=false→c=none):RecsN N Q nx (rs++[r]) (hs++[c]) (xs++[x]):=by
 induction h with
 |nil=>exact .cons hr hc .nil
 |cons h hc _ ih=>exact .cons h hc ih
theorem RecsN.len {N:Nms} {Q:Nat→Prop} {nx:Nat} {rs:List Rec} {hs:List (Option Nat)} {xs:List NR} (h:RecsN N Q nx rs hs xs):rs.length=xs.length:=by
 induction h with
 |nil=>rfl
 |cons _ _ _ ih=>simp [ih]
theorem RecsN.get {N:Nms} {Q:Nat→Prop} {nx:Nat} {rs:List Rec} {hs:List (Option Nat)} {xs:List NR} (h:RecsN N Q nx rs hs xs):∀(i:Nat) x,xs[i]? =some x→∃r c,rs[i]? =some r∧hs[i]? =some c∧RecN N Q nx r x∧(x.all=false→c=none):=by
 induction h with
 |nil=>intro i x hx;simp at hx
 |cons h hc _ ih=>
  intro i x hx
  cases i with
  |zero=>simp only [List.getElem?_cons_zero,Option.some.injEq] at hx;subst hx;exact ⟨_,_,rfl,rfl,h,hc⟩
  |succ i=>exact ih i x (by simpa using hx)
theorem idsN_ok {N:Nms} {Q:Nat→Prop} {nx:Nat} (inj:∀a b,a<nx→b<nx→N.ι a=N.ι b→a=b) {rs:List Rec} {hs:List (Option Nat)} {xs:List NR} (h:RecsN N Q nx rs hs xs) (hlt:∀(i j:Nat) ri rj,i<j→rs[i]? =some ri→rs[j]? =some rj→∀id,id∈ri.keys→id<rj.fr) {jn:Nat} (hjn:∀(i:Nat) x,xs[i]? =some x→x.nw=true→i=jn) {dep:List (List Nat)} (hd:idsN xs dep=true):idsOK rs dep=true∧callsN jn rs hs dep=true:=by
 unfold idsN at hd
 unfold idsOK callsN
 simp only [List.all_eq_true,List.mem_range,Bool.or_eq_true] at hd ⊢
 refine ⟨fun j hj i hi=> ?_,fun j hj i hi=> ?_⟩
 ·rcases hd j (by rw [←h.len];exact hj) i hi with h1|h1
  ·exact .inl h1
  ·right
   split at h1
   ·rename_i x y hx hy
    obtain ⟨r,_,hr,_,hrx,_⟩:=h.get i x hx
    obtain ⟨q,_,hq,_,hqy,_⟩:=h.get j y hy
    rw [hr,hq]
    rw [Bool.or_eq_true] at h1
    rcases h1 with h1|h1
    ·exact freeN_ok inj hrx hqy h1
    ·unfold newN at h1
     simp only [Bool.and_eq_true,Bool.not_eq_true'] at h1
     obtain ⟨n1,n2,n3,n4,n5⟩:=h1
     have e1:=hrx.ca n1.1 n1.2
     have e2:q.acc=[]:=by
      rw [List.isEmpty_iff] at n3
      refine List.eq_nil_iff_forall_not_mem.2 fun id hid=> ?_
      obtain ⟨nm,hnm,_⟩:=hqy.acc (hqy.nw n2).1 n4 id hid
      rw [n3] at hnm;simp at hnm
     show idFree r q=true
     unfold idFree
     rw [e1,e2]
     simp only [List.contains_nil,Bool.not_false,Bool.and_true,Bool.true_and,Bool.and_eq_true,List.all_eq_true,Bool.not_eq_true',List.contains_eq_mem,decide_eq_false_iff_not]
     refine ⟨fun id hid=>⟨by simp,fun hc=> ?_⟩,by simp⟩
     have b1:=hlt i j r q hi hr hq id hid
     have b2:=(hqy.nw n2).2 id hc
     omega
   ·simp at h1
 ·rcases hd j (by rw [←h.len];exact hj) i hi with h1|h1
  ·exact .inl h1
  ·right
   split at h1
   ·rename_i x y hx hy
    obtain ⟨r,c,hr,hc,hrx,hrc⟩:=h.get i x hx
    obtain ⟨q,e,hq,he,hqy,hqc⟩:=h.get j y hy
    rw [hr,hq]
    have emp:∀{r:Rec},r.keys=[]→r.ups.isEmpty=true:=fun {r} hk=>by
     unfold Rec.keys at hk
     rw [List.map_eq_nil_iff] at hk
     rw [hk];rfl
    rw [Bool.or_eq_true] at h1
    rcases h1 with h1|h1
    case inr=>
     unfold newN at h1
     simp only [Bool.and_eq_true,Bool.not_eq_true'] at h1
     obtain ⟨n1,n2,n3,n4,n5⟩:=h1
     have ce:=hqc (hqy.nw n2).1
     subst ce
     have hj':isC hs j=false:=by unfold isC;rw [he]
     have ej:=hjn j y hy n2
     have eb:Nat.beq j jn=true:=by rw [ej];exact Nat.beq_refl _
     simp only [hj',eb,n5];simp
    unfold freeN at h1
    cases hxa:x.all with
    |true=>
     rw [hxa,cond_true] at h1
     simp only [Bool.and_eq_true,Bool.not_eq_true'] at h1
     have ce:=hqc h1.1
     subst ce
     have k1:=hqy.nk h1.1 h1.2.2.1
     have:isC hs j=false:=by unfold isC;rw [he]
     simp only [this,emp k1];simp
    |false=>
     rw [hxa,cond_false] at h1
     have cc:=hrc hxa
     subst cc
     have hi:isC hs i=false:=by unfold isC;rw [hc]
     cases hya:y.all with
     |true=>
      rw [hya,cond_true,Bool.and_eq_true,Bool.and_eq_true] at h1
      have k1:=hrx.nk hxa h1.2.1
      simp only [hi,emp k1];simp
     |false=>
      have ce:=hqc hya
      subst ce
      have hj':isC hs j=false:=by unfold isC;rw [he]
      simp only [hi,hj'];simp
   ·simp at h1
theorem gput_map (h:Nat→Option Bk):∀(l:List Nat) (g:Nat→Option Bk) (id:Nat),gput g (l.map fun i=>(i,h i)) id=if id∈l then h id else g id
 |[],g,id=>by simp [gput]
 |a::r,g,id=>by
  rw [List.map_cons,gput,gput_map h r]
  by_cases h1:id∈r<;>by_cases h2:id=a<;>simp [h1,h2]
theorem gput_range (g h:Nat→Option Bk) (K id:Nat):gput g ((List.range K).map fun i=>(i,h i)) id=if id<K then h id else g id:=by
 rw [gput_map];simp only [List.mem_range]
theorem fi_ups {P:Program} {f:FuncId} {as_:List AV} {g g1:Nat→Option Bk} {k k1:Nat} {r:AV} (h:Fi P f as_ g k r g1 k1):Fi P f as_ g k r (gput g ((List.range (max k k1)).map fun i=>(i,g1 i))) (max k k1):=by
 intro E J base vs hG hm hkn hrc
 refine (h E J base vs hG hm hkn hrc).mono ?_
 rintro e w' ⟨v,E',he,hw,hle,hr,hM,hb,hk⟩
 refine ⟨v,E',he,hw,hle,hr, ?_,hb,fun id hid=>by have:=hk id hid;omega⟩
 have:gput g ((List.range (max k k1)).map fun i=>(i,g1 i))=g1:=by
  funext id
  rw [gput_range]
  by_cases hi:id<max k k1
  ·rw [if_pos hi]
  ·rw [if_neg hi]
   have e1:g id=none:=by
    cases hq:g id with
    |none=>rfl
    |some B=>exact absurd (hkn id ((hm.live id).2 ⟨B,hq⟩).1) (by omega)
   have e2:g1 id=none:=by
    cases hq:g1 id with
    |none=>rfl
    |some B=>exact absurd (hk id ((hM.live id).2 ⟨B,hq⟩).1) (by omega)
   rw [e1,e2]
 rw [this];exact hM
def AO.uns:AO→List Nat
 | .pick c _ _=>c.slot
 |ao=>ao.slots
def SS.set (st:SS τ dn) (d:Option Nat) (v:SV τ dn):SS τ dn:=⟨st.rt,st.rm,setT st.t d v,st.m,st.nx⟩
variable [DecidableEq τ]
def hidP (z:Bool):List (Nat×Option (SB τ dn))→List (Nat×Option (SB τ dn))
 |[]=>[]
 |e::r=>bif Bool.xor (Nat.beq e.1 0) z then hidP z r else e::hidP z r
theorem hidP_get {z:Bool}:∀{m:List (Nat×Option (SB τ dn))} {nm:Nat},getS (hidP z m) nm=if Bool.xor (Nat.beq nm 0) z=true then none else getS m nm
 |[],nm=>by simp [hidP,getS]
 |e::r,nm=>by
  have ih:=hidP_get (z:=z) (m:=r) (nm:=nm)
  unfold hidP
  cases hb:Bool.xor (Nat.beq e.1 0) z with
  |true=>
   rw [cond_true,ih,show (e::r)=((e.1,e.2)::r) from rfl,getS_cons]
   by_cases q:nm=e.1
   ·rw [q,if_pos hb,if_pos hb]
   ·rw [if_neg q]
  |false=>
   rw [cond_false,show (e::hidP z r)=((e.1,e.2)::hidP z r) from rfl,getS_cons,ih,show (e::r)=((e.1,e.2)::r) from rfl,getS_cons]
   by_cases q:nm=e.1
   ·rw [q,if_pos rfl,if_pos rfl,hb];simp
   ·rw [if_neg q,if_neg q]
theorem getS_hid {α:Type}:∀{a b:List (Nat×α)} {i:Nat},getS (a++b) i=(match getS a i with|some v=>some v|none=>getS b i)
 |[],b,i=>by simp [getS]
 |e::r,b,i=>by
  have ih:=getS_hid (a:=r) (b:=b) (i:=i)
  rw [List.cons_append,show (e::(r++b))=((e.1,e.2)::(r++b)) from rfl,getS_cons,show (e::r)=((e.1,e.2)::r) from rfl,getS_cons,ih]
  by_cases q:i=e.1
  ·rw [if_pos q,if_pos q]
  ·rw [if_neg q,if_neg q]
def SS.hid (st:SS τ dn):SS τ dn:=⟨st.rt,hidP false st.m++st.rm,st.t,hidP true st.m,st.nx⟩
def aliN (l:List (Nat×Option (SB τ dn))):List (Nat×Option (SB τ dn))→List Nat
 |[]=>[]
 |e::r=>bif (match getS l e.1 with|some (some _)=>true|_=>false) then e.1::aliN l r else aliN l r
def SS.hidN (st:SS τ dn):List Nat:=aliN st.hid.rm st.hid.rm
def disM (rm:List (Nat×Option (SB τ dn))):List (Nat×Option (SB τ dn))→Bool
 |[]=>true
 |e::r=>(getS rm e.1).isNone&&disM rm r
def hidB (hd:Bool) (dep:Option (List (List Nat))) (st:SS τ dn) (vs:List (SV τ dn)):Bool:=dep.isSome&&((hd||SV.frL (fun _=>false) vs)&&disM st.rm (hidP false st.m))
def knoC (C:Cfg τ dn):Arg→Bool
 | .c (.fn f _)=>(C.Δ.any fun c=>Nat.beq c.f f)||C.Ω.any fun c=>Nat.beq c.f f
 |_=>false
def modeB (C:Cfg τ dn) (dep:Option (List (List Nat))) (os:List AOper):Bool:=dep.isNone||(os.any fun o=>match o.ao with
 | .call x _=> !knoC C x
 | .app _ b _ _=>Nat.beq b 24
 |_=>false)||((os.any fun o=>match o.ao with
 | .call (.c (.fn f _)) _=>C.Ω.any fun c=>Nat.beq c.f f
 | .load (some _) _=>true
 | .msl _ b _ _ _=>Nat.beq b 24
 |_=>false)&&os.any fun o=>match o.ao with
 | .store _ _ _=>true
 |_=>false)
def SS.isAr (st:SS τ dn):Bool:=match st.gm 0 with
 |some (.ar _ _)=>true
 |_=>false
def mkNR (B:Bool) (st:SS τ dn) (keys acc:List Nat) (nb:Bool:=false):NR:=⟨keys,acc,B&&(st.isAr&&keys.any (Nat.beq 0)),B&&(st.isAr&&acc.any (Nat.beq 0)),[],nb⟩
def newB (o:AOper) (r:SR τ dn) (rs:List NR):Bool:=(match r with| .new _ _ _=>true|_=>false)&&(isNewO o&&(!(rs.any fun x=>x.nw)))
def SS.sett (st:SS τ dn) (i:Nat) (v:SV τ dn):SS τ dn:=⟨st.rt,st.rm,(i,v)::st.t,st.m,st.nx⟩
def splW (i:Option Nat) (st:SS τ dn) (K:SS τ dn→Prop):Prop:=match i with
 |none=>K st
 |some i=>match st.gt i with
  |some (.vb c)=>(c.tf true→K (st.sett i (.vt true)))∧(c.tf false→K (st.sett i (.vt false)))
  |_=>K st
theorem Rel.sett {D:TD τ dn} {N:Nms} {st:SS τ dn} {s:S3} (R:Rel D N st s) {i:Nat} {c:Cn} (h:st.gt i=some (.vb c)) {b:Bool} (hb:c.den=b):Rel D N (st.sett i (.vt b)) s:=by
 refine ⟨fun N' hN=> ?_,R.inj,R.lt,R.ml,R.rl,R.sp⟩
 have A:=R.at_ N' hN
 refine ⟨fun j v hv=> ?_,A.rs,A.bl,A.rb,A.ar⟩
 simp only [SS.sett,getS_cons] at hv
 split at hv
 ·rename_i e
  simp only [Option.some.injEq] at hv
  subst hv;subst e
  rw [A.gt h]
  simp only [SV.av,hb]
 ·exact A.sl j v hv
theorem splW_ok {D:TD τ dn} {N:Nms} {i:Option Nat} {st:SS τ dn} {s:S3} {K:SS τ dn→Prop} (R:Rel D N st s) (h:splW i st K):∃st',Rel D N st' s∧st'.rt=st.rt∧st'.rm=st.rm∧st'.nx=st.nx∧K st':=by
 unfold splW at h
 split at h
 ·exact ⟨st,R,rfl,rfl,rfl,h⟩
 ·split at h
  ·rename_i j c hc
   cases hd:c.den with
   |true=>exact ⟨_,R.sett hc hd,rfl,rfl,rfl,h.1 ((Cn.tf_iff c true).2 hd)⟩
   |false=>exact ⟨_,R.sett hc hd,rfl,rfl,rfl,h.2 ((Cn.tf_iff c false).2 hd)⟩
  ·exact ⟨st,R,rfl,rfl,rfl,h⟩
def gdI (C:Cfg τ dn) (st:SS τ dn) (o:AOper):Option Nat:=match o.guard with
 |some (i,_)=>match st.gt i with
  |some (.vb _)=>match o.ao with
   | .call _ _=>match opR C (st.unw o.ao.uns) o.ao with
    |some _=>none
    |none=>some i
   |_=>none
  |_=>none
 |none=>none
def gdW (C:Cfg τ dn) (st:SS τ dn) (o:AOper) (os:List AOper) (K:SS τ dn→Prop):Prop:=match gdI C st o with
 |none=>K st
 |some i=>match o.guard with
  |some (_,w)=>match st.gt i with
   |some (.vb c)=>((c.pol w).tf true→obl (unwO (st.sett i (.vt w)) (c.pol w) ((o::os).flatMap fun o=>o.ao.uns)) (K ((st.sett i (.vt w)).unw ((o::os).flatMap fun o=>o.ao.uns))))∧((c.pol w).tf false→K (st.sett i (.vt !w)))
   |_=>K st
  |none=>K st
theorem gdI_none {C:Cfg τ dn} {st:SS τ dn} {o:AOper} (h:(∀e,st.gd o.guard≠ .cnd e)∨∃r,opR C (st.unw o.ao.uns) o.ao=some r):gdI C st o=none:=by
 unfold gdI
 split
 ·rename_i i w hg
  split
  ·rename_i c hc
   split
   ·rename_i x args hao
    split
    ·rfl
    ·rename_i hn
     rcases h with h|⟨r,h⟩
     ·exact absurd (by rw [hg];simp only [SS.gd,hc]) (h (c.pol w))
     ·rw [h] at hn;cases hn
   ·rfl
  ·rfl
 ·rfl
def wpOps (C:Cfg τ dn) (n:Nat) (dep:Option (List (List Nat))) (B:Bool):List AOper→List NR→SS τ dn→(SS τ dn→Prop)→Prop
 |[],rs,st,K=>match dep with
  |none=>K st
  |some d=>bif idsN rs d then K st else False
 |o::os,rs,st,K=>tkW C.D (bif B then needs C.D st o.ao else []) st fun st=>gdW C st o os fun st=>bif dstS n st.rt o.dst then (match st.gd o.guard with
  | .yes=>match opR C st o.ao with
   |some (r,ns)=>obl r.O (wpOps C n dep B os (rs++[mkNR B st (r.keys st) ns (newB o r rs&& !(mkNR B st (r.keys st) ns).all)]) (r.st st o.dst) K)
   |none=>match o.ao with
    | .call x args=>match calleeS st x args with
     |some (f,vs)=>bif B then (bif hidB C.hd dep st vs then C.J f vs st.hid fun v st1=>wpOps C n dep B os (rs++[⟨[],[],true,false,st.hidN,false⟩]) ⟨st.rt,st.rm,setT st.t o.dst v,st1.m++hidP false st.m,st1.nx⟩ K else C.J f vs st fun v st1=>wpOps C n dep B os (rs++[⟨[],[],true,false,[],false⟩]) ⟨st.rt,st.rm,setT st.t o.dst v,st1.m,st1.nx⟩ K) else False
     |none=>False
    |_=>False
  | .no=>wpOps C n dep B os (rs++[⟨[],[],false,false,[],false⟩]) (st.set o.dst (.vo undef)) K
  | .cnd e=>match opR C (st.unw o.ao.uns) o.ao with
   |some (.val O v,ns)=>obl (unwO st e o.ao.uns++O.map fun p=>e.tf true→p) (wpOps C n dep B os (rs++[mkNR B st [] ns]) (st.set o.dst (.vg true e v)) K)
   |_=>False
  | .bad=>False) else False
structure ModeQ (B:Bool) (Q:Nat→Prop) (N:Nms) (st:SS τ dn) (s:S3):Prop where
 q0:B=true→∀id,¬Q id
 qa:∀nm X,(getS st.m nm=some (some X)∨getS st.rm nm=some (some X))→¬Q (N.ι nm)
 qb:B=false→∀id,isRow st id→Q id
 qk:∀id,Q id→id<s.k
theorem ModeQ.triv {Q:Nat→Prop} {N:Nms} {st:SS τ dn} {s:S3} (h:∀id,¬Q id):ModeQ true Q N st s:=⟨fun _=>h,fun _ _ _=>h _,fun hh=>by simp at hh,fun id hid=>absurd hid (h id)⟩
theorem gdW_ok {C:Cfg τ dn} {B:Bool} {Q:Nat→Prop} {N:Nms} {o:AOper} {os:List AOper} {st:SS τ dn} {s:S3} {K:SS τ dn→Prop} (R:Rel C.D N st s) (M:ModeQ B Q N st s) (h:gdW C st o os K):∃st',Rel C.D N st' s∧ModeQ B Q N st' s∧st'.rt=st.rt∧st'.rm=st.rm∧st'.nx=st.nx∧K st':=by
 unfold gdW at h
 split at h
 ·exact ⟨st,R,M,rfl,rfl,rfl,h⟩
 ·rename_i i _
  split at h
  ·rename_i _ w _
   split at h
   ·rename_i c hc
    cases hd:(c.pol w).den with
    |true=>
     have hcd:c.den=w:=by cases w<;>simpa [Cn.pol,Cn.den] using hd
     have R1:=R.sett hc hcd
     have h1:=(obl_iff.1 (h.1 ((Cn.tf_iff _ true).2 hd)))
     exact ⟨(st.sett i (.vt w)).unw ((o::os).flatMap fun o=>o.ao.uns),⟨fun N' hN=>unw_ok (R1.at_ N' hN) hd h1.1,R1.inj,R1.lt,R1.ml,R1.rl,R1.sp⟩,⟨M.q0,M.qa,M.qb,M.qk⟩,rfl,rfl,rfl,h1.2⟩
    |false=>
     have hcd:c.den= !w:=by cases w<;>simpa [Cn.pol,Cn.den] using hd
     exact ⟨_,R.sett hc hcd,⟨M.q0,M.qa,M.qb,M.qk⟩,rfl,rfl,rfl,h.2 ((Cn.tf_iff _ false).2 hd)⟩
   ·exact ⟨st,R,M,rfl,rfl,rfl,h⟩
  ·exact ⟨st,R,M,rfl,rfl,rfl,h⟩
theorem SR.alive_st {D:TD τ dn} {N:Nms} {st:SS τ dn} {d:Option Nat} {r:SR τ dn} (hm:r.may D N st) {nm:Nat} {X:SB τ dn} (h:getS (r.st st d).m nm=some (some X)∨getS (r.st st d).rm nm=some (some X)):(nm=st.nx∧r.nx st=st.nx+1)∨∃X',getS st.m nm=some (some X')∨getS st.rm nm=some (some X'):=by
 have hrm:(r.st st d).rm=st.rm:=by cases r<;>rfl
 rw [hrm] at h
 rcases h with h|h
 case inr=>exact .inr ⟨X, .inr h⟩
 cases r with
 |val O v=>exact .inr ⟨X, .inl h⟩
 |new O v B=>
  simp only [SR.st,getS_cons] at h
  by_cases hn:nm=st.nx
  ·exact .inl ⟨hn,rfl⟩
  ·rw [if_neg hn] at h;exact .inr ⟨X, .inl h⟩
 |put O v nm0 B=>
  simp only [SR.st,getS_cons] at h
  by_cases hn:nm=nm0
  ·subst hn;obtain ⟨⟨B0,hB0,_⟩,_⟩:=hm;exact .inr ⟨B0, .inl hB0⟩
  ·rw [if_neg hn] at h;exact .inr ⟨X, .inl h⟩
 |mov O v old B=>
  simp only [SR.st,getS_cons] at h
  by_cases hn:nm=st.nx
  ·exact .inl ⟨hn,rfl⟩
  ·rw [if_neg hn] at h
   by_cases ho:nm=old
   ·rw [if_pos ho] at h;simp at h
   ·rw [if_neg ho] at h;exact .inr ⟨X, .inl h⟩
 |kil O v ns=>
  rcases getS_nones h with ⟨_,h2⟩|⟨_,h2⟩
  ·simp at h2
  ·exact .inr ⟨X, .inl h2⟩
 |rput O v id t row A=>
  simp only [SR.st,getS_cons] at h
  by_cases hn:nm=0
  ·subst hn;exact .inr ⟨_, .inl hm.1⟩
  ·rw [if_neg hn] at h;exact .inr ⟨X, .inl h⟩
theorem SR.row_st {D:TD τ dn} {N:Nms} {st:SS τ dn} {d:Option Nat} {r:SR τ dn} (hm:r.may D N st) {id:Nat} (h:isRow (r.st st d) id):isRow st id:=by
 obtain ⟨t,A,h,hid⟩:=h
 have keep:∀{x:SS τ dn} {nm0:Nat} {B:Option (SB τ dn)} {t':List (Nat×SV τ dn)} {m:List (Nat×Option (SB τ dn))} {nx:Nat},(⟨st.rt,st.rm,t',(nm0,B)::m,nx⟩:SS τ dn).gm 0=some (.ar t A)→(∀b,B=some b→b.isA=false)→(⟨st.rt,st.rm,st.t,m,st.nx⟩:SS τ dn).gm 0=some (.ar t A):=fun {x nm0 B t' m nx} h hB=>by
  rw [gm_cons (rt':=st.rt) (t':=st.t) (nx':=st.nx)] at h
  by_cases h0:0=nm0
  ·rw [if_pos h0] at h;have:=hB _ h;simp [SB.isA] at this
  ·rw [if_neg h0] at h;exact h
 cases r with
 |val O v=>exact ⟨t,A,h,hid⟩
 |new O v B=>exact ⟨t,A,keep (x:=st) h (fun b hb=>by simp only [Option.some.injEq] at hb;subst hb;exact hm),hid⟩
 |put O v nm0 B=>exact ⟨t,A,keep (x:=st) h (fun b hb=>by simp only [Option.some.injEq] at hb;subst hb;exact hm.2.2),hid⟩
 |mov O v old B=>
  have h1:=keep (x:=st) h (fun b hb=>by simp only [Option.some.injEq] at hb;subst hb;exact hm.2.2)
  exact ⟨t,A,keep (x:=st) h1 (fun b hb=>by simp at hb),hid⟩
 |kil O v ns=>
  refine ⟨t,A, ?_,hid⟩
  have hh:∀(l:List Nat),(⟨st.rt,st.rm,st.t,(l.map fun a=>(a,(none:Option (SB τ dn))))++st.m,st.nx⟩:SS τ dn).gm 0=some (.ar t A)→st.gm 0=some (.ar t A):=by
   intro l
   induction l with
   |nil=>exact fun h=>h
   |cons a l ih=>
    intro h
    rw [List.map_cons,List.cons_append] at h
    exact ih (keep (x:=st) h (fun b hb=>by simp at hb))
  exact hh ns h
 |rput O v id0 t0 row A0=>
  simp only [SR.st] at h
  rw [gm_cons (rt':=st.rt) (t':=st.t) (nx':=st.nx),if_pos rfl,Option.some.injEq] at h
  simp only [SB.ar.injEq] at h
  obtain ⟨rfl,h⟩:=h
  have h:=eq_of_heq h
  subst h
  refine ⟨t0,A0,gm_m hm.1, ?_⟩
  rcases hasA_cons.1 hid with hh|hh
  ·subst hh;exact hm.2.2
  ·exact hh
theorem live_gm {st:SS τ dn} {nm:Nat} (h:st.live nm=true):nm<st.nx∧∃X,getS st.m nm=some (some X)∨getS st.rm nm=some (some X):=by
 unfold SS.live at h
 rw [Bool.and_eq_true] at h
 obtain ⟨B,hB⟩:=Option.isSome_iff_exists.1 h.2
 exact ⟨Nat.le_of_ble_eq_true h.1,B,gm_alive hB⟩
theorem isRow_ar {st:SS τ dn} {id:Nat} (h:isRow st id):st.isAr=true:=by
 obtain ⟨t,A,h,_⟩:=h
 unfold SS.isAr;rw [h]
theorem any0 {l:List Nat} (h:0∈l):l.any (Nat.beq 0)=true:=List.any_eq_true.2 ⟨0,h,rfl⟩
theorem rec_acc {B:Bool} {Q:Nat→Prop} {N:Nms} {st:SS τ dn} {s:S3} (M:ModeQ B Q N st s) {keys acc:List Nat} (ha:(mkNR B st keys acc).ra=false) {id nm:Nat} (hn:nm∈acc) (hl:st.live nm=true) (h:id=N.ι nm∨(nm=0∧isRow st id)):NmQ N Q nm id:=by
 rcases h with h|⟨rfl,h⟩
 ·obtain ⟨_,X,hX⟩:=live_gm hl
  exact .inl ⟨h,by rw [h];exact M.qa nm X hX⟩
 ·cases B with
  |false=>exact .inr ⟨rfl,M.qb rfl id h⟩
  |true=>
   simp only [mkNR,isRow_ar h,any0 hn,Bool.and_true] at ha
   simp at ha
theorem aliN_mem {l:List (Nat×Option (SB τ dn))}:∀{m:List (Nat×Option (SB τ dn))} {nm:Nat},nm∈aliN l m→∃B,getS l nm=some (some B)
 |[],nm,h=>by simp [aliN] at h
 |e::r,nm,h=>by
  have go:nm∈aliN l r→∃B,getS l nm=some (some B):=aliN_mem
  unfold aliN at h
  cases hb:(match getS l e.1 with|some (some _)=>true|_=>false) with
  |false=>rw [hb,cond_false] at h;exact go h
  |true=>
   rw [hb,cond_true] at h
   rcases List.mem_cons.1 h with rfl|h
   ·split at hb
    ·rename_i B hB;exact ⟨B,hB⟩
    ·cases hb
   ·exact go h
theorem disM_ok {rm:List (Nat×Option (SB τ dn))}:∀{m:List (Nat×Option (SB τ dn))} {nm:Nat} {v:Option (SB τ dn)},disM rm m=true→getS m nm=some v→getS rm nm=none
 |[],nm,v,_,h=>by simp [getS] at h
 |e::r,nm,v,hd,h=>by
  unfold disM at hd
  rw [Bool.and_eq_true] at hd
  rw [show (e::r)=((e.1,e.2)::r) from rfl,getS_cons] at h
  by_cases q:nm=e.1
  ·rw [q];exact Option.isNone_iff_eq_none.1 hd.1
  ·rw [if_neg q] at h;exact disM_ok hd.2 h
theorem hidP_al {z:Bool} {m:List (Nat×Option (SB τ dn))} {nm:Nat} {v:Option (SB τ dn)} (h:getS (hidP z m) nm=some v):getS m nm=some v∧Bool.xor (Nat.beq nm 0) z=false:=by
 rw [hidP_get] at h
 split at h
 ·cases h
 ·rename_i q;exact ⟨h,by simpa using q⟩
theorem hid_step {C:Cfg τ dn} (hC:C.Ok) {n:Nat} {dep:Option (List (List Nat))} {Q:Nat→Prop} {o:AOper} {os:List AOper} {xs:List NR} {st:SS τ dn} {K:SS τ dn→Prop} {N:Nms} {s:S3} (R:Rel C.D N st s) (M:ModeQ true Q N st s)
  (g1:st.gd o.guard= .yes→guardA s.σ o.guard=some true) (hgd:st.gd o.guard= .yes) {x:Arg} {args:List Arg} (hao:o.ao= .call x args) (hd:dstS n st.rt o.dst=true) {f:FuncId} {vs:List (SV τ dn)} (hcal:calleeS st x args=some (f,vs)) (hargs:∀N',N.agree st.nx N'→vs.map (SV.av C.D.toTE N')=vs.map (SV.av C.D.toTE N)) (hh:hidB C.hd dep st vs=true)
  (h:C.J f vs st.hid fun v st1=>wpOps C n dep true os (xs++[⟨[],[],true,false,st.hidN,false⟩]) ⟨st.rt,st.rm,setT st.t o.dst v,st1.m++hidP false st.m,st1.nx⟩ K):
  (∃val ups acc x st0' N',OpRun C.P s.σ s.g s.k o val ups acc∧wpOps C n dep true os (xs++[x]) st0' K∧N.agree st.nx N'∧st.nx≤st0'.nx∧RecN N' Q st0'.nx ⟨o.dst,val,ups,acc,s.k⟩ x∧(x.nw=true→isNewO o=true∧(xs.any fun x=>x.nw)=false)∧(st0'.rt=st.rt∧st0'.rm=st.rm)∧∃k1,s.k≤k1∧(∀id,id∈ups.map Prod.fst→id<k1)∧Rel C.D N' st0' ⟨putσ n o.dst val s.σ,gput s.g ups,k1⟩∧ModeQ true Q N' st0' ⟨putσ n o.dst val s.σ,gput s.g ups,k1⟩)∨
  ∃f as_ r ups k1 st0' N',guardA s.σ o.guard=some true∧o.ao.allocs=false∧(o.ao.sem s.k (argσ s.σ)).run s.g=some (.call f as_)∧callable C.P f=true∧Fi C.P f as_ s.g s.k r (gput s.g ups) k1∧(s.k≤k1∧∀id,id∈ups.map Prod.fst→id<k1)∧(∃ex,(∀nm,nm∈ex→nm<st0'.nx∧∀id,id∈ups.map Prod.fst→¬NmQ N' Q nm id)∧wpOps C n dep true os (xs++[⟨[],[],true,false,ex,false⟩]) st0' K)∧N.agree st.nx N'∧st.nx≤st0'.nx∧(st0'.rt=st.rt∧st0'.rm=st.rm)∧Rel C.D N' st0' ⟨putσ n o.dst r s.σ,gput s.g ups,k1⟩∧ModeQ true Q N' st0' ⟨putσ n o.dst r s.σ,gput s.g ups,k1⟩:=by
 have hdm:disM st.rm (hidP false st.m)=true:=by
  unfold hidB at hh
  rw [Bool.and_eq_true,Bool.and_eq_true] at hh
  exact hh.2.2
 have halv:∀nm B,st.hid.alv nm B→st.alv nm B:=fun nm B hB=>by
  rcases hB with hB|hB
  ·exact .inl (hidP_al hB).1
  ·simp only [SS.hid,getS_hid] at hB
   split at hB
   ·rename_i v hv
    rw [hB] at hv
    exact .inl (hidP_al hv).1
   ·exact .inr hB
 have hm0:∀nm v,getS st.hid.rm nm=some v→getS st.m nm=some v∨getS st.rm nm=some v:=fun nm v hv=>by
  simp only [SS.hid,getS_hid] at hv
  split at hv
  ·rename_i w hw
   rw [hv] at hw
   exact .inl (hidP_al hw).1
  ·exact .inr hv
 have Rh:Rel C.D N st.hid s:=by
  refine ⟨fun N' hN=> ?_,R.inj,R.lt,fun nm B hB=>R.ml nm B (hidP_al hB).1,fun nm B hB=> ?_,fun t A h id hid=> ?_⟩
  ·have A:=R.at_ N' hN
   refine ⟨A.sl,A.rs,fun nm B hB=>A.bl nm B (hidP_al hB).1,fun nm B hB=> ?_,fun t X hX id hid=>A.ar t X (halv 0 _ hX) id hid⟩
   rcases hm0 nm _ hB with q|q
   ·exact A.bl nm B q
   ·exact A.rb nm B q
  ·rcases hm0 nm _ hB with q|q
   ·exact R.ml nm B q
   ·exact R.rl nm B q
  ·obtain ⟨q1,q2⟩:=R.sp t A (halv 0 _ h) id hid
   exact ⟨q1,fun nm B hB=>q2 nm B (halv nm B hB)⟩
 have hc0:=calleeS_ok R.here hcal s.k
 obtain ⟨h1,g1',k1,N',v,st1,h2,h3,h4,h5,h6,h7⟩:=hC.inl Rh hargs h
 have hgp0:∀id,id<k1→gput s.g ((List.range (max s.k k1)).map fun i=>(i,g1' i)) id=g1' id:=fun id hid=>by rw [gput_range,if_pos (by omega)]
 have hu:gput s.g (((List.range (max s.k k1)).filter fun i=> !(st.hidN.map N'.ι).contains i).map fun i=>(i,g1' i))=gput s.g ((List.range (max s.k k1)).map fun i=>(i,g1' i)):=by
  funext id
  rw [gput_map,gput_map]
  simp only [List.mem_filter]
  by_cases q1:id∈List.range (max s.k k1)
  ·by_cases q2:(st.hidN.map N'.ι).contains id=true
   ·rw [if_neg (by rw [q2];simp),if_pos q1]
    obtain ⟨nm,hn,rfl⟩:=List.mem_map.1 (List.contains_iff_mem.1 q2)
    obtain ⟨B,hB⟩:=aliN_mem hn
    exact ((Rh.at_ N' h4).rb nm B hB).1.trans (h6.here.rb nm B hB).1.symm
   ·rw [if_pos ⟨q1,by simpa using q2⟩,if_pos q1]
  ·rw [if_neg (fun q=>q1 q.1),if_neg q1]
 have halv9:∀nm B,(getS (st1.m++hidP false st.m) nm=some (some B)∨getS st.rm nm=some (some B))→(getS st1.m nm=some (some B)∨getS st.hid.rm nm=some (some B)):=fun nm B hB=>by
  rcases hB with hB|hB
  ·rw [getS_hid] at hB
   split at hB
   ·rename_i w hw
    rw [hB] at hw;exact .inl hw
   ·exact .inr (by simp only [SS.hid,getS_hid,hB])
  ·right
   simp only [SS.hid,getS_hid]
   split
   ·rename_i w hw
    rw [disM_ok hdm hw] at hB;cases hB
   ·exact hB
 refine .inr ⟨f,_,_,_,max s.k k1,_,N',g1 hgd,by rw [hao];rfl,by rw [hao];exact hc0,h1,by rw [hu];exact fi_ups h2,⟨Nat.le_max_left _ _,fun id hid=> ?_⟩,⟨st.hidN,fun nm hn=> ?_,h7⟩,h4,h5,⟨rfl,rfl⟩, ?_,ModeQ.triv (M.q0 rfl)⟩
 ·rw [List.map_map] at hid
  obtain ⟨i,hi,rfl⟩:=List.mem_map.1 hid
  exact List.mem_range.1 (List.mem_filter.1 hi).1
 ·obtain ⟨B,hB⟩:=aliN_mem hn
  refine ⟨h6.rl nm _ hB,fun id hid hq=> ?_⟩
  rcases hq with ⟨hq,_⟩|⟨_,hq⟩
  ·rw [List.map_map] at hid
   obtain ⟨i,hi,rfl⟩:=List.mem_map.1 hid
   have hi2:=(List.mem_filter.1 hi).2
   simp only [Function.comp_apply] at hq
   subst hq
   have hq:(st.hidN.map N'.ι).contains (N'.ι nm)=true:=List.contains_iff_mem.2 (List.mem_map_of_mem hn)
   rw [hq] at hi2
   simp at hi2
  ·exact M.q0 rfl id hq
 ·rw [hu]
  refine ⟨fun N'' hN=> ?_,h6.inj,fun a ha=>Nat.lt_of_lt_of_le (h6.lt a ha) (Nat.le_max_right _ _),fun nm B hB=> ?_,fun nm B hB=> ?_,fun t A hg id hid=> ?_⟩
  ·have A:=h6.at_ N'' hN
   have A0:=R.at_ N'' (Nms.agree_trans h4 hN h5)
   obtain ⟨q1,q2⟩:=set_slot (D:=C.D) (n:=n) (v:=v) (a:=v.av C.D.toTE N') hd A0.sl A0.rs (h3 N'' hN).symm
   have hlt:∀nm,nm<st1.nx→N''.ι nm<k1:=fun nm hn=>by rw [(hN.1 nm hn).1];exact h6.lt nm hn
   have hb:∀nm B,(getS (st1.m++hidP false st.m) nm=some (some B)∨getS st.rm nm=some (some B))→gput s.g ((List.range (max s.k k1)).map fun i=>(i,g1' i)) (N''.ι nm)=some (B.av C.D.toTE N'')∧N''.ln nm=B.len:=fun nm B hB=>by
    rcases halv9 nm B hB with hB|hB
    ·exact ⟨(hgp0 _ (hlt nm (h6.ml nm _ hB))).trans (A.bl nm B hB).1,(A.bl nm B hB).2⟩
    ·exact ⟨(hgp0 _ (hlt nm (h6.rl nm _ hB))).trans (A.rb nm B hB).1,(A.rb nm B hB).2⟩
   exact ⟨q1,q2,fun nm B hB=>hb nm B (.inl hB),fun nm B hB=>hb nm B (.inr hB),fun t A' hg id hid=>(hgp0 _ (h6.sp t A' (halv9 0 _ hg) id hid).1).trans (A.ar t A' (halv9 0 _ hg) id hid)⟩
  ·simp only [getS_hid] at hB
   split at hB
   ·rename_i w hw;exact h6.ml nm w hw
   ·exact Nat.lt_of_lt_of_le (R.ml nm B (hidP_al hB).1) h5
  ·exact Nat.lt_of_lt_of_le (R.rl nm B hB) h5
  ·obtain ⟨q1,q2⟩:=h6.sp t A (halv9 0 _ hg) id hid
   exact ⟨Nat.lt_of_lt_of_le q1 (Nat.le_max_right _ _),fun nm B hB=>q2 nm B (halv9 nm B hB)⟩
theorem op_step {C:Cfg τ dn} (hC:C.Ok) {n:Nat} {dep:Option (List (List Nat))} {B:Bool} {Q:Nat→Prop} {o:AOper} {os:List AOper} {xs:List NR} {st0:SS τ dn} {K:SS τ dn→Prop} {N:Nms} {s:S3} (R0:Rel C.D N st0 s) (M0:ModeQ B Q N st0 s) (h9:wpOps C n dep B (o::os) xs st0 K):
  (∃val ups acc x st0' N',OpRun C.P s.σ s.g s.k o val ups acc∧wpOps C n dep B os (xs++[x]) st0' K∧N.agree st0.nx N'∧st0.nx≤st0'.nx∧RecN N' Q st0'.nx ⟨o.dst,val,ups,acc,s.k⟩ x∧(x.nw=true→isNewO o=true∧(xs.any fun x=>x.nw)=false)∧(st0'.rt=st0.rt∧st0'.rm=st0.rm)∧∃k1,s.k≤k1∧(∀id,id∈ups.map Prod.fst→id<k1)∧Rel C.D N' st0' ⟨putσ n o.dst val s.σ,gput s.g ups,k1⟩∧ModeQ B Q N' st0' ⟨putσ n o.dst val s.σ,gput s.g ups,k1⟩)∨
  ∃f as_ r ups k1 st0' N',guardA s.σ o.guard=some true∧o.ao.allocs=false∧(o.ao.sem s.k (argσ s.σ)).run s.g=some (.call f as_)∧callable C.P f=true∧Fi C.P f as_ s.g s.k r (gput s.g ups) k1∧(s.k≤k1∧∀id,id∈ups.map Prod.fst→id<k1)∧(∃ex,(∀nm,nm∈ex→nm<st0'.nx∧∀id,id∈ups.map Prod.fst→¬NmQ N' Q nm id)∧wpOps C n dep B os (xs++[⟨[],[],true,false,ex,false⟩]) st0' K)∧N.agree st0.nx N'∧st0.nx≤st0'.nx∧(st0'.rt=st0.rt∧st0'.rm=st0.rm)∧Rel C.D N' st0' ⟨putσ n o.dst r s.σ,gput s.g ups,k1⟩∧ModeQ B Q N' st0' ⟨putσ n o.dst r s.σ,gput s.g ups,k1⟩:=by
 have h:=h9
 simp only [wpOps] at h
 have h0:∃st2,Rel C.D N st2 s∧ModeQ B Q N st2 s∧st2.rt=st0.rt∧st2.rm=st0.rm∧st2.nx=st0.nx∧(bif dstS n st2.rt o.dst then (match st2.gd o.guard with
  | .yes=>match opR C st2 o.ao with
   |some (r,ns)=>obl r.O (wpOps C n dep B os (xs++[mkNR B st2 (r.keys st2) ns (newB o r xs&& !(mkNR B st2 (r.keys st2) ns).all)]) (r.st st2 o.dst) K)
   |none=>match o.ao with
    | .call x args=>match calleeS st2 x args with
     |some (f,vs)=>bif B then (bif hidB C.hd dep st2 vs then C.J f vs st2.hid fun v st1=>wpOps C n dep B os (xs++[⟨[],[],true,false,st2.hidN,false⟩]) ⟨st2.rt,st2.rm,setT st2.t o.dst v,st1.m++hidP false st2.m,st1.nx⟩ K else C.J f vs st2 fun v st1=>wpOps C n dep B os (xs++[⟨[],[],true,false,[],false⟩]) ⟨st2.rt,st2.rm,setT st2.t o.dst v,st1.m,st1.nx⟩ K) else False
     |none=>False
    |_=>False
  | .no=>wpOps C n dep B os (xs++[⟨[],[],false,false,[],false⟩]) (st2.set o.dst (.vo undef)) K
  | .cnd e=>match opR C (st2.unw o.ao.uns) o.ao with
   |some (.val O v,ns)=>obl (unwO st2 e o.ao.uns++O.map fun p=>e.tf true→p) (wpOps C n dep B os (xs++[mkNR B st2 [] ns]) (st2.set o.dst (.vg true e v)) K)
   |_=>False
  | .bad=>False) else False):=by
  cases B with
  |false=>
   simp only [cond_false,tkW] at h
   exact gdW_ok R0 M0 h
  |true=>
   obtain ⟨st2,q1,q2,q3,q4,q5⟩:=tkW_ok hC.ok R0 h
   obtain ⟨st3,p1,p2,p3,p4,p5,p6⟩:=gdW_ok q1 (ModeQ.triv (M0.q0 rfl)) q5
   exact ⟨st3,p1,p2,p3.trans q2,p4.trans q3,p5.trans q4,p6⟩
 clear h
 obtain ⟨st,R,M,z1,z2,z3,h⟩:=h0
 rw [←z1, ←z2, ←z3]
 clear z1 z2 z3
 clear R0 M0 h9 st0
 cases hd:dstS n st.rt o.dst with
 |false=>rw [hd] at h;exact h.elim
 |true=>
  rw [hd,cond_true] at h
  obtain ⟨g1,g2,g3⟩:=gd_ok R.here (x:=o.guard)
  split at h
  ·rename_i hgd
   split at h
   ·rename_i r ns hr
    rw [obl_iff] at h
    obtain ⟨hO,h⟩:=h
    obtain ⟨val,ups,acc,e1,e2,e3,e4,e5⟩:=opR_ok hC R.at_ (g1 hgd) hr hO
    have hgo:=R.go hd e4 (val:=val) (ups:=ups) (fun N' hN=>(e2 N' (by rw [SR.st_nx] at hN;exact hN)).1) (fun N' hN=>(e2 N' (by rw [SR.st_nx] at hN;exact hN)).2)
    have hag:N.agree st.nx (r.up N st s.k):=by
     cases r<;>first|exact N.agree_refl _|exact N.upd_agree _ _ _
    have hnx:st.nx≤(r.st st o.dst).nx:=by rw [SR.st_nx];cases r<;>simp [SR.nx]
    have hu:=(e2 _ (Nms.agree_refl (r.nx st) (r.up N st s.k))).2
    have hkk:s.k≤r.k1 s.k:=by cases r<;>simp [SR.k1]
    have hMo:∀nm X,nm<st.nx→(getS st.m nm=some (some X)∨getS st.rm nm=some (some X))→¬Q ((r.up N st s.k).ι nm):=fun nm X hn hX=>by rw [(hag.1 nm hn).1];exact M.qa nm X hX
    have hfresh:r.nx st=st.nx+1→¬Q ((r.up N st s.k).ι st.nx):=fun hx hq=>by
     have:=M.qk _ hq
     cases r with
     |new O v B'=>simp only [SR.up,Nms.upd,if_true] at this;omega
     |mov O v old B'=>simp only [SR.up,Nms.upd,if_true] at this;omega
     |_=>simp [SR.nx] at hx
    have hM':ModeQ B Q (r.up N st s.k) (r.st st o.dst) ⟨putσ n o.dst val s.σ,gput s.g ups,r.k1 s.k⟩:=by
     refine ⟨M.q0,fun nm X hX=> ?_,fun hB id hid=>M.qb hB id (SR.row_st e4 hid),fun id hid=>Nat.lt_of_lt_of_le (M.qk id hid) hkk⟩
     rcases SR.alive_st e4 hX with ⟨h1,h2⟩|⟨X',h1⟩
     ·rw [h1];exact hfresh h2
     ·refine hMo nm X' ?_ h1
      rcases h1 with h1|h1
      ·exact R.ml nm _ h1
      ·exact R.rl nm _ h1
    refine .inl ⟨val,ups,acc,_,_,_,e1,h,hag,hnx,⟨fun ha id hid=> ?_,fun _ ha id hid=> ?_,fun nm hn=> ?_,fun nm hn=>Nat.lt_of_lt_of_le (live_gm (e5 nm hn)).1 hnx,fun nm hn=>by simp [mkNR] at hn,fun hn=> ?_,fun ha hk=> ?_⟩,fun hn=> ?_,⟨by cases r<;>rfl,by cases r<;>rfl⟩,r.k1 s.k,hkk,fun id hid=> ?_,hgo,hM'⟩
    ·have hid:id∈ups.map Prod.fst:=hid
     rw [hu] at hid
     cases r with
     |val O v=>simp [SR.ups] at hid
     |new O v B'=>
      simp only [SR.ups,List.map_cons,List.map_nil,List.mem_singleton] at hid
      subst hid
      refine ⟨st.nx,by simp [mkNR,SR.keys], .inl ⟨by simp [SR.up,Nms.upd],fun hq=> ?_⟩⟩
      have:=M.qk _ hq;omega
     |put O v nm B'=>
      simp only [SR.ups,SR.up,List.map_cons,List.map_nil,List.mem_singleton] at hid
      obtain ⟨⟨B0,hB0,_⟩,_⟩:=e4
      exact ⟨nm,by simp [mkNR,SR.keys], .inl ⟨hid,by rw [hid];exact M.qa nm _ (.inl hB0)⟩⟩
     |kil O v ns'=>
      simp only [SR.ups,SR.up,List.map_map,List.mem_map,Function.comp_apply] at hid
      obtain ⟨a,ha',rfl⟩:=hid
      obtain ⟨⟨B0,hB0⟩,_⟩:=e4 a ha'
      exact ⟨a,ha', .inl ⟨rfl,M.qa a _ (.inl hB0)⟩⟩
     |mov O v old B'=>
      obtain ⟨⟨B0,hB0⟩,_⟩:=e4
      have hlo:=R.ml old _ hB0
      simp only [SR.ups,List.map_cons,List.map_nil,List.mem_cons,List.not_mem_nil,or_false] at hid
      rcases hid with hid|hid
      ·exact ⟨old,by simp [mkNR,SR.keys], .inl ⟨hid,by rw [hid];exact hMo old _ hlo (.inl hB0)⟩⟩
      ·subst hid
       refine ⟨st.nx,by simp [mkNR,SR.keys], .inl ⟨by simp [SR.up,Nms.upd],fun hq=> ?_⟩⟩
       have:=M.qk _ hq;omega
     |rput O v id0 t row A=>
      simp only [SR.ups,List.map_cons,List.map_nil,List.mem_singleton] at hid
      subst hid
      have hrow:isRow st id:=⟨t,A,gm_m e4.1,e4.2.2⟩
      cases B with
      |false=>exact ⟨0,by simp [mkNR,SR.keys], .inr ⟨rfl,M.qb rfl id hrow⟩⟩
      |true=>
       simp only [mkNR,SR.keys,isRow_ar hrow,any0 (List.mem_singleton.2 rfl),Bool.and_true] at ha
       simp at ha
    ·obtain ⟨nm,q1,q2⟩:=e3 id hid
     exact ⟨nm,q1,(rec_acc (keys:=r.keys st) M ha q1 (e5 nm q1) q2).step hag (live_gm (e5 nm q1)).1⟩
    ·rw [SR.st_nx]
     have hn:nm∈r.keys st:=hn
     cases r with
     |val O v=>simp [SR.keys] at hn
     |new O v B'=>simp only [SR.keys,List.mem_singleton] at hn;simp only [SR.nx];omega
     |put O v nm' B'=>
      simp only [SR.keys,List.mem_singleton] at hn
      subst hn;obtain ⟨⟨B0,hB0,_⟩,_⟩:=e4;exact R.ml _ _ hB0
     |kil O v ns'=>obtain ⟨⟨B0,hB0⟩,_⟩:=e4 nm hn;exact R.ml _ _ hB0
     |mov O v old B'=>
      obtain ⟨⟨B0,hB0⟩,_⟩:=e4
      have:=R.ml _ _ hB0
      simp only [SR.keys,List.mem_cons,List.not_mem_nil,or_false] at hn
      simp only [SR.nx]
      rcases hn with rfl|rfl<;>omega
     |rput O v id0 t row A=>
      simp only [SR.keys,List.mem_singleton] at hn
      subst hn;exact R.ml _ _ e4.1
    ·have hn:(newB o r xs&& !(mkNR B st (r.keys st) ns).all)=true:=hn
     rw [Bool.and_eq_true] at hn
     have hn2:=hn.2
     rw [Bool.not_eq_true'] at hn2
     refine ⟨hn2,fun id hid=> ?_⟩
     have hid:id∈ups.map Prod.fst:=hid
     rw [hu] at hid
     cases r with
     |new O v B'=>
      simp only [SR.ups,List.map_cons,List.map_nil,List.mem_singleton] at hid
      subst hid;exact Nat.le_refl _
     |_=>simp [newB] at hn
    ·have hk:(r.keys st).isEmpty=true:=hk
     rw [List.isEmpty_iff] at hk
     simp [mkNR,hk] at ha
    ·have hn:(newB o r xs&& !(mkNR B st (r.keys st) ns).all)=true:=hn
     rw [Bool.and_eq_true] at hn
     have h1:=hn.1
     unfold newB at h1
     rw [Bool.and_eq_true,Bool.and_eq_true,Bool.not_eq_true'] at h1
     exact h1.2
    ·rw [hu] at hid
     cases r with
     |val O v=>simp [SR.ups] at hid
     |new O v B'=>simp only [SR.ups,List.map_cons,List.map_nil,List.mem_singleton] at hid;simp only [SR.k1];omega
     |put O v nm' B'=>
      simp only [SR.ups,SR.up,List.map_cons,List.map_nil,List.mem_singleton] at hid
      subst hid;obtain ⟨⟨B0,hB0,_⟩,_⟩:=e4;exact R.lt _ (R.ml _ _ hB0)
     |kil O v ns'=>
      simp only [SR.ups,List.map_map,List.mem_map,Function.comp_apply] at hid
      obtain ⟨a,ha,rfl⟩:=hid
      obtain ⟨⟨B0,hB0⟩,_⟩:=e4 a ha;exact R.lt _ (R.ml _ _ hB0)
     |mov O v old B'=>
      obtain ⟨⟨B0,hB0⟩,_⟩:=e4
      have h0:=R.ml _ _ hB0
      have:=R.lt _ h0
      simp only [SR.ups,SR.up,List.map_cons,List.map_nil,List.mem_cons,List.not_mem_nil,or_false] at hid
      simp only [SR.k1]
      rcases hid with rfl|rfl
      ·rw [((N.upd_agree st.nx s.k B'.len).1 old h0).1];omega
      ·omega
     |rput O v id0 t row A=>
      simp only [SR.ups,List.map_cons,List.map_nil,List.mem_singleton] at hid
      subst hid
      exact (R.sp t A (.inl e4.1) id e4.2.2).1
   ·split at h
    ·rename_i x args hao
     split at h
     ·rename_i f vs hcal
      cases B with
      |false=>exact h.elim
      |true=>
      rw [cond_true] at h
      have hc0:=calleeS_ok R.here hcal s.k
      have hargs:∀N',N.agree st.nx N'→vs.map (SV.av C.D.toTE N')=vs.map (SV.av C.D.toTE N):=fun N' hN=>by
       have hc1:=calleeS_ok (R.at_ N' hN) hcal s.k
       rw [hc0] at hc1
       simp only [Option.some.injEq,Out.call.injEq,true_and] at hc1
       exact hc1.symm
      cases hh:hidB C.hd dep st vs with
      |true=>
       rw [hh,cond_true] at h
       exact hid_step hC R M g1 hgd hao hd hcal hargs hh h
      |false=>
      rw [hh,cond_false] at h
      obtain ⟨h1,g1',k1,N',v,st1,h2,h3,h4,h5,h6,h7⟩:=hC.inl R hargs h
      have hgp:∀id,id<k1→gput s.g ((List.range (max s.k k1)).map fun i=>(i,g1' i)) id=g1' id:=fun id hid=>by rw [gput_range,if_pos (by omega)]
      refine .inr ⟨f,_,_,(List.range (max s.k k1)).map fun i=>(i,g1' i),max s.k k1,_,N',g1 hgd,by rw [hao];rfl,by rw [hao];exact hc0,h1,fi_ups h2,⟨Nat.le_max_left _ _,fun id hid=>by simpa using hid⟩,⟨[],fun nm hn=>by simp at hn,h7⟩,h4,h5,⟨rfl,rfl⟩, ?_,ModeQ.triv (M.q0 rfl)⟩
      refine ⟨fun N'' hN=> ?_,h6.inj,fun a ha=>Nat.lt_of_lt_of_le (h6.lt a ha) (Nat.le_max_right _ _),h6.ml,h6.rl,fun t A hg id hid=>⟨Nat.lt_of_lt_of_le (h6.sp t A hg id hid).1 (Nat.le_max_right _ _),(h6.sp t A hg id hid).2⟩⟩
      have A:=h6.at_ N'' hN
      have A0:=R.at_ N'' (Nms.agree_trans h4 hN h5)
      obtain ⟨q1,q2⟩:=set_slot (D:=C.D) (n:=n) (v:=v) (a:=v.av C.D.toTE N') hd A0.sl A0.rs (h3 N'' hN).symm
      have hlt:∀nm,nm<st1.nx→N''.ι nm<k1:=fun nm hn=>by rw [(hN.1 nm hn).1];exact h6.lt nm hn
      exact ⟨q1,q2,fun nm B hB=>⟨(hgp _ (hlt nm (h6.ml nm _ hB))).trans (A.bl nm B hB).1,(A.bl nm B hB).2⟩,fun nm B hB=>⟨(hgp _ (hlt nm (h6.rl nm _ hB))).trans (A.rb nm B hB).1,(A.rb nm B hB).2⟩,fun t A' hg id hid=>(hgp _ (h6.sp t A' hg id hid).1).trans (A.ar t A' hg id hid)⟩
     ·exact h.elim
    ·exact h.elim
  ·rename_i hgd
   left
   have hgo:=R.go (r:= .val [] (.vo undef)) hd trivial (val:= .v undef) (ups:=[]) (fun _ _=>rfl) (fun _ _=>rfl)
   exact ⟨.v undef,[],[],_,_,N, .skip (g2 hgd),h,N.agree_refl _,Nat.le_refl _,⟨fun _ id hid=>by simp [Rec.keys] at hid,fun _ _ id hid=>by simp at hid,fun nm hn=>by simp at hn,fun nm hn=>by simp at hn,fun nm hn=>by simp at hn,fun hn=>by simp at hn,fun hn=>by simp at hn⟩,fun hn=>by simp at hn,⟨rfl,rfl⟩,s.k,Nat.le_refl _,fun id hid=>by simp at hid,hgo,M.q0,M.qa,M.qb,M.qk⟩
  ·rename_i e hgd
   left
   split at h
   ·rename_i O v ns hr
    rw [obl_iff] at h
    obtain ⟨hO,h⟩:=h
    have hO1:∀p,p∈unwO st e o.ao.uns→p:=fun p hp=>hO p (List.mem_append_left _ hp)
    have hg:=g3 e hgd
    cases hden:e.den with
    |false=>
     rw [hden] at hg
     have hv:∀N':Nms,(.v undef:AV)=((SV.vg true e v:SV τ dn)).av C.D.toTE N':=fun N'=>by simp [SV.av,hden]
     have hgo:=R.go (r:= .val [] (.vg true e v)) hd trivial (val:= .v undef) (ups:=[]) (fun N' _=>hv N') (fun _ _=>rfl)
     have hns:∀nm,nm∈ns→nm<st.nx:=by
      have hr2:=hr
      unfold opR at hr2
      split at hr2
      ·split at hr2
       ·rename_i r' ns' _
        cases hb:(ns'.all (st.unw o.ao.uns).live) with
        |false=>rw [hb] at hr2;simp at hr2
        |true=>
         rw [hb,cond_true,Option.some.injEq,Prod.mk.injEq] at hr2
         intro nm hn
         rw [←hr2.2] at hn
         exact (live_gm (List.all_eq_true.1 hb nm hn)).1
       ·simp at hr2
      ·split at hr2
       ·cases hb:((o.ao.nrs (st.unw o.ao.uns)).all (st.unw o.ao.uns).live&&o.ao.lk.all (st.unw o.ao.uns).ngd) with
        |false=>rw [hb] at hr2;simp at hr2
        |true=>
         rw [hb,cond_true,Option.some.injEq,Prod.mk.injEq] at hr2
         rw [Bool.and_eq_true] at hb
         intro nm hn
         rw [←hr2.2] at hn
         exact (live_gm (List.all_eq_true.1 hb.1 nm hn)).1
       ·simp at hr2
     exact ⟨.v undef,[],[],_,_,N, .skip hg,h,N.agree_refl _,Nat.le_refl _,⟨fun _ id hid=>by simp [Rec.keys] at hid,fun _ _ id hid=>by simp at hid,fun nm hn=>by simp [mkNR] at hn,hns,fun nm hn=>by simp [mkNR] at hn,fun hn=>by simp [mkNR] at hn,fun hn=>by simp [mkNR] at hn⟩,fun hn=>by simp [mkNR] at hn,⟨rfl,rfl⟩,s.k,Nat.le_refl _,fun id hid=>by simp at hid,hgo,M.q0,M.qa,M.qb,M.qk⟩
    |true=>
     rw [hden] at hg
     have et:=(Cn.tf_iff e true).2 hden
     have hO2:∀p,p∈(SR.val O v:SR τ dn).O→p:=fun p hp=>hO _ (List.mem_append_right _ (List.mem_map.2 ⟨p,hp,rfl⟩)) et
     obtain ⟨val,ups,acc,e1,e2,e3,e4,e5⟩:=opR_ok (st:=st.unw o.ao.uns) hC (fun N' hN=>unw_ok (R.at_ N' hN) hden hO1) hg hr hO2
     have hv:∀N',N.agree st.nx N'→val=((SV.vg true e v:SV τ dn)).av C.D.toTE N':=fun N' hN=>by
      rw [(e2 N' hN).1];simp only [SV.av,hden,if_true];rfl
     have hu:ups=[]:=(e2 N (N.agree_refl _)).2
     have hgo:=R.go (r:= .val [] (.vg true e v)) hd trivial (val:=val) (ups:=ups) (fun N' hN=>hv N' hN) (fun _ _=>hu)
     refine ⟨val,ups,acc,_,_,N,e1,h,N.agree_refl _,Nat.le_refl _,⟨fun _ id hid=> ?_,fun _ ha id hid=> ?_,fun nm hn=>by simp [mkNR] at hn,fun nm hn=>(live_gm (e5 nm hn)).1,fun nm hn=>by simp [mkNR] at hn,fun hn=>by simp [mkNR] at hn,fun hn=>by simp [mkNR] at hn⟩,fun hn=>by simp [mkNR] at hn,⟨rfl,rfl⟩,s.k,Nat.le_refl _,fun id hid=> ?_,hgo,M.q0,M.qa,M.qb,M.qk⟩
     ·have hid:id∈ups.map Prod.fst:=hid
      rw [hu] at hid;simp at hid
     ·obtain ⟨nm,q1,q2⟩:=e3 id hid
      exact ⟨nm,q1,rec_acc M ha q1 (e5 nm q1) q2⟩
     ·rw [hu] at hid;simp at hid
   ·exact h.elim
  ·exact h.elim
theorem wpOps_seq {C:Cfg τ dn} (hC:C.Ok) {n k0:Nat}:∀{os:List AOper} {xs:List NR} {st:SS τ dn} {K:SS τ dn→Prop} {N:Nms} {s:S3},Rel C.D N st s→wpOps C n none true os xs st K→
  ∃s' N' st',OpsRun C.P n k0 os s.σ s.g s.k s'.σ s'.g s'.k∧Rel C.D N' st' s'∧(st'.rt=st.rt∧st'.rm=st.rm)∧N.agree st.nx N'∧st.nx≤st'.nx∧K st'
 |[],xs,st,K,N,s,R,h=>⟨s,N,st, .nil,R,⟨rfl,rfl⟩,N.agree_refl _,Nat.le_refl _,h⟩
 |o::os,xs,st,K,N,s,R,h=>by
  rcases op_step hC R (ModeQ.triv (Q:=fun _=>False) fun _ h=>h) h with ⟨val,ups,acc,x,st',N',h1,h2,h3,h4,_,_,h5,k1,h6,h7,h8,_⟩|⟨f,as_,r,ups,k1,st',N',h1,_,h2,h3,h4,_,⟨ex,_,h5⟩,h6,h7,h8,h9,_⟩
  ·obtain ⟨s',N2,st2,q1,q2,q3,q4,q5,q6⟩:=wpOps_seq hC (k0:=k0) h8 h2
   exact ⟨s',N2,st2, .cons h1 h6 h7 q1,q2,⟨q3.1.trans h5.1,q3.2.trans h5.2⟩,Nms.agree_trans h3 q4 h4,Nat.le_trans h4 q5,q6⟩
  ·obtain ⟨s',N2,st2,q1,q2,q3,q4,q5,q6⟩:=wpOps_seq hC (k0:=k0) h9 h5
   exact ⟨s',N2,st2, .inl h1 h2 h3 h4 q1,q2,⟨q3.1.trans h8.1,q3.2.trans h8.2⟩,Nms.agree_trans h6 q4 h7,Nat.le_trans h7 q5,q6⟩
theorem snoc_get {α:Type} {l:List α} {x y:α} {i:Nat} (h:(l++[x])[i]? =some y):l[i]? =some y∨(i=l.length∧y=x):=by
 rcases Nat.lt_or_ge i l.length with q|q
 ·rw [List.getElem?_append_left q] at h;exact .inl h
 ·rw [List.getElem?_append_right q] at h
  right
  cases hd:i - l.length with
  |zero=>rw [hd] at h;simp at h;exact ⟨by omega,h.symm⟩
  |succ m=>rw [hd] at h;simp at h
structure RecsK (pre:List AOper) (rs:List Rec) (xs:List NR) (k:Nat):Prop where
 pl:pre.length=xs.length
 rl:rs.length=xs.length
 kb:∀(i:Nat) r,rs[i]? =some r→∀id,id∈r.keys→id<k
 lt:∀(i j:Nat) ri rj,i<j→rs[i]? =some ri→rs[j]? =some rj→∀id,id∈ri.keys→id<rj.fr
 nw:∀(i:Nat) x,xs[i]? =some x→x.nw=true→(∀o,pre[i]? =some o→isNewO o=true)∧∀(j:Nat) y,xs[j]? =some y→y.nw=true→j=i
theorem RecsK.snoc {pre:List AOper} {rs:List Rec} {xs:List NR} {k k1:Nat} (h:RecsK pre rs xs k) {o:AOper} {r:Rec} {x:NR} (hk:k≤k1) (hr:r.fr=k) (hb:∀id,id∈r.keys→id<k1) (hx:x.nw=true→isNewO o=true∧(xs.any fun x=>x.nw)=false):RecsK (pre++[o]) (rs++[r]) (xs++[x]) k1:=by
 have hno:∀(i:Nat) y,xs[i]? =some y→y.nw=true→x.nw=true→False:=fun i y hy hn hxn=>by
  have:=(hx hxn).2
  rw [List.any_eq_false] at this
  exact this y (List.mem_of_getElem? hy) hn
 refine ⟨by simp [h.pl],by simp [h.rl],fun i r' hr' id hid=> ?_,fun i j ri rj hij hi hj id hid=> ?_,fun i y hy hn=>⟨fun o' ho'=> ?_,fun j z hz hzn=> ?_⟩⟩
 ·rcases snoc_get hr' with q|⟨_,rfl⟩
  ·exact Nat.lt_of_lt_of_le (h.kb i r' q id hid) hk
  ·exact hb id hid
 ·rcases snoc_get hj with q|⟨q,rfl⟩
  ·rcases snoc_get hi with p|⟨p,rfl⟩
   ·exact h.lt i j ri rj hij p q id hid
   ·have:=(List.getElem?_eq_some_iff.1 q).1;omega
  ·rcases snoc_get hi with p|⟨p,rfl⟩
   ·rw [hr];exact h.kb i ri p id hid
   ·omega
 ·rcases snoc_get hy with q|⟨q,rfl⟩
  ·rcases snoc_get ho' with p|⟨p,rfl⟩
   ·exact (h.nw i y q hn).1 o' p
   ·have:=(List.getElem?_eq_some_iff.1 q).1
    have:=h.pl;omega
  ·rcases snoc_get ho' with p|⟨p,rfl⟩
   ·have:=(List.getElem?_eq_some_iff.1 p).1
    have:=h.pl;omega
   ·exact (hx hn).1
 ·rcases snoc_get hy with q|⟨q,rfl⟩
  ·rcases snoc_get hz with p|⟨p,rfl⟩
   ·exact (h.nw i y q hn).2 j z p hzn
   ·exact (hno i y q hn hzn).elim
  ·rcases snoc_get hz with p|⟨p,rfl⟩
   ·exact (hno j z p hzn hn).elim
   ·omega
theorem wpOps_drawQ {C:Cfg τ dn} (hC:C.Ok) {n:Nat} {dep:List (List Nat)} {B:Bool} {Q:Nat→Prop}:∀{os:List AOper} {pre:List AOper} {xs:List NR} {rs:List Rec} {hs:List (Option Nat)} {st:SS τ dn} {K:SS τ dn→Prop} {N:Nms} {s:S3},Rel C.D N st s→ModeQ B Q N st s→RecsN N Q st.nx rs hs xs→RecsK pre rs xs s.k→wpOps C n (some dep) B os xs st K→
  ∃jn,(∀o,(pre++os)[jn]? =some o→isNewO o=true)∧∃s' N' st',DrawN C.P n dep jn os s.σ s.g s.k rs hs s'.σ s'.g s'.k∧Rel C.D N' st' s'∧(st'.rt=st.rt∧st'.rm=st.rm)∧N.agree st.nx N'∧st.nx≤st'.nx∧K st'
 |[],pre,xs,rs,hs,st,K,N,s,R,M,hrs,hk,h=>by
  simp only [wpOps] at h
  cases hb:idsN xs dep with
  |false=>rw [hb] at h;exact h.elim
  |true=>
   rw [hb,cond_true] at h
   by_cases hx:∃(i:Nat) (x:NR),xs[i]? =some x∧x.nw=true
   ·obtain ⟨i,x,h1,h2⟩:=hx
    have hq:=idsN_ok R.inj hrs hk.lt (jn:=i) (fun j y hy hn=>(hk.nw i x h1 h2).2 j y hy hn) hb
    exact ⟨i,by rw [List.append_nil];exact (hk.nw i x h1 h2).1,s,N,st, .nil hq.1 hq.2,R,⟨rfl,rfl⟩,N.agree_refl _,Nat.le_refl _,h⟩
   ·have hq:=idsN_ok R.inj hrs hk.lt (jn:=pre.length) (fun j y hy hn=>absurd ⟨j,y,hy,hn⟩ hx) hb
    exact ⟨pre.length,fun o ho=>by simp at ho,s,N,st, .nil hq.1 hq.2,R,⟨rfl,rfl⟩,N.agree_refl _,Nat.le_refl _,h⟩
 |o::os,pre,xs,rs,hs,st,K,N,s,R,M,hrs,hk,h=>by
  rcases op_step hC R M h with ⟨val,ups,acc,x,st',N',h1,h2,h3,h4,h5,hnw,h5',k1,h6,h7,h8,hM⟩|⟨f,as_,r,ups,k1,st',N',h1,h1',h2,h3,h4,hkk,⟨ex,hex,h5⟩,h6,h7,h8,h9,hM⟩
  ·obtain ⟨jn,hj,s',N2,st2,q1,q2,q3,q4,q5,q6⟩:=wpOps_drawQ hC (pre:=pre++[o]) h8 hM ((hrs.step h3 h4).snoc (c:=none) h5 (fun _=>rfl)) (hk.snoc (r:=⟨o.dst,val,ups,acc,s.k⟩) h6 rfl h7 hnw) h2
   exact ⟨jn,fun o' ho'=>hj o' (by rw [List.append_assoc];exact ho'),s',N2,st2, .cons h1 h6 h7 q1,q2,⟨q3.1.trans h5'.1,q3.2.trans h5'.2⟩,Nms.agree_trans h3 q4 h4,Nat.le_trans h4 q5,q6⟩
  ·obtain ⟨jn,hj,s',N2,st2,q1,q2,q3,q4,q5,q6⟩:=wpOps_drawQ hC (pre:=pre++[o]) (rs:=rs++[⟨o.dst,r,ups,[],s.k⟩]) (hs:=hs++[some k1]) h9 hM ((hrs.step h6 h7).snoc (r:=⟨o.dst,r,ups,[],s.k⟩) (c:=some k1) (x:=⟨[],[],true,false,ex,false⟩) ⟨fun hh=>by simp at hh,fun hh=>by simp at hh,fun nm hn=>by simp at hn,fun nm hn=>by simp at hn,hex,fun hh=>by simp at hh,fun _ _=>rfl⟩ (fun hh=>by simp at hh)) (hk.snoc (r:=⟨o.dst,r,ups,[],s.k⟩) hkk.1 rfl hkk.2 (fun hh=>by simp at hh)) h5
   exact ⟨jn,fun o' ho'=>hj o' (by rw [List.append_assoc];exact ho'),s',N2,st2, .fi h1 h1' h2 h3 h4 hkk.1 hkk.2 q1,q2,⟨q3.1.trans h8.1,q3.2.trans h8.2⟩,Nms.agree_trans h6 q4 h7,Nat.le_trans h7 q5,q6⟩
theorem wpOps_draw {C:Cfg τ dn} (hC:C.Ok) {n:Nat} {dep:List (List Nat)} {B:Bool} {os:List AOper} {st:SS τ dn} {K:SS τ dn→Prop} {N:Nms} {s:S3} (R:Rel C.D N st s) (h:wpOps C n (some dep) B os [] st K):
  ∃jn,(∀o,os[jn]? =some o→isNewO o=true)∧∃s' N' st',DrawN C.P n dep jn os s.σ s.g s.k [] [] s'.σ s'.g s'.k∧Rel C.D N' st' s'∧(st'.rt=st.rt∧st'.rm=st.rm)∧N.agree st.nx N'∧st.nx≤st'.nx∧K st':=by
 have h0:RecsK [] [] [] s.k:=⟨rfl,rfl,fun i r h=>by simp at h,fun i j ri rj _ h=>by simp at h,fun i x h=>by simp at h⟩
 cases B with
 |true=>exact wpOps_drawQ (pre:=[]) hC R (ModeQ.triv (Q:=fun _=>False) fun _ h=>h) .nil h0 h
 |false=>
  refine wpOps_drawQ (pre:=[]) (Q:=isRow st) hC R ⟨fun hh=>by simp at hh,fun nm X hX ⟨t,A,hg,hid⟩=>(R.sp t A (gm_alive hg) _ hid).2 nm X hX rfl,fun _ id h=>h,fun id ⟨t,A,hg,hid⟩=>(R.sp t A (gm_alive hg) _ hid).1⟩ .nil h0 h
end
open Go.RowKit
def ED (P:Program) (n k0:Nat) (ac:AC) (s:S3) (e:Ex) (s':S3):Prop:=EW P n k0 ac s fun x t=>x=e∧t=s'
def Ex.blk (i:Nat):Ex→Ex
 | .exit j=>if j=i then .normal else .exit j
 |e=>e
section
variable {P:Program} {n k0:Nat} {s s' t:S3} {a b:AC} {e:Ex}
theorem ED.skip:ED P n k0 .skip s .normal s:=EW.skip ⟨rfl,rfl⟩
theorem ED.ret:ED P n k0 .ret s .ret s:=EW.ret ⟨rfl,rfl⟩
theorem ED.exit {i:Nat}:ED P n k0 (.exit i) s (.exit i) s:=EW.exit ⟨rfl,rfl⟩
theorem ED.seq (h:ED P n k0 a s .normal t) (k:ED P n k0 b t e s'):ED P n k0 (.seq a b) s e s':=
 EW.seq (EW.conseq h fun x u hu=>by obtain ⟨rfl,rfl⟩:=hu;exact k)
theorem ED.seqX (h:ED P n k0 a s e t) (he:e≠ .normal):ED P n k0 (.seq a b) s e t:=
 EW.seq (EW.conseq h fun x u hu=>by
  obtain ⟨rfl,rfl⟩:=hu
  cases x with
  |normal=>exact absurd rfl he
  |exit i=>exact ⟨rfl,rfl⟩
  |ret=>exact ⟨rfl,rfl⟩)
theorem ED.cond {c:Arg} {p:Bool} (hc:argσ s.σ c= .v (.bool p)) (h:ED P n k0 (if p=true then a else b) s e t):ED P n k0 (.cond c a b) s e t:=EW.cond hc h
theorem ED.block {i:Nat} (h:ED P n k0 a s e t):ED P n k0 (.block i a) s (e.blk i) t:=
 EW.block (EW.conseq h fun x u hu=>by
  obtain ⟨rfl,rfl⟩:=hu
  cases x with
  |normal=>exact ⟨rfl,rfl⟩
  |exit j=>
   simp only [Ex.inBlock,Ex.blk]
   split
   all_goals (first|trivial|exact ⟨rfl,rfl⟩|simp_all)
  |ret=>exact ⟨rfl,rfl⟩)
theorem ED.weak (h:s.Le k0 n t) (k:ED P n k0 a t e s'):ED P n k0 a s e s':=EW.weak h k
inductive Ch (P:Program) (n k0:Nat) (a:AC) (e:Ex) (s':S3):Nat→S3→Prop
 |last {s:S3} (h:ED P n k0 a s e s') (he:e≠ .normal):Ch P n k0 a e s' 0 s
 |step {m:Nat} {s t u:S3} (h:ED P n k0 a s .normal t) (hw:t.Le k0 n u) (c:Ch P n k0 a e s' m u):Ch P n k0 a e s' (m+1) s
theorem ED.post {u:S3} (h:ED P n k0 a s e t) (hw:t.Le k0 n u):ED P n k0 a s e u:=by
 intro rd c E0 J base w0 ac w hrd hc hk hr
 refine wpIn_mono (h rd c E0 J base w0 ac w hrd hc hk hr) fun e' a' w' ⟨x,s1,⟨h1,h2⟩,h3,h4⟩=>⟨x,u,⟨h1,rfl⟩,h3, ?_⟩
 subst h2
 exact hw E0 J base w0 a' w' hk h4
theorem ED.loop {m:Nat} (h:Ch P n k0 a e s' m s):ED P n k0 (.loop a) s e s':=by
 refine EW.loop (fun m t=>Ch P n k0 a e s' m t) h fun m t hc=> ?_
 cases hc with
 |last h he=>
  refine EW.conseq h fun x u hu=> ?_
  obtain ⟨rfl,rfl⟩:=hu
  cases x with
  |normal=>exact absurd rfl he
  |exit i=>exact ⟨rfl,rfl⟩
  |ret=>exact ⟨rfl,rfl⟩
 | @step m _ t u h hw c=>
  refine EW.conseq (ED.post h hw) fun x v hv=> ?_
  obtain ⟨rfl,rfl⟩:=hv
  exact ⟨m,Nat.lt_succ_self m,c⟩
theorem ED.reg {os:List AOper} (h:OpsRun P n k0 os s.σ s.g s.k s'.σ s'.g s'.k):ED P n k0 (.reg os none) s .normal s':=EW.reg h ⟨rfl,rfl⟩
theorem ED.draw {os:List AOper} {dep:List (List Nat)} {jn:Nat} (hj:∀o,os[jn]? =some o→isNewO o=true) (h:DrawN P n dep jn os s.σ s.g s.k [] [] s'.σ s'.g s'.k):ED P n k0 (.reg os (some dep)) s .normal s':=EW.drawN hj h ⟨rfl,rfl⟩
theorem S3.le_ale {σ':Nat→AV} (h:∀i,Ale (s.σ i) (σ' i)):s.Le k0 n ⟨σ',s.g,s.k⟩:=by
 intro E0 J base w0 a w _ hr
 obtain ⟨E,h1,h2,h3,h4,h5,h6⟩:=hr.ex
 exact ⟨⟨E,h1,h2,fun t=>h t E _ (h3 t),h4,h5,h6⟩,hr.size,hr.below,hr.gl⟩
theorem S3.Le.trans' {u:S3} (h:s.Le k0 n t) (k:t.Le k0 n u):s.Le k0 n u:=fun E0 J base w0 a w hk hr=>k E0 J base w0 a w hk (h E0 J base w0 a w hk hr)
theorem S3.Le.refl':s.Le k0 n s:=fun _ _ _ _ _ _ _ hr=>hr
theorem S3.le_adopt {i sz:Nat} (hσ:s.σ i= .emp) (hz:sz≠0):s.Le k0 n ⟨fun j=>if j=i then .own s.k sz 0 0 else s.σ j,gput s.g [(s.k,some ⟨sz,[]⟩)],s.k+1⟩:=by
 intro E0 J base w0 a w hk hr
 obtain ⟨E,rfl,hle,hs,hm,hkn,hmk⟩:=hr.ex
 obtain ⟨E',hw,hE,hM,k1,k2,k3,k4,k5⟩:=hm.phantom (fresh:=s.k) (fun hh=>Nat.lt_irrefl _ (hkn _ hh)) sz
 refine ⟨⟨E',hw,hle.trans hE,fun j=> ?_,hM,fun id hid=> ?_,hmk.step hE⟩,hr.size,hr.below,hr.gl⟩
 ·show Rep E' _ (if j=i then _ else _)
  by_cases hj:j=i
  ·rw [if_pos hj]
   have:=hs j
   rw [hj,hσ] at this
   obtain ⟨A,hA⟩:=emp_inv this
   rw [hj,hA]
   exact .own0 k1 k2 k3 k5 hz
  ·rw [if_neg hj];exact (hs j).step hE
 ·show id<s.k+1
  rcases k4 id hid with h|h
  ·have:=hkn id h;omega
  ·omega
end
section
variable {τ:Type} {dn:τ→Type}
def Nms.same (p:Nat→Bool) (N N':Nms):Prop:=(∀a,p a=true→N'.ι a=N.ι a∧N'.ln a=N.ln a)∧N'.ρ=N.ρ
mutual
theorem fr_av {E:TE τ dn} {p:Nat→Bool} {N N':Nms} (hN:N.same p N'):∀(v:SV τ dn),v.fr p=true→v.av E N'=v.av E N
 | .own nm sz,h=>by simp only [SV.fr] at h;simp only [SV.av,hN.1 nm h]
 | .part nm sz o l,h=>by simp only [SV.fr] at h;simp only [SV.av,hN.1 nm h]
 | .ref nm sz i o,h=>by simp only [SV.fr] at h;simp only [SV.av,hN.1 nm h]
 | .mp nm,h=>by simp only [SV.fr] at h;simp only [SV.av,hN.1 nm h]
 | .agg cs,h| .tup cs,h| .fn _ cs,h| .bf _ cs,h| .pim cs _,h=>by simp only [SV.fr] at h;simp only [SV.av,frL_av hN cs h]
 | .vc _ els,h=>by simp only [SV.fr] at h;simp only [SV.av,frM_av hN els h]
 | .vg p c v,h=>by simp only [SV.fr] at h;simp only [SV.av,fr_av hN v h]
 | .vl t xs,h=>by simp only [SV.av,hN.2]
 | .rw t r,h=>by simp only [SV.av,hN.2]
 | .rwp t r i o,h=>by simp only [SV.av,hN.2]
 | .vi _,_| .vn _,_| .vy _,_| .vu _,_| .vw _ _,_| .vb _,_| .vt _,_| .vz _,_| .vo _,_| .emp,_| .dead,_=>by simp only [SV.av]
theorem frL_av {E:TE τ dn} {p:Nat→Bool} {N N':Nms} (hN:N.same p N'):∀(cs:List (SV τ dn)),SV.frL p cs=true→SV.avL E N' cs=SV.avL E N cs
 |[],_=>rfl
 |v::r,h=>by
  simp only [SV.frL,Bool.and_eq_true] at h
  simp only [SV.avL,fr_av hN v h.1,frL_av hN r h.2]
theorem frM_av {E:TE τ dn} {p:Nat→Bool} {N N':Nms} (hN:N.same p N'):∀(els:List (List (SV τ dn))),SV.frM p els=true→SV.avM E N' els=SV.avM E N els
 |[],_=>rfl
 |v::r,h=>by
  simp only [SV.frM,Bool.and_eq_true] at h
  simp only [SV.avM,frL_av hN v h.1,frM_av hN r h.2]
end
def SB.fr (p:Nat→Bool):SB τ dn→Bool
 | .bl _ _=>true
 | .bc _ els=>SV.frM p els
 | .mc els=>SV.frM p els
 | .ar _ _=>true
theorem frB_av {E:TE τ dn} {p:Nat→Bool} {N N':Nms} (hN:N.same p N') (B:SB τ dn) (h:B.fr p=true):B.av E N'=B.av E N:=by
 cases B with
 |bl t xs=>simp only [SB.av,hN.2]
 |bc sz els=>simp only [SB.fr] at h;simp only [SB.av,frM_av hN els h]
 |mc els=>simp only [SB.fr] at h;simp only [SB.av,frM_av hN els h]
 |ar t A=>rfl
def hasN (l:List Nat) (a:Nat):Bool:=l.any (Nat.beq a)
theorem hasN_iff {l:List Nat} {a:Nat}:hasN l a=true↔a∈l:=by
 unfold hasN
 rw [List.any_eq_true]
 constructor
 ·rintro ⟨b,h1,h2⟩;rw [Nat.eq_of_beq_eq_true h2];exact h1
 ·intro h;exact ⟨a,h,Nat.beq_refl a⟩
def cleanT (p:Nat→Bool):List Nat→List (Nat×SV τ dn)→List (Nat×SV τ dn)
 |_,[]=>[]
 |seen,(i,v)::r=>bif hasN seen i then cleanT p seen r else bif v.fr p then (i,v)::cleanT p (i::seen) r else cleanT p (i::seen) r
theorem cleanT_ok {p:Nat→Bool}:∀{t:List (Nat×SV τ dn)} {seen:List Nat} {i:Nat} {v:SV τ dn},getS (cleanT p seen t) i=some v→getS t i=some v∧v.fr p=true∧¬i∈seen
 |[],seen,i,v,h=>by simp [cleanT,getS] at h
 |(j,w)::r,seen,i,v,h=>by
  simp only [cleanT] at h
  cases hs:hasN seen j with
  |true=>
   rw [hs,cond_true] at h
   obtain ⟨h1,h2,h3⟩:=cleanT_ok h
   refine ⟨?_,h2,h3⟩
   rw [getS_cons,if_neg];exact h1
   intro e;subst e;exact h3 (hasN_iff.1 hs)
  |false=>
   rw [hs,cond_false] at h
   have hj:¬j∈seen:=fun hh=>by rw [hasN_iff.2 hh] at hs;simp at hs
   have next:getS (cleanT p (j::seen) r) i=some v→getS ((j,w)::r) i=some v∧v.fr p=true∧¬i∈seen:=fun h=>by
    obtain ⟨h1,h2,h3⟩:=cleanT_ok h
    simp only [List.mem_cons,not_or] at h3
    exact ⟨by rw [getS_cons,if_neg h3.1];exact h1,h2,h3.2⟩
   cases hf:w.fr p with
   |true=>
    rw [hf,cond_true,getS_cons] at h
    by_cases hi:i=j
    ·rw [if_pos hi,Option.some.injEq] at h
     subst h;subst hi
     exact ⟨by rw [getS_cons,if_pos rfl],hf,hj⟩
    ·rw [if_neg hi] at h;exact next h
   |false=>rw [hf,cond_false] at h;exact next h
def cleanM (p:Nat→Bool):List Nat→List (Nat×Option (SB τ dn))→List (Nat×Option (SB τ dn))
 |_,[]=>[]
 |seen,(i,v)::r=>bif hasN seen i then cleanM p seen r else match v with
  |some B=>bif B.fr p&&p i then (i,some B)::cleanM p (i::seen) r else cleanM p (i::seen) r
  |none=>cleanM p (i::seen) r
theorem cleanM_ok {p:Nat→Bool}:∀{t:List (Nat×Option (SB τ dn))} {seen:List Nat} {i:Nat} {v:Option (SB τ dn)},getS (cleanM p seen t) i=some v→getS t i=some v∧(∃B,v=some B∧B.fr p=true)∧p i=true∧¬i∈seen
 |[],seen,i,v,h=>by simp [cleanM,getS] at h
 |(j,w)::r,seen,i,v,h=>by
  simp only [cleanM] at h
  cases hs:hasN seen j with
  |true=>
   rw [hs,cond_true] at h
   obtain ⟨h1,h2,h4,h3⟩:=cleanM_ok h
   refine ⟨?_,h2,h4,h3⟩
   rw [getS_cons,if_neg];exact h1
   intro e;subst e;exact h3 (hasN_iff.1 hs)
  |false=>
   rw [hs,cond_false] at h
   have hj:¬j∈seen:=fun hh=>by rw [hasN_iff.2 hh] at hs;simp at hs
   have next:getS (cleanM p (j::seen) r) i=some v→getS ((j,w)::r) i=some v∧(∃B,v=some B∧B.fr p=true)∧p i=true∧¬i∈seen:=fun h=>by
    obtain ⟨h1,h2,h4,h3⟩:=cleanM_ok h
    simp only [List.mem_cons,not_or] at h3
    exact ⟨by rw [getS_cons,if_neg h3.1];exact h1,h2,h4,h3.2⟩
   cases w with
   |none=>exact next h
   |some B=>
    simp only at h
    cases hf:(B.fr p&&p j) with
    |true=>
     rw [hf,cond_true,getS_cons] at h
     rw [Bool.and_eq_true] at hf
     by_cases hi:i=j
     ·rw [if_pos hi,Option.some.injEq] at h
      subst h;subst hi
      exact ⟨by rw [getS_cons,if_pos rfl],⟨B,rfl,hf.1⟩,hf.2,hj⟩
     ·rw [if_neg hi] at h;exact next h
    |false=>rw [hf,cond_false] at h;exact next h
theorem getS_app {α:Type} {a b:List (Nat×α)} {i:Nat}:getS (a++b) i=(getS a i).or (getS b i):=by
 induction a with
 |nil=>simp [getS]
 |cons q r ih=>
  obtain ⟨j,v⟩:=q
  rw [List.cons_append,getS_cons,getS_cons,ih]
  split<;>simp
theorem getS_mem {α:Type} {l:List (Nat×α)} {i:Nat} {v:α} (h:getS l i=some v):(i,v)∈l:=by
 induction l with
 |nil=>simp [getS] at h
 |cons q r ih=>
  obtain ⟨j,w⟩:=q
  rw [getS_cons] at h
  by_cases hi:i=j
  ·rw [if_pos hi,Option.some.injEq] at h;subst h;subst hi;exact List.mem_cons_self ..
  ·rw [if_neg hi] at h;exact List.mem_cons_of_mem _ (ih h)
inductive VK (τ:Type) where
 |sl (i:Nat) (t:τ)
 |ow (i:Nat) (t:τ)
 |bl (nm:Nat) (t:τ)
 |ce (nm:Nat) (t:τ)
 |ar (t:τ)
 |pt (i nm sz:Nat)
 |so (q f:Nat) (t:τ) (cs:List (Nat×Nat))
 |sg (q f:Nat) (t S:τ) (fx:List (Nat×τ×Nat×Nat))
abbrev VK.T (dn:τ→Type):VK τ→Type
 | .sl _ t=>dn t
 | .ow _ t=>List (dn t)
 | .bl _ t=>List (dn t)
 | .ce _ t=>dn t
 | .ar t=>List (Nat×List (dn t))
 | .pt _ _ _=>Nat×Nat
 | .so _ _ t _=>List (dn t)
 | .sg _ _ t S _=>dn S×List (dn t)
abbrev VT (dn:τ→Type):List (VK τ)→Type
 |[]=>Unit
 |v::r=>v.T dn×VT dn r
def allV:(vs:List (VK τ))→(VT dn vs→Prop)→Prop
 |[],F=>F ()
 |_::r,F=>∀x,allV r fun y=>F (x,y)
theorem allV_iff:∀{vs:List (VK τ)} {F:VT dn vs→Prop},allV vs F↔∀x,F x
 |[],F=>⟨fun h _=>h,fun h=>h ()⟩
 |_::r,F=>⟨fun h x=>allV_iff.1 (h x.1) x.2,fun h x=>allV_iff.2 fun y=>h (x,y)⟩
def soV (cs:List (Nat×Nat)) (f n sz:Nat):List (SV τ dn):=(cs.map fun c=>(.own c.1 c.2:SV τ dn)).set f (.own n sz)
def soE:List (SV τ dn)→List (Nat×Nat)→Nat→Nat→Bool
 |[],[],_,_=>true
 | .own a z::r,c::l,j,f=>(Nat.beq j f||(Nat.beq a c.1&&Nat.beq z c.2))&&soE r l (j+1) f
 |_,_,_,_=>false
theorem soE_ok:∀{vs:List (SV τ dn)} {cs:List (Nat×Nat)} {j f n sz:Nat},soE vs cs j f=true→j≤f→vs[f - j]? =some (.own n sz)→vs=soV cs (f - j) n sz
 |[],[],j,f,n,sz,_,_,h=>by simp at h
 |[],c::l,j,f,n,sz,h,_,_=>by simp [soE] at h
 |v::r,[],j,f,n,sz,h,_,_=>by cases v<;>simp [soE] at h
 |v::r,c::l,j,f,n,sz,h,hj,hf=>by
  have hv:∃a z,v= .own a z:=by cases v<;>first|exact ⟨_,_,rfl⟩|simp [soE] at h
  obtain ⟨a,z,rfl⟩:=hv
  simp only [soE,Bool.and_eq_true,Bool.or_eq_true] at h
  obtain ⟨h1,h2⟩:=h
  by_cases e:j=f
  ·subst e
   rw [Nat.sub_self] at hf ⊢
   simp only [List.getElem?_cons_zero,Option.some.injEq] at hf
   rw [hf]
   unfold soV
   rw [List.map_cons,List.set_cons_zero]
   congr 1
   have key:∀{r:List (SV τ dn)} {l:List (Nat×Nat)} {k:Nat},soE r l k j=true→j<k→r=l.map fun c=>(.own c.1 c.2:SV τ dn):=by
    intro r
    induction r with
    |nil=>intro l k h _;cases l with
     |nil=>rfl
     |cons c l=>simp [soE] at h
    |cons v r ih=>
     intro l k h hk
     cases l with
     |nil=>cases v<;>simp [soE] at h
     |cons c l=>
      have hv:∃a z,v= .own a z:=by cases v<;>first|exact ⟨_,_,rfl⟩|simp [soE] at h
      obtain ⟨a,z,rfl⟩:=hv
      simp only [soE,Bool.and_eq_true,Bool.or_eq_true] at h
      obtain ⟨h1,h2⟩:=h
      rcases h1 with h1|⟨h1,h3⟩
      ·have:=Nat.eq_of_beq_eq_true h1;omega
      ·rw [List.map_cons,ih h2 (by omega),Nat.eq_of_beq_eq_true h1,Nat.eq_of_beq_eq_true h3]
   exact key h2 (by omega)
  ·rcases h1 with h1|⟨h1,h3⟩
   ·exact absurd (Nat.eq_of_beq_eq_true h1) e
   ·have e2:f - j=(f - (j+1))+1:=by omega
    rw [e2] at hf ⊢
    rw [List.getElem?_cons_succ] at hf
    have ih:=soE_ok h2 (by omega) hf
    unfold soV at ih ⊢
    rw [List.map_cons,List.set_cons_succ, ←ih,Nat.eq_of_beq_eq_true h1,Nat.eq_of_beq_eq_true h3]
theorem soV_av {E:TE τ dn} {N N':Nms} {cs:List (Nat×Nat)} {f n m sz:Nat} (h1:N'.ι n=N.ι m) (h2:N'.ln n=N.ln m) (hF:∀c,c∈cs→N'.ι c.1=N.ι c.1∧N'.ln c.1=N.ln c.1):(soV cs f n sz:List (SV τ dn)).map (SV.av E N')=(soV cs f m sz:List (SV τ dn)).map (SV.av E N):=by
 unfold soV
 rw [List.map_set,List.map_set]
 have e1:(SV.own n sz:SV τ dn).av E N'=(SV.own m sz:SV τ dn).av E N:=by simp only [SV.av,h1,h2]
 rw [e1]
 congr 1
 rw [List.map_map,List.map_map]
 refine List.map_congr_left fun c hc=> ?_
 obtain ⟨q1,q2⟩:=hF c hc
 simp only [Function.comp_apply,SV.av,q1,q2]
def setX {κ α:Type} (h:Nat×κ→α):List α→List (Nat×κ)→List α
 |l,[]=>l
 |l,c::r=>(setX h l r).set c.1 (h c)
theorem setX_len {κ α:Type} {h:Nat×κ→α} {l:List α}:∀{r:List (Nat×κ)},(setX h l r).length=l.length
 |[]=>rfl
 |c::r=>by simp only [setX,List.length_set];exact setX_len
theorem setX_map {κ α β:Type} {h:Nat×κ→α} {u:α→β} {l:List α}:∀{r:List (Nat×κ)},(setX h l r).map u=setX (fun c=>u (h c)) (l.map u) r
 |[]=>rfl
 |c::r=>by simp only [setX,List.map_set];rw [setX_map]
theorem setX_congr {κ α:Type} {h h':Nat×κ→α} {l:List α}:∀{r:List (Nat×κ)},(∀c,c∈r→h c=h' c)→setX h l r=setX h' l r
 |[],_=>rfl
 |c::r,e=>by simp only [setX];rw [e c (List.mem_cons_self ..),setX_congr fun d hd=>e d (List.mem_cons_of_mem _ hd)]
theorem setX_not {κ α:Type} {h:Nat×κ→α} {l:List α} {j:Nat}:∀{r:List (Nat×κ)},(∀c,c∈r→c.1≠j)→(setX h l r)[j]? =l[j]?
 |[],_=>rfl
 |c::r,e=>by simp only [setX];rw [List.getElem?_set_ne (e c (List.mem_cons_self ..))];exact setX_not fun d hd=>e d (List.mem_cons_of_mem _ hd)
theorem setX_in {κ α:Type} {h:Nat×κ→α} {l L:List α} {j:Nat} (hl:l.length=L.length):∀{r:List (Nat×κ)},(∀c,c∈r→L[c.1]? =some (h c))→(∃c,c∈r∧c.1=j)→(setX h l r)[j]? =L[j]?
 |[],_,⟨_,hc,_⟩=>by simp at hc
 |c::r,e,hx=>by
  simp only [setX]
  by_cases q:c.1=j
  ·subst q
   have e1:=e c (List.mem_cons_self ..)
   have:=(List.getElem?_eq_some_iff.1 e1).1
   rw [List.getElem?_set_self (by rw [setX_len,hl];exact this),e1]
  ·rw [List.getElem?_set_ne q]
   refine setX_in hl (fun d hd=>e d (List.mem_cons_of_mem _ hd)) ?_
   obtain ⟨d,hd,rfl⟩:=hx
   rcases List.mem_cons.1 hd with rfl|hd
   ·exact absurd rfl q
   ·exact ⟨d,hd,rfl⟩
theorem setX_back {κ α:Type} {h h':Nat×κ→α} {L:List α} {r:List (Nat×κ)} {f:Nat} {y z:α} (h1:∀c,c∈r→L[c.1]? =some (h c)) (h2:L[f]? =some z):(setX h ((setX h' L r).set f y) r).set f z=L:=by
 apply List.ext_getElem?
 intro j
 by_cases e:f=j
 ·subst e
  have:=(List.getElem?_eq_some_iff.1 h2).1
  rw [List.getElem?_set_self (by rw [setX_len,List.length_set,setX_len];exact this),h2]
 ·rw [List.getElem?_set_ne e]
  by_cases q:∃c,c∈r∧c.1=j
  ·exact setX_in (by rw [List.length_set,setX_len]) h1 q
  ·have q':∀c,c∈r→c.1≠j:=fun c hc e2=>q ⟨c,hc,e2⟩
   rw [setX_not q',List.getElem?_set_ne e,setX_not q']
def chkX (vs:List (SV τ dn)) (fx:List (Nat×τ×Nat×Nat)):Bool:=fx.all fun c=>match vs[c.1]? with
 |some (.own a z)=>Nat.beq a c.2.2.1&&Nat.beq z c.2.2.2
 |_=>false
def ofX (c:Nat×τ×Nat×Nat):SV τ dn:= .vl c.2.1 []
def onX (c:Nat×τ×Nat×Nat):SV τ dn:= .own c.2.2.1 c.2.2.2
def avX (N:Nms) (c:Nat×τ×Nat×Nat):AV:= .own (N.ι c.2.2.1) c.2.2.2 0 (N.ln c.2.2.1)
theorem onX_av {E:TE τ dn} {N:Nms} (c:Nat×τ×Nat×Nat):(onX c:SV τ dn).av E N=avX N c:=by simp only [onX,avX,SV.av]
theorem chkX_ok {vs:List (SV τ dn)} {fx:List (Nat×τ×Nat×Nat)} (h:chkX vs fx=true) {E:TE τ dn} {N:Nms}:∀c,c∈fx→(vs.map (SV.av E N))[c.1]? =some (avX N c):=fun c hc=>by
 have:=List.all_eq_true.1 h c hc
 revert this
 cases hv:vs[c.1]? with
 |none=>intro h;simp at h
 |some w=>
  cases w with
  |own a z=>
   intro h
   simp only [Bool.and_eq_true] at h
   rw [List.getElem?_map,hv, ←onX_av (E:=E),onX, ←Nat.eq_of_beq_eq_true h.1, ←Nat.eq_of_beq_eq_true h.2];rfl
  |_=>intro h;simp at h
variable [DecidableEq τ]
def getV (D:TD τ dn) (st:SS τ dn):(v:VK τ)→Option (v.T dn)
 | .sl i t=>match st.gt i with
  |some v=>deV D t v
  |none=>none
 | .ow i t=>match st.gt i with
  |some (.own nm sz)=>if sz=D.sz t then blkL D st nm t else none
  |_=>none
 | .bl nm t=>blkL D st nm t
 | .ce nm t=>match st.gm nm with
  |some (.bc q [cs])=>if q=D.sz t∧cs.all SV.ne=true then D.ds t cs else none
  |_=>none
 | .ar t=>st.arA t
 | .pt i nm sz=>match st.gt i with
  |some (.part nm' sz' off len)=>bif Nat.beq nm' nm&&Nat.beq sz' sz then some (off,len) else none
  |_=>none
 | .so q f t cs=>match st.gm q with
  |some (.bc Q [vs])=>match vs[f]? with
   |some (.own nm sz)=>bif Nat.beq Q cs.length&&(soE vs cs 0 f&&Nat.beq sz (D.sz t)) then blkL D st nm t else none
   |_=>none
  |_=>none
 | .sg q f t S fx=>match st.gm q with
  |some (.bc Q [vs])=>match vs[f]? with
   |some (.own nm sz)=>bif Nat.beq Q (D.sz S)&&(Nat.beq sz (D.sz t)&&(((setX ofX vs fx).set f (.vl t [])).all SV.ne&&chkX vs fx)) then (match D.ds S ((setX ofX vs fx).set f (.vl t [])),blkL D st nm t with
    |some x,some l=>some (x,l)
    |_,_=>none) else none
   |_=>none
  |_=>none
def getVs (D:TD τ dn) (st:SS τ dn):(vs:List (VK τ))→Option (VT dn vs)
 |[]=>some ()
 |v::r=>match getV D st v,getVs D st r with
  |some x,some y=>some (x,y)
  |_,_=>none
def nmV (st:SS τ dn):VK τ→Nat
 | .sl _ _=>0
 | .pt _ nm _=>nm
 | .ow i _=>match st.gt i with
  |some (.own nm _)=>nm
  |_=>0
 | .bl nm _| .ce nm _=>nm
 | .ar _=>0
 | .so q f _ _| .sg q f _ _ _=>match st.gm q with
  |some (.bc _ [vs])=>match vs[f]? with
   |some (.own nm _)=>nm
   |_=>0
  |_=>0
def isOw:VK τ→Bool
 | .ow _ _=>true
 | .so _ _ _ _=>true
 | .sg _ _ _ _ _=>true
 |_=>false
def isSl:VK τ→Bool
 | .sl _ _=>true
 |_=>false
def slotsV:List (VK τ)→List Nat
 |[]=>[]
 | .sl i _::r| .ow i _::r| .pt i _ _::r=>i::slotsV r
 |_::r=>slotsV r
def namesV:List (VK τ)→List Nat→List Nat
 | .sl _ _::r,_::l=>namesV r l
 | .pt _ _ _::r,_::l=>namesV r l
 | .so q _ _ _::r,n::l=>n::q::namesV r l
 | .sg q _ _ _ _::r,n::l=>n::q::namesV r l
 |_::r,n::l=>n::namesV r l
 |_,_=>[]
def movesV:List (VK τ)→List Nat→List Nat
 | .ow _ _::r,n::l=>n::movesV r l
 | .so _ _ _ _::r,n::l=>n::movesV r l
 | .sg _ _ _ _ _::r,n::l=>n::movesV r l
 |_::r,_::l=>movesV r l
 |_,_=>[]
def fixVs:List (VK τ)→List Nat
 |[]=>[]
 | .so q _ _ cs::r=>q::(cs.map Prod.fst++fixVs r)
 | .sg q _ _ _ fx::r=>q::(fx.map (fun c=>c.2.2.1)++fixVs r)
 |_::r=>fixVs r
def putT (D:TD τ dn):(vs:List (VK τ))→List Nat→VT dn vs→List (Nat×SV τ dn)
 | .sl i t::r,_::l,x=>(i,D.en t x.1)::putT D r l x.2
 | .ow i t::r,n::l,x=>(i, .own n (D.sz t))::putT D r l x.2
 | .bl _ _::r,_::l,x=>putT D r l x.2
 | .ce _ _::r,_::l,x=>putT D r l x.2
 | .ar _::r,_::l,x=>putT D r l x.2
 | .pt i nm sz::r,_::l,x=>(i, .part nm sz x.1.1 x.1.2)::putT D r l x.2
 | .so _ _ _ _::r,_::l,x=>putT D r l x.2
 | .sg _ _ _ _ _::r,_::l,x=>putT D r l x.2
 |_,_,_=>[]
def putM (D:TD τ dn):(vs:List (VK τ))→List Nat→VT dn vs→List (Nat×Option (SB τ dn))
 | .sl _ _::r,_::l,x=>putM D r l x.2
 | .ow _ t::r,n::l,x=>(n,some (.bl t x.1))::putM D r l x.2
 | .bl _ t::r,n::l,x=>(n,some (.bl t x.1))::putM D r l x.2
 | .ce _ t::r,n::l,x=>(n,some (.bc (D.sz t) [D.es t x.1]))::putM D r l x.2
 | .ar t::r,n::l,x=>(n,some (.ar t x.1))::putM D r l x.2
 | .pt _ _ _::r,_::l,x=>putM D r l x.2
 | .so q f t cs::r,n::l,x=>(n,some (.bl t x.1))::(q,some (.bc cs.length [soV cs f n (D.sz t)]))::putM D r l x.2
 | .sg q f t S fx::r,n::l,x=>(n,some (.bl t x.1.2))::(q,some (.bc (D.sz S) [(setX onX (D.es S x.1.1) fx).set f (.own n (D.sz t))]))::putM D r l x.2
 |_,_,_=>[]
def mvN:List (VK τ)→List Nat→List Nat→Nat→Nat
 | .ow _ _::r,n::l,m::l',a=>bif Nat.beq a n then m else mvN r l l' a
 | .so _ _ _ _::r,n::l,m::l',a=>bif Nat.beq a n then m else mvN r l l' a
 | .sg _ _ _ _ _::r,n::l,m::l',a=>bif Nat.beq a n then m else mvN r l l' a
 |_::r,_::l,_::l',a=>mvN r l l' a
 |_,_,_,a=>a
def nodupB:List Nat→Bool
 |[]=>true
 |a::r=> !hasN r a&&nodupB r
end
section
variable {τ:Type} {dn:τ→Type} {D:TD τ dn} {N:Nms} {st:SS τ dn} {σ:Nat→AV} {g:Nat→Option Bk}
def VarAt (D:TD τ dn) (N:Nms) (σ:Nat→AV) (g:Nat→Option Bk):(v:VK τ)→Nat→v.T dn→Prop
 | .sl i t,_,x=>Ale (σ i) ((D.en t x).av D.toTE N)
 | .ow i t,n,x=>σ i= .own (N.ι n) (D.sz t) 0 (N.ln n)∧g (N.ι n)=some ⟨D.sz t,x.map (D.ea N.ρ t)⟩∧N.ln n=x.length
 | .bl nm t,n,x=>n=nm∧g (N.ι n)=some ⟨D.sz t,x.map (D.ea N.ρ t)⟩∧N.ln n=x.length
 | .ce nm t,n,x=>n=nm∧g (N.ι n)=some ⟨D.sz t,[D.ea N.ρ t x]⟩∧N.ln n=1
 | .ar t,n,x=>n=0∧g (N.ι n)=some ⟨D.sz t,[]⟩∧N.ln n=0
 | .pt i nm sz,n,x=>n=nm∧σ i= .own (N.ι n) sz x.1 x.2
 | .so q f t cs,n,x=>(g (N.ι n)=some ⟨D.sz t,x.map (D.ea N.ρ t)⟩∧N.ln n=x.length)∧(g (N.ι q)=some ⟨cs.length,[(soV cs f n (D.sz t):List (SV τ dn)).map (SV.av D.toTE N)]⟩∧N.ln q=1)
 | .sg q f t S fx,n,x=>(g (N.ι n)=some ⟨D.sz t,x.2.map (D.ea N.ρ t)⟩∧N.ln n=x.2.length)∧(g (N.ι q)=some ⟨D.sz S,[(setX (avX N) (D.ea N.ρ S x.1) fx).set f (.own (N.ι n) (D.sz t) 0 (N.ln n))]⟩∧N.ln q=1)
theorem getV_ok [DecidableEq τ] (ok:TDok D) (R:RelAt D N st σ g) {v:VK τ} {x:v.T dn} (h:getV D st v=some x):VarAt D N σ g v (nmV st v) x:=by
 cases v with
 |sl i t=>
  simp only [getV] at h
  split at h
  ·rename_i w hw
   show Ale (σ i) _
   rw [R.gt hw];exact deV_le ok h
  ·simp at h
 |ow i t=>
  simp only [getV] at h
  split at h
  ·rename_i nm sz hw
   split at h
   ·rename_i hs
    have hn:nmV st (.ow i t)=nm:=by simp only [nmV,hw]
    rw [hn]
    refine ⟨?_,blkL_ok ok R h⟩
    rw [R.gt hw,hs];rfl
   ·simp at h
  ·simp at h
 |bl nm t=>exact ⟨rfl,blkL_ok ok R h⟩
 |ce nm t=>
  simp only [getV] at h
  split at h
  ·rename_i q cs hB
   split at h
   ·rename_i hq
    obtain ⟨g1,g2⟩:=R.gm hB
    refine ⟨rfl, ?_,g2⟩
    show g (N.ι nm)=_
    rw [g1];simp only [SB.av,SV.avM,SV.avL_map,hq.1,ok.ds_ne N t _ _ h hq.2]
   ·simp at h
  ·simp at h
 |ar t=>
  simp only [getV] at h
  obtain ⟨g1,g2⟩:=R.gm (arA_gm h)
  exact ⟨rfl,g1,g2⟩
 |pt i nm sz=>
  simp only [getV] at h
  split at h
  ·rename_i nm' sz' off len hw
   cases hb:(Nat.beq nm' nm&&Nat.beq sz' sz) with
   |false=>rw [hb] at h;simp at h
   |true=>
    rw [hb,cond_true,Option.some.injEq] at h
    subst h
    rw [Bool.and_eq_true] at hb
    have e1:=Nat.eq_of_beq_eq_true hb.1
    have e2:=Nat.eq_of_beq_eq_true hb.2
    subst e1;subst e2
    exact ⟨rfl,R.gt hw⟩
  ·simp at h
 |so q f t cs=>
  simp only [getV] at h
  split at h
  ·rename_i Q vs hB
   split at h
   ·rename_i nm sz hf
    cases hb:(Nat.beq Q cs.length&&(soE vs cs 0 f&&Nat.beq sz (D.sz t))) with
    |false=>rw [hb] at h;simp at h
    |true=>
     rw [hb,cond_true] at h
     simp only [Bool.and_eq_true] at hb
     obtain ⟨b1,b2,b3⟩:=hb
     have hn:nmV st (.so q f t cs)=nm:=by simp only [nmV,hB,hf]
     obtain ⟨g1,g2⟩:=R.gm hB
     have e:=soE_ok b2 (Nat.zero_le _) hf
     rw [Nat.sub_zero,Nat.eq_of_beq_eq_true b3] at e
     rw [hn]
     refine ⟨blkL_ok ok R h, ?_,g2⟩
     rw [g1,e,Nat.eq_of_beq_eq_true b1];simp only [SB.av,SV.avM,SV.avL_map]
   ·simp at h
  ·simp at h
 |sg q f t S fx=>
  simp only [getV] at h
  split at h
  ·rename_i Q vs hB
   split at h
   ·rename_i nm sz hf
    cases hb:(Nat.beq Q (D.sz S)&&(Nat.beq sz (D.sz t)&&(((setX ofX vs fx).set f (.vl t [])).all SV.ne&&chkX vs fx))) with
    |false=>rw [hb] at h;simp at h
    |true=>
     rw [hb,cond_true] at h
     simp only [Bool.and_eq_true] at hb
     obtain ⟨b1,b2,b3,b4⟩:=hb
     split at h
     ·rename_i y l hx hl
      simp only [Option.some.injEq] at h;subst h
      have hn:nmV st (.sg q f t S fx)=nm:=by simp only [nmV,hB,hf]
      obtain ⟨g1,g2⟩:=R.gm hB
      have e:=ok.ds_ne N S _ _ hx b3
      rw [hn]
      refine ⟨blkL_ok ok R hl, ?_,g2⟩
      have hz:=Nat.eq_of_beq_eq_true b2
      have hf2:(vs.map (SV.av D.toTE N))[f]? =some (.own (N.ι nm) (D.sz t) 0 (N.ln nm)):=by rw [List.getElem?_map,hf, ←hz];rfl
      rw [g1,Nat.eq_of_beq_eq_true b1, ←e,List.map_set,setX_map,setX_back (chkX_ok b4) hf2]
      simp only [SB.av,SV.avM,SV.avL_map]
     ·simp at h
   ·simp at h
  ·simp at h
inductive VarsAt (D:TD τ dn) (N:Nms) (σ:Nat→AV) (g:Nat→Option Bk):(vs:List (VK τ))→List Nat→VT dn vs→Prop
 |nil:VarsAt D N σ g [] [] ()
 |cons {v:VK τ} {vs:List (VK τ)} {n:Nat} {l:List Nat} {x:v.T dn} {y:VT dn vs} (h:VarAt D N σ g v n x) (t:VarsAt D N σ g vs l y):VarsAt D N σ g (v::vs) (n::l) (x,y)
theorem getVs_ok [DecidableEq τ] (ok:TDok D) (R:RelAt D N st σ g):∀{vs:List (VK τ)} {x:VT dn vs},getVs D st vs=some x→VarsAt D N σ g vs (vs.map (nmV st)) x
 |[],x,h=> .nil
 |v::r,x,h=>by
  simp only [getVs] at h
  split at h
  ·rename_i a b h1 h2
   simp only [Option.some.injEq] at h;subst h
   exact .cons (getV_ok ok R h1) (getVs_ok ok R h2)
  ·simp at h
theorem mvN_not {vs:List (VK τ)} {T A:List Nat} {a:Nat} (h:¬a∈movesV vs T):mvN vs T A a=a:=by
 induction vs generalizing T A with
 |nil=>simp [mvN]
 |cons v r ih=>
  cases T with
  |nil=>cases v<;>simp [mvN]
  |cons n l=>
   cases A with
   |nil=>cases v<;>simp [mvN]
   |cons m l'=>
    cases v with
    |ow i t=>
     simp only [movesV,List.mem_cons,not_or] at h
     simp only [mvN]
     have:Nat.beq a n=false:=by
      cases hb:Nat.beq a n with
      |false=>rfl
      |true=>exact absurd (Nat.eq_of_beq_eq_true hb) h.1
     rw [this,cond_false];exact ih h.2
    |so q f t cs=>
     simp only [movesV,List.mem_cons,not_or] at h
     simp only [mvN]
     have:Nat.beq a n=false:=by
      cases hb:Nat.beq a n with
      |false=>rfl
      |true=>exact absurd (Nat.eq_of_beq_eq_true hb) h.1
     rw [this,cond_false];exact ih h.2
    |sg q f t S fx=>
     simp only [movesV,List.mem_cons,not_or] at h
     simp only [mvN]
     have:Nat.beq a n=false:=by
      cases hb:Nat.beq a n with
      |false=>rfl
      |true=>exact absurd (Nat.eq_of_beq_eq_true hb) h.1
     rw [this,cond_false];exact ih h.2
    |_=>
     simp only [movesV] at h
     simp only [mvN];exact ih h
theorem vars_move (D:TD τ dn) {N N':Nms} {σ:Nat→AV} {g:Nat→Option Bk} (hρ:N'.ρ=N.ρ) (ok:TDok D):∀{vs:List (VK τ)} {A T:List Nat} {x:VT dn vs},VarsAt D N σ g vs A x→T.length=A.length→
  (∀(j:Nat) v (n m:Nat),vs[j]? =some v→T[j]? =some n→A[j]? =some m→isSl v=true∨(N'.ι n=N.ι m∧N'.ln n=N.ln m∧(isOw v=true∨n=m)))→(∀a,a∈fixVs vs→N'.ι a=N.ι a∧N'.ln a=N.ln a)→VarsAt D N' σ g vs T x
 |[],[],[],x,h,hl,hN,hF=> .nil
 |[],[],_::_,x,h,hl,hN,hF=>by simp at hl
 |v::r,a::A,[],x,h,hl,hN,hF=>by simp at hl
 |v::r,a::A,n::T,x,h,hl,hN,hF=>by
  cases h with
  |cons h t=>
   refine .cons ?_ (vars_move D hρ ok t (by simpa using hl) (fun j v n m h0 h1 h2=>hN (j+1) v n m (by simpa using h0) (by simpa using h1) (by simpa using h2)) (fun a ha=>hF a (by cases v<;>simp only [fixVs]<;>first|exact ha|exact List.mem_cons_of_mem _ (List.mem_append_right _ ha)|exact List.mem_cons_of_mem _ ha)))
   have hm0:=hN 0 v n a rfl rfl rfl
   cases v with
   |sl i t=>show Ale (σ i) _;rw [←en_ρ ok hρ];exact h
   |ow i t=>
    obtain ⟨e1,e2,_⟩:=hm0.resolve_left (by simp [isSl])
    obtain ⟨h1,h2,h3⟩:=h;exact ⟨by rw [e1,e2];exact h1,by rw [e1,hρ];exact h2,by rw [e2];exact h3⟩
   |bl nm t=>
    obtain ⟨e1,e2,e3⟩:=hm0.resolve_left (by simp [isSl])
    obtain ⟨h1,h2,h3⟩:=h
    have:n=a:=by simpa [isOw] using e3
    exact ⟨this.trans h1,by rw [e1,hρ];exact h2,by rw [e2];exact h3⟩
   |pt i nm sz=>
    obtain ⟨e1,e2,e3⟩:=hm0.resolve_left (by simp [isSl])
    obtain ⟨h1,h2⟩:=h
    have:n=a:=by simpa [isOw] using e3
    exact ⟨this.trans h1,by rw [e1];exact h2⟩
   |ar t=>
    obtain ⟨e1,e2,e3⟩:=hm0.resolve_left (by simp [isSl])
    obtain ⟨h1,h2,h3⟩:=h
    have:n=a:=by simpa [isOw] using e3
    exact ⟨this.trans h1,by rw [e1];exact h2,by rw [e2];exact h3⟩
   |ce nm t=>
    obtain ⟨e1,e2,e3⟩:=hm0.resolve_left (by simp [isSl])
    obtain ⟨h1,h2,h3⟩:=h
    have:n=a:=by simpa [isOw] using e3
    exact ⟨this.trans h1,by rw [e1,hρ];exact h2,by rw [e2];exact h3⟩
   |so q f t cs=>
    obtain ⟨e1,e2,_⟩:=hm0.resolve_left (by simp [isSl])
    obtain ⟨⟨h1,h2⟩,h3,h4⟩:=h
    obtain ⟨q1,q2⟩:=hF q (List.mem_cons_self ..)
    have hc:∀c,c∈cs→N'.ι c.1=N.ι c.1∧N'.ln c.1=N.ln c.1:=fun c hc=>hF c.1 (List.mem_cons_of_mem _ (List.mem_append_left _ (List.mem_map.2 ⟨c,hc,rfl⟩)))
    refine ⟨⟨by rw [e1,hρ];exact h1,by rw [e2];exact h2⟩, ?_,by rw [q2];exact h4⟩
    rw [q1,soV_av e1 e2 hc];exact h3
   |sg q f t S fx=>
    obtain ⟨e1,e2,_⟩:=hm0.resolve_left (by simp [isSl])
    obtain ⟨⟨h1,h2⟩,h3,h4⟩:=h
    obtain ⟨q1,q2⟩:=hF q (List.mem_cons_self ..)
    have hc:∀c,c∈fx→avX N' c=avX N c:=fun c hc=>by
     obtain ⟨w1,w2⟩:=hF c.2.2.1 (List.mem_cons_of_mem _ (List.mem_append_left _ (List.mem_map.2 ⟨c,hc,rfl⟩)))
     unfold avX;rw [w1,w2]
    exact ⟨⟨by rw [e1,hρ];exact h1,by rw [e2];exact h2⟩,by rw [q1,hρ,e1,e2,setX_congr hc];exact h3,by rw [q2];exact h4⟩
theorem vars_slots:∀{vs:List (VK τ)} {T:List Nat} {x:VT dn vs},VarsAt D N σ g vs T x→∀i v,(i,v)∈putT D vs T x→Ale (σ i) (v.av D.toTE N)
 |[],[],x,h,i,v,hm=>by simp [putT] at hm
 |[],_::_,x,h,i,v,hm=>by simp [putT] at hm
 |w::r,[],x,h,i,v,hm=>by cases h
 |w::r,n::T,x,h,i,v,hm=>by
  cases h with
  |cons h t=>
   cases w with
   |sl j ty=>
    simp only [putT,List.mem_cons,Prod.mk.injEq] at hm
    rcases hm with ⟨rfl,rfl⟩|hm
    ·exact h
    ·exact vars_slots t i v hm
   |ow j ty=>
    simp only [putT,List.mem_cons,Prod.mk.injEq] at hm
    rcases hm with ⟨rfl,rfl⟩|hm
    ·exact Ale.of_eq h.1
    ·exact vars_slots t i v hm
   |bl nm ty=>simp only [putT] at hm;exact vars_slots t i v hm
   |ce nm ty=>simp only [putT] at hm;exact vars_slots t i v hm
   |ar ty=>simp only [putT] at hm;exact vars_slots t i v hm
   |so q f ty cs=>simp only [putT] at hm;exact vars_slots t i v hm
   |sg q f ty S fx=>simp only [putT] at hm;exact vars_slots t i v hm
   |pt j nm sz=>
    simp only [putT,List.mem_cons,Prod.mk.injEq] at hm
    rcases hm with ⟨rfl,rfl⟩|hm
    ·obtain ⟨h1,h2⟩:=h;subst h1;exact Ale.of_eq h2
    ·exact vars_slots t i v hm
theorem vars_blocks (ok:TDok D):∀{vs:List (VK τ)} {T:List Nat} {x:VT dn vs},VarsAt D N σ g vs T x→∀nm B,(nm,B)∈putM D vs T x→∃B',B=some B'∧g (N.ι nm)=some (B'.av D.toTE N)∧N.ln nm=B'.len
 |[],[],x,h,nm,B,hm=>by simp [putM] at hm
 |[],_::_,x,h,nm,B,hm=>by simp [putM] at hm
 |w::r,[],x,h,nm,B,hm=>by cases h
 |w::r,n::T,x,h,nm,B,hm=>by
  cases h with
  |cons h t=>
   cases w with
   |sl j ty=>simp only [putM] at hm;exact vars_blocks ok t nm B hm
   |ow j ty=>
    simp only [putM,List.mem_cons,Prod.mk.injEq] at hm
    rcases hm with ⟨rfl,rfl⟩|hm
    ·exact ⟨_,rfl,h.2⟩
    ·exact vars_blocks ok t nm B hm
   |bl nm' ty=>
    simp only [putM,List.mem_cons,Prod.mk.injEq] at hm
    rcases hm with ⟨rfl,rfl⟩|hm
    ·exact ⟨_,rfl,h.2⟩
    ·exact vars_blocks ok t nm B hm
   |ce nm' ty=>
    simp only [putM,List.mem_cons,Prod.mk.injEq] at hm
    rcases hm with ⟨rfl,rfl⟩|hm
    ·obtain ⟨h1,h2,h3⟩:=h
     refine ⟨_,rfl, ?_,h3⟩
     rw [h2];simp only [SB.av,SV.avM,SV.avL_map,ok.es_av]
    ·exact vars_blocks ok t nm B hm
   |pt j nm sz=>simp only [putM] at hm;exact vars_blocks ok t _ B hm
   |so q f ty cs=>
    simp only [putM,List.mem_cons,Prod.mk.injEq] at hm
    rcases hm with ⟨rfl,rfl⟩|⟨rfl,rfl⟩|hm
    ·exact ⟨_,rfl,h.1⟩
    ·refine ⟨_,rfl, ?_,h.2.2⟩
     rw [h.2.1];simp only [SB.av,SV.avM,SV.avL_map]
    ·exact vars_blocks ok t _ B hm
   |sg q f ty S fx=>
    simp only [putM,List.mem_cons,Prod.mk.injEq] at hm
    rcases hm with ⟨rfl,rfl⟩|⟨rfl,rfl⟩|hm
    ·exact ⟨_,rfl,h.1⟩
    ·refine ⟨_,rfl, ?_,h.2.2⟩
     rw [h.2.1];simp only [SB.av,SV.avM,SV.avL_map,List.map_set,setX_map,onX_av,ok.es_av,SV.av]
    ·exact vars_blocks ok t _ B hm
   |ar ty=>
    simp only [putM,List.mem_cons,Prod.mk.injEq] at hm
    rcases hm with ⟨rfl,rfl⟩|hm
    ·exact ⟨_,rfl,h.2⟩
    ·exact vars_blocks ok t nm B hm
def okT (p:Nat→Bool):List (VK τ)→List Nat→Bool
 | .pt _ nm _::r,n::l=>p n&&(p nm&&okT p r l)
 | .sl _ _::r,_::l=>okT p r l
 | .so q _ _ cs::r,n::l=>p n&&(p q&&(cs.all (fun c=>p c.1)&&okT p r l))
 | .sg q _ _ _ fx::r,n::l=>p n&&(p q&&(fx.all (fun c=>p c.2.2.1)&&okT p r l))
 |_::r,n::l=>p n&&okT p r l
 |_,_=>true
theorem okT_get {p:Nat→Bool}:∀{vs:List (VK τ)} {T:List Nat},okT p vs T=true→∀(j:Nat) v n,vs[j]? =some v→T[j]? =some n→isSl v=true∨p n=true
 |[],T,h,j,v,n,h1,h2=>by simp at h1
 |w::r,[],h,j,v,n,h1,h2=>by simp at h2
 |w::r,m::l,h,j,v,n,h1,h2=>by
  cases j with
  |zero=>
   simp only [List.getElem?_cons_zero,Option.some.injEq] at h1 h2
   subst h1;subst h2
   cases w<;>simp only [okT,Bool.and_eq_true] at h<;>first
    |exact .inl rfl
    |exact .inr h.1
  |succ j=>
   have hr:okT p r l=true:=by
    cases w<;>simp only [okT,Bool.and_eq_true] at h<;>first
     |exact h
     |exact h.2
     |exact h.2.2.2
     |exact h.2.2
   exact okT_get hr j v n (by simpa using h1) (by simpa using h2)
theorem okT_fix {p:Nat→Bool}:∀{vs:List (VK τ)} {T:List Nat},okT p vs T=true→T.length=vs.length→∀a,a∈fixVs vs→p a=true
 |[],T,h,_,a,ha=>by simp [fixVs] at ha
 |w::r,[],h,hl,a,ha=>by simp at hl
 |w::r,m::l,h,hl,a,ha=>by
  have hl':l.length=r.length:=by simpa using hl
  cases w with
  |so q f t cs=>
   simp only [okT,Bool.and_eq_true] at h
   simp only [fixVs,List.mem_cons,List.mem_append,List.mem_map] at ha
   rcases ha with rfl|⟨c,hc,rfl⟩|ha
   ·exact h.2.1
   ·exact List.all_eq_true.1 h.2.2.1 c hc
   ·exact okT_fix h.2.2.2 hl' a ha
  |sg q f t S fx=>
   simp only [okT,Bool.and_eq_true] at h
   simp only [fixVs,List.mem_cons,List.mem_append,List.mem_map] at ha
   rcases ha with rfl|⟨c,hc,rfl⟩|ha
   ·exact h.2.1
   ·exact List.all_eq_true.1 h.2.2.1 c hc
   ·exact okT_fix h.2.2.2 hl' a ha
  |sl i t=>simp only [okT] at h;exact okT_fix h hl' a ha
  |pt i nm sz=>simp only [okT,Bool.and_eq_true] at h;exact okT_fix h.2.2 hl' a ha
  |ow i t=>simp only [okT,Bool.and_eq_true] at h;exact okT_fix h.2 hl' a ha
  |bl i t=>simp only [okT,Bool.and_eq_true] at h;exact okT_fix h.2 hl' a ha
  |ce i t=>simp only [okT,Bool.and_eq_true] at h;exact okT_fix h.2 hl' a ha
  |ar t=>simp only [okT,Bool.and_eq_true] at h;exact okT_fix h.2 hl' a ha
theorem en_fr (ok:TDok D) {p:Nat→Bool} (t:τ) (x:dn t):(D.en t x).fr p=true:=by
 have h:=ok.nf p t x
 unfold TD.en
 cases ha:D.ag t with
 |true=>rw [cond_true];simp only [SV.fr];exact h
 |false=>
  rw [cond_false]
  cases hs:D.es t x with
  |nil=>rfl
  |cons v r=>rw [hs] at h;simp only [SV.frL,Bool.and_eq_true] at h;exact h.1
theorem putT_names (ok:TDok D) {p:Nat→Bool}:∀{vs:List (VK τ)} {T:List Nat} {x:VT dn vs},okT p vs T=true→∀i v,(i,v)∈putT D vs T x→v.fr p=true∧i∈slotsV vs
 |[],[],x,hp,i,v,hm=>by simp [putT] at hm
 |[],_::_,x,hp,i,v,hm=>by simp [putT] at hm
 |w::r,[],x,hp,i,v,hm=>by cases w<;>simp [putT] at hm
 |w::r,n::T,x,hp,i,v,hm=>by
  cases w with
  |sl j ty=>
   simp only [okT] at hp
   simp only [putT,List.mem_cons,Prod.mk.injEq] at hm
   simp only [slotsV,List.mem_cons]
   rcases hm with ⟨rfl,rfl⟩|hm
   ·exact ⟨en_fr ok _ _, .inl rfl⟩
   ·have ih:=putT_names ok hp i v hm;exact ⟨ih.1, .inr ih.2⟩
  |ow j ty=>
   simp only [okT,Bool.and_eq_true] at hp
   simp only [putT,List.mem_cons,Prod.mk.injEq] at hm
   simp only [slotsV,List.mem_cons]
   rcases hm with ⟨rfl,rfl⟩|hm
   ·exact ⟨by simp only [SV.fr];exact hp.1, .inl rfl⟩
   ·have ih:=putT_names ok hp.2 i v hm;exact ⟨ih.1, .inr ih.2⟩
  |bl nm ty=>
   simp only [okT,Bool.and_eq_true] at hp
   simp only [putT] at hm;simp only [slotsV];exact putT_names ok hp.2 i v hm
  |ce nm ty=>
   simp only [okT,Bool.and_eq_true] at hp
   simp only [putT] at hm;simp only [slotsV];exact putT_names ok hp.2 i v hm
  |ar ty=>
   simp only [okT,Bool.and_eq_true] at hp
   simp only [putT] at hm;simp only [slotsV];exact putT_names ok hp.2 i v hm
  |pt j nm sz=>
   simp only [okT,Bool.and_eq_true] at hp
   simp only [putT,List.mem_cons,Prod.mk.injEq] at hm
   simp only [slotsV,List.mem_cons]
   rcases hm with ⟨rfl,rfl⟩|hm
   ·exact ⟨by simp only [SV.fr];exact hp.2.1, .inl rfl⟩
   ·have ih:=putT_names ok hp.2.2 i v hm;exact ⟨ih.1, .inr ih.2⟩
  |so q f ty cs=>
   simp only [okT,Bool.and_eq_true] at hp
   simp only [putT] at hm;simp only [slotsV];exact putT_names ok hp.2.2.2 i v hm
  |sg q f ty S fx=>
   simp only [okT,Bool.and_eq_true] at hp
   simp only [putT] at hm;simp only [slotsV];exact putT_names ok hp.2.2.2 i v hm
theorem putM_names {p:Nat→Bool}:∀{vs:List (VK τ)} {T:List Nat} {x:VT dn vs},okT p vs T=true→∀nm B,(nm,B)∈putM D vs T x→p nm=true
 |[],[],x,hp,nm,B,hm=>by simp [putM] at hm
 |[],_::_,x,hp,nm,B,hm=>by simp [putM] at hm
 |w::r,[],x,hp,nm,B,hm=>by cases w<;>simp [putM] at hm
 |w::r,n::T,x,hp,nm,B,hm=>by
  cases w with
  |sl j ty=>simp only [okT] at hp;simp only [putM] at hm;exact putM_names hp nm B hm
  |pt j nm' sz=>simp only [okT,Bool.and_eq_true] at hp;simp only [putM] at hm;exact putM_names hp.2.2 nm B hm
  |so q f ty cs=>
   simp only [okT,Bool.and_eq_true] at hp
   simp only [putM,List.mem_cons,Prod.mk.injEq] at hm
   rcases hm with ⟨rfl,_⟩|⟨rfl,_⟩|hm
   ·exact hp.1
   ·exact hp.2.1
   ·exact putM_names hp.2.2.2 nm B hm
  |sg q f ty S fx=>
   simp only [okT,Bool.and_eq_true] at hp
   simp only [putM,List.mem_cons,Prod.mk.injEq] at hm
   rcases hm with ⟨rfl,_⟩|⟨rfl,_⟩|hm
   ·exact hp.1
   ·exact hp.2.1
   ·exact putM_names hp.2.2.2 nm B hm
  |_=>
   simp only [okT,Bool.and_eq_true] at hp
   simp only [putM,List.mem_cons,Prod.mk.injEq] at hm
   rcases hm with ⟨rfl,_⟩|hm
   ·exact hp.1
   ·exact putM_names hp.2 nm B hm
def lessB (nx:Nat) (a:Nat):Bool:=Nat.blt a nx
theorem lessB_lt {nx a:Nat} (h:lessB nx a=true):a<nx:=Nat.le_of_ble_eq_true h
theorem agree_same {nx:Nat} {N N':Nms} (h:N.agree nx N'):N.same (lessB nx) N':=⟨fun a ha=>h.1 a (lessB_lt ha),h.2⟩
theorem tmpl_rel (ok:TDok D) {n k0:Nat} {s:S3} {vs:List (VK τ)} {T:List Nat} {x:VT dn vs} {rt:List (Nat×SV τ dn)} {rm:List (Nat×Option (SB τ dn))} {nx:Nat} (hV:VarsAt D N s.σ s.g vs T x) (hT:okT (lessB nx) vs T=true) (hl:T.length=vs.length)
  (hrt:∀i v,getS rt i=some v→s.σ i=v.av D.toTE N∧v.fr (lessB nx)=true∧¬i∈slotsV vs) (hrm:∀nm B,getS rm nm=some B→nm<nx∧∀B',B=some B'→s.g (N.ι nm)=some (B'.av D.toTE N)∧N.ln nm=B'.len∧B'.fr (lessB nx)=true)
  (inj:∀a b,a<nx→b<nx→N.ι a=N.ι b→a=b) (lt:∀a,a<nx→N.ι a<s.k)
  (har:∀t A,(⟨rt,rm,putT D vs T x,putM D vs T x,nx⟩:SS τ dn).alv 0 (.ar t A)→∀id,hasA A id→s.g id=some ⟨D.sz t,(lkA A id).map (D.ea N.ρ t)⟩∧id<s.k∧∀nm B,(⟨rt,rm,putT D vs T x,putM D vs T x,nx⟩:SS τ dn).alv nm B→N.ι nm≠id):
  ∃s',s.Le k0 n s'∧Rel D N ⟨rt,rm,putT D vs T x,putM D vs T x,nx⟩ s':=by
 let σ':Nat→AV:=fun i=>match getS (putT D vs T x) i with
  |some v=>v.av D.toTE N
  |none=>s.σ i
 refine ⟨⟨σ',s.g,s.k⟩,S3.le_ale fun i=> ?_,fun N' hN=> ?_,inj,lt,fun nm B h=>lessB_lt (putM_names hT nm B (getS_mem h)),fun nm B h=>(hrm nm B h).1,fun t A h id hid=>(har t A h id hid).2⟩
 ·show Ale (s.σ i) (match getS (putT D vs T x) i with|some v=>v.av D.toTE N|none=>s.σ i)
  split
  ·rename_i v hv;exact vars_slots hV i v (getS_mem hv)
  ·exact Ale.refl
 ·have hs:=agree_same hN
  have hV':VarsAt D N' s.σ s.g vs T x:=by
   refine vars_move D hN.2 ok hV rfl (fun j v n m h0 h1 h2=> ?_) fun a ha=>hs.1 a (okT_fix hT hl a ha)
   rw [h1] at h2;simp only [Option.some.injEq] at h2;subst h2
   rcases okT_get hT j v n h0 h1 with h|h
   ·exact .inl h
   ·exact .inr ⟨(hs.1 n h).1,(hs.1 n h).2, .inr rfl⟩
  refine ⟨fun i v h=> ?_,fun i v h=> ?_,fun nm B h=> ?_,fun nm B h=> ?_,fun t A h id hid=>by rw [hN.2];exact (har t A h id hid).1⟩
  ·show (match getS (putT D vs T x) i with|some v=>v.av D.toTE N|none=>s.σ i)=_
   have h':getS (putT D vs T x) i=some v:=h
   rw [h']
   exact (fr_av hs v (putT_names ok hT i v (getS_mem h')).1).symm
  ·show (match getS (putT D vs T x) i with|some v=>v.av D.toTE N|none=>s.σ i)=_
   obtain ⟨h1,h2,h3⟩:=hrt i v h
   split
   ·rename_i w hw;exact absurd (putT_names ok hT i w (getS_mem hw)).2 h3
   ·rw [h1];exact (fr_av hs v h2).symm
  ·obtain ⟨B',e,h1,h2⟩:=vars_blocks ok hV' nm (some B) (getS_mem h)
   simp only [Option.some.injEq] at e;subst e
   exact ⟨h1,h2⟩
  ·obtain ⟨h0,h1⟩:=hrm nm (some B) h
   obtain ⟨q1,q2,q3⟩:=h1 B rfl
   exact ⟨by rw [(hN.1 nm h0).1,q1,frB_av hs B q3],by rw [(hN.1 nm h0).2];exact q2⟩
def isPt:VK τ→Bool
 | .pt _ _ _=>true
 |_=>false
theorem getV_alive [DecidableEq τ] {v:VK τ} {x:v.T dn} (h:getV D st v=some x):(isSl v=true∨isPt v=true)∨∃B,st.gm (nmV st v)=some B:=by
 have bl:∀{nm t} {xs:List (dn t)},blkL D st nm t=some xs→∃B,st.gm nm=some B:=fun {nm t xs} h=>by
  unfold blkL at h
  split at h
  ·rename_i hB;exact ⟨_,hB⟩
  ·rename_i hB;exact ⟨_,hB⟩
  ·simp at h
 cases v with
 |sl i t=>exact .inl (.inl rfl)
 |pt i nm sz=>exact .inl (.inr rfl)
 |ow i t=>
  simp only [getV] at h
  split at h
  ·rename_i nm sz hw
   split at h
   ·have hn:nmV st (.ow i t)=nm:=by simp only [nmV,hw]
    rw [hn];exact .inr (bl h)
   ·simp at h
  ·simp at h
 |bl nm t=>exact .inr (bl h)
 |ce nm t=>
  simp only [getV] at h
  split at h
  ·rename_i hB;exact .inr ⟨_,hB⟩
  ·simp at h
 |ar t=>exact .inr ⟨_,arA_gm h⟩
 |so q f t cs=>
  simp only [getV] at h
  split at h
  ·rename_i Q vs hB
   split at h
   ·rename_i nm sz hf
    have hn:nmV st (.so q f t cs)=nm:=by simp only [nmV,hB,hf]
    cases hb:(Nat.beq Q cs.length&&(soE vs cs 0 f&&Nat.beq sz (D.sz t))) with
    |false=>rw [hb] at h;simp at h
    |true=>rw [hb,cond_true] at h;rw [hn];exact .inr (bl h)
   ·simp at h
  ·simp at h
 |sg q f t S fx=>
  simp only [getV] at h
  split at h
  ·rename_i Q vs hB
   split at h
   ·rename_i nm sz hf
    have hn:nmV st (.sg q f t S fx)=nm:=by simp only [nmV,hB,hf]
    cases hb:(Nat.beq Q (D.sz S)&&(Nat.beq sz (D.sz t)&&(((setX ofX vs fx).set f (.vl t [])).all SV.ne&&chkX vs fx))) with
    |false=>rw [hb] at h;simp at h
    |true=>
     rw [hb,cond_true] at h
     split at h
     ·rename_i y l hx hl
      rw [hn];exact .inr (bl hl)
     ·simp at h
   ·simp at h
  ·simp at h
theorem getV_sg [DecidableEq τ] {q f:Nat} {t S:τ} {fx:List (Nat×τ×Nat×Nat)} {x:(VK.sg q f t S fx).T dn} (h:getV D st (.sg q f t S fx)=some x):∃B,st.gm q=some B:=by
 simp only [getV] at h
 split at h
 ·rename_i Q vs hB;exact ⟨_,hB⟩
 ·simp at h
theorem getV_so [DecidableEq τ] {q f:Nat} {t:τ} {cs:List (Nat×Nat)} {x:(VK.so q f t cs).T dn} (h:getV D st (.so q f t cs)=some x):∃B,st.gm q=some B:=by
 simp only [getV] at h
 split at h
 ·rename_i Q vs hB;exact ⟨_,hB⟩
 ·simp at h
theorem putM_alive [DecidableEq τ] {st:SS τ dn}:∀{vs:List (VK τ)} {T:List Nat} {x:VT dn vs},getVs D st vs=some x→T.length=vs.length→∀nm B,(nm,some B)∈putM D vs T x→(∃(j:Nat) (v:VK τ),vs[j]? =some v∧T[j]? =some nm∧isSl v=false∧(∃B',st.gm (nmV st v)=some B')∧(∀t A,B= .ar t A→v= .ar t∧st.gm 0=some (.ar t A)))∨(nm∈fixVs vs∧(∃B',st.gm nm=some B')∧∀t A,B≠ .ar t A)
 |[],[],x,h,hl,nm,B,hm=>by simp [putM] at hm
 |[],_::_,x,h,hl,nm,B,hm=>by simp at hl
 |v::r,[],x,h,hl,nm,B,hm=>by simp at hl
 |v::r,n::T,x,h,hl,nm,B,hm=>by
  simp only [getVs] at h
  split at h
  case h_2=>simp at h
  rename_i a b h1 h2
  simp only [Option.some.injEq] at h;subst h
  have ih:(nm,some B)∈putM D r T b→(∃(j:Nat) (w:VK τ),(v::r)[j]? =some w∧(n::T)[j]? =some nm∧isSl w=false∧(∃B',st.gm (nmV st w)=some B')∧(∀t A,B= .ar t A→w= .ar t∧st.gm 0=some (.ar t A)))∨(nm∈fixVs (v::r)∧(∃B',st.gm nm=some B')∧∀t A,B≠ .ar t A):=fun hm=>by
   rcases putM_alive h2 (by simpa using hl) nm B hm with ⟨j,w,q⟩|⟨q1,q2⟩
   ·exact .inl ⟨j+1,w,by simpa using q⟩
   ·exact .inr ⟨by cases v<;>simp only [fixVs]<;>first|exact q1|exact List.mem_cons_of_mem _ (List.mem_append_right _ q1)|exact List.mem_cons_of_mem _ q1,q2⟩
  have hal:=getV_alive h1
  cases v with
  |sl i t=>simp only [putM] at hm;exact ih hm
  |pt i nm' sz=>simp only [putM] at hm;exact ih hm
  |so q f t cs=>
   simp only [putM,List.mem_cons,Prod.mk.injEq,Option.some.injEq] at hm
   rcases hm with ⟨rfl,rfl⟩|⟨rfl,rfl⟩|hm
   ·exact .inl ⟨0,_,rfl,rfl,rfl,hal.resolve_left (by simp [isSl,isPt]),fun t A e=>by simp at e⟩
   ·exact .inr ⟨List.mem_cons_self ..,getV_so h1,fun t A e=>by simp at e⟩
   ·exact ih hm
  |sg q f t S fx=>
   simp only [putM,List.mem_cons,Prod.mk.injEq,Option.some.injEq] at hm
   rcases hm with ⟨rfl,rfl⟩|⟨rfl,rfl⟩|hm
   ·exact .inl ⟨0,_,rfl,rfl,rfl,hal.resolve_left (by simp [isSl,isPt]),fun t A e=>by simp at e⟩
   ·exact .inr ⟨List.mem_cons_self ..,getV_sg h1,fun t A e=>by simp at e⟩
   ·exact ih hm
  |ow i t=>
   simp only [putM,List.mem_cons,Prod.mk.injEq,Option.some.injEq] at hm
   rcases hm with ⟨rfl,rfl⟩|hm
   ·exact .inl ⟨0,_,rfl,rfl,rfl,hal.resolve_left (by simp [isSl,isPt]),fun t A e=>by simp at e⟩
   ·exact ih hm
  |bl i t=>
   simp only [putM,List.mem_cons,Prod.mk.injEq,Option.some.injEq] at hm
   rcases hm with ⟨rfl,rfl⟩|hm
   ·exact .inl ⟨0,_,rfl,rfl,rfl,hal.resolve_left (by simp [isSl,isPt]),fun t A e=>by simp at e⟩
   ·exact ih hm
  |ce i t=>
   simp only [putM,List.mem_cons,Prod.mk.injEq,Option.some.injEq] at hm
   rcases hm with ⟨rfl,rfl⟩|hm
   ·exact .inl ⟨0,_,rfl,rfl,rfl,hal.resolve_left (by simp [isSl,isPt]),fun t A e=>by simp at e⟩
   ·exact ih hm
  |ar t=>
   simp only [putM,List.mem_cons,Prod.mk.injEq,Option.some.injEq] at hm
   rcases hm with ⟨rfl,rfl⟩|hm
   ·refine .inl ⟨0,_,rfl,rfl,rfl,hal.resolve_left (by simp [isSl,isPt]),fun t' A e=> ?_⟩
    simp only [SB.ar.injEq] at e
    obtain ⟨rfl,e⟩:=e
    have e:=eq_of_heq e
    subst e
    exact ⟨rfl,arA_gm h1⟩
   ·exact ih hm
end
open Go.RowKit
inductive Fz (g:Nat→Option Bk) (F:List Nat):AV→AV→Prop
 |refl {a:AV}:Fz g F a a
 |snap {a a':AV} (hid:∀id,id∈a.id1→id∈F) (h:(snap1 a).run g=some a'):Fz g F a a'
 |agg {cs ds:List AV} (hl:cs.length=ds.length) (h:∀(i:Nat) c d,cs[i]? =some c→ds[i]? =some d→Fz g F c d):Fz g F (.agg cs) (.agg ds)
 |tup {cs ds:List AV} (hl:cs.length=ds.length) (h:∀(i:Nat) c d,cs[i]? =some c→ds[i]? =some d→Fz g F c d):Fz g F (.tup cs) (.tup ds)
 |fn {f:FuncId} {cs ds:List AV} (hl:cs.length=ds.length) (h:∀(i:Nat) c d,cs[i]? =some c→ds[i]? =some d→Fz g F c d):Fz g F (.fn f cs) (.fn f ds)
 |bf {f:FuncId} {cs ds:List AV} (hl:cs.length=ds.length) (h:∀(i:Nat) c d,cs[i]? =some c→ds[i]? =some d→Fz g F c d):Fz g F (.bf f cs) (.bf f ds)
theorem snap1_pu {g:Nat→Option Bk} {a a':AV} (h:(snap1 a).run g=some a'):Pu a':=by
 have other:(if a.pu1=true then RM.ret a else RM.fail).run g=some a'→Pu a':=fun h=>by
  split at h
  ·rename_i hp;simp only [RM.run,Option.some.injEq] at h;subst h;exact AV.pu1_pu hp
  ·simp [RM.run] at h
 cases a with
 |own id sz off n=>
  simp only [snap1] at h
  obtain ⟨els,h1,h2⟩:=bind_run h
  split at h2
  ·simp only [RM.run,Option.some.injEq] at h2;subst h2;exact .lst
  ·simp [RM.run] at h2
 |ref id sz i o=>
  simp only [snap1,RM.run] at h
  cases hB:g id with
  |none=>simp [hB] at h
  |some B=>
   simp only [hB] at h
   split at h
   ·split at h
    ·split at h
     ·simp only [RM.run,Option.some.injEq] at h;subst h;exact .pim
     ·simp [RM.run] at h
    ·simp [RM.run] at h
   ·simp [RM.run] at h
 |_=>exact other h
section
variable {E E':Env} {J:Nat→Prop} {base:Nat} {g:Nat→Option Bk} {F:List Nat}
theorem fz_rep (hm:MemAt E J base g) (hE:E.Le E') (hw:E'.w=E.w) (hI:∀id b B,id∈F→g id=some B→E.loc id=some b→E'.I b) (hI2:∀b,E.I b→E'.I b) {a a':AV} (hf:Fz g F a a'):∀{v:Value},Rep E v a→Rep E' v a':=by
 have cells:∀{vs:Array Value} {cs ds:List AV},cs.length=ds.length→(∀(i:Nat) c d,cs[i]? =some c→ds[i]? =some d→∀{v:Value},Rep E v c→Rep E' v d)→(∀(i:Nat) v c,vs[i]? =some v→cs[i]? =some c→Rep E v c)→∀(i:Nat) v d,vs[i]? =some v→ds[i]? =some d→Rep E' v d:=fun {vs cs ds} hl ih h i v d hv hd=>by
  have hi:i<cs.length:=by rw [hl];exact (List.getElem?_eq_some_iff.1 hd).1
  exact ih i cs[i] d (List.getElem?_eq_getElem hi) hd (h i v _ hv (List.getElem?_eq_getElem hi))
 induction hf with
 |refl=>intro v h;exact h.step hE
 | @snap a a' hid h=>
  intro v hr
  have h1:=snap1_rep hm E'.I hr h (fun b hb=>by
   rcases hb with hb|⟨id,B,h1,h2,h3⟩
   ·exact hI2 b hb
   ·exact hI id b B (hid id h1) h2 h3)
  exact Rep.pure (E:=Proofs.Ytboaekdecndckaa.E0 E.w E'.I) (E':=E') (fun b hb=>⟨hb,fun o=>by rw [hw];rfl⟩) h1 (snap1_pu h)
 |agg hl h ih=>intro v hr;cases hr with|agg hl' hr=>exact .agg (hl'.trans hl) (cells hl (fun i c d h1 h2 v h3=>ih i c d h1 h2 h3) hr)
 |tup hl h ih=>intro v hr;cases hr with|tup hl' hr=>exact .tup (hl'.trans hl) (cells hl (fun i c d h1 h2 v h3=>ih i c d h1 h2 h3) hr)
 |fn hl h ih=>intro v hr;cases hr with|fn hl' hr=>exact .fn (hl'.trans hl) (cells hl (fun i c d h1 h2 v h3=>ih i c d h1 h2 h3) hr)
 |bf hl h ih=>intro v hr;cases hr with|bf hl' hr=>exact .bf (hl'.trans hl) (cells hl (fun i c d h1 h2 v h3=>ih i c d h1 h2 h3) hr)
def FzM (g:Nat→Option Bk) (F:List Nat) (els els':List (List AV)):Prop:=els.length=els'.length∧∀(i:Nat) cs ds,els[i]? =some cs→els'[i]? =some ds→cs.length=ds.length∧∀(j:Nat) c d,cs[j]? =some c→ds[j]? =some d→Fz g F c d
theorem FzM.refl {els:List (List AV)}:FzM g F els els:=⟨rfl,fun i cs ds h1 h2=>by rw [h1] at h2;cases h2;exact ⟨rfl,fun j c d h3 h4=>by rw [h3] at h4;cases h4;exact .refl⟩⟩
theorem S3.le_frz {n k0:Nat} {s:S3} {σ':Nat→AV} {g':Nat→Option Bk} (hσ:∀i,Fz s.g F (s.σ i) (σ' i)) (hF:∀id,id∈F→∃B,s.g id=some B) (hg1:∀id,id∈F→g' id=none) (hg2:∀id,¬id∈F→s.g id=none→g' id=none) (hg3:∀id B,¬id∈F→s.g id=some B→∃B',g' id=some B'∧B'.sz=B.sz∧FzM s.g F B.els B'.els):s.Le k0 n ⟨σ',g',s.k⟩:=by
 intro E0 J base w0 a w hk hr
 obtain ⟨E,rfl,hle,hs,hm,hkn,hmk⟩:=hr.ex
 obtain ⟨E',hw,hE,hM,k1,k2,k3⟩:=hm.kill F (fun id hid=>by obtain ⟨B,hB⟩:=hF id hid;exact ((hm.live id).2 ⟨B,hB⟩).1)
 have rep:∀{a a':AV},Fz s.g F a a'→∀{v:Value},Rep E v a→Rep E' v a':=fun h=>fz_rep hm hE hw k2 k3 h
 have key:∀id,gput s.g (F.map fun id=>(id,none)) id=if id∈F then none else s.g id:=fun id=>gput_nones F s.g id
 refine ⟨⟨E',hw,hle.trans hE,fun j=>rep (hσ j) (hs j), ?_,fun id hid=>hkn id (k1 id hid),hmk.step hE⟩,hr.size,hr.below,hr.gl⟩
 have old:∀{id B'},g' id=some B'→¬id∈F∧∃B,s.g id=some B∧B'.sz=B.sz∧FzM s.g F B.els B'.els:=fun {id B'} h=>by
  by_cases hid:id∈F
  ·rw [hg1 id hid] at h;simp at h
  ·refine ⟨hid, ?_⟩
   cases hB:s.g id with
   |none=>rw [hg2 id hid hB] at h;simp at h
   |some B=>
    obtain ⟨B2,q1,q2,q3⟩:=hg3 id B hid hB
    rw [q1] at h;simp only [Option.some.injEq] at h;subst h
    exact ⟨B,rfl,q2,q3⟩
 have kq:∀{id B},¬id∈F→s.g id=some B→gput s.g (F.map fun id=>(id,none)) id=some B:=fun h1 h2=>by rw [key,if_neg h1];exact h2
 refine ⟨fun id=> ?_,fun id B' hg=> ?_,fun id id' b B1 B2 h1 h2 h3 h4=> ?_,fun id b B' hg hb hI=> ?_,hM.low,hM.size,fun id B' hg hz=> ?_,hM.rgb,fun b hX=>⟨(hM.xo b hX).1,(hM.xo b hX).2.1,fun k B1 hk he=> ?_⟩⟩
 ·show _↔∃B,g' id=some B
  rw [hM.live id,key]
  by_cases hid:id∈F
  ·rw [if_pos hid,hg1 id hid]
  ·rw [if_neg hid]
   cases hB:s.g id with
   |none=>rw [hg2 id hid hB]
   |some B=>
    obtain ⟨B',q1,_⟩:=hg3 id B hid hB
    rw [q1];exact ⟨fun _=>⟨_,rfl⟩,fun _=>⟨_,rfl⟩⟩
 ·obtain ⟨hid,B,hB,hz,hel,hf⟩:=old hg
  have hlive:=(hM.live id).2 ⟨B,kq hid hB⟩
  have hlive0:=(hm.live id).2 ⟨B,hB⟩
  have hloc:E'.loc id=E.loc id:=(hE.loc id hlive0.1 hlive0.2).resolve_left hlive.2
  rw [hloc]
  have h0:=hm.at_ id B hB
  cases hl:E.loc id with
  |none=>
   rw [hl] at h0
   have h0':B.els=[]:=h0
   show B'.els=[]
   rw [h0'] at hel
   exact List.eq_nil_of_length_eq_zero (by simpa using hel.symm)
  |some b=>
   rw [hl] at h0
   have get:∀{els els':List (List AV)} {i:Nat} {ds:List AV},els.length=els'.length→els'[i]? =some ds→∃cs,els[i]? =some cs:=fun {els els' i ds} hl h=>⟨_,List.getElem?_eq_getElem (by rw [hl];exact (List.getElem?_eq_some_iff.1 h).1)⟩
   obtain ⟨h1,⟨hz0,arr,t,h2,h3,h4⟩|⟨hz0,es,c,h2,h3,h4⟩⟩:=h0
   ·refine .ofCells ⟨h1,arr,t,by rw [hw];exact h2,by rw [←hel,hz];exact h3,fun i ds hi=> ?_⟩ (by rw [hz];exact hz0)
    obtain ⟨cs,hc⟩:=get hel hi
    obtain ⟨e1,e2⟩:=hf i cs ds hc hi
    refine ⟨by rw [←e1,hz];exact (h4 i cs hc).1,fun j d hj=> ?_⟩
    have hjl:j<cs.length:=by rw [e1];exact (List.getElem?_eq_some_iff.1 hj).1
    obtain ⟨u,u1,u2,u3⟩:=(h4 i cs hc).2 j cs[j] (List.getElem?_eq_getElem hjl)
    exact ⟨u,by rw [hz];exact u1,u2,rep (e2 j _ d (List.getElem?_eq_getElem hjl) hj) u3⟩
   ·refine .ofMap ⟨h1,es,c,by rw [hw];exact h2,by rw [←hel];exact h3,fun i e ds he hi=> ?_⟩ (by rw [hz];exact hz0)
    obtain ⟨cs,hc⟩:=get hel hi
    obtain ⟨e1,e2⟩:=hf i cs ds hc hi
    obtain ⟨x,rfl,x2,x3⟩:=h4 i e cs he hc
    match ds,e1 with
    |[d1,d2],_=>
     have f1:=e2 0 _ d1 rfl rfl
     have f2:=e2 1 _ d2 rfl rfl
     have:d1= .v e.key:=by
      generalize hq:(AV.v e.key)=q at f1
      cases f1 with
      |refl=>rfl
      |snap _ h=>subst hq;simp [snap1,AV.pu1,RM.run] at h;exact h.symm
      |_=>simp at hq
     subst this
     exact ⟨d2,rfl,x2,rep f2 x3⟩
 ·obtain ⟨q1,B3,q2,_⟩:=old h1
  obtain ⟨q3,B4,q4,_⟩:=old h2
  exact hM.apart id id' b B3 B4 (kq q1 q2) (kq q3 q4) h3 h4
 ·obtain ⟨q1,B3,q2,_⟩:=old hg
  exact hM.out id b B3 (kq q1 q2) hb hI
 ·obtain ⟨q1,B3,q2,q3,q4,_⟩:=old hg
  rw [←q4]
  exact hM.len id B3 (kq q1 q2) (by rw [←q3];exact hz)
 ·obtain ⟨q1,B3,q2,_⟩:=old hk
  exact (hM.xo b hX).2.2 k B3 (kq q1 q2) he
end
section
variable {τ:Type} {dn:τ→Type} [DecidableEq τ]
def fzB1 (D:TD τ dn) (ta:τ) (A:List (Nat×List (dn ta))):SB τ dn→Option (SB τ dn×Prop)
 | .bl t K=>match D.fz t ta A with
  |some ⟨t',f,O⟩=>some (.bl t' (K.map f),∀x,x∈K→O x)
  |none=>none
 |_=>none
def fzL1 (D:TD τ dn) (st:SS τ dn) (ta:τ) (A:List (Nat×List (dn ta))):List Nat→List (Nat×(SB τ dn×Prop))
 |[]=>[]
 |nm::l=>match st.gm nm with
  |some B=>match fzB1 D ta A B with
   |some q=>bif !Nat.beq nm 0&&st.rw nm then (nm,q)::fzL1 D st ta A l else fzL1 D st ta A l
   |none=>fzL1 D st ta A l
  |none=>fzL1 D st ta A l
theorem fzL1_mem {D:TD τ dn} {st:SS τ dn} {ta:τ} {A:List (Nat×List (dn ta))}:∀{l:List Nat} {q:Nat×(SB τ dn×Prop)},q∈fzL1 D st ta A l→∃B,st.gm q.1=some B∧fzB1 D ta A B=some q.2∧q.1≠0∧st.rw q.1=true
 |[],q,h=>by simp [fzL1] at h
 |nm::l,q,h=>by
  simp only [fzL1] at h
  split at h
  ·rename_i B hB
   split at h
   ·rename_i p hp
    cases hc:(!Nat.beq nm 0&&st.rw nm) with
    |false=>rw [hc,cond_false] at h;exact fzL1_mem h
    |true=>
     rw [hc,cond_true,List.mem_cons] at h
     rcases h with rfl|h
     ·simp only [Bool.and_eq_true,Bool.not_eq_true'] at hc
      exact ⟨B,hB,hp,fun e=>by have:=hc.1;rw [show nm=0 from e] at this;simp at this,hc.2⟩
     ·exact fzL1_mem h
   ·exact fzL1_mem h
  ·exact fzL1_mem h
def SS.fz1 (D:TD τ dn) (st:SS τ dn) (l:List Nat):Option (List Prop×SS τ dn):=match st.gm 0 with
 |some (.ar ta A)=>match fzL1 D st ta A l with
  |[]=>none
  |q::L=>bif D.pu ta&&st.rw 0 then some ((q::L).map (fun q=>q.2.2),⟨st.rt,st.rm,st.t,(q::L).map (fun q=>(q.1,some q.2.1))++(0,some (.ar ta []))::st.m,st.nx⟩) else none
 |_=>none
theorem getS_appk {α β:Type} {f:β→α} {r:List (Nat×α)}:∀{L:List (Nat×β)} {a:Nat},(∃q,q∈L∧q.1=a∧getS (L.map (fun q=>(q.1,f q.2))++r) a=some (f q.2))∨((∀q,q∈L→q.1≠a)∧getS (L.map (fun q=>(q.1,f q.2))++r) a=getS r a)
 |[],a=> .inr ⟨fun q h=>by simp at h,rfl⟩
 |q::L,a=>by
  rw [List.map_cons,List.cons_append,getS_cons]
  by_cases h:a=q.1
  ·rw [if_pos h];exact .inl ⟨q,List.mem_cons_self ..,h.symm,rfl⟩
  ·rw [if_neg h]
   rcases getS_appk (f:=f) (r:=r) (L:=L) (a:=a) with ⟨p,h1,h2,h3⟩|⟨h1,h2⟩
   ·exact .inl ⟨p,List.mem_cons_of_mem _ h1,h2,h3⟩
   ·refine .inr ⟨fun p hp=> ?_,h2⟩
    rcases List.mem_cons.1 hp with rfl|hp
    ·exact fun e=>h e.symm
    ·exact h1 p hp
theorem fz1_ok {D:TD τ dn} (ok:TDok D) {N:Nms} {st st':SS τ dn} {s:S3} {n k0:Nat} (R:Rel D N st s) {l:List Nat} {O:List Prop} (h:st.fz1 D l=some (O,st')) (hO:∀p,p∈O→p):∃s',s.Le k0 n s'∧Rel D N st' s'∧st'.rt=st.rt∧st'.rm=st.rm∧st'.nx=st.nx:=by
 unfold SS.fz1 at h
 split at h
 case h_2=>simp at h
 rename_i ta A hgm
 split at h
 ·simp at h
 rename_i q0 L0 hL
 cases hc:(D.pu ta&&st.rw 0) with
 |false=>rw [hc] at h;simp at h
 |true=>
 rw [hc,cond_true,Option.some.injEq,Prod.mk.injEq] at h
 obtain ⟨rfl,rfl⟩:=h
 have hmem:∀q,q∈q0::L0→∃B,st.gm q.1=some B∧fzB1 D ta A B=some q.2∧q.1≠0∧st.rw q.1=true:=fun q hq=>fzL1_mem (l:=l) (by rw [hL];exact hq)
 generalize q0::L0=L at hO hmem
 clear hL q0 L0
 simp only [Bool.and_eq_true] at hc
 obtain ⟨hpu,hw0⟩:=hc
 obtain ⟨⟨B2,m2⟩,r2⟩:=rw_may hw0
 have hB2:B2= .ar ta A:=by have:=gm_m m2;rw [this] at hgm;simpa using hgm
 subst hB2
 have hlt0:=R.ml 0 _ m2
 have hA:=R.here
 have hrow:=hA.ar ta A (.inl m2)
 have hsp:=R.sp ta A (.inl m2)
 have hq:∀q,q∈L→∃t K t' f O,getS st.m q.1=some (some (.bl t K))∧getS st.rm q.1=none∧q.1≠0∧D.fz t ta A=some ⟨t',f,O⟩∧q.2.1= .bl t' (K.map f)∧∀x,x∈K→O x:=fun q hq=>by
  obtain ⟨B,h1,h2,h3,h4⟩:=hmem q hq
  obtain ⟨⟨B1,m1⟩,r1⟩:=rw_may h4
  have hB1:B1=B:=by have:=gm_m m1;rw [this] at h1;simpa using h1
  subst hB1
  unfold fzB1 at h2
  split at h2
  case h_2=>simp at h2
  rename_i t K
  split at h2
  case h_2=>simp at h2
  rename_i t' f O hfz
  simp only [Option.some.injEq] at h2
  have e1:q.2.1= .bl t' (K.map f):=by rw [←h2]
  have e2:q.2.2=∀x,x∈K→O x:=by rw [←h2]
  have e3:q.2.2:=hO _ (List.mem_map.2 ⟨q,hq,rfl⟩)
  exact ⟨t,K,t',f,O,m1,r1,h3,hfz,e1,e2▸e3⟩
 have hsame:∀q p,q∈L→p∈L→q.1=p.1→q=p:=fun q p hq hp e=>by
  obtain ⟨B,h1,h2,_⟩:=hmem q hq
  obtain ⟨C,g1,g2,_⟩:=hmem p hp
  rw [e,g1] at h1
  simp only [Option.some.injEq] at h1;subst h1
  rw [g2] at h2
  simp only [Option.some.injEq] at h2
  exact Prod.ext e h2.symm
 let F:List Nat:=A.map Prod.fst
 have hFm:∀{id},id∈F↔hasA A id:=fun {id}=>Iff.rfl
 let φ:AV→AV:=fun a=>match a with
  | .own id sz off n=>if id∈F then ((snap1 (.own id sz off n)).run s.g).getD (.own id sz off n) else .own id sz off n
  |a=>a
 have hφ1:∀a,a.pu1=true→φ a=a:=fun a ha=>by cases a<;>first|rfl|(simp [AV.pu1] at ha)
 have hφF:∀a,Fz s.g F a (φ a):=fun a=>by
  cases a with
  |own id sz off n=>
   show Fz s.g F _ (if id∈F then _ else _)
   by_cases hid:id∈F
   ·rw [if_pos hid]
    cases hs:(snap1 (.own id sz off n)).run s.g with
    |none=>exact .refl
    |some a'=>exact .snap (fun i hi=>by simp only [AV.id1,List.mem_singleton] at hi;subst hi;exact hid) hs
   ·rw [if_neg hid];exact .refl
  |_=>exact .refl
 have hφ2:∀id n,hasA A id→(lkA A id).length=n→φ (.own id (D.sz ta) 0 n)= .lst (D.sz ta) ((lkA A id).map (D.ea N.ρ ta)):=fun id n hid hn=>by
  show (if id∈F then _ else _)=_
  rw [if_pos (hFm.2 hid)]
  have c1:(content (D.sz ta) (.own id (D.sz ta) 0 n)).run s.g=some ((lkA A id).map (D.ea N.ρ ta)):=by
   simp only [content,RM.run,hrow id hid, ←hn,Nat.zero_add,List.length_map,Nat.le_refl,and_self,if_true,List.drop_zero]
   rw [List.take_of_length_le (by simp)]
  have hall:(((lkA A id).map (D.ea N.ρ ta)).all fun cs=>cs.all AV.pu1)=true:=by
   simp only [List.all_eq_true,List.mem_map]
   rintro _ ⟨y,_,rfl⟩
   have:=ok.pu1 N ta y hpu
   simpa [List.all_eq_true] using this
  simp only [snap1]
  rw [run_bindS c1]
  simp only [hall,if_true,RM.run,Option.getD_some]
 have hno:∀a B,st.alv a B→¬N.ι a∈F:=fun a B hB hh=>(hsp _ (hFm.1 hh)).2 a B hB rfl
 have hlt:∀q,q∈L→q.1<st.nx:=fun q hq'=>by
  obtain ⟨t,K,t',f,O,h1,_⟩:=hq q hq'
  exact R.ml _ _ h1
 let g':Nat→Option Bk:=fun id=>if id∈F then none else match L.find? fun q=>N.ι q.1==id with
  |some q=>some (q.2.1.av D.toTE N)
  |none=>s.g id
 have gc:∀id,¬id∈F→(∃q,q∈L∧N.ι q.1=id∧g' id=some (q.2.1.av D.toTE N))∨((∀q,q∈L→N.ι q.1≠id)∧g' id=s.g id):=fun id hid=>by
  show (∃q,q∈L∧N.ι q.1=id∧(if id∈F then none else match L.find? (fun q=>N.ι q.1==id) with|some q=>some (q.2.1.av D.toTE N)|none=>s.g id)=some (q.2.1.av D.toTE N))∨((∀q,q∈L→N.ι q.1≠id)∧(if id∈F then none else match L.find? (fun q=>N.ι q.1==id) with|some q=>some (q.2.1.av D.toTE N)|none=>s.g id)=s.g id)
  rw [if_neg hid]
  cases hf:L.find? (fun q=>N.ι q.1==id) with
  |none=>
   rw [List.find?_eq_none] at hf
   exact .inr ⟨fun q hq e=>by have:=hf q hq;simp [e] at this,rfl⟩
  |some q=>
   have h1:=List.find?_some hf
   simp only [beq_iff_eq] at h1
   exact .inl ⟨q,List.mem_of_find?_eq_some hf,h1,rfl⟩
 refine ⟨⟨s.σ,g',s.k⟩,S3.le_frz (F:=F) (fun i=> .refl) (fun id hid=>⟨_,hrow id (hFm.1 hid)⟩) (fun id hid=>if_pos hid) (fun id hid hn=> ?_) (fun id B hid hB=> ?_), ?_,rfl,rfl,rfl⟩
 ·show g' id=none
  rcases gc id hid with ⟨q,h1,h2,h3⟩|⟨h1,h2⟩
  ·obtain ⟨t,K,t',f,O,m1,_⟩:=hq q h1
   rw [←h2,(hA.bl _ _ m1).1] at hn;simp at hn
  ·rw [h2];exact hn
 ·show ∃B',g' id=some B'∧_
  rcases gc id hid with ⟨q,h1,h2,h3⟩|⟨h1,h2⟩
  ·obtain ⟨t,K,t',f,O,m1,_,_,hfz,e1,hOx⟩:=hq q h1
   obtain ⟨hz,hcv⟩:=ok.fz N φ t ta A t' f O hfz hφ1 hφ2
   rw [←h2,(hA.bl _ _ m1).1] at hB
   simp only [SB.av,Option.some.injEq] at hB
   subst hB
   refine ⟨_,h3,by rw [e1];exact hz,by rw [e1];simp [SB.av],fun i cs ds h1 h2=> ?_⟩
   rw [e1] at h2
   simp only [SB.av,List.getElem?_map,Option.map_eq_some_iff] at h1 h2
   obtain ⟨x,hx,rfl⟩:=h1
   obtain ⟨_,⟨y,hy,rfl⟩,rfl⟩:=h2
   rw [hx] at hy;simp only [Option.some.injEq] at hy;subst hy
   have e:=hcv x (hOx x (List.mem_of_getElem? hx))
   rw [←e]
   refine ⟨by simp,fun j c d h3 h4=> ?_⟩
   rw [List.getElem?_map,h3] at h4
   simp only [Option.map_some,Option.some.injEq] at h4
   subst h4;exact hφF c
  ·rw [h2];exact ⟨B,hB,rfl,FzM.refl⟩
 ·have hm':∀a X,getS (L.map (fun q=>(q.1,some q.2.1))++(0,some (SB.ar ta ([]:List (Nat×List (dn ta)))))::st.m) a=some X→(∃q,q∈L∧q.1=a∧X=some q.2.1)∨(a=0∧X=some (.ar ta []))∨(a≠0∧(∀q,q∈L→q.1≠a)∧getS st.m a=some X):=fun a X h=>by
   rcases getS_appk (f:=fun p:SB τ dn×Prop=>some p.1) (r:=(0,some (SB.ar ta ([]:List (Nat×List (dn ta)))))::st.m) (L:=L) (a:=a) with ⟨q,h1,h2,h3⟩|⟨h1,h2⟩
   ·rw [h3] at h;simp only [Option.some.injEq] at h;exact .inl ⟨q,h1,h2,h.symm⟩
   ·rw [h2,getS_cons] at h
    by_cases h0:a=0
    ·rw [if_pos h0] at h;simp only [Option.some.injEq] at h;exact .inr (.inl ⟨h0,h.symm⟩)
    ·rw [if_neg h0] at h;exact .inr (.inr ⟨h0,h1,h⟩)
  have hvac:∀t2 A2,(⟨st.rt,st.rm,st.t,L.map (fun q=>(q.1,some q.2.1))++(0,some (.ar ta []))::st.m,st.nx⟩:SS τ dn).alv 0 (.ar t2 A2)→∀id,¬hasA A2 id:=fun t2 A2 h id hid=>by
   rcases h with h|h
   ·rcases hm' 0 _ h with ⟨q,h1,e,_⟩|⟨_,e⟩|⟨e,_⟩
    ·obtain ⟨t,K,t',f,O,m1,_,hz,_⟩:=hq q h1
     exact hz e
    ·simp only [Option.some.injEq,SB.ar.injEq] at e
     obtain ⟨rfl,e⟩:=e
     have e:=eq_of_heq e
     subst e;exact hasA_nil hid
    ·exact e rfl
   ·have h':getS st.rm 0=some (some (.ar t2 A2)):=h
    rw [r2] at h';simp at h'
  refine ⟨fun N' hN=> ?_,R.inj,R.lt,fun a X h=> ?_,R.rl,fun t2 A2 h id hid=>absurd hid (hvac t2 A2 h id)⟩
  ·have A':=R.at_ N' hN
   have oth:∀a B,st.alv a B→a<st.nx→(∀q,q∈L→q.1≠a)→g' (N'.ι a)=s.g (N'.ι a):=fun a B hB ha hne=>by
    rw [(hN.1 a ha).1]
    rcases gc (N.ι a) (hno a B hB) with ⟨q,h1,h2,_⟩|⟨_,h2⟩
    ·exact absurd (R.inj q.1 a (hlt q h1) ha h2) (hne q h1)
    ·exact h2
   refine ⟨A'.sl,A'.rs,fun a B h=> ?_,fun a B h=> ?_,fun t2 A2 h id hid=>absurd hid (hvac t2 A2 h id)⟩
   ·rcases hm' a _ h with ⟨q,h1,rfl,e⟩|⟨rfl,e⟩|⟨h0,h1,h2⟩
    ·simp only [Option.some.injEq] at e;subst e
     obtain ⟨t,K,t',f,O,m1,_,_,_,e1,_⟩:=hq q h1
     refine ⟨?_, ?_⟩
     ·show g' (N'.ι q.1)=_
      rw [(hN.1 q.1 (hlt q h1)).1]
      rcases gc (N.ι q.1) (hno q.1 _ (.inl m1)) with ⟨p,p1,p2,p3⟩|⟨p1,_⟩
      ·have:=hsame p q p1 h1 (R.inj p.1 q.1 (hlt p p1) (hlt q h1) p2)
       subst this
       rw [p3,e1];simp only [SB.av,hN.2]
      ·exact absurd rfl (p1 q h1)
     ·have:=(A'.bl q.1 _ m1).2
      rw [this,e1];simp [SB.len]
    ·simp only [Option.some.injEq] at e;subst e
     have:=A'.bl 0 _ m2
     exact ⟨(oth 0 _ (.inl m2) hlt0 (fun q h1 e=>by obtain ⟨t,K,t',f,O,_,_,hz,_⟩:=hq q h1;exact hz e)).trans this.1,this.2⟩
    ·have:=A'.bl a B h2
     exact ⟨(oth a B (.inl h2) (R.ml a _ h2) h1).trans this.1,this.2⟩
   ·have h':getS st.rm a=some (some B):=h
    have:=A'.rb a B h'
    exact ⟨(oth a B (.inr h') (R.rl a _ h') (fun q h1 e=>by subst e;obtain ⟨t,K,t',f,O,_,hr,_⟩:=hq q h1;rw [hr] at h';simp at h')).trans this.1,this.2⟩
  ·rcases hm' a _ h with ⟨q,h1,rfl,_⟩|⟨rfl,_⟩|⟨_,_,h2⟩
   ·exact hlt q h1
   ·exact hlt0
   ·exact R.ml a _ h2
mutual
def SV.fzc (D:TD τ dn) (st:SS τ dn) (nm:Nat):SV τ dn→SV τ dn
 | .own a sz=>bif Nat.beq a nm then (snap1S D st (.own a sz)).getD (.own a sz) else .own a sz
 | .ref a sz i o=>bif Nat.beq a nm then (snap1S D st (.ref a sz i o)).getD (.ref a sz i o) else .ref a sz i o
 | .agg cs=> .agg (SV.fzL D st nm cs)
 | .tup cs=> .tup (SV.fzL D st nm cs)
 | .fn f cs=> .fn f (SV.fzL D st nm cs)
 | .bf f cs=> .bf f (SV.fzL D st nm cs)
 | .vg p c v=> .vg p c v
 | .part a b c d=> .part a b c d
 | .pim cs o=> .pim cs o
 | .vc sz els=> .vc sz els
 | .mp a=> .mp a
 | .vi x=> .vi x
 | .vn x=> .vn x
 | .vy x=> .vy x
 | .vu x=> .vu x
 | .vw q x=> .vw q x
 | .vb c=> .vb c
 | .vt x=> .vt x
 | .vz x=> .vz x
 | .vo x=> .vo x
 | .vl a b=> .vl a b
 | .emp=> .emp
 | .rw a b=> .rw a b
 | .rwp a b c d=> .rwp a b c d
 | .dead=> .dead
def SV.fzL (D:TD τ dn) (st:SS τ dn) (nm:Nat):List (SV τ dn)→List (SV τ dn)
 |[]=>[]
 |v::l=>SV.fzc D st nm v::SV.fzL D st nm l
end
section
variable {D:TD τ dn} {N N':Nms} {st:SS τ dn} {σ:Nat→AV} {g:Nat→Option Bk} {nm:Nat}
theorem snap1S_fz (ok:TDok D) (R:RelAt D N st σ g) (R':RelAt D N' st σ g) {v:SV τ dn} (hid:∀id,id∈(v.av D.toTE N).id1→id∈[N.ι nm]):Fz g [N.ι nm] (v.av D.toTE N) (((snap1S D st v).getD v).av D.toTE N)∧(v.av D.toTE N'=v.av D.toTE N→((snap1S D st v).getD v).av D.toTE N'=((snap1S D st v).getD v).av D.toTE N):=by
 cases hs:snap1S D st v with
 |none=>exact ⟨.refl,fun h=>h⟩
 |some w=>
  have h1:=snap1S_ok ok R hs
  refine ⟨.snap hid h1,fun h=> ?_⟩
  have h2:=snap1S_ok ok R' hs
  rw [h,h1] at h2
  simpa using h2.symm
mutual
theorem fzc_ok (ok:TDok D) (R:RelAt D N st σ g) (R':RelAt D N' st σ g):∀v:SV τ dn,Fz g [N.ι nm] (v.av D.toTE N) ((v.fzc D st nm).av D.toTE N)∧(v.av D.toTE N'=v.av D.toTE N→(v.fzc D st nm).av D.toTE N'=(v.fzc D st nm).av D.toTE N)
 | .own a sz=>by
  simp only [SV.fzc]
  cases hb:Nat.beq a nm with
  |false=>exact ⟨.refl,fun h=>h⟩
  |true=>
   rw [cond_true]
   have:=Nat.eq_of_beq_eq_true hb
   subst this
   exact snap1S_fz ok R R' (fun id hid=>by simpa [SV.av,AV.id1] using hid)
 | .ref a sz i o=>by
  simp only [SV.fzc]
  cases hb:Nat.beq a nm with
  |false=>exact ⟨.refl,fun h=>h⟩
  |true=>
   rw [cond_true]
   have:=Nat.eq_of_beq_eq_true hb
   subst this
   exact snap1S_fz ok R R' (fun id hid=>by simpa [SV.av,AV.id1] using hid)
 | .agg cs=>by
  obtain ⟨h1,h2,h3⟩:=fzL_ok ok R R' cs
  simp only [SV.fzc,SV.av]
  exact ⟨.agg h1 h2,fun h=>by simp only [AV.agg.injEq] at h ⊢; exact h3 h⟩
 | .tup cs=>by
  obtain ⟨h1,h2,h3⟩:=fzL_ok ok R R' cs
  simp only [SV.fzc,SV.av]
  exact ⟨.tup h1 h2,fun h=>by simp only [AV.tup.injEq] at h ⊢; exact h3 h⟩
 | .fn f cs=>by
  obtain ⟨h1,h2,h3⟩:=fzL_ok ok R R' cs
  simp only [SV.fzc,SV.av]
  exact ⟨.fn h1 h2,fun h=>by simp only [AV.fn.injEq,true_and] at h ⊢; exact h3 h⟩
 | .bf f cs=>by
  obtain ⟨h1,h2,h3⟩:=fzL_ok ok R R' cs
  simp only [SV.fzc,SV.av]
  exact ⟨.bf h1 h2,fun h=>by simp only [AV.bf.injEq,true_and] at h ⊢; exact h3 h⟩
 | .vg p c v=>⟨by simp only [SV.fzc];exact .refl,fun h=>by simp only [SV.fzc];exact h⟩
 | .part _ _ _ _| .pim _ _| .vc _ _| .mp _| .vi _| .vn _| .vy _| .vu _| .vw _ _| .vb _| .vt _| .vz _| .vo _| .vl _ _| .emp| .rw _ _| .rwp _ _ _ _| .dead=>⟨by simp only [SV.fzc];exact .refl,fun h=>by simp only [SV.fzc];exact h⟩
theorem fzL_ok (ok:TDok D) (R:RelAt D N st σ g) (R':RelAt D N' st σ g):∀cs:List (SV τ dn),(SV.avL D.toTE N cs).length=(SV.avL D.toTE N (SV.fzL D st nm cs)).length∧(∀(i:Nat) c d,(SV.avL D.toTE N cs)[i]? =some c→(SV.avL D.toTE N (SV.fzL D st nm cs))[i]? =some d→Fz g [N.ι nm] c d)∧(SV.avL D.toTE N' cs=SV.avL D.toTE N cs→SV.avL D.toTE N' (SV.fzL D st nm cs)=SV.avL D.toTE N (SV.fzL D st nm cs))
 |[]=>⟨rfl,fun i c d h=>by simp [SV.avL] at h,fun _=>rfl⟩
 |v::l=>by
  obtain ⟨h1,h2,h3⟩:=fzL_ok ok R R' l
  obtain ⟨q1,q2⟩:=fzc_ok ok R R' v
  simp only [SV.fzL,SV.avL]
  refine ⟨by simp [h1],fun i c d hc hd=> ?_,fun h=> ?_⟩
  ·cases i with
   |zero=>simp only [List.getElem?_cons_zero,Option.some.injEq] at hc hd;subst hc;subst hd;exact q1
   |succ i=>exact h2 i c d (by simpa using hc) (by simpa using hd)
  ·simp only [List.cons.injEq] at h ⊢
   exact ⟨q2 h.1,h3 h.2⟩
end
def SB.fzB (D:TD τ dn) (st:SS τ dn) (nm:Nat):SB τ dn→SB τ dn
 | .bc sz els=> .bc sz (els.map (SV.fzL D st nm))
 |B=>B
theorem fzM_ok (ok:TDok D) (R:RelAt D N st σ g) (R':RelAt D N' st σ g):∀els:List (List (SV τ dn)),FzM g [N.ι nm] (SV.avM D.toTE N els) (SV.avM D.toTE N (els.map (SV.fzL D st nm)))∧(SV.avM D.toTE N' els=SV.avM D.toTE N els→SV.avM D.toTE N' (els.map (SV.fzL D st nm))=SV.avM D.toTE N (els.map (SV.fzL D st nm)))
 |[]=>⟨⟨rfl,fun i c d h=>by simp [SV.avM] at h⟩,fun _=>rfl⟩
 |cs::l=>by
  obtain ⟨⟨h1,h2⟩,h3⟩:=fzM_ok ok R R' l
  obtain ⟨q1,q2,q3⟩:=fzL_ok ok R R' (nm:=nm) cs
  simp only [List.map_cons,SV.avM]
  refine ⟨⟨by simp [h1],fun i c d hc hd=> ?_⟩,fun h=> ?_⟩
  ·cases i with
   |zero=>simp only [List.getElem?_cons_zero,Option.some.injEq] at hc hd;subst hc;subst hd;exact ⟨q1,q2⟩
   |succ i=>exact h2 i c d (by simpa using hc) (by simpa using hd)
  ·simp only [List.cons.injEq] at h ⊢
   exact ⟨q3 h.1,h3 h.2⟩
theorem fzB_ok (ok:TDok D) (R:RelAt D N st σ g) (R':RelAt D N' st σ g) (B:SB τ dn):((B.fzB D st nm).av D.toTE N).sz=(B.av D.toTE N).sz∧FzM g [N.ι nm] (B.av D.toTE N).els ((B.fzB D st nm).av D.toTE N).els∧(B.av D.toTE N'=B.av D.toTE N→(B.fzB D st nm).av D.toTE N'=(B.fzB D st nm).av D.toTE N)∧(B.fzB D st nm).len=B.len∧∀t A,B.fzB D st nm= .ar t A↔B= .ar t A:=by
 cases B with
 |bc sz els=>
  obtain ⟨h1,h2⟩:=fzM_ok ok R R' (nm:=nm) els
  refine ⟨rfl,h1,fun h=> ?_,by simp [SB.fzB,SB.len],fun t A=>by simp [SB.fzB]⟩
  simp only [SB.fzB,SB.av,Bk.mk.injEq,true_and] at h ⊢
  exact h2 h
 |_=>exact ⟨rfl,FzM.refl,fun h=>h,rfl,fun t A=>Iff.rfl⟩
def SS.fz2 (D:TD τ dn) (st:SS τ dn) (nm:Nat):Option (SS τ dn):=
 bif !Nat.beq nm 0&&(st.rw nm&&st.rm.all fun q=>(getS st.m q.1).isNone) then
  some ⟨st.rt,st.rm,st.t.map fun q=>(q.1,bif (getS st.rt q.1).isSome then q.2 else q.2.fzc D st nm),(nm,none)::st.m.map fun q=>(q.1,q.2.map (SB.fzB D st nm)),st.nx⟩
 else none
theorem getS_mapk {α β:Type} (f:Nat→α→β):∀{l:List (Nat×α)} {i:Nat},getS (l.map fun q=>(q.1,f q.1 q.2)) i=(getS l i).map (f i)
 |[],i=>rfl
 |(j,v)::r,i=>by
  rw [List.map_cons,getS_cons,getS_cons,getS_mapk f (l:=r)]
  by_cases h:i=j
  ·subst h;simp
  ·simp [h]
end
theorem fz2_ok {D:TD τ dn} (ok:TDok D) {N:Nms} {st st':SS τ dn} {s:S3} {n k0:Nat} (R:Rel D N st s) {nm:Nat} (h:st.fz2 D nm=some st'):∃s',s.Le k0 n s'∧Rel D N st' s'∧st'.rt=st.rt∧st'.rm=st.rm∧st'.nx=st.nx:=by
 unfold SS.fz2 at h
 cases hc:(!Nat.beq nm 0&&(st.rw nm&&st.rm.all fun q=>(getS st.m q.1).isNone)) with
 |false=>rw [hc] at h;simp at h
 |true=>
 rw [hc,cond_true,Option.some.injEq] at h
 subst h
 simp only [Bool.and_eq_true,Bool.not_eq_true'] at hc
 obtain ⟨hn0,hw,hdj⟩:=hc
 have hnz:nm≠0:=fun e=>by subst e;simp at hn0
 obtain ⟨⟨B1,m1⟩,r1⟩:=rw_may hw
 have hlt:=R.ml nm _ m1
 have hA:=R.here
 have hdisj:∀a B,getS st.rm a=some B→getS st.m a=none:=fun a B h=>by
  have:=List.all_eq_true.1 hdj _ (getS_mem h)
  simpa using this
 let g':Nat→Option Bk:=fun id=>if id=N.ι nm then none else match (List.range st.nx).find? fun a=>N.ι a==id with
  |some a=>match getS st.m a with
   |some (some B)=>some ((B.fzB D st nm).av D.toTE N)
   |_=>s.g id
  |none=>s.g id
 let σ':Nat→AV:=fun i=>match getS st.rt i with
  |some _=>s.σ i
  |none=>match getS st.t i with
   |some v=>(v.fzc D st nm).av D.toTE N
   |none=>s.σ i
 have find:∀a,a<st.nx→(List.range st.nx).find? (fun b=>N.ι b==N.ι a)=some a:=fun a ha=>by
  cases hf:(List.range st.nx).find? (fun b=>N.ι b==N.ι a) with
  |none=>
   rw [List.find?_eq_none] at hf
   exact absurd (hf a (List.mem_range.2 ha)) (by simp)
  |some b=>
   have h1:=List.find?_some hf
   have h2:=List.mem_range.1 (List.mem_of_find?_eq_some hf)
   simp only [beq_iff_eq] at h1
   rw [R.inj b a h2 ha h1]
 have gm':∀a B,getS st.m a=some (some B)→a≠nm→g' (N.ι a)=some ((B.fzB D st nm).av D.toTE N):=fun a B hB hne=>by
  have ha:=R.ml a _ hB
  show (if N.ι a=N.ι nm then none else match (List.range st.nx).find? (fun b=>N.ι b==N.ι a) with|some a=>(match getS st.m a with|some (some B)=>some ((B.fzB D st nm).av D.toTE N)|_=>s.g _)|none=>s.g _)=_
  rw [if_neg (fun e=>hne (R.inj a nm ha hlt e)),find a ha]
  simp only [hB]
 have gr':∀a B,getS st.rm a=some (some B)→g' (N.ι a)=s.g (N.ι a):=fun a B hB=>by
  have ha:=R.rl a _ hB
  have hne:a≠nm:=fun e=>by subst e;rw [r1] at hB;simp at hB
  show (if N.ι a=N.ι nm then none else match (List.range st.nx).find? (fun b=>N.ι b==N.ι a) with|some a=>(match getS st.m a with|some (some B)=>some ((B.fzB D st nm).av D.toTE N)|_=>s.g _)|none=>s.g _)=_
  rw [if_neg (fun e=>hne (R.inj a nm ha hlt e)),find a ha]
  simp only [hdisj a _ hB]
 have hB0:=(hA.bl nm _ m1).1
 have gcases:∀id,id≠N.ι nm→g' id=s.g id∨∃a B,id=N.ι a∧getS st.m a=some (some B)∧a≠nm∧g' id=some ((B.fzB D st nm).av D.toTE N):=fun id hid=>by
  show (if id=N.ι nm then none else match (List.range st.nx).find? (fun b=>N.ι b==id) with|some a=>(match getS st.m a with|some (some B)=>some ((B.fzB D st nm).av D.toTE N)|_=>s.g id)|none=>s.g id)=_∨_
  rw [if_neg hid]
  cases hf:(List.range st.nx).find? (fun b=>N.ι b==id) with
  |none=>exact .inl rfl
  |some a=>
   have h1:=List.find?_some hf
   simp only [beq_iff_eq] at h1
   cases hq:getS st.m a with
   |none=>exact .inl (by simp only [hq])
   |some x=>
    cases x with
    |none=>exact .inl (by simp only [hq])
    |some B=>
     have hne:a≠nm:=fun e=>hid (by rw [←h1,e])
     exact .inr ⟨a,B,h1.symm,hq,hne,by rw [←h1];exact gm' a B hq hne⟩
 refine ⟨⟨σ',g',s.k⟩,S3.le_frz (F:=[N.ι nm]) (fun i=> ?_) (fun id hid=> ?_) (fun id hid=> ?_) (fun id hid hn=> ?_) (fun id B hid hB=> ?_), ?_,rfl,rfl,rfl⟩
 ·show Fz s.g _ (s.σ i) (match getS st.rt i with|some _=>s.σ i|none=>match getS st.t i with|some v=>(v.fzc D st nm).av D.toTE N|none=>s.σ i)
  split
  ·exact .refl
  ·split
   ·rename_i v hv
    rw [hA.sl i v hv];exact (fzc_ok ok hA hA v).1
   ·exact .refl
 ·simp only [List.mem_singleton] at hid;subst hid;exact ⟨_,hB0⟩
 ·simp only [List.mem_singleton] at hid;subst hid;exact if_pos rfl
 ·simp only [List.mem_singleton] at hid
  rcases gcases id hid with h|⟨a,B,rfl,h2,h3,h4⟩
  ·rw [h];exact hn
  ·rw [(hA.bl a B h2).1] at hn;simp at hn
 ·simp only [List.mem_singleton] at hid
  rcases gcases id hid with h|⟨a,B2,rfl,h2,h3,h4⟩
  ·exact ⟨B,by rw [h];exact hB,rfl,FzM.refl⟩
  ·rw [(hA.bl a B2 h2).1] at hB
   simp only [Option.some.injEq] at hB;subst hB
   obtain ⟨q1,q2,_⟩:=fzB_ok ok hA hA (nm:=nm) B2
   exact ⟨_,h4,q1,q2⟩
 ·have hm':∀a X,getS ((nm,(none:Option (SB τ dn)))::st.m.map fun q=>(q.1,q.2.map (SB.fzB D st nm))) a=some (some X)→a≠nm∧∃B,getS st.m a=some (some B)∧X=B.fzB D st nm:=fun a X h=>by
   rw [getS_cons,getS_map (Option.map (SB.fzB D st nm))] at h
   by_cases h1:a=nm
   ·rw [if_pos h1] at h;simp at h
   ·rw [if_neg h1] at h
    simp only [Option.map_eq_some_iff] at h
    obtain ⟨x,hx,B,rfl,rfl⟩:=h
    exact ⟨h1,B,hx,rfl⟩
  have halv:∀a X,(⟨st.rt,st.rm,st.t.map fun q=>(q.1,bif (getS st.rt q.1).isSome then q.2 else q.2.fzc D st nm),(nm,none)::st.m.map fun q=>(q.1,q.2.map (SB.fzB D st nm)),st.nx⟩:SS τ dn).alv a X→∃X',st.alv a X'∧∀t A,X= .ar t A→X'= .ar t A:=fun a X h=>by
   rcases h with h|h
   ·obtain ⟨_,B,hB,rfl⟩:=hm' a X h
    exact ⟨B, .inl hB,fun t A e=>((fzB_ok ok hA hA (nm:=nm) B).2.2.2.2 t A).1 e⟩
   ·exact ⟨X, .inr h,fun t A e=>e⟩
  refine ⟨fun N' hN=> ?_,R.inj,R.lt,fun a X h=> ?_,R.rl,fun t A h id hid=> ?_⟩
  ·have A':=R.at_ N' hN
   refine ⟨fun i v h=> ?_,fun i v h=> ?_,fun a X h=> ?_,fun a X h=> ?_,fun t A h id hid=> ?_⟩
   ·have h':getS (st.t.map fun q=>(q.1,bif (getS st.rt q.1).isSome then q.2 else q.2.fzc D st nm)) i=some v:=h
    rw [getS_mapk (fun (j:Nat) (w:SV τ dn)=>bif (getS st.rt j).isSome then w else w.fzc D st nm)] at h'
    simp only [Option.map_eq_some_iff] at h'
    obtain ⟨w,hw2,rfl⟩:=h'
    show (match getS st.rt i with|some _=>s.σ i|none=>match getS st.t i with|some v=>(v.fzc D st nm).av D.toTE N|none=>s.σ i)=_
    cases hr:getS st.rt i with
    |some u=>simp only [Option.isSome_some,cond_true];exact A'.sl i w hw2
    |none=>
     simp only [hw2,Option.isSome_none,cond_false]
     exact ((fzc_ok ok hA A' w).2 ((A'.sl i w hw2).symm.trans (hA.sl i w hw2))).symm
   ·show (match getS st.rt i with|some _=>s.σ i|none=>match getS st.t i with|some v=>(v.fzc D st nm).av D.toTE N|none=>s.σ i)=_
    have h':getS st.rt i=some v:=h
    simp only [h'];exact A'.rs i v h'
   ·obtain ⟨h1,B,hB,rfl⟩:=hm' a X h
    obtain ⟨q1,q2,q3,q4,q5⟩:=fzB_ok ok hA A' (nm:=nm) B
    have ha:=R.ml a _ hB
    refine ⟨?_,by rw [q4];exact (A'.bl a B hB).2⟩
    show g' (N'.ι a)=_
    rw [(hN.1 a ha).1,gm' a B hB h1]
    congr 1
    refine (q3 ?_).symm
    have e1:=(A'.bl a B hB).1
    rw [(hN.1 a ha).1,(hA.bl a B hB).1] at e1
    simpa using e1.symm
   ·have h':getS st.rm a=some (some X):=h
    have ha:=R.rl a _ h'
    refine ⟨?_,(A'.rb a X h').2⟩
    show g' (N'.ι a)=_
    have e1:=(A'.rb a X h').1
    rw [(hN.1 a ha).1] at e1 ⊢
    rw [gr' a X h'];exact e1
   ·obtain ⟨X',h1,h2⟩:=halv 0 _ h
    have h2:=h2 t A rfl
    subst h2
    have e:=A'.ar t A h1 id hid
    have hs:=(R.sp t A h1 id hid).2
    show g' id=_
    rcases gcases id (fun e=>hs nm _ (.inl m1) e.symm) with h3|⟨a,B,rfl,h4,_,_⟩
    ·rw [h3];exact e
    ·exact absurd rfl (hs a B (.inl h4))
  ·have h':getS ((nm,(none:Option (SB τ dn)))::st.m.map fun q=>(q.1,q.2.map (SB.fzB D st nm))) a=some X:=h
   rw [getS_cons,getS_map (Option.map (SB.fzB D st nm))] at h'
   show a<st.nx
   by_cases h1:a=nm
   ·subst h1;exact hlt
   ·rw [if_neg h1] at h'
    simp only [Option.map_eq_some_iff] at h'
    obtain ⟨x,hx,_⟩:=h'
    exact R.ml a _ hx
  ·obtain ⟨X',h1,h2⟩:=halv 0 _ h
   have h2:=h2 t A rfl
   subst h2
   obtain ⟨q1,q2⟩:=R.sp t A h1 id hid
   refine ⟨q1,fun a X hX=> ?_⟩
   obtain ⟨X',h3,_⟩:=halv a X hX
   exact q2 a X' h3
def nmsIn1:SV τ dn→List Nat
 | .own nm _| .ref nm _ _ _=>[nm]
 |_=>[]
def nmsIn:SV τ dn→List Nat
 | .agg cs| .fn _ cs| .bf _ cs| .tup cs=>cs.flatMap nmsIn1
 |v=>nmsIn1 v
def frzGo (D:TD τ dn) (F:Nat→SS τ dn→(SS τ dn→Prop)→Prop):List Nat→SS τ dn→(SS τ dn→Prop)→Prop
 |[],st,K=>K st
 |a::l,st,K=>F a st fun st=>match st.fz2 D a with
  |some st'=>frzGo D F l st' K
  |none=>frzGo D F l st K
def frzI (D:TD τ dn):Nat→Nat→SS τ dn→(SS τ dn→Prop)→Prop
 |0,_,st,K=>K st
 |d+1,nm,st,K=>frzGo D (frzI D d) (match st.gm nm with
  |some (.bc _ els)=>els.flatMap fun (cs:List (SV τ dn))=>cs.flatMap nmsIn
  |_=>([]:List Nat)) st fun st=>match st.fz1 D [nm] with
   |some (O,st')=>obl O (K st')
   |none=>K st
theorem frzI_ok {D:TD τ dn} (ok:TDok D) {N:Nms} {n k0:Nat}:∀(d nm:Nat) {st:SS τ dn} {s:S3} {K:SS τ dn→Prop},Rel D N st s→frzI D d nm st K→∃s' st',s.Le k0 n s'∧Rel D N st' s'∧st'.rt=st.rt∧st'.rm=st.rm∧st'.nx=st.nx∧K st'
 |0,nm,st,s,K,R,h=>⟨s,st,S3.Le.refl',R,rfl,rfl,rfl,h⟩
 |d+1,nm,st,s,K,R,h=>by
  simp only [frzI] at h
  have go:∀(l:List Nat) {st:SS τ dn} {s:S3} {K:SS τ dn→Prop},Rel D N st s→frzGo D (frzI D d) l st K→∃s' st',s.Le k0 n s'∧Rel D N st' s'∧st'.rt=st.rt∧st'.rm=st.rm∧st'.nx=st.nx∧K st':=by
   intro l
   induction l with
   |nil=>intro st s K R h;exact ⟨s,st,S3.Le.refl',R,rfl,rfl,rfl,h⟩
   |cons a l ih=>
    intro st s K R h
    simp only [frzGo] at h
    obtain ⟨s1,st1,p1,p2,p3,p4,p5,h1⟩:=frzI_ok ok d a R h
    split at h1
    ·rename_i st2 hf
     obtain ⟨s2,q1,q2,q3,q4,q5⟩:=fz2_ok (n:=n) (k0:=k0) ok p2 hf
     obtain ⟨s3,st3,r1,r2,r3,r4,r5,r6⟩:=ih q2 h1
     exact ⟨s3,st3,(p1.trans' q1).trans' r1,r2,r3.trans (q3.trans p3),r4.trans (q4.trans p4),r5.trans (q5.trans p5),r6⟩
    ·obtain ⟨s3,st3,r1,r2,r3,r4,r5,r6⟩:=ih p2 h1
     exact ⟨s3,st3,p1.trans' r1,r2,r3.trans p3,r4.trans p4,r5.trans p5,r6⟩
  obtain ⟨s1,st1,p1,p2,p3,p4,p5,h1⟩:=go _ R h
  split at h1
  ·rename_i O st' hf
   rw [obl_iff] at h1
   obtain ⟨s',q1,q2,q3,q4,q5⟩:=fz1_ok (n:=n) (k0:=k0) ok p2 hf h1.1
   exact ⟨s',st',p1.trans' q1,q2,q3.trans p3,q4.trans p4,q5.trans p5,h1.2⟩
  ·exact ⟨s1,st1,p1,p2,p3,p4,p5,h1⟩
def frzX (D:TD τ dn) (w:Bool):List Nat→SS τ dn→(SS τ dn→Prop)→Prop
 |[],st,K=>K st
 |a::l,st,K=>frzI D 4 a st fun st=>bif w then (match st.fz2 D a with
  |some st'=>frzX D w l st' K
  |none=>frzX D w l st K) else frzX D w l st K
theorem frzX_ok {D:TD τ dn} (ok:TDok D) {N:Nms} {n k0:Nat} {w:Bool}:∀(l:List Nat) {st:SS τ dn} {s:S3} {K:SS τ dn→Prop},Rel D N st s→frzX D w l st K→∃s' st',s.Le k0 n s'∧Rel D N st' s'∧st'.rt=st.rt∧st'.rm=st.rm∧st'.nx=st.nx∧K st'
 |[],st,s,K,R,h=>⟨s,st,S3.Le.refl',R,rfl,rfl,rfl,h⟩
 |a::l,st,s,K,R,h=>by
  simp only [frzX] at h
  obtain ⟨s1,st1,p1,p2,p3,p4,p5,h1⟩:=frzI_ok (n:=n) (k0:=k0) ok 4 a R h
  have rest:∀{st2:SS τ dn} {s2:S3},s.Le k0 n s2→Rel D N st2 s2→st2.rt=st.rt→st2.rm=st.rm→st2.nx=st.nx→frzX D w l st2 K→∃s' st',s.Le k0 n s'∧Rel D N st' s'∧st'.rt=st.rt∧st'.rm=st.rm∧st'.nx=st.nx∧K st':=fun q1 q2 q3 q4 q5 hh=>by
   obtain ⟨s3,st3,r1,r2,r3,r4,r5,r6⟩:=frzX_ok ok l q2 hh
   exact ⟨s3,st3,q1.trans' r1,r2,r3.trans q3,r4.trans q4,r5.trans q5,r6⟩
  cases w with
  |false=>exact rest p1 p2 p3 p4 p5 h1
  |true=>
   rw [cond_true] at h1
   split at h1
   ·rename_i st2 hf
    obtain ⟨s2,q1,q2,q3,q4,q5⟩:=fz2_ok (n:=n) (k0:=k0) ok p2 hf
    exact rest (p1.trans' q1) q2 (q3.trans p3) (q4.trans p4) (q5.trans p5) h1
   ·exact rest p1 p2 p3 p4 p5 h1
def frzW (D:TD τ dn) (w:Bool) (l:List Nat) (st:SS τ dn) (K:SS τ dn→Prop):Prop:=match st.fz1 D l with
 |some (O,st')=>obl O (frzX D w l st' K)
 |none=>frzX D w l st K
theorem frzW_ok {D:TD τ dn} (ok:TDok D) {N:Nms} {n k0:Nat} {w:Bool} (l:List Nat) {st:SS τ dn} {s:S3} {K:SS τ dn→Prop} (R:Rel D N st s) (h:frzW D w l st K):∃s' st',s.Le k0 n s'∧Rel D N st' s'∧st'.rt=st.rt∧st'.rm=st.rm∧st'.nx=st.nx∧K st':=by
 unfold frzW at h
 split at h
 ·rename_i O st' hf
  rw [obl_iff] at h
  obtain ⟨s1,p1,p2,p3,p4,p5⟩:=fz1_ok (n:=n) (k0:=k0) ok R hf h.1
  obtain ⟨s2,st2,q1,q2,q3,q4,q5,q6⟩:=frzX_ok ok l p2 h.2
  exact ⟨s2,st2,p1.trans' q1,q2,q3.trans p3,q4.trans p4,q5.trans p5,q6⟩
 ·exact frzX_ok ok l R h
def SS.nmsOf (st:SS τ dn) (ss:List Nat):List Nat:=ss.flatMap fun i=>match st.gt i with
 |some v=>nmsIn v
 |none=>[]
end
open Go.RowKit
section
variable {τ:Type} {dn:τ→Type}
def mrgT (c:Cn) (b:Bool) (st st':SS τ dn):List Nat→Option (List (Nat×SV τ dn))
 |[]=>some []
 |d::r=>match st.gt d with
  |none=>mrgT c b st st' r
  |some x=>match st'.gt d with
   |none=>none
   |some y=>match iteS c (bif b then x else y) (bif b then y else x),mrgT c b st st' r with
    |some v,some l=>some ((d,v)::l)
    |_,_=>none
theorem mrgT_ok {c:Cn} {b:Bool} {st st':SS τ dn}:∀{ds:List Nat} {l:List (Nat×SV τ dn)},mrgT c b st st' ds=some l→∀{i v},getS l i=some v→∃x y,st.gt i=some x∧st'.gt i=some y∧iteS c (bif b then x else y) (bif b then y else x)=some v
 |[],l,h,i,v,hv=>by simp only [mrgT,Option.some.injEq] at h;subst h;simp [getS] at hv
 |d::r,l,h,i,v,hv=>by
  simp only [mrgT] at h
  split at h
  ·exact mrgT_ok h hv
  ·rename_i x hx
   split at h
   ·simp at h
   ·rename_i y hy
    split at h
    ·rename_i w l' hw hl
     simp only [Option.some.injEq] at h;subst h
     rw [getS_cons] at hv
     by_cases hi:i=d
     ·subst hi
      rw [if_pos rfl,Option.some.injEq] at hv;subst hv
      exact ⟨x,y,hx,hy,hw⟩
     ·rw [if_neg hi] at hv;exact mrgT_ok hl hv
    ·simp at h
def keyOut (ds:List Nat):List (Nat×SV τ dn)→List (Nat×SV τ dn)
 |[]=>[]
 |q::r=>bif hasN ds q.1 then keyOut ds r else q::keyOut ds r
theorem keyOut_ok {ds:List Nat}:∀{l:List (Nat×SV τ dn)} {i:Nat} {v:SV τ dn},getS (keyOut ds l) i=some v→hasN ds i=false∧getS l i=some v
 |[],i,v,h=>by simp [keyOut,getS] at h
 |q::r,i,v,h=>by
  simp only [keyOut] at h
  cases hq:hasN ds q.1 with
  |true=>
   rw [hq,cond_true] at h
   obtain ⟨h1,h2⟩:=keyOut_ok h
   refine ⟨h1, ?_⟩
   obtain ⟨j,w⟩:=q
   rw [getS_cons,if_neg (fun e=>by subst e;rw [h1] at hq;simp at hq)];exact h2
  |false=>
   rw [hq,cond_false] at h
   obtain ⟨j,w⟩:=q
   rw [getS_cons] at h ⊢
   by_cases hi:i=j
   ·subst hi;rw [if_pos rfl] at h ⊢; exact ⟨hq,h⟩
   ·rw [if_neg hi] at h ⊢; exact keyOut_ok h
theorem set_get {st:SS τ dn} {d:Option Nat} {v:SV τ dn} {i:Nat} (h:d≠some i):getS (st.set d v).t i=getS st.t i:=by
 cases d with
 |none=>rfl
 |some j=>
  show getS ((j,v)::st.t) i=_
  rw [getS_cons,if_neg (fun e=>h (by rw [e]))]
variable [DecidableEq τ]
def pureOps (C:Cfg τ dn) (n:Nat):List AOper→SS τ dn→Option (List Prop×SS τ dn)
 |[],st=>some ([],st)
 |o::os,st=>bif dstS n st.rt o.dst&&(needs C.D st o.ao).isEmpty then (match st.gd o.guard with
  | .yes=>match opR C st o.ao with
   |some (.val O v,_)=>(pureOps C n os (st.set o.dst v)).map fun q=>(O++q.1,q.2)
   |_=>none
  | .no=>pureOps C n os (st.set o.dst (.vo undef))
  | .cnd e=>match opR C (st.unw o.ao.uns) o.ao with
   |some (.val O v,_)=>(pureOps C n os (st.set o.dst (.vg true e v))).map fun q=>((unwO st e o.ao.uns++O.map fun p=>e.tf true→p)++q.1,q.2)
   |_=>none
  | .bad=>none) else none
theorem pureOps_ok {C:Cfg τ dn} {n:Nat}:∀{os:List AOper} {st st':SS τ dn} {O:List Prop},pureOps C n os st=some (O,st')→(st'.rt=st.rt∧st'.rm=st.rm∧st'.m=st.m∧st'.nx=st.nx)∧(∀i,hasN (os.filterMap fun o=>o.dst) i=false→getS st'.t i=getS st.t i)∧((∀p,p∈O→p)→∀xs,wpOps C n none true os xs st fun x=>x=st')
 |[],st,st',O,h=>by
  simp only [pureOps,Option.some.injEq,Prod.mk.injEq] at h
  obtain ⟨rfl,rfl⟩:=h
  exact ⟨⟨rfl,rfl,rfl,rfl⟩,fun _ _=>rfl,fun _ _=>rfl⟩
 |o::os,st,st',O,h=>by
  simp only [pureOps] at h
  cases hdd:(dstS n st.rt o.dst&&(needs C.D st o.ao).isEmpty) with
  |false=>rw [hdd] at h;simp at h
  |true=>
   rw [hdd,cond_true] at h
   rw [Bool.and_eq_true,List.isEmpty_iff] at hdd
   obtain ⟨hd,hne⟩:=hdd
   have hds:∀i,hasN ((o::os).filterMap fun o=>o.dst) i=false→o.dst≠some i∧hasN (os.filterMap fun o=>o.dst) i=false:=fun i hi=>by
    have hn:¬i∈(o::os).filterMap fun o=>o.dst:=fun hh=>by rw [hasN_iff.2 hh] at hi;simp at hi
    refine ⟨fun e=>hn (List.mem_filterMap.2 ⟨o,List.mem_cons_self ..,e⟩), ?_⟩
    cases hb:hasN (os.filterMap fun o=>o.dst) i with
    |false=>rfl
    |true=>
     obtain ⟨q,q1,q2⟩:=List.mem_filterMap.1 (hasN_iff.1 hb)
     exact absurd (List.mem_filterMap.2 ⟨q,List.mem_cons_of_mem _ q1,q2⟩) hn
   split at h
   ·rename_i hg
    split at h
    ·rename_i O1 v ns hr
     rw [Option.map_eq_some_iff] at h
     obtain ⟨⟨O2,st2⟩,h1,h2⟩:=h
     simp only [Prod.mk.injEq] at h2
     obtain ⟨rfl,rfl⟩:=h2
     obtain ⟨p1,p2,p3⟩:=pureOps_ok h1
     refine ⟨p1,fun i hi=>(p2 i (hds i hi).2).trans (set_get (hds i hi).1),fun hO xs=> ?_⟩
     have hgi:gdI C st o=none:=gdI_none (.inl fun e=>by rw [hg];simp)
     simp only [wpOps,cond_true,hne,tkW,gdW,hgi,hd,hg,hr]
     rw [obl_iff]
     exact ⟨fun p hp=>hO p (List.mem_append_left _ hp),p3 (fun p hp=>hO p (List.mem_append_right _ hp)) _⟩
    ·simp at h
   ·rename_i hg
    obtain ⟨p1,p2,p3⟩:=pureOps_ok h
    refine ⟨p1,fun i hi=>(p2 i (hds i hi).2).trans (set_get (hds i hi).1),fun hO xs=> ?_⟩
    have hgi:gdI C st o=none:=gdI_none (.inl fun e=>by rw [hg];simp)
    simp only [wpOps,cond_true,hne,tkW,gdW,hgi,hd,hg]
    exact p3 hO _
   ·rename_i e hg
    split at h
    ·rename_i O1 v ns hr
     rw [Option.map_eq_some_iff] at h
     obtain ⟨⟨O2,st2⟩,h1,h2⟩:=h
     simp only [Prod.mk.injEq] at h2
     obtain ⟨rfl,rfl⟩:=h2
     obtain ⟨p1,p2,p3⟩:=pureOps_ok h1
     refine ⟨p1,fun i hi=>(p2 i (hds i hi).2).trans (set_get (hds i hi).1),fun hO xs=> ?_⟩
     have hgi:gdI C st o=none:=gdI_none (.inr ⟨_,hr⟩)
     simp only [wpOps,cond_true,hne,tkW,gdW,hgi,hd,hg,hr]
     rw [obl_iff]
     exact ⟨fun p hp=>hO p (List.mem_append_left _ hp),p3 (fun p hp=>hO p (List.mem_append_right _ hp)) _⟩
    ·simp at h
   ·simp at h
def mrgS (C:Cfg τ dn) (n:Nat) (c:Cn) (b:Bool) (os:List AOper) (st:SS τ dn):Option (List Prop×SS τ dn):=
 match pureOps C n os st with
 |some (O,st')=>(mrgT c b st st' (os.filterMap fun o=>o.dst)).map fun l=>(O.map fun p=>c.tf (!b)→p,⟨st.rt,st.rm,l++keyOut (os.filterMap fun o=>o.dst) st.t,st.m,st.nx⟩)
 |none=>none
theorem mrgS_ok {C:Cfg τ dn} (hC:C.Ok) {n k0:Nat} {c:Cn} {b:Bool} {os:List AOper} {st st2:SS τ dn} {O:List Prop} (h:mrgS C n c b os st=some (O,st2)) (hO:∀p,p∈O→p) {N:Nms} {s:S3} (R:Rel C.D N st s):
  (st2.rt=st.rt∧st2.rm=st.rm∧st2.nx=st.nx)∧(c.den=b→Rel C.D N st2 s)∧(c.den= !b→∃s' N',OpsRun C.P n k0 os s.σ s.g s.k s'.σ s'.g s'.k∧Rel C.D N' st2 s'∧N.agree st.nx N'):=by
 unfold mrgS at h
 split at h
 case h_2=>simp at h
 rename_i O1 st' hp
 rw [Option.map_eq_some_iff] at h
 obtain ⟨l,hl,he⟩:=h
 simp only [Prod.mk.injEq] at he
 obtain ⟨rfl,rfl⟩:=he
 obtain ⟨⟨e1,e2,e3,e4⟩,p2,p3⟩:=pureOps_ok hp
 refine ⟨⟨rfl,rfl,rfl⟩,fun hc=> ?_,fun hc=> ?_⟩
 ·refine ⟨fun N' hN=> ?_,R.inj,R.lt,R.ml,R.rl,R.sp⟩
  have A:=R.at_ N' hN
  refine ⟨fun i v hv=> ?_,A.rs,A.bl,A.rb,A.ar⟩
  have hv':getS (l++keyOut (os.filterMap fun o=>o.dst) st.t) i=some v:=hv
  rw [getS_app] at hv'
  cases hq:getS l i with
  |some w=>
   rw [hq] at hv';simp only [Option.some_or,Option.some.injEq] at hv';subst hv'
   obtain ⟨x,y,q1,q2,q3⟩:=mrgT_ok hl hq
   rw [iteS_ok q3,hc,A.gt q1]
   cases b<;>simp
  |none=>rw [hq] at hv';simp only [Option.none_or] at hv';exact A.sl i v (keyOut_ok hv').2
 ·have hO1:∀p,p∈O1→p:=fun p hp=>hO _ (List.mem_map.2 ⟨p,hp,rfl⟩) ((Cn.tf_iff c (!b)).2 hc)
  obtain ⟨s',N',st1,r1,r2,r3,r4,r5,r6⟩:=wpOps_seq hC (k0:=k0) R (p3 hO1 [])
  subst r6
  have halv:∀a X,(⟨st.rt,st.rm,l++keyOut (os.filterMap fun o=>o.dst) st.t,st.m,st.nx⟩:SS τ dn).alv a X→st1.alv a X:=fun a X hX=>by
   rcases hX with hX|hX
   ·exact .inl (by rw [e3];exact hX)
   ·exact .inr (by rw [e2];exact hX)
  refine ⟨s',N',r1,⟨fun N'' hN=> ?_, ?_, ?_, ?_, ?_,fun t A h id hid=>⟨(r2.sp t A (halv 0 _ h) id hid).1,fun nm B hB=>(r2.sp t A (halv 0 _ h) id hid).2 nm B (halv nm B hB)⟩⟩,r4⟩
  ·have A:=r2.at_ N'' (by rw [e4];exact hN)
   refine ⟨fun i v hv=> ?_,fun i v hv=>A.rs i v (by rw [e1];exact hv),fun nm B hB=>A.bl nm B (by rw [e3];exact hB),fun nm B hB=>A.rb nm B (by rw [e2];exact hB),fun t A' h id hid=>A.ar t A' (halv 0 _ h) id hid⟩
   have hv':getS (l++keyOut (os.filterMap fun o=>o.dst) st.t) i=some v:=hv
   rw [getS_app] at hv'
   cases hq:getS l i with
   |some w=>
    rw [hq] at hv';simp only [Option.some_or,Option.some.injEq] at hv';subst hv'
    obtain ⟨x,y,q1,q2,q3⟩:=mrgT_ok hl hq
    rw [iteS_ok q3,hc,A.gt q2]
    cases b<;>simp
   |none=>
    rw [hq] at hv';simp only [Option.none_or] at hv'
    obtain ⟨k1,k2⟩:=keyOut_ok hv'
    exact A.sl i v (by rw [p2 i k1];exact k2)
  ·have:=r2.inj;rw [e4] at this;exact this
  ·have:=r2.lt;rw [e4] at this;exact this
  ·have:=r2.ml;rw [e3,e4] at this;exact this
  ·have:=r2.rl;rw [e2,e4] at this;exact this
end
end Go.Proofs.Ytboaekdecndckaa
