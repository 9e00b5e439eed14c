/- The state put in order: blocks renamed or forgotten, slots in a given order. No condition. -/
import Derived.Test.YtpoikkflcpklgaaPAvStr
import Derived.OrdersIn
import Derived.OwnWalkIn
import Derived.RangeFuncOwn
import Derived.RangeFuncLeaves
set_option linter.unusedSimpArgs false
set_option linter.unusedVariables false
namespace Go.Proofs.Ytpoikkflcpklgaa
variable {ao:AO} {val a r a':AV} {x:Arg} {ops:Array Oper} {vs:Array Value} {c:Code} {R:Ending->World->Prop} {E E':Env} {Q:Exit->Act->World->Prop} {fn:Func} {f:FuncId} {dep:List (List Nat)} {ups u:List (Nat×Option Bk)} {m:List (Option Bk)} {as_ bE:List AV} {acc:List Nat} {n lo k k' fresh kb i k0 base i0 D:Nat} {σ σ':Nat->AV} {g g':Nat->Option Bk} {J:Nat->Prop} {op:Oper} {xo:Operand} {ρ:Option Nat} {P:Program} {t ty e:TypeId} {v:Value} {w w':World}
open Go.RowKit
abbrev KM:=@Bool.and_eq_true
abbrev KP:=@cond_true
abbrev KT:=@List.mem_singleton
abbrev KU:=@List.mem_cons
abbrev K1:=@Nat.eq_of_beq_eq_true
abbrev K3:=@Bool.not_eq_true'
abbrev K4:=@cond_false
abbrev K6:=@decide_eq_false_iff_not
abbrev K8:=@Nat.lt_of_lt_of_le
abbrev K9:=@Bool.or_eq_true
abbrev Lj:=@List.mem_append
abbrev Lk:=@decide_eq_true_eq
abbrev Ln:=@List.mem_append_right
abbrev Lo:=@List.mem_range
abbrev Lp:=@List.contains_eq_mem
abbrev Lr:=@List.mem_append_left
abbrev Ly:=@Nat.le_of_ble_eq_true
abbrev LI:=@List.flatMap_cons
abbrev LJ:=@List.mem_cons_self
abbrev LN:=@List.isEmpty_iff
abbrev LZ:=@Nat.lt_irrefl
abbrev L1:=@List.contains_iff_mem
abbrev L2:=@List.cons_append
abbrev Mo:=@List.getElem?_eq_none
abbrev Mp:=@World.putObj_heap_other
abbrev Mx:=@Array.toList_inj
abbrev My:=@Array.getD_eq_getD_getElem?
abbrev Mz:=@List.drop_zero
abbrev MB:=@Oper.semAt_plain
abbrev MC:=@List.any_eq_true
abbrev MH:=@List.map_congr_left
section
variable {P:Program} {E:Env} {J:Nat->Prop} {base:Nat} {g:Nat->Option Bk} {az:Operand->Value} {ρ:Arg->AV} {fresh:Nat}
theorem xy {cs ds:List AV}:∀{L M:List (Nat×LK)} {b:Bool},eqA cs ds (L++M)=some b->∃x y,eqA cs ds L=some x/\eqA cs ds M=some y/\b=(x&&y)
 |[],M,b,h=>⟨true,b,rfl,h,by simp⟩
 |(o,k)::L,M,b,h=>by
  simp only [L2,eqA] at h ⊢
  split at h
  ·rename_i a c h1 h2
   split at h
   ·rename_i x y h3 h4
    obtain ⟨x',y',k1,k2,k3⟩:=xy h4
    simp only [KJ] at h
    refine ⟨x&&x',y', ?_,k2,by rw [<-h,k3,Bool.and_assoc]⟩
    simp [h1,h2,h3,k1]
   ·simp at h
  ·simp at h
def partOf (P:Program) (t:TypeId) (vs:Array Value) (off:Nat):Value->Prop:=fun x=>
 match P.underlying t with
 |some (.struct _)=>∃n,szOf P t=some n/\off+n<=vs.size/\x= .agg (vs.extract off (off+n))
 |_=>vs[off]? =some x
theorem CH {ws:Array Value} {cs ds:List AV} (h1:RC E vs cs) (h2:RC E ws ds):∀(d:Nat) (t:TypeId) (off:Nat) (L:List (Nat×LK)) (b:Bool),iI P d t off=some L->eqA cs ds L=some b->∀D,d<=D->∀x y,partOf P t vs off x->partOf P t ws off y->
  (Op.equalIn D t x y).run P E.w= .ok b E.w:=by
 intro d
 induction d with
 |zero=>intro t off L b hL;simp [iI] at hL
 |succ d ih=>
  intro t off L b hL hb D hD x y hx hy
  obtain ⟨D,rfl⟩:∃D',D=D'+1:=⟨D - 1,by omega⟩
  simp only [iI] at hL
  have leaf:∀k,L=[(off,k)]->vs[off]? =some x->ws[off]? =some y->∃a c,cs[off]? =some a/\ds[off]? =some c/\iH k a c=some b/\ae E x a/\ae E y c:=by
   intro k hk hx hy
   subst hk
   simp only [eqA] at hb
   split at hb
   ·rename_i a c e1 e2
    split at hb
    ·rename_i u v e3 e4
     simp only [KJ] at hb e4
     subst e4
     rw [Bool.and_true] at hb
     subst hb
     exact ⟨a,c,e1,e2,e3,h1.2 _ _ _ hx e1,h2.2 _ _ _ hy e2⟩
    ·simp at hb
   ·simp at hb
  split at hL
  ·rename_i k hu
   simp only [KJ] at hL
   simp only [partOf,hu] at hx hy
   obtain ⟨a,c,e1,e2,e3,e4,e5⟩:=leaf .int hL.symm hx hy
   unfold iH at e3
   split at e3<;>try (simp at e3;done)
   ·rename_i k1 m1 k2 m2 _
    split at e3
    ·rename_i hk;subst hk
     simp only [KJ] at e3;subst e3
     cases e4;cases e5
     exact run_equalIn_int _ D t k1 k m1 m2 hu
    ·simp at e3
   all_goals (rename_i hk;simp at hk)
  ·rename_i hu
   simp only [KJ] at hL
   simp only [partOf,hu] at hx hy
   obtain ⟨a,c,e1,e2,e3,e4,e5⟩:=leaf .str hL.symm hx hy
   unfold iH at e3
   split at e3<;>try (simp at e3;done)
   all_goals try (rename_i hk;simp at hk;done)
   simp only [KJ] at e3;subst e3
   cases e4;cases e5
   rw [wV]
   exact run_equalIn_string _ D t _ _ hu
  ·rename_i hu
   simp only [KJ] at hL
   simp only [partOf,hu] at hx hy
   obtain ⟨a,c,e1,e2,e3,e4,e5⟩:=leaf .bool hL.symm hx hy
   unfold iH at e3
   split at e3<;>try (simp at e3;done)
   all_goals try (rename_i hk;simp at hk;done)
   simp only [KJ] at e3;subst e3
   cases e4;cases e5
   exact run_equalIn_bool' _ D t _ _ hu
  ·rename_i fs hu
   split at hL
   ·simp at hL
   ·rename_i dL
    split at hL
    ·rename_i n hn
     simp only [partOf,hu] at hx hy
     obtain ⟨nx,nP,CI,rfl⟩:=hx
     obtain ⟨ny,xz,CJ,rfl⟩:=hy
     obtain rfl:n=nx:=by rw [hn] at nP;simpa using nP
     obtain rfl:n=ny:=by rw [hn] at xz;simpa using xz
     have mr:P.fieldsOf t=fs:=by simp [Program.fieldsOf,hu]
     rw [run_equalIn_struct E.w D t _ _ (by rw [mr];exact hu) (by simpa using dL),mr]
     clear mr dL leaf hu
     generalize fs.toList=l at hL
     induction l generalizing L b with
     |nil=>
      simp only [pL,KJ] at hL
      subst hL
      simp only [eqA,KJ] at hb
      subst hb
      rfl
     |cons f l CK=>
      simp only [pL] at hL
      split at hL
      ·simp at hL
      ·rename_i nQ
       split at hL
       ·rename_i k hk
        split at hL
        ·rename_i hfit
         split at hL
         ·rename_i La Lb ea eb
          simp only [KJ] at hL
          subst hL
          obtain ⟨xa,xb,m1,m2,rfl⟩:=xy hb
          have hp:∀(us:Array Value),off+n<=us.size->∃p,(part f.type (us.extract off (off+n)) f.offset).run P E.w= .ok p E.w/\partOf P f.type us (off+f.offset) p:=by
           intro us Kg
           have hsz:=ko hk E.w
           cases hd:P.underlying f.type with
           |none=>
            exfalso
            cases d with
            |zero=>simp [iI] at ea
            |succ d=>simp [iI,hd] at ea
           |some desc=>
            have sU:(isAgg f.type).run P E.w= .ok false E.w->(∀nR,desc≠ .struct nR)->0<k\/True->f.offset<n->∃p,(part f.type (us.extract off (off+n)) f.offset).run P E.w= .ok p E.w/\partOf P f.type us (off+f.offset) p:=by
             intro dD aA _ hlt
             have hg:(us.extract off (off+n))[f.offset]? =us[off+f.offset]? :=by
              rw [Array.getElem?_extract]
              simp;omega
             have p9:off+f.offset<us.size:=by omega
             refine ⟨us[off+f.offset], ?_, ?_⟩
             ·simp [part,dD,hg,KX p9]
             ·simp only [partOf,hd]
              cases desc<;>first|exact KX p9|exact absurd rfl (aA _)
            cases desc with
            |struct nR=>
             refine ⟨_,by simp [part,isAgg,run_underlying hd,hsz];rfl, ?_⟩
             simp only [partOf,hd]
             refine ⟨k,hk,by omega, ?_⟩
             congr 1
             apply Array.ext_getElem?
             intro i
             simp only [Array.getElem?_extract]
             by_cases hi:i<k
             ·rw [KL (by omega),KL (by omega)]
              try rw [KL (by omega)]
              try (congr 1;omega)
             ·rw [KK (by omega),KK (by omega)]
            |int _=>exact sU (by simp [isAgg,run_underlying hd]) (fun nR h=>by cases h) (.inr trivial) hfit.2
            |string=>exact sU (by simp [isAgg,run_underlying hd]) (fun nR h=>by cases h) (.inr trivial) hfit.2
            |bool=>exact sU (by simp [isAgg,run_underlying hd]) (fun nR h=>by cases h) (.inr trivial) hfit.2
            |_=>
             exfalso
             cases d with
             |zero=>simp [iI] at ea
             |succ d=>simp [iI,hd] at ea
          obtain ⟨p1,r1,q1⟩:=hp vs CI
          obtain ⟨p2,r2,q2⟩:=hp ws CJ
          have dg:=ih f.type (off+f.offset) La xa ea m1 D (by omega) p1 p2 q1 q2
          have CL:=CK Lb xb m2 eb
          simp only [Op.eqFields]
          rw [KL nQ]
          simp only [Lu,r1,r2,dg,Mm,Sem.run_ite]
          cases xa
          ·simp
          ·simp [CL]
         ·simp at hL
        ·simp at hL
       ·simp at hL
    ·simp at hL
  ·simp at hL
theorem xA (hm:aB E J base g) {neg:Bool} {op:BinOp} (bG:op=if neg then .neq else .eql) {L:List (Nat×LK)} {fs:Array Field} (hu:P.underlying t=some (.struct fs)) (hn:szOf P t=some n) (hg:P.eqGuardType P.depth t=false) (hL:iI P 8 t 0=some L) {vx vy:Value} {yo:Operand} {y:Arg} (hvx:ae E vx (ρ x)) (hvy:ae E vy (ρ y))
 (h:((AO.eqs neg n L x y).af fresh ρ).run g=some (.done val ups)):
  bu E J base g ((do pure (Next.value (<-(do eqGuard op t xo yo vx vy;binOp op t vx vy:Sem Value))):Sem Next).run P E.w) val ups:=by
 simp only [AO.af] at h
 split at h
 ·rename_i cs ds h1 h2
  split at h
  case isFalse=>simp [RM.run] at h
  rename_i hlen
  cases hb:eqA cs ds L with
  |none=>simp [hb,RM.opt,RM.run] at h
  |some b=>
   simp [hb,RM.opt,RM.run] at h
   obtain ⟨rfl,rfl⟩:=h
   have s1:szOf P t=some cs.length:=by rw [hlen.1];exact hn
   have s2:szOf P t=some ds.length:=by rw [hlen.2];exact hn
   rw [h1] at hvx;rw [h2] at hvy
   cases hvx with
   | @agg xs _ l1 r1=>cases hvy with
    | @agg ys _ l2 r2=>
     have hrun:=CH (P:=P) (E:=E) ⟨l1,r1⟩ ⟨l2,r2⟩ 8 t 0 L b hL hb 10000 (by omega) (.agg xs) (.agg ys) (by
      simp only [partOf,hu];refine ⟨_,s1,by omega, ?_⟩;congr 1;rw [KY, <-l1];simp) (by
      simp only [partOf,hu];refine ⟨_,s2,by omega, ?_⟩;congr 1;rw [KY, <-l2];simp)
     cases neg with
     |false=>
      simp only [LF,Lh] at bG ⊢
      subst bG
      refine a0 hm (v:= .bool b) ?_ (.v rfl)
      simp [run_eqGuard_agg E.w _ t xo yo xs ys hg,run_eql_struct,hrun]
     |true=>
      simp only [KN] at bG ⊢
      subst bG
      refine a0 hm (v:= .bool (!b)) ?_ (.v rfl)
      simp [run_eqGuard_agg E.w _ t xo yo xs ys hg,run_neq_struct,hrun]
 ·simp [RM.run] at h
theorem CM (ha:dA E az ρ) (hm:aB E J base g) (hu:P.underlying t=some .string) {x:Operand} {ax:Arg} (hx:cArg x=some ax) {lo hi:Option Operand} {iF iG:Option Arg} (h1:er lo=some iF) (h2:er hi=some iG)
 (h:((AO.sls ax iF iG).af fresh ρ).run g=some (.done val ups)):
  bu E J base g ((do pure (Next.value (<-Instr.sliceAt t (az x) (lo.map az) (hi.map az) none)):Sem Next).run P E.w) val ups:=by
 have hv:=ha x ax hx
 simp only [AO.af] at h
 split at h
 ·rename_i nlo nhi s k1 k2 cV
  cases hb:bounds s.size nlo nhi with
  |none=>simp [hb,RM.opt,RM.run] at h
  |some b=>
   simp [hb,RM.opt,RM.run] at h
   obtain ⟨rfl,rfl⟩:=h
   rw [cV] at hv
   have hvx:az x= .string s:=by
    obtain ⟨vv,bX⟩:∃vv,vv=az x:=⟨_,rfl⟩
    rw [<-bX] at hv ⊢
    cases hv with|v=>rfl
   have eV:=lg (P:=P) (E:=E) (isS:=false) (mx:=none) (amx:=none) (nmx:=none) ha (KO s.size) h1 h2 rfl k1 k2 rfl (by simp) hb (fun m hm=>by simp at hm)
   simp only [Option.map_none,Me] at eV
   refine a0 hm (v:= .string (s.extract b.1 b.2)) ?_ (.v rfl)
   simp [hvx,Instr.sliceAt,Instr.slice,run_underlying hu,eV]
 ·simp [RM.run] at h
theorem CN (hm:aB E J base g) (hu:P.underlying t=some .string) {vi:Value} {i:Arg} (hv:ae E v (ρ x)) (hvi:ae E vi (ρ i))
 (h:((AO.six x i).af fresh ρ).run g=some (.done val ups)):
  bu E J base g ((do pure (Next.value (<-Instr.index t v vi)):Sem Next).run P E.w) val ups:=by
 simp only [AO.af] at h
 split at h
 ·rename_i s n hx hn
  cases hb:s[n]? with
  |none=>simp [hb,RM.opt,RM.run] at h
  |some b=>
   simp [hb,RM.opt,RM.run] at h
   obtain ⟨rfl,rfl⟩:=h
   obtain ⟨k,rfl⟩:=pR hvi hn
   rw [hx] at hv
   cases hv with
   |v hp=>
    refine a0 hm (v:= .int .u8 b.toNat) ?_ (.v rfl)
    simp [Instr.index,asIntOf,run_underlying hu,hb]
 ·simp [RM.run] at h
theorem CO {caps:Array Value} {c:Call} {x:Operand} (hc:c.callee= .value x) (hx:az x= .func (.func f) #[] caps) (w:World):
  (do let d<-resolve az c ty;invoke d.target d.args:Sem Next).run P w=(callFunc f (c.args.map az++caps)).run P w:=by
 simp [resolve,hc,hx,Deferred.ofValue,invoke]
theorem CP {first:Array Value} {c:Call} {x:Operand} (hc:c.callee= .value x) (hx:az x= .func (.func f) first #[]) (w:World):
  (do let d<-resolve az c ty;invoke d.target d.args:Sem Next).run P w=(callFunc f (first++c.args.map az)).run P w:=by
 simp [resolve,hc,hx,Deferred.ofValue,invoke]
def bT (P:Program) (f:FuncId):Bool:=
 match P.funcs[f]? with
 |some fn=>fn.body.isSome&&fn.name != "runtime.NumGoroutine"
 |none=>false
theorem xB (h:bT P f=true) (args:Array Value) (w:World):(callFunc f args).run P w= .ok (.enter f args) w:=by
 unfold bT at h
 cases hf:P.funcs[f]? with
 |none=>simp [hf] at h
 |some fn=>
  simp only [hf,KM,bne_iff_ne,ne_eq] at h
  have hb:fn.body.isNone=false:=by cases hbb:fn.body<;>simp [hbb] at h ⊢
  simp only [callFunc,Lu,run_program,Mm,hf,hb,LF,Lh]
  rw [KK (by simpa using h.2)]
  rfl
theorem ae.fu {a:Value} (h:ae E v (.v a)):v=a:=by cases h;rfl
theorem xC {x:Option Operand} {ax:Option Arg} (h:er x=some ax):ax.isSome=x.isSome:=by
 cases x with
 |none=>simp [er] at h;subst h;rfl
 |some o=>
  simp only [er] at h
  cases hc:cArg o<;>simp [hc] at h
  subst h;rfl
theorem sV (hn:∀x args,ao≠ .call x args):(ao.af fresh ρ).run g≠some (.call f as_):=by
 intro h
 have ku:∀{α:Type} (m:Option α) (k:α->Out),(∀a,∀f as_,k a≠ .call f as_)->∀f as_,RM.run g (RM.opt (m.map k))=some (.call f as_)->False:=by
  intro α m k hk f as_ hh
  cases m with
  |none=>simp [RM.opt,RM.run] at hh
  |some a=>simp [RM.opt,RM.run] at hh;exact hk a _ _ hh
 have xD:∀{α β:Type} (m:Option α) (k:α->Option β) (k2:β->Out),(∀a,∀f as_,k2 a≠ .call f as_)->∀f as_,RM.run g (RM.opt (m.bind fun x=>(k x).map k2))=some (.call f as_)->False:=by
  intro α β m k k2 hk f as_ hh
  cases m with
  |none=>simp [RM.opt,RM.run] at hh
  |some a=>simp only [L8] at hh;exact ku _ _ hk _ _ hh
 cases ao with
 |call x args=>exact hn x args rfl
 |app sz bytes s x=>
  simp only [AO.af] at h
  obtain ⟨ys,_,h⟩:=cz h
  split at h
  ·split at h<;>simp [RM.run] at h
  ·split at h<;>simp [RM.run] at h
  ·simp only [RM.run] at h
   split at h
   ·split at h
    ·simp [RM.run] at h
    ·split at h<;>simp [RM.run] at h
   ·simp at h
  ·simp [RM.run] at h
 |clr zs x=>
  simp only [AO.af] at h
  split at h
  ·simp [RM.run] at h
  ·simp only [RM.run] at h
   split at h
   ·split at h<;>simp [RM.run] at h
   ·simp at h
  ·simp [RM.run] at h
 |cpy sz x y=>
  simp only [AO.af] at h
  obtain ⟨ys,_,h⟩:=cz h
  split at h
  ·simp only [RM.run] at h
   split at h
   ·split at h<;>simp [RM.run] at h
   ·simp at h
  ·simp [RM.run] at h
 |slc sz x lo hi mx=>
  simp only [AO.af] at h
  split at h
  ·split at h
   ·split at h
    ·exact xD _ _ _ (by simp) _ _ h
    ·simp [RM.run] at h
   ·split at h
    ·exact xD _ _ _ (by simp) _ _ h
    ·simp [RM.run] at h
   ·generalize bounds 0 _ _=bb at h
    cases bb with
    |none=>simp [RM.opt,RM.run] at h
    |some b=>
     simp only [L8] at h
     split at h<;>simp [RM.opt,RM.run] at h
   ·obtain ⟨B,_,h⟩:=gk h
    split at h
    ·split at h
     ·split at h
      ·simp [RM.run] at h
      ·simp only [RM.run] at h
       split at h
       ·split at h
        ·exact ku _ _ (by simp) _ _ h
        ·simp [RM.run] at h
       ·simp at h
      ·simp [RM.run] at h
     ·simp [RM.run] at h
    ·simp only [RM.run] at h
     split at h
     ·split at h
      ·generalize bounds _ _ _=bb at h
       cases bb with
       |none=>simp [RM.opt,RM.run] at h
       |some b=>
        simp only [L8] at h
        split at h<;>simp [RM.opt,RM.run] at h
      ·simp [RM.run] at h
     ·simp at h
   ·simp [RM.run] at h
  ·simp [RM.run] at h
 |mup kd x k y=>
  simp only [AO.af] at h
  split at h
  ·simp only [RM.run] at h
   split at h
   ·split at h
    ·split at h<;>simp [RM.run] at h
    ·simp [RM.run] at h
   ·simp at h
  ·simp [RM.run] at h
 |mlk kd z x k=>
  simp only [AO.af] at h
  split at h
  ·simp only [RM.run] at h
   split at h
   ·split at h
    ·exact ku _ _ (by simp) _ _ h
    ·simp [RM.run] at h
   ·simp at h
  ·simp [RM.run] at h
 |b2s x=>
  simp only [AO.af] at h
  obtain ⟨ys,_,h⟩:=cz h
  exact ku _ _ (by simp) _ _ h
 |isn kd b x=>cases kd<;>simp only [AO.af] at h<;>split at h<;>first|(simp [RM.run] at h;done)|(obtain ⟨B,_,h⟩:=gk h;simp [RM.run] at h)
 |len b x=>cases b<;>simp only [AO.af] at h<;>split at h<;>first|(simp [RM.run] at h;done)|(obtain ⟨B,_,h⟩:=gk h;simp [RM.run] at h)
 |_=>
  simp only [AO.af] at h
  first
  |(simp [RM.run] at h;done)
  |exact ku _ _ (by simp) _ _ h
  |(split at h<;>first
    |(simp [RM.run] at h;done)
    |exact ku _ _ (by simp) _ _ h
    |(obtain ⟨B,_,h⟩:=gk h;simp [RM.run] at h;done)
    |(split at h<;>first
      |(simp [RM.run] at h;done)
      |exact ku _ _ (by simp) _ _ h
      |(obtain ⟨B,_,h⟩:=gk h;simp [RM.run] at h;done))
    |(simp only [RM.run] at h;split at h<;>first
      |(simp at h;done)
      |(split at h<;>first
        |(simp [RM.run] at h;done)
        |exact ku _ _ (by simp) _ _ h
        |(split at h<;>simp [RM.run] at h))))
theorem xE {o:Oper} {args:List Arg} (hc:br P o=some (.call x args)):∃c y,o.op= .call c/\c.callee= .value y/\cArg y=some x/\ki c.args.toList=some args:=by
 obtain ⟨dst,op,type,pos,after,guard⟩:=o
 cases op with
 |call c=>
  simp only [br] at hc
  split at hc
  ·rename_i y hy
   split at hc
   ·rename_i ax al h1 h2
    simp only [KJ,AO.call.injEq] at hc
    obtain ⟨rfl,rfl⟩:=hc
    exact ⟨c,y,rfl,hy,h1,h2⟩
   ·simp at hc
  all_goals exfalso
  all_goals (repeat' (first|(simp at hc;done)|split at hc))
 |makeFunc fn first caps=>
  exfalso
  cases fn<;>simp only [br] at hc
  all_goals (repeat' (first|(simp at hc;done)|split at hc))
 |mapUpdate t m k y=>
  exfalso
  simp only [br] at hc
  split at hc
  ·cases hk:keyT P _ with
   |none=>rw [hk] at hc;simp at hc
   |some kd=>rw [hk] at hc;simp at hc
  ·simp at hc
 |insert t m k y=>
  exfalso
  simp only [br] at hc
  split at hc
  ·cases hk:keyT P _ with
   |none=>rw [hk] at hc;simp at hc
   |some kd=>rw [hk] at hc;simp at hc
  ·simp at hc
 |_=>
  exfalso
  simp only [br] at hc
  all_goals (repeat' (first|(simp at hc;done)|split at hc))
theorem nS (ha:dA E az ρ) {o:Oper} (hc:br P o=some ao) (h:(ao.af fresh ρ).run g=some (.call f as_)) (hf:bT P f=true):
  ∃vs,(execOp az o).run P E.w= .ok (.enter f vs) E.w/\RC E vs as_:=by
 by_cases hn:∀x args,ao≠ .call x args
 ·exact absurd h (sV hn)
 ·obtain ⟨x,args,rfl⟩:∃x args,ao= .call x args:=by
   simp only [ne_eq] at hn
   cases ao<;>first|exact ⟨_,_,rfl⟩|(exfalso;exact hn (by simp))
  obtain ⟨c,y,h1,h2,h3,h4⟩:=xE hc
  simp only [AO.af] at h
  split at h
  ·rename_i f' caps hx
   simp only [RM.run,KJ,Out.call.injEq] at h
   obtain ⟨rfl,rfl⟩:=h
   have hv:=ha y x h3
   rw [hx] at hv
   obtain ⟨vv,bX⟩:∃vv,vv=az y:=⟨_,rfl⟩
   rw [<-bX] at hv
   cases hv with
   | @fn _ us _ hl hr=>
    obtain ⟨al,ar⟩:=ha.list h4
    refine ⟨c.args.map az++us, ?_, ?_⟩
    ·unfold execOp
     simp only [h1]
     exact (CO (caps:=us) h2 bX.symm E.w).trans (xB hf _ _)
    ·refine ⟨by simp [hl];rw [<-al];simp,fun j u a hu dr=> ?_⟩
     have bO:(c.args.map az).size=args.length:=by rw [<-al];simp
     by_cases hj:j<args.length
     ·rw [MG (by omega)] at hu
      rw [LH (by simpa using hj)] at dr
      exact ar j u a (by simpa using hu) dr
     ·rw [Array.getElem?_append_right (by omega),bO] at hu
      rw [LX (by simpa using hj)] at dr
      simp only [K7] at dr
      exact hr _ u a hu dr
  ·rename_i f' caps hx
   simp only [RM.run,KJ,Out.call.injEq] at h
   obtain ⟨rfl,rfl⟩:=h
   have hv:=ha y x h3
   rw [hx] at hv
   obtain ⟨vv,bX⟩:∃vv,vv=az y:=⟨_,rfl⟩
   rw [<-bX] at hv
   cases hv with
   | @bf _ us _ hl hr=>
    obtain ⟨al,ar⟩:=ha.list h4
    refine ⟨us++c.args.map az, ?_, ?_⟩
    ·unfold execOp
     simp only [h1]
     exact (CP (first:=us) h2 bX.symm E.w).trans (xB hf _ _)
    ·refine ⟨by simp [hl];rw [<-al];simp,fun j u a hu dr=> ?_⟩
     by_cases hj:j<us.size
     ·rw [MG hj] at hu
      rw [LH (by omega)] at dr
      exact hr _ u a hu dr
     ·rw [Array.getElem?_append_right (by omega)] at hu
      rw [LX (by omega), <-hl] at dr
      exact ar _ u a (by simpa using hu) dr
  ·simp [RM.run] at h
theorem sW {op:BinOp} {n:Bool} (h:negOf op=some n):op=if n then .neq else .eql:=by
 cases op<;>cases h<;>rfl
theorem CQ (hu:P.underlying t=some (.slice e)) (A:Option Addr) (n c:Nat) (w:World):(Op.equal t (.slice A n c) (.slice none 0 0)).run P w= .ok A.isNone w:=by
 show (Op.equalIn (9999+1) t _ _).run P w=_
 unfold Op.equalIn
 cases A<;>simp [run_underlying hu]
theorem CR (hu:P.underlying t=some (.pointer e)) (A:Option Addr) (w:World):(Op.equal t (.pointer A) (.pointer none)).run P w= .ok A.isNone w:=by
 show (Op.equalIn (9999+1) t _ _).run P w=_
 unfold Op.equalIn
 cases A<;>simp [run_underlying hu]
theorem sX {a1 a2 a3} (hu:P.underlying t=some (.func a1 a2 a3)) (f:Go.Fn) (x y:Array Value) (w:World):(Op.equal t (.func f x y) .nilFunc).run P w= .ok false w:=by
 show (Op.equalIn (9999+1) t _ _).run P w=_
 unfold Op.equalIn
 simp [run_underlying hu]
theorem sY {a1 a2 a3} (hu:P.underlying t=some (.func a1 a2 a3)) (w:World):(Op.equal t .nilFunc .nilFunc).run P w= .ok true w:=by
 show (Op.equalIn (9999+1) t _ _).run P w=_
 unfold Op.equalIn
 simp [run_underlying hu]
theorem CS (hm:aB E J base g) (mu:∀v,az (.const v)=v) {op:BinOp} {y:Operand} {q:NK×Bool} (hn:sC P t op y=some q) (hv:ae E (az xo) (ρ x))
  (h:((AO.isn q.1 q.2 x).af fresh ρ).run g=some (.done val ups)):bu E J base g ((do pure (Next.value (<-(do eqGuard op t xo y (az xo) (az y);binOp op t (az xo) (az y)))):Sem Next).run P E.w) val ups:=by
 obtain ⟨vx,hvx⟩:∃vx,vx=az xo:=⟨_,rfl⟩
 rw [<-hvx] at hv ⊢
 unfold sC at hn
 split at hn
 ·-- Kh
  rename_i e hu
  rw [mu]
  cases hng:negOf op with
  |none=>simp [hng] at hn
  |some neg=>
   simp only [hng,KV,KJ] at hn
   subst hn
   have bG:=sW hng
   have run:∀A n c,vx= .slice A n c->(do pure (Next.value (<-(do eqGuard op t xo (.const (.slice none 0 0)) vx (.slice none 0 0);binOp op t vx (.slice none 0 0)))):Sem Next).run P E.w= .ok (.value (.bool (A.isNone !=neg))) E.w:=by
    rintro A n c rfl
    cases neg<;>simp only [KN,LF,Lh] at bG<;>subst bG<;>cases A<;>simp [eqGuard,binOp,CQ hu]
   have xF:∀A n c,vx= .slice (some A) n c->∀{v},v=AV.v (.bool neg)->bu E J base g ((do pure (Next.value (<-(do eqGuard op t xo (.const (.slice none 0 0)) vx (.slice none 0 0);binOp op t vx (.slice none 0 0)))):Sem Next).run P E.w) v []:=by
    intro A n c hA v hv
    subst hv
    refine a0 hm (v:= .bool neg) ?_ (.v rfl)
    rw [run _ _ _ hA];cases neg<;>rfl
   have nT:∀A n c,vx= .slice A n c->bu E J base g ((do pure (Next.value (<-(do eqGuard op t xo (.const (.slice none 0 0)) vx (.slice none 0 0);binOp op t vx (.slice none 0 0)))):Sem Next).run P E.w) .dq []:=by
    intro A n c hA
    exact a0 hm (v:= .bool (A.isNone !=neg)) (run _ _ _ hA) .dq
   have aN:∀sz els,ae E vx (.aN sz els)->val=(if els.isEmpty=true then .dq else .v (.bool neg))->ups=[]->bu E J base g ((do pure (Next.value (<-(do eqGuard op t xo (.const (.slice none 0 0)) vx (.slice none 0 0);binOp op t vx (.slice none 0 0)))):Sem Next).run P E.w) val ups:=by
    rintro sz els hr rfl rfl
    cases hr with
    |dy hc=>exact nT _ _ _ rfl
    |dO u hn hl hc=>
     by_cases he:els.isEmpty=true
     ·rw [KL he];exact nT _ _ _ rfl
     ·rw [KK he];exact xF _ _ _ rfl rfl
   simp only [AO.af] at h
   split at h
   ·rename_i sz els hx
    simp only [RM.run,KJ,Out.done.injEq] at h
    rw [hx] at hv
    exact aN sz els hv h.1.symm h.2.symm
   ·rename_i sz els hx
    simp only [RM.run,KJ,Out.done.injEq] at h
    rw [hx] at hv
    cases hv with
    |cy hv=>exact aN sz els hv h.1.symm h.2.symm
   ·rename_i hx
    simp only [RM.run,KJ,Out.done.injEq] at h
    obtain ⟨rfl,rfl⟩:=h
    rw [hx] at hv
    cases hv with
    |emp=>exact nT _ _ _ rfl
   ·rename_i id sz off n hx
    obtain ⟨B,hB,h⟩:=gk h
    simp only [RM.run,KJ,Out.done.injEq] at h
    obtain ⟨rfl,rfl⟩:=h
    rw [hx] at hv
    cases hv with
    |own hi hd hb hq hs cR hl hc=>
     by_cases h0:n=0
     ·rw [KL h0];exact nT _ _ _ rfl
     ·rw [KK h0];exact xF _ _ _ rfl rfl
    |bL hi hd hb=>rw [KL rfl];exact nT _ _ _ rfl
    |ck hi hd=>exact absurd hd (alive hm hB)
   ·simp [RM.run] at h
 ·-- Ki
  rename_i a1 a2 a3 hu
  rw [mu]
  cases hng:negOf op with
  |none=>simp [hng] at hn
  |some neg=>
   simp only [hng,KV,KJ] at hn
   subst hn
   have bG:=sW hng
   simp only [AO.af] at h
   split at h
   ·rename_i f cs hx
    simp only [RM.run,KJ,Out.done.injEq] at h
    obtain ⟨rfl,rfl⟩:=h
    rw [hx] at hv
    cases hv with
    |fn hl hh=>
     refine a0 hm (v:= .bool neg) ?_ (.v rfl)
     cases neg<;>simp only [KN,LF,Lh] at bG<;>subst bG<;>simp [eqGuard,binOp,sX hu,sY hu]
   ·rename_i f cs hx
    simp only [RM.run,KJ,Out.done.injEq] at h
    obtain ⟨rfl,rfl⟩:=h
    rw [hx] at hv
    cases hv with
    |bf hl hh=>
     refine a0 hm (v:= .bool neg) ?_ (.v rfl)
     cases neg<;>simp only [KN,LF,Lh] at bG<;>subst bG<;>simp [eqGuard,binOp,sX hu,sY hu]
   ·rename_i hx
    simp only [RM.run,KJ,Out.done.injEq] at h
    obtain ⟨rfl,rfl⟩:=h
    rw [hx] at hv
    have:=hv.fu
    subst this
    refine a0 hm (v:= .bool !neg) ?_ (.v rfl)
    cases neg<;>simp only [KN,LF,Lh] at bG<;>subst bG<;>simp [eqGuard,binOp,sX hu,sY hu]
   ·simp [RM.run] at h
 ·-- Kj
  rename_i e hu
  rw [mu]
  cases hng:negOf op with
  |none=>simp [hng] at hn
  |some neg=>
   simp only [hng,KV,KJ] at hn
   subst hn
   have bG:=sW hng
   have run:∀A,vx= .pointer A->(do pure (Next.value (<-(do eqGuard op t xo (.const (.pointer none)) vx (.pointer none);binOp op t vx (.pointer none)))):Sem Next).run P E.w= .ok (.value (.bool (A.isNone !=neg))) E.w:=by
    rintro A rfl
    cases neg<;>simp only [KN,LF,Lh] at bG<;>subst bG<;>cases A<;>simp [eqGuard,binOp,CR hu]
   simp only [AO.af] at h
   split at h
   ·rename_i id sz i o hx
    obtain ⟨B,hB,h⟩:=gk h
    simp only [RM.run,KJ,Out.done.injEq] at h
    obtain ⟨rfl,rfl⟩:=h
    rw [hx] at hv
    cases hv with
    |ref hi hd hb hq=>
     refine a0 hm (v:= .bool neg) ?_ (.v rfl)
     rw [run _ rfl];cases neg<;>rfl
    |dZ hi hd=>exact absurd hd (alive hm hB)
   ·rename_i cs o hx
    simp only [RM.run,KJ,Out.done.injEq] at h
    obtain ⟨rfl,rfl⟩:=h
    rw [hx] at hv
    cases hv with
    |pim u hb hq Kk eF hr=>
     refine a0 hm (v:= .bool neg) ?_ (.v rfl)
     rw [run _ rfl];cases neg<;>rfl
   ·rename_i hx
    simp only [RM.run,KJ,Out.done.injEq] at h
    obtain ⟨rfl,rfl⟩:=h
    rw [hx] at hv
    have:=hv.fu
    refine a0 hm (v:= .bool !neg) ?_ (.v rfl)
    rw [run _ this];cases neg<;>rfl
   ·simp [RM.run] at h
 ·simp at hn
theorem CT (ha:dA E az ρ) (mu:∀v,az (.const v)=v) (hm:aB E J base g) (hf:¬E.kn fresh) {o:Oper} (hc:br P o=some ao) (h:(ao.af fresh ρ).run g=some (.done val ups)):
  bu E J base g ((execOp az o).run P E.w) val ups:=by
 obtain ⟨dst,op,type,pos,after,guard⟩:=o
 have omap:∀{α β:Type} {m:Option α} {k:α->β} {y:β},m.map k=some y->∃x,m=some x/\k x=y:=by
  intro α β m k y h
  cases m with
  |none=>simp at h
  |some a=>exact ⟨a,rfl,by simpa using h⟩
 have mov:∀x ax,cArg x=some ax->((AO.mov ax).af fresh ρ).run g=some (.done val ups)->∀r,r= .ok (.value (az x)) E.w->bu E J base g r val ups:=by
  intro x ax h1 h2 r hr
  simp only [AO.af,RM.run,KJ,Out.done.injEq] at h2
  obtain ⟨rfl,rfl⟩:=h2
  exact a0 hm hr (ha x ax h1)
 cases op with
 |move x=>simp only [br] at hc;obtain ⟨ax,h1,rfl⟩:=omap hc;exact mov x ax h1 h _ rfl
 |assign x=>simp only [br] at hc;obtain ⟨ax,h1,rfl⟩:=omap hc;exact mov x ax h1 h _ rfl
 |pick c a b=>
  simp only [br] at hc
  split at hc
  ·rename_i ac aa ab h1 h2 h3
   simp only [KJ] at hc;subst hc
   simp only [AO.af] at h
   split at h
   ·rename_i t ht
    simp only [RM.run,KJ,Out.done.injEq] at h
    obtain ⟨rfl,rfl⟩:=h
    have hv:=ha c ac h1
    rw [ht] at hv
    obtain ⟨vv,bX⟩:∃vv,vv=az c:=⟨_,rfl⟩
    rw [<-bX] at hv
    cases hv with
    |v hp=>
     refine a0 hm (v:=if t then az a else az b) ?_ ?_
     ·unfold execOp
      simp only [<-bX]
      cases t<;>simp [asBool]
     ·cases t
      ·exact ha b ab h3
      ·exact ha a aa h2
   ·simp [RM.run] at h
  ·simp at hc
 |alloc t=>
  simp only [br] at hc
  split at hc
  ·rename_i zs h1
   split at hc
   ·rename_i hz0
    simp only [KJ] at hc;subst hc
    simp only [AO.af,RM.run,KJ,Out.done.injEq] at h
    obtain ⟨rfl,rfl⟩:=h
    exact By hm hf h1 hz0
   ·simp at hc
  ·simp at hc
 |panic x=>
  simp only [br,KJ] at hc
  subst hc
  simp [AO.af,RM.run] at h
 |makeInterface t x=>
  simp only [br,KJ] at hc
  subst hc
  simp [AO.af,RM.run] at h
 |makeMap t r=>
  simp only [br] at hc
  split at hc
  ·rename_i kt et h1
   simp only [KJ] at hc;subst hc
   simp only [AO.af,RM.run,KJ,Out.done.injEq] at h
   obtain ⟨rfl,rfl⟩:=h
   exact xq hm hf h1 (.inl rfl)
  ·rename_i kt et k n h1
   simp only [KJ] at hc;subst hc
   simp only [AO.af,RM.run,KJ,Out.done.injEq] at h
   obtain ⟨rfl,rfl⟩:=h
   have:=xq (P:=P) (r:=some (az (.const (.int k n)))) hm hf h1 (.inr ⟨k,n,by rw [mu]⟩)
   exact this
  ·simp at hc
 |mapUpdate t x k y=>
  simp only [br] at hc
  split at hc
  ·rename_i kt et ax ak ay h1 h2 h3 h4
   obtain ⟨kd,h5,rfl⟩:=omap hc
   exact xt hm h1 h5 (ha x ax h2) (ha k ak h3) (ha y ay h4) h
  ·simp at hc
 |insert t x k y=>
  simp only [br] at hc
  split at hc
  ·rename_i kt et ax ak ay h1 h2 h3 h4
   obtain ⟨kd,h5,rfl⟩:=omap hc
   exact xt hm h1 h5 (ha x ax h2) (ha k ak h3) (ha y ay h4) h
  ·simp at hc
 |lookup t x k ok=>
  simp only [br] at hc
  split at hc
  ·rename_i kt et ax ak h1 h2 h3
   split at hc
   ·rename_i hok
    subst hok
    split at hc
    ·rename_i z kd h4 h5
     simp only [KJ] at hc;subst hc
     exact Cw hm h1 h5 h4 (ha x ax h2) (ha k ak h3) h
    ·simp at hc
   ·simp at hc
  ·simp at hc
 |box t x=>
  simp only [br] at hc
  split at hc
  ·rename_i n ax h1 h2
   split at hc
   ·rename_i hz0
    simp only [KJ] at hc;subst hc
    simp only [AO.af] at h
    split at h
    ·rename_i bN
     simp only [RM.run,KJ,Out.done.injEq] at h
     obtain ⟨rfl,rfl⟩:=h
     exact Bz hm hf (ha x ax h2) bN.1 bN.2 hz0
    ·simp [RM.run] at h
   ·simp at hc
  ·simp at hc
 |build t parts=>
  simp only [br] at hc
  split at hc
  ·rename_i zs fields h1 h2
   split at hc
   ·rename_i places h3
    obtain ⟨as_,h4,rfl⟩:=omap hc
    refine wX ha hm h1 h4 (fun z i hi hz ps=> ?_) h
    unfold placesOf at h3
    simp only [Program.built,hi,h2,hz,h3]
   ·simp at hc
  ·rename_i zs k e h1 h2
   split at hc
   ·rename_i sz h3
    obtain ⟨as_,h4,rfl⟩:=omap hc
    refine wX ha hm h1 h4 (fun z i hi hz ps=> ?_) h
    unfold szOf at h3
    obtain ⟨ie,CU,hs⟩:=omap h3
    simp only [Program.built,hi,h2,hz,CU,hs]
   ·simp at hc
  ·simp at hc
 |buildSlice t len parts=>
  simp only [br] at hc
  split at hc
  ·rename_i e h1
   split at hc
   ·rename_i zs h2
    split at hc
    ·rename_i bN
     obtain ⟨as_,h3,rfl⟩:=omap hc
     exact BL ha hm hf h1 h2 bN.1 bN.2 h3 h
    ·simp at hc
   ·simp at hc
  ·simp at hc
 |load t x=>
  simp only [br] at hc
  split at hc
  ·rename_i m ax h1 h2
   simp only [KJ] at hc;subst hc
   exact BA hm h1 (ha x ax h2) h
  ·simp at hc
 |store t x y=>
  simp only [br] at hc
  split at hc
  ·rename_i n ax ay h1 h2 h3
   simp only [KJ] at hc;subst hc
   exact BB hm h1 (ha x ax h2) (ha y ay h3) h
  ·simp at hc
 |nilCheck x=>simp only [br] at hc;obtain ⟨ax,h1,rfl⟩:=omap hc;exact BN hm (ha x ax h1) rfl rfl h
 |binOp op t x y yt=>
  simp only [br] at hc
  split at hc
  ·rename_i q eI
   obtain ⟨ax,h1,rfl⟩:=omap hc
   exact CS hm mu eI (ha x ax h1) h
  rename_i eI
  clear eI
  split at hc
  ·rename_i ax ay h1 h2
   split at hc
   ·simp only [KJ] at hc;subst hc
    simp only [AO.af] at h
    split at h
    ·rename_i a b hx hy
     cases hb:binA (boolT P t) op a b with
     |none=>simp [hb,RM.opt,RM.run] at h
     |some v=>
      simp [hb,RM.opt,RM.run] at h
      obtain ⟨rfl,rfl⟩:=h
      have hvx:=ha x ax h1
      have hvy:=ha y ay h2
      rw [hx] at hvx;rw [hy] at hvy
      have ex:az x=a:=hvx.fu
      have ey:az y=b:=hvy.fu
      obtain ⟨r1,r2⟩:=BH (P:=P) (x:=x) (y:=y) hb E.w
      refine a0 hm (v:=v) ?_ (.v r2)
      show (do pure (Next.value (<-(do eqGuard op t x y (az x) (az y);binOp op t (az x) (az y)))):Sem Next).run P E.w=_
      rw [ex,ey,Lu,r1]
      rfl
    ·simp [RM.run] at h
   ·split at hc
    ·simp at hc
    ·rename_i hg
     split at hc
     ·rename_i fs L n hu hL hn
      simp only [KJ] at hc;subst hc
      exact xA hm (by simp) hu hn (by simpa using hg) hL (ha x ax h1) (ha y ay h2) h
     ·rename_i fs L n hu hL hn
      simp only [KJ] at hc;subst hc
      exact xA hm (by simp) hu hn (by simpa using hg) hL (ha x ax h1) (ha y ay h2) h
     ·simp at hc
  ·simp at hc
 |unOp op t x=>
  simp only [br] at hc;obtain ⟨ax,h1,rfl⟩:=omap hc
  simp only [AO.af] at h
  split at h
  ·rename_i a hx
   cases hb:unA op a with
   |none=>simp [hb,RM.opt,RM.run] at h
   |some v=>
    simp [hb,RM.opt,RM.run] at h
    obtain ⟨rfl,rfl⟩:=h
    have hvx:=ha x ax h1
    rw [hx] at hvx
    have ex:az x=a:=hvx.fu
    obtain ⟨r1,r2⟩:=BI (P:=P) hb E.w
    refine a0 hm (v:=v) ?_ (.v r2)
    show (do pure (Next.value (<-Op.unary op (az x))):Sem Next).run P E.w=_
    rw [ex,Lu,r1]
    rfl
  ·simp [RM.run] at h
 |convert s d x=>
  simp only [br] at hc
  split at hc
  ·rename_i k1 k ax h1 h2 h3
   simp only [KJ] at hc;subst hc
   simp only [AO.af] at h
   split at h
   ·rename_i k0 n hx
    simp only [RM.run,KJ,Out.done.injEq] at h
    obtain ⟨rfl,rfl⟩:=h
    have hvx:=ha x ax h3
    rw [hx] at hvx
    have ex:az x= .int k0 n:=hvx.fu
    refine a0 hm (v:= .int k (k.wrap n)) ?_ (.v rfl)
    show (do pure (Next.value (<-convert s d (az x))):Sem Next).run P E.w=_
    rw [ex]
    simp [convert,run_underlying h1,run_underlying h2,Conv.intToInt]
   ·simp [RM.run] at h
  ·rename_i e ax h1 h2 h3
   split at hc
   ·rename_i h4
    simp only [KJ] at hc;subst hc
    exact CF hm h1 h2 h4 (ha x ax h3) h
   ·simp at hc
  ·rename_i e ax h1 h2 h3
   split at hc
   ·rename_i h4
    simp only [KJ] at hc;subst hc
    exact CG hm hf h1 h2 h4 (ha x ax h3) h
   ·simp at hc
  ·simp at hc
 |fieldAddr s x f=>
  simp only [br] at hc
  split at hc
  ·rename_i fields ax h1 h2
   split at hc
   ·rename_i fd h3
    split at hc
    ·simp at hc
    ·rename_i bN
     simp only [KJ] at hc;subst hc
     cases hz:szOf P fd.type with
     |none=>simp [hz] at bN
     |some n=>exact BO hm (ha x ax h2) h1 h3 hz (by rw [hz] at bN;simpa using bN) h
   ·simp at hc
  ·simp at hc
 |field s x f=>
  simp only [br] at hc
  split at hc
  ·rename_i fields ax h1 h2
   split at hc
   ·rename_i fd h3
    obtain ⟨m,h4,rfl⟩:=omap hc
    exact BP hm (ha x ax h2) h1 h3 h4 h
   ·simp at hc
  ·simp at hc
 |indexAddr t x i=>
  simp only [br] at hc
  split at hc
  ·rename_i e ax ai h1 h2 h3
   split at hc
   ·rename_i sz h4
    split at hc
    ·rename_i cQ
     simp only [KJ] at hc;subst hc
     exact BT hm (ha x ax h2) (ha i ai h3) h1 h4 cQ h
    ·simp at hc
   ·simp at hc
  ·rename_i len e ax ai h1 h2 h3
   split at hc
   ·rename_i sz h4
    split at hc
    ·rename_i cQ
     simp only [KJ] at hc;subst hc
     exact BQ hm (ha x ax h2) (ha i ai h3) h1 h4 h
    ·simp at hc
   ·simp at hc
  ·simp at hc
 |index t x i=>
  simp only [br] at hc
  split at hc
  ·rename_i ax ai h1 h2 h3
   simp only [KJ] at hc;subst hc
   exact CN hm h1 (ha x ax h2) (ha i ai h3) h
  ·rename_i len e ax ai h1 h2 h3
   split at hc
   ·rename_i sz m h4 h5
    simp only [KJ] at hc;subst hc
    exact BS hm (ha x ax h2) (ha i ai h3) h1 h4 h5 h
   ·simp at hc
  ·simp at hc
 |extract x i=>simp only [br] at hc;obtain ⟨ax,h1,rfl⟩:=omap hc;exact BU hm (ha x ax h1) h
 |makeSlice t l c=>
  simp only [br] at hc
  split at hc
  ·rename_i e al ac h1 h2 h3
   split at hc
   ·rename_i zs i h4 h5
    split at hc
    ·rename_i bN
     simp only [KJ] at hc;subst hc
     exact BV hm hf h1 h4 h5 bN.1 bN.2 (ha l al h2) (ha c ac h3) h
    ·simp at hc
   ·simp at hc
  ·simp at hc
 |slice t x lo hi mx=>
  simp only [br] at hc
  split at hc
  ·rename_i e ax iF iG amx h1 h2 h3 h4 h5
   split at hc
   ·rename_i sz h6
    split at hc
    ·rename_i bN
     simp only [KJ] at hc;subst hc
     exact BY ha hm h1 h6 h2 h3 h4 h5 (fun hh=>by rw [<-xC h4];exact bN.2 (by rw [xC h5];exact hh)) h
    ·simp at hc
   ·simp at hc
  ·rename_i ax iF iG h1 h2 h3 h4 h5
   simp only [KJ] at hc;subst hc
   have fO:mx=none:=by cases mx<;>simp [er] at h5 ⊢
   subst fO
   exact CM ha hm h1 h2 h3 h4 h
  ·simp at hc
 |makeFunc fn first caps=>
  cases fn with
  |func f=>
   simp only [br] at hc
   split at hc
   ·rename_i CV
    obtain ⟨l,h1,rfl⟩:=omap hc
    simp only [AO.af,RM.run,KJ,Out.done.injEq] at h
    obtain ⟨rfl,rfl⟩:=h
    obtain ⟨e1,e2⟩:=ha.list h1
    have mq:first= #[]:=by simpa using CV
    subst mq
    refine a0 hm (v:= .func (.func f) #[] (caps.map az)) (by simp [execOp,Instr.makeFunc]) (.fn (by simp;rw [<-e1];simp) (fun i v c hv hc=>e2 i v c (by simpa using hv) hc))
   ·split at hc
    ·rename_i _ CW
     obtain ⟨l,h1,rfl⟩:=omap hc
     simp only [AO.af,RM.run,KJ,Out.done.injEq] at h
     obtain ⟨rfl,rfl⟩:=h
     obtain ⟨e1,e2⟩:=ha.list h1
     have mq:caps= #[]:=by simpa using CW
     subst mq
     refine a0 hm (v:= .func (.func f) (first.map az) #[]) (by simp [execOp,Instr.makeFunc]) (.bf (by simp;rw [<-e1];simp) (fun i v c hv hc=>e2 i v c (by simpa using hv) hc))
    ·simp at hc
  |_=>simp [br] at hc
 |call c=>
  by_cases xG:∃x args,ao= .call x args
  ·obtain ⟨x,args,rfl⟩:=xG
   simp only [AO.af] at h
   split at h<;>simp [RM.run] at h
  ·simp only [br] at hc
   split at hc
   ·split at hc
    ·simp only [KJ] at hc;exact absurd ⟨_,_,hc.symm⟩ xG
    ·simp at hc
   all_goals rename_i dU
   all_goals try (simp at hc;done)
   ·split at hc
    ·rename_i x t fv lu
     have iN:c.args= #[x]:=by apply Mx.1;rw [fv]
     have lx:∀b,c.callee= .builtin b->b= .len->(execOp az ⟨dst, .call c,type,pos,after,guard⟩).run P E.w=(do pure (Next.value (<-Builtin.len_ c.argTypes type #[az x])):Sem Next).run P E.w:=by
      intro b hb hl;subst hl
      simp [execOp,resolve,hb,invoke,builtin,iN]
     have CX:∀v ty,(Builtin.len_ c.argTypes ty #[v])=Builtin.len_ #[t] ty #[v]:=by
      intro v ty
      simp [Builtin.len_,lu]
     rw [lx _ dU rfl,CX]
     split at hc
     ·rename_i e hu
      obtain ⟨ax,h1,rfl⟩:=omap hc
      exact xc hm (by simp;exact ⟨e,hu⟩) (ha x ax h1) type h
     ·rename_i hu
      obtain ⟨ax,h1,rfl⟩:=omap hc
      exact xc hm (by simp;exact hu) (ha x ax h1) type h
     ·simp at hc
    ·simp at hc
   ·split at hc
    ·rename_i s x t u fv lu
     split at hc
     ·rename_i CY
      subst CY
      split at hc
      ·rename_i e as_ ax h1 h2 h3
       split at hc
       ·rename_i zs i h4 h5
        split at hc
        ·rename_i bN
         simp only [KJ] at hc;subst hc
         have iN:c.args= #[s,x]:=by apply Mx.1;rw [fv]
         have CZ:c.argTypes= #[t,t]:=by apply Mx.1;rw [lu]
         have:=Co (P:=P) (ty:=type) hm hf h1 h4 h5 bN.1 bN.2 (ha s as_ h2) (ha x ax h3) h
         have lx:(execOp az ⟨dst, .call c,type,pos,after,guard⟩).run P E.w=(do pure (Next.value (<-Builtin.append_ #[t,t] type #[az s,az x])):Sem Next).run P E.w:=by
          simp [execOp,resolve,dU,invoke,builtin,iN,CZ]
         rw [lx];exact this
        ·simp at hc
       ·simp at hc
      ·simp at hc
     ·simp at hc
    ·simp at hc
   ·split at hc
    ·rename_i x t fv lu
     split at hc
     ·rename_i e ax h1 h2
      split at hc
      ·rename_i zs h4
       split at hc
       ·rename_i bN
        simp only [KJ] at hc;subst hc
        have iN:c.args= #[x]:=by apply Mx.1;rw [fv]
        have:=Cj (P:=P) (ty:=type) hm h1 h4 bN (ha x ax h2) h
        have lx:(execOp az ⟨dst, .call c,type,pos,after,guard⟩).run P E.w=(do pure (Next.value (<-Builtin.clear_ #[t] type #[az x])):Sem Next).run P E.w:=by
         simp [execOp,resolve,dU,invoke,builtin,iN,Builtin.clear_,lu]
        rw [lx];exact this
       ·simp at hc
      ·simp at hc
     ·simp at hc
    ·simp at hc
   ·split at hc
    ·rename_i x y t fv lu
     split at hc
     ·rename_i e ax ay h1 h2 h3
      split at hc
      ·rename_i sz h4
       split at hc
       ·rename_i bN
        simp only [KJ] at hc;subst hc
        have iN:c.args= #[x,y]:=by apply Mx.1;rw [fv]
        have:=Ck (P:=P) (ty:=type) (u:=t) hm h1 h4 bN (ha x ax h2) (ha y ay h3) h c.argTypes lu
        have lx:(execOp az ⟨dst, .call c,type,pos,after,guard⟩).run P E.w=(do pure (Next.value (<-Builtin.copy_ c.argTypes type #[az x,az y])):Sem Next).run P E.w:=by
         simp [execOp,resolve,dU,invoke,builtin,iN]
        rw [lx];exact this
       ·simp at hc
      ·simp at hc
     ·simp at hc
    ·simp at hc
   all_goals
    split at hc
    ·rename_i x y fv
     split at hc
     ·rename_i ax ay h1 h2
      simp only [KJ] at hc;subst hc
      have iN:c.args= #[x,y]:=by apply Mx.1;rw [fv]
      simp only [AO.af] at h
      split at h
      ·rename_i a b hx hy
       obtain ⟨mx,mb,fO,xd,h⟩:∃mx mb,(mx=false/\c.callee= .builtin .min\/mx=true/\c.callee= .builtin .max)/\nz mx a b=mb/\RM.run g (RM.opt (Option.map (fun v=>Out.done (AV.v v) []) mb))=some (Out.done val ups):=by
        first
        |exact ⟨false,_, .inl ⟨rfl,dU⟩,rfl,h⟩
        |exact ⟨true,_, .inr ⟨rfl,dU⟩,rfl,h⟩
       cases mb with
       |none=>simp [RM.opt,RM.run] at h
       |some v=>
        simp [RM.opt,RM.run] at h
        obtain ⟨rfl,rfl⟩:=h
        have hvx:=ha x ax h1
        have hvy:=ha y ay h2
        rw [hx] at hvx;rw [hy] at hvy
        have ex:az x=a:=hvx.fu
        have ey:az y=b:=hvy.fu
        obtain ⟨r1,r2,r3⟩:=BJ (P:=P) xd E.w
        refine a0 hm (v:=v) ?_ (.v r1)
        rcases fO with ⟨fO,dU⟩|⟨fO,dU⟩
        ·simp [execOp,resolve,dU,invoke,builtin,iN,ex,ey,r2 fO]
        ·simp [execOp,resolve,dU,invoke,builtin,iN,ex,ey,r3 fO]
      ·simp [RM.run] at h
     ·simp at hc
    ·simp at hc
 |_=>simp [br] at hc
end
open Go.RowKit
def AV.pu1:AV->Bool
 | .v _| .emp| .aN _ _| .cy _ _| .pim _ _| .dead=>true
 | .fn _ caps=>caps.isEmpty
 |_=>false
theorem AV.qc (h:a.pu1=true):Pu a:=by
 cases a<;>simp [AV.pu1] at h<;>try constructor
 subst h;intro c hc;simp at hc
def snap1:AV->RM AV
 | .own id sz off n=>(content sz (.own id sz off n)).bind fun els=>if (els.all fun cs=>cs.all AV.pu1)=true then .ret (.aN sz els) else .fail
 | .ref id sz i o=> .rd id fun B=>if B.sz=sz then (match B.els[i]? with
  |some cs=>if cs.all AV.pu1=true then .ret (.pim cs o) else .fail
  |none=> .fail) else .fail
 |a=>if a.pu1=true then .ret a else .fail
def fw:List AV->RM (List AV)
 |[]=> .ret []
 |a::r=>(snap1 a).bind fun x=>(fw r).bind fun l=> .ret (x::l)
def dh:AV->RM AV
 | .agg cs=>(fw cs).bind fun l=> .ret (.agg l)
 | .fn f cs=>(fw cs).bind fun l=> .ret (.fn f l)
 | .bf f cs=>(fw cs).bind fun l=> .ret (.bf f l)
 |a=>snap1 a
def du:List AV->RM (List AV)
 |[]=> .ret []
 |a::r=>(dh a).bind fun x=>(du r).bind fun l=> .ret (x::l)
def AV.bB:AV->List Nat
 | .own id _ _ _=>[id]
 | .ref id _ _ _=>[id]
 |_=>[]
def AV.ids:AV->List Nat
 | .agg cs=>cs.flatMap AV.bB
 | .fn _ cs=>cs.flatMap AV.bB
 | .bf _ cs=>cs.flatMap AV.bB
 |a=>a.bB
def AV.cW:AV->Bool
 | .v _| .emp| .dead=>true
 | .fn _ caps=>caps.isEmpty
 |_=>false
def AV.dv:AV->Bool
 | .agg cs=>cs.all AV.cW
 |a=>a.cW
def AV.nob:AV->Bool
 | .aG vs=>vs.all AV.dv
 |a=>a.dv
def E0 (w:World) (I:Nat->Prop):Env:=⟨w,fun _=>False,fun _=>none,fun _=>False,I,fun _=>0,fun _=>False,fun _=>False⟩
theorem dQ.sub {I:Nat->Prop} (h:dQ E) (hw:E.w=w) (hI:∀b,E.I b->I b):dQ (E0 w I):=trivial
def Fn (P:Program) (f:FuncId) (as_:List AV) (r:AV):Prop:=
 ∀(w:World) (J:Nat->Prop) (vs:Array Value),(∀b,J b->b<w.heap.size)->dQ (E0 w J)->RC (E0 w J) vs as_->
  Calls P f vs w fun e w'=>∃v,e= .returned v/\ae (E0 w' fun b=>J b\/(w.heap.size<=b/\b<w'.heap.size)) v r/\Below w.heap.size w w'
section
variable {P:Program} {E:Env} {J:Nat->Prop} {base:Nat} {g:Nat->Option Bk}
theorem ae.cW {E':Env} {v:Value} {a:AV} (h:ae E v a) (hn:a.cW=true):ae E' v a:=by
 cases h<;>simp [AV.cW] at hn
 ·exact .v (by assumption)
 ·exact .emp
 ·rename_i f vs cs hl h
  subst hn
  exact .fn hl (fun i v c hv hc=>by simp at hc)
 ·exact .dead
theorem ae.dv {E':Env} {v:Value} {a:AV} (h:ae E v a) (hn:a.dv=true):ae E' v a:=by
 cases a with
 |agg cs=>cases h with
  |agg hl h=>
   simp only [AV.dv,KQ] at hn
   exact .agg hl fun i v c hv hc=>(h i v c hv hc).cW (hn c (Lq hc))
 |_=>exact h.cW (by simpa [AV.dv] using hn)
theorem ae.nob {E':Env} {v:Value} {a:AV} (h:ae E v a) (hn:a.nob=true):ae E' v a:=by
 cases a with
 |aG cs=>cases h with
  |aG hl h=>
   simp only [AV.nob,KQ] at hn
   exact .aG hl fun i v c hv hc=>(h i v c hv hc).dv (hn c (Lq hc))
 |_=>exact h.dv (by simpa [AV.nob] using hn)
def Handed (E:Env) (g:Nat->Option Bk) (ids:List Nat) (b:Nat):Prop:=E.I b\/∃id B,id∈ids/\g id=some B/\E.loc id=some b
theorem sZ (hm:aB E J base g) (I:Nat->Prop) (h:ae E v a) (hs:(snap1 a).run g=some a') (hI:∀b,Handed E g a.bB b->I b):ae (E0 E.w I) v a':=by
 have pure:∀{v:Value} {a:AV},(∀b,E.I b->I b)->ae E v a->Pu a->ae (E0 E.w I) v a:=fun hI h hp=>h.pure (E':=E0 E.w I) (fun b hb=>⟨hI b hb,fun _=>rfl⟩) hp
 have nU:∀b,E.I b->I b:=fun b hb=>hI b (.inl hb)
 have other:(if a.pu1=true then RM.ret a else RM.fail).run g=some a'->ae (E0 E.w I) v a':=by
  intro hs
  split at hs
  ·rename_i hp
   simp only [RM.run,KJ] at hs;subst hs
   exact pure nU h (AV.qc hp)
  ·simp [RM.run] at hs
 cases a with
 |own id sz off n=>
  simp only [snap1] at hs
  obtain ⟨els,h1,h2⟩:=cz hs
  split at h2
  ·rename_i bq
   simp only [RM.run,KJ] at h2;subst h2
   simp only [content,RM.run] at h1
   cases hB:g id with
   |none=>simp [hB] at h1
   |some B=>
    simp only [hB] at h1
    split at h1
    ·rename_i hc
     obtain ⟨-, fS,hfit⟩:=hc
     simp only [RM.run,KJ] at h1;subst h1
     have hlen:((B.els.drop off).take n).length=n:=by simp;omega
     cases h with
     |ck hi hd=>exact absurd hd (alive hm hB)
     |bL hi hd hb=>
      have:(B.els.drop 0).take 0=[]:=by simp
      rw [this]
      exact .dy (by omega)
     | @own _ _ _ _ c b q mm t' hi hd hb hq gG cR hl hcc=>
      rcases Mv n with h0|h0
      ·subst h0
       rw [List.take_zero]
       exact .dy hcc
      ·have gn:q=off*sz:=by
        rcases hq with hq|hq
        ·exact hq
        ·omega
       subst gn
       have bM:=hm.at_ id B hB
       rw [hb] at bM
       obtain ⟨jo,arr,t,ha,js,dt⟩:=bM.cells (by first|assumption|omega)
       rw [fS] at dt
       have get:∀(i:Nat) cs (j:Nat) x,((B.els.drop off).take n)[i]? =some cs->cs[j]? =some x->∃u,E.w.cell? ⟨b,off*sz+i*sz+j,none⟩=some u/\u.oneCell'=true/\ae E u x:=by
        intro i cs j x hi hj
        rw [LV] at hi
        split at hi
        ·rw [LW] at hi
         obtain ⟨u,k1,k2,k3⟩:=(dt _ cs hi).2 j x hj
         refine ⟨u, ?_,k2,k3⟩
         rw [cell_of_row _ _ _ _ _ _ ha]
         rw [Lc] at k1
         exact k1
        ·simp at hi
       refine .dO (fun i j=>(E.w.cell? ⟨b,off*sz+i*sz+j,none⟩).getD undef) hlen.symm hl hcc (hI b (.inr ⟨id,B,by simp [AV.bB],hB,hb⟩)) (fun i cs hi=> ?_) (fun i cs j x hi hj=> ?_) (fun i cs j x hi hj=> ?_) (fun i cs j x hi hj=> ?_)
       ·rw [LV] at hi
        split at hi
        ·rw [LW] at hi
         exact (dt _ cs hi).1
        ·simp at hi
       ·obtain ⟨u,k1,_,_⟩:=get i cs j x hi hj
        show E.w.cell? _=_
        rw [k1];rfl
       all_goals
        obtain ⟨u,k1,k2,k3⟩:=get i cs j x hi hj
        have hp:Pu x:=by
         simp only [KQ] at bq
         exact AV.qc (bq cs (Lq hi) x (Lq hj))
        simp only [k1,LM]
        first
        |exact ⟨k2,hp⟩
        |exact pure nU k3 hp
    ·simp [RM.run] at h1
  ·simp [RM.run] at h2
 |ref id sz i o=>
  simp only [snap1,RM.run] at hs
  cases hB:g id with
  |none=>simp [hB] at hs
  |some B=>
   simp only [hB] at hs
   split at hs
   ·rename_i hsz
    split at hs
    ·rename_i cs hcs
     split at hs
     ·rename_i bq
      simp only [RM.run,KJ] at hs;subst hs
      cases h with
      |dZ hi hd=>exact absurd hd (alive hm hB)
      | @ref _ _ _ _ b q hi hd hb hq=>
       have bM:=hm.at_ id B hB
       rw [hb] at bM
       obtain ⟨jo,arr,t,ha,js,dt⟩:=bM.cells (by first|assumption|omega)
       rw [hsz] at dt
       have get:∀(j:Nat) x,cs[j]? =some x->∃u,E.w.cell? ⟨b,i*sz+j,none⟩=some u/\ae E u x:=by
        intro j x hj
        obtain ⟨u,k1,k2,k3⟩:=(dt i cs hcs).2 j x hj
        exact ⟨u,by rw [cell_of_row _ _ _ _ _ _ ha];exact k1,k3⟩
       have hp:∀(j:Nat) x,cs[j]? =some x->Pu x:=fun j x hj=>by
        simp only [KQ] at bq
        exact AV.qc (bq x (Lq hj))
       refine .pim (off:=i*sz) (fun j=>(E.w.cell? ⟨b,i*sz+j,none⟩).getD undef) (hI b (.inr ⟨id,B,by simp [AV.bB],hB,hb⟩)) hq (fun j x hj=> ?_) hp (fun j x hj=> ?_)
       ·obtain ⟨u,k1,_⟩:=get j x hj
        show E.w.cell? _=_
        rw [k1];rfl
       ·obtain ⟨u,k1,k3⟩:=get j x hj
        simp only [k1,LM]
        exact pure nU k3 (hp j x hj)
     ·simp [RM.run] at hs
    ·simp [RM.run] at hs
   ·simp [RM.run] at hs
 |_=>exact other hs
theorem qd (hm:aB E J base g) (I:Nat->Prop):∀{as_ bE:List AV},(fw as_).run g=some bE->(∀b,Handed E g (as_.flatMap AV.bB) b->I b)->bE.length=as_.length/\∀(i:Nat) v c c',ae E v c->as_[i]? =some c->bE[i]? =some c'->ae (E0 E.w I) v c'
 |[],bE,h,_=>by
  simp only [fw,RM.run,KJ] at h;subst h
  exact ⟨rfl,fun i v c c' _ hc=>by simp at hc⟩
 |a::r,bE,h,hI=>by
  simp only [fw] at h
  obtain ⟨x,h1,h⟩:=cz h
  obtain ⟨l,h2,h⟩:=cz h
  simp only [RM.run,KJ] at h;subst h
  have mv:∀b,Handed E g a.bB b->I b:=fun b hb=>hI b (hb.imp id fun ⟨id,B,hi,hh⟩=>⟨id,B,by simp [hi],hh⟩)
  have iO:∀b,Handed E g (r.flatMap AV.bB) b->I b:=fun b hb=>hI b (hb.imp id fun ⟨id,B,hi,hh⟩=>⟨id,B,by simp only [LI,Lj];exact .inr hi,hh⟩)
  have ih:=qd hm I h2 iO
  refine ⟨by simp [ih.1],fun i v c c' hr hc dr=> ?_⟩
  cases i with
  |zero=>simp at hc dr;subst hc;subst dr;exact sZ hm I hr h1 mv
  |succ i=>simp at hc dr;exact ih.2 i v c c' hr hc dr
theorem xH (hm:aB E J base g) (I:Nat->Prop) (h:ae E v a) (hs:(dh a).run g=some a') (hI:∀b,Handed E g a.ids b->I b):ae (E0 E.w I) v a':=by
 cases a with
 |agg cs=>
  simp only [dh] at hs
  obtain ⟨l,h1,h2⟩:=cz hs
  simp only [RM.run,KJ] at h2;subst h2
  obtain ⟨k1,k2⟩:=qd hm I h1 hI
  cases h with
  |agg hl h=>
   refine .agg (by rw [k1];exact hl) fun i v c hv hc=> ?_
   have hi:i<cs.length:=by rw [<-k1];exact (KS.1 hc).1
   exact k2 i v cs[i] c (h i v _ hv (K0 hi)) (K0 hi) hc
 |fn f cs=>
  simp only [dh] at hs
  obtain ⟨l,h1,h2⟩:=cz hs
  simp only [RM.run,KJ] at h2;subst h2
  obtain ⟨k1,k2⟩:=qd hm I h1 hI
  cases h with
  |fn hl h=>
   refine .fn (by rw [k1];exact hl) fun i v c hv hc=> ?_
   have hi:i<cs.length:=by rw [<-k1];exact (KS.1 hc).1
   exact k2 i v cs[i] c (h i v _ hv (K0 hi)) (K0 hi) hc
 |bf f cs=>
  simp only [dh] at hs
  obtain ⟨l,h1,h2⟩:=cz hs
  simp only [RM.run,KJ] at h2;subst h2
  obtain ⟨k1,k2⟩:=qd hm I h1 hI
  cases h with
  |bf hl h=>
   refine .bf (by rw [k1];exact hl) fun i v c hv hc=> ?_
   have hi:i<cs.length:=by rw [<-k1];exact (KS.1 hc).1
   exact k2 i v cs[i] c (h i v _ hv (K0 hi)) (K0 hi) hc
 |_=>exact sZ hm I h hs hI
theorem qe (hm:aB E J base g) (I:Nat->Prop):∀{as_ bE:List AV},(du as_).run g=some bE->(∀b,Handed E g (as_.flatMap AV.ids) b->I b)->bE.length=as_.length/\∀(i:Nat) v c c',ae E v c->as_[i]? =some c->bE[i]? =some c'->ae (E0 E.w I) v c'
 |[],bE,h,_=>by
  simp only [du,RM.run,KJ] at h;subst h
  exact ⟨rfl,fun i v c c' _ hc=>by simp at hc⟩
 |a::r,bE,h,hI=>by
  simp only [du] at h
  obtain ⟨x,h1,h⟩:=cz h
  obtain ⟨l,h2,h⟩:=cz h
  simp only [RM.run,KJ] at h;subst h
  have mv:∀b,Handed E g a.ids b->I b:=fun b hb=>hI b (hb.imp id fun ⟨id,B,hi,hh⟩=>⟨id,B,by simp [hi],hh⟩)
  have iO:∀b,Handed E g (r.flatMap AV.ids) b->I b:=fun b hb=>hI b (hb.imp id fun ⟨id,B,hi,hh⟩=>⟨id,B,by simp only [LI,Lj];exact .inr hi,hh⟩)
  have ih:=qe hm I h2 iO
  refine ⟨by simp [ih.1],fun i v c c' hr hc dr=> ?_⟩
  cases i with
  |zero=>simp at hc dr;subst hc;subst dr;exact xH hm I hr h1 mv
  |succ i=>simp at hc dr;exact ih.2 i v c c' hr hc dr
theorem aB.grow (hm:aB E J base g) (hb:Below E.w.heap.size E.w w'):
  ∃E':Env,E'.w=w'/\E.Le E'/\aB E' J base g/\(∀k,E'.kn k->E.kn k)/\(∀b,E.I b\/(E.w.heap.size<=b/\b<w'.heap.size)->E'.I b):=by
 have hlt:∀id b B,g id=some B->E.loc id=some b->b<E.w.heap.size:=fun id b B hg hb=>by
  have:=hm.at_ id B hg;rw [hb] at this;exact this.lt.2
 let E':Env:={ E with w:=w',I:=fun b=>E.I b\/(E.w.heap.size<=b/\b<w'.heap.size) }
 have hE:E.Le E':=by
  refine ⟨fun _ h=>h,fun b aV=>⟨.inl aV,hb.block b (hm.low b aV).1⟩,fun _ _ h=>h,fun _ _ _=> .inr rfl,fun id b hi hd hl=> .inr ?_,fun _ _ _=> .inr rfl,fun _ h=>h,fun b aV=>⟨aV,hb.block b (hm.xo b aV).1⟩⟩
  obtain ⟨B,hB⟩:=(hm.live id).1 ⟨hi,hd⟩
  show w'.shape? b=_
  simp only [World.shape?,hb.block b (hlt id b B hB hl)]
 refine ⟨E',rfl,hE,⟨hm.live,fun id B hg=>(hm.at_ id B hg).bD hE fun b hl=>hb.block b (hlt id b B hg hl),hm.apart,fun id b B hg hl hI=> ?_,fun b hI=> ?_,Lg hm.size hb.size,hm.len,hm.gi,fun b hX=>⟨K8 (hm.xo b hX).1 hb.size,fun hI=>hI.elim (hm.xo b hX).2.1 fun h=>by have:=(hm.xo b hX).1;omega,(hm.xo b hX).2.2⟩⟩,fun _ h=>h,fun b h=>h⟩
 ·rcases hI with hI|hI
  ·exact hm.out id b B hg hl hI
  ·have:=hlt id b B hg hl;omega
 ·rcases hI with hI|hI
  ·exact ⟨K8 (hm.low b hI).1 hb.size,(hm.low b hI).2⟩
  ·exact ⟨hI.2, .inr (Lg hm.size hI.1)⟩
def lA (as_:List AV) (r:AV):List (Nat×Option Bk):=if r.nob=true then [] else (as_.flatMap AV.ids).map fun id=>(id,none)
theorem C0 (hG:dQ E) (hm:aB E J base g) (hvs:RC E vs as_) (hs:(du as_).run g=some bE) (hf:Fn P f bE r) (C1:∀id,id∈as_.flatMap AV.ids->E.kn id):
  Calls P f vs E.w fun e w'=>∃v E',e= .returned v/\E'.w=w'/\E.Le E'/\ae E' v r/\aB E' J base (aj g (lA as_ r))/\Below base E.w w'/\∀id,E'.kn id->E.kn id:=by
 let I:=Handed E g (as_.flatMap AV.ids)
 have s6:∀b,I b->b<E.w.heap.size:=fun b hb=>by
  rcases hb with hb|⟨id,B,_,hg,hl⟩
  ·exact (hm.low b hb).1
  ·have:=hm.at_ id B hg;rw [hl] at this;exact this.lt.2
 have bW:RC (E0 E.w I) vs bE:=by
  obtain ⟨k1,k2⟩:=qe hm I hs (fun b hb=>hb)
  refine ⟨by rw [k1];exact hvs.1,fun j u c hu hc=> ?_⟩
  have hj:j<as_.length:=by rw [<-k1];exact (KS.1 hc).1
  exact k2 j u as_[j] c (hvs.2 j u _ hu (K0 hj)) (K0 hj) hc
 refine (hf E.w I vs s6 (hG.sub rfl fun b hb=> .inl hb) bW).mono ?_
 rintro e w' ⟨v,he,hr,hb⟩
 unfold lA
 by_cases hn:r.nob=true
 ·rw [KL hn]
  obtain ⟨E',hw,hE,hM,hk,_⟩:=hm.grow hb
  exact ⟨v,E',he,hw,hE,hr.nob hn,hM,hb.mono hm.size,hk⟩
 ·rw [KK hn]
  obtain ⟨E1,fR,gF,hM1,hk1,mv,iO⟩:=hm.kill (as_.flatMap AV.ids) C1
  have mn:Below E1.w.heap.size E1.w w':=by rw [fR];exact hb
  obtain ⟨E',hw,hE,hM,hk,hI⟩:=hM1.grow mn
  refine ⟨v,E',he,hw,gF.trans hE, ?_,hM,hb.mono hm.size,fun id h=>hk1 _ (hk _ h)⟩
  refine hr.pure (E':=E') (fun b aV=> ?_) ?_
  ·refine ⟨hI b ?_,fun o=>by rw [hw];rfl⟩
   rcases aV with aV|aV
   ·left
    rcases aV with aV|⟨id,B,hid,hg,hl⟩
    ·exact iO b aV
    ·exact mv id b B hid hg hl
   ·right;rw [fR];exact aV
  ·clear hn hI hM hk hE hw mv iO mn hk1 hM1 gF fR hb he
   generalize (fun b=>I b\/E.w.heap.size<=b/\b<w'.heap.size)=I' at hr
   have:∀{E:Env} {v:Value} {a:AV},ae E v a->(∀id,¬E.kn id)->(∀l,¬E.rg l)->Pu a:=by
    intro E v a h hk hy
    induction h with
    |v h=>exact .v
    |agg hl h ih=>
     refine .agg fun c hc=> ?_
     obtain ⟨i,hi,rfl⟩:=Mu hc
     exact ih i _ _ (KX (by omega)) (K0 hi)
    |aG hl h ih=>
     refine .aG fun c hc=> ?_
     obtain ⟨i,hi,rfl⟩:=Mu hc
     exact ih i _ _ (KX (by omega)) (K0 hi)
    |dy hc=>exact .aN
    |dO=>exact .aN
    |cy h ih=>exact .cy
    |emp=>exact .emp
    |pim=>exact .pim
    |ref hi=>exact absurd hi (hk _)
    |own hi=>exact absurd hi (hk _)
    |bL hi=>exact absurd hi (hk _)
    |dZ hi=>exact absurd hi (hk _)
    |ck hi=>exact absurd hi (hk _)
    |mp hi=>exact absurd hi (hk _)
    |gB hi=>exact absurd hi (hk _)
    |fn hl h ih=>
     refine .fn fun c hc=> ?_
     obtain ⟨i,hi,rfl⟩:=Mu hc
     exact ih i _ _ (KX (by omega)) (K0 hi)
    |bf hl h ih=>
     refine .bf fun c hc=> ?_
     obtain ⟨i,hi,rfl⟩:=Mu hc
     exact ih i _ _ (KX (by omega)) (K0 hi)
    |dY hg=>exact absurd hg (hy _)
    |dq=>exact .dq
    |dead=>exact .dead
   exact this hr (fun id h=>h) (fun _ h=>h)
def Fo (P:Program) (f:FuncId) (as_:List AV) (sz:Nat) (els:List (List AV)):Prop:=
 ∀(w:World) (J:Nat->Prop) (vs:Array Value),(∀b,J b->b<w.heap.size)->dQ (E0 w J)->RC (E0 w J) vs as_->
  Calls P f vs w fun e w'=>∃v E1,e= .returned v/\E1.w=w'/\Below w.heap.size w w'/\ae E1 v (.own 0 sz 0 els.length)/\E1.kn 0/\¬E1.dead 0/\ct E1 w.heap.size ⟨sz,els⟩ (E1.loc 0)/\E1.ln 0=els.length
theorem C2 (hG:dQ E) (hm:aB E J base g) {sz:Nat} {els:List (List AV)} (hvs:RC E vs as_) (hs:(du as_).run g=some bE) (hf:Fo P f bE sz els) (s7:∀cs,cs∈els->∀c,c∈cs->c.cW=true) (dT:¬E.kn fresh):
  Calls P f vs E.w fun e w'=>∃v E',e= .returned v/\E'.w=w'/\E.Le E'/\ae E' v (.own fresh sz 0 els.length)/\aB E' J base (aj g [(fresh,some ⟨sz,els⟩)])/\Below base E.w w'/\∀id,E'.kn id->E.kn id\/id=fresh:=by
 let I:=Handed E g (as_.flatMap AV.ids)
 have s6:∀b,I b->b<E.w.heap.size:=fun b hb=>by
  rcases hb with hb|⟨id,B,_,hg,hl⟩
  ·exact (hm.low b hb).1
  ·have:=hm.at_ id B hg;rw [hl] at this;exact this.lt.2
 have bW:RC (E0 E.w I) vs bE:=by
  obtain ⟨k1,k2⟩:=qe hm I hs (fun b hb=>hb)
  refine ⟨by rw [k1];exact hvs.1,fun j u c hu hc=> ?_⟩
  have hj:j<as_.length:=by rw [<-k1];exact (KS.1 hc).1
  exact k2 j u as_[j] c (hvs.2 j u _ hu (K0 hj)) (K0 hj) hc
 refine (hf E.w I vs s6 (hG.sub rfl fun b hb=> .inl hb) bW).mono ?_
 rintro e w' ⟨v,E1,he,rfl,hb,hr,hk0,pU,bM,xI⟩
 have hlt:∀id b B,g id=some B->E.loc id=some b->b<E.w.heap.size:=fun id b B hg hb=>by
  have:=hm.at_ id B hg;rw [hb] at this;exact this.lt.2
 let E':Env:={ w:=E1.w,kn:=fun id=>E.kn id\/id=fresh,loc:=fun id=>if id=fresh then E1.loc 0 else E.loc id,dead:=fun id=>E.dead id/\id≠fresh,I:=E.I,ln:=fun id=>if id=fresh then els.length else E.ln id,rg:=E.rg,X:=E.X }
 have aA:∀id,E.kn id->id≠fresh:=fun id hi he=>dT (he▸hi)
 have hE:E.Le E':=by
  refine ⟨fun id hi=> .inl hi,fun b aV=>⟨aV,hb.block b (hm.low b aV).1⟩,fun id hi hd=>⟨hd,aA id hi⟩,fun id hi hd=> .inr (KK (aA id hi)),fun id b hi hd hl=> .inr ?_,fun id hi hd=> .inr (KK (aA id hi)),fun _ h=>h,fun b aV=>⟨aV,hb.block b (hm.xo b aV).1⟩⟩
  obtain ⟨B',aP⟩:=(hm.live id).1 ⟨hi,hd⟩
  show E1.w.shape? b=_
  simp only [World.shape?,hb.block b (hlt id b B' aP hl)]
 have xJ:E'.kn fresh:= .inr rfl
 have eG:¬E'.dead fresh:=fun hd=>hd.2 rfl
 have c9:E'.loc fresh=E1.loc 0:=KL rfl
 have xK:sz≠0:=hr.pI pU
 have iJ:∀b,E1.loc 0=some b->E.w.heap.size<=b/\b<E1.w.heap.size:=fun b hl=>by rw [hl] at bM;exact bM.lt
 refine ⟨v,E',he,rfl,hE, ?_,⟨fun id=> ?_,fun id B' hg=> ?_,fun id cm b B1 B2 h1 h2 h3 h4=> ?_,fun id b B' hg aV hI=> ?_,fun b aV=>⟨K8 (hm.low b aV).1 hb.size,(hm.low b aV).2⟩,Lg hm.size hb.size,fun id B' hg cD=> ?_,hm.gi,fun b hX=>⟨K8 (hm.xo b hX).1 hb.size,(hm.xo b hX).2.1,fun k B1 hk he=> ?_⟩⟩,hb.mono hm.size,fun id hi=>hi⟩
 ·obtain ⟨n,hn⟩:∃n,n=els.length:=⟨_,rfl⟩
  rw [<-hn] at hr ⊢
  cases hr with
  |own hi hd hl hq hs cR sH hcc s8=>exact .own xJ eG (c9.trans hl) hq hs cR sH hcc (by rw [show E'.ln fresh=els.length from KL rfl, <-xI];exact s8)
  |bL hi hd hl s8=>exact .bL xJ eG (c9.trans hl) ((show E'.ln fresh=els.length from KL rfl).trans (xI.symm.trans s8))
  |ck hi hd=>exact absurd hd pU
 ·simp only [aj]
  by_cases hid:id=fresh
  ·subst hid;simp [E']
  ·simp only [hid,Lh]
   rw [<-hm.live id]
   simp [E',hid]
 ·simp only [aj] at hg
  by_cases hid:id=fresh
  ·subst hid
   simp only [KN,KJ] at hg
   subst hg
   rw [c9]
   cases hl:E1.loc 0 with
   |none=>rw [hl] at bM;exact bM
   |some b=>
    rw [hl] at bM
    obtain ⟨q1,arr,t,q2,q3,q4⟩:=bM.cells xK
    refine .iE ⟨Lg hm.size q1,arr,t,q2,q3,fun i cs hi=>⟨(q4 i cs hi).1,fun j x hj=> ?_⟩⟩ xK
    obtain ⟨u,u1,u2,u3⟩:=(q4 i cs hi).2 j x hj
    exact ⟨u,u1,u2,u3.cW (s7 cs (Lq hi) x (Lq hj))⟩
  ·simp only [hid,Lh] at hg
   show ct E' base B' (if id=fresh then _ else _)
   rw [KK hid]
   exact (hm.at_ id B' hg).bD hE fun b hl=>hb.block b (hlt id b B' hg hl)
 ·simp only [aj] at h1 h2
  have e3:(if id=fresh then E1.loc 0 else E.loc id)=some b:=h3
  have e4:(if cm=fresh then E1.loc 0 else E.loc cm)=some b:=h4
  by_cases hid:id=fresh<;>by_cases g5:cm=fresh
  ·rw [hid,g5]
  ·rw [KL hid] at e3;rw [KK g5] at e4 h2
   have:=hlt _ _ _ h2 e4
   have:=iJ b e3
   omega
  ·rw [KK hid] at e3 h1;rw [KL g5] at e4
   have:=hlt _ _ _ h1 e3
   have:=iJ b e4
   omega
  ·rw [KK hid] at e3 h1;rw [KK g5] at e4 h2
   exact hm.apart id cm b B1 B2 h1 h2 e3 e4
 ·simp only [aj] at hg
  have e3:(if id=fresh then E1.loc 0 else E.loc id)=some b:=aV
  have:=(hm.low b hI).1
  by_cases hid:id=fresh
  ·rw [KL hid] at e3
   have:=iJ b e3
   omega
  ·rw [KK hid] at e3 hg
   exact hm.out id b B' hg e3 hI
 ·simp only [aj] at hg
  show _=if id=fresh then _ else _
  by_cases hid:id=fresh
  ·rw [KL hid] at hg ⊢
   simp only [KJ] at hg;rw [<-hg]
  ·rw [KK hid] at hg ⊢
   exact hm.len id B' hg cD
 ·simp only [aj] at hk
  have e3:(if k=fresh then E1.loc 0 else E.loc k)=some b:=he
  by_cases hid:k=fresh
  ·rw [KL hid] at e3
   have:=iJ b e3
   have:=(hm.xo b hX).1
   omega
  ·rw [KK hid] at e3 hk
   exact (hm.xo b hX).2.2 k B1 hk e3
end
open Go.RowKit
def cj (ρ:Option Nat):Fence:={ Fence.wide with round:=ρ }
theorem mw:(cj ρ).depth.isSome=true->1<=n:=fun h=>by simp [cj,Fence.wide] at h
theorem iP {o:Oper} {e:Operand->Value}:∀f,o.about P w e=some f->(cj ρ).fn f:=fun _ _=>trivial
theorem nV {args:Array Value} (h:Calls P f args w R):CallsIn (cj ρ) n P f args w R:=(callsIn_wide (n:=n)).2 h
theorem my {o:Oper} (h:br P o=some ao):∀c,o.op≠ .defer c:=by
 intro c hc
 obtain ⟨dst,op,type,pos,after,guard⟩:=o
 simp only at hc
 subst hc
 simp [br] at h
inductive Mk (E:Env) (lo:Nat):List Deferred->Prop
 |nil:Mk E lo []
 |cons {D:Nat} {ds:List Deferred} (hI:E.I D) (hD:lo<=D) (hh:E.w.heap[D]? =some (.deferred (some []))) (aA:∀d,d∈ds->d.target≠ .collected D) (t:Mk E lo ds):Mk E lo ({ target:= .collected D,args:= #[] }::ds)
theorem Mk.step {E E':Env} (hE:E.Le E') {lo:Nat} {ds:List Deferred} (h:Mk E lo ds):Mk E' lo ds:=by
 induction h with
 |nil=>exact .nil
 |cons hI hD hh aA t ih=>exact .cons (hE.dP _ hI).1 hD ((hE.dP _ hI).2.trans hh) aA ih
theorem Mk.xL (hE:∀b,E.I b->E'.I b/\E'.w.heap[b]? =E.w.heap[b]?) {ds:List Deferred} (h:Mk E lo ds):Mk E' lo ds:=by
 induction h with
 |nil=>exact .nil
 |cons hI hD hh aA t ih=>exact .cons (hE _ hI).1 hD ((hE _ hI).2.trans hh) aA ih
def Env.lt (E:Env) (kb:Nat):Env:={ E with kn:=fun id=>E.kn id/\id<kb }
theorem Env.Le.cut {E0:Env} (h:E0.Le E) (hk:∀id,E0.kn id->id<kb) (k:(E.lt kb).Le E'):E0.Le E':=
 Env.Le.trans (E':=E.lt kb) ⟨fun id hi=>⟨h.kn id hi,hk id hi⟩,h.dP,h.dead,h.loc,h.shape,h.ln,h.rg,h.fx⟩ k
def nb (kb:Nat):Nat->AV->Bool
 |0,_=>false
 |d+1, .agg cs=>cs.all (nb kb d)
 |d+1, .aG cs=>cs.all (nb kb d)
 |d+1, .fn _ cs=>cs.all (nb kb d)
 |d+1, .bf _ cs=>cs.all (nb kb d)
 |d+1, .dY _ cs=>cs.all (nb kb d)
 |_+1, .ref id _ _ _=>Nat.blt id kb
 |_+1, .own id _ _ _=>Nat.blt id kb
 |_+1, .mp id=>Nat.blt id kb
 |_+1,_=>true
theorem ae.C3 (hE:(E.lt kb).Le E'):∀(d:Nat) {v:Value} {a:AV},ae E v a->nb kb d a=true->ae E' v a:=by
 have hI:∀b,E.I b->E'.I b/\∀o,E'.w.cell? ⟨b,o,none⟩=E.w.cell? ⟨b,o,none⟩:=fun b hb=>⟨(hE.dP b hb).1,fun o=>hE.cell (E:=E.lt kb) hb o⟩
 intro d
 induction d with
 |zero=>intro v a _ h;simp [nb] at h
 |succ d ih=>
  have nW:∀{vs:Array Value} {cs:List AV},(∀(i:Nat) v c,vs[i]? =some v->cs[i]? =some c->ae E v c)->cs.all (nb kb d)=true->∀(i:Nat) v c,vs[i]? =some v->cs[i]? =some c->ae E' v c:=by
   intro vs cs h hn i v c hv hc
   simp only [KQ] at hn
   exact ih (h i v c hv hc) (hn c (Lq hc))
  intro v a h hn
  cases a with
  |v x=>exact h.pure hI .v
  |agg cs=>cases h with|agg hl hh=>exact .agg hl (nW hh hn)
  |aG cs=>cases h with|aG hl hh=>exact .aG hl (nW hh hn)
  |fn f cs=>cases h with|fn hl hh=>exact .fn hl (nW hh hn)
  |bf f cs=>cases h with|bf hl hh=>exact .bf hl (nW hh hn)
  |dY r cs=>cases h with|dY h1 h2 h3 hl hh=>exact .dY (hE.rg _ h1) (hE.dP _ h2).1 ((hE.dP _ h2).2.trans h3) hl (nW hh hn)
  |aN sz els=>exact h.pure hI .aN
  |cy sz els=>exact h.pure hI .cy
  |emp=>exact h.pure hI .emp
  |pim cs o=>exact h.pure hI .pim
  |dq=>exact h.pure hI .dq
  |dead=>exact .dead
  |ref id sz i o=>
   have hlt:id<kb:=Ly hn
   have:ae (E.lt kb) v (.ref id sz i o):=by
    cases h with
    |ref hi hd hb hq=>exact .ref (E:=E.lt kb) ⟨hi,hlt⟩ hd hb hq
    |dZ hi hd ho=>exact .dZ (E:=E.lt kb) ⟨hi,hlt⟩ hd ho
   exact this.step hE
  |mp id=>
   have hlt:id<kb:=Ly hn
   have:ae (E.lt kb) v (.mp id):=by
    cases h with
    |mp hi hd hb=>exact .mp (E:=E.lt kb) ⟨hi,hlt⟩ hd hb
    |gB hi hd ho=>exact .gB (E:=E.lt kb) ⟨hi,hlt⟩ hd ho
   exact this.step hE
  |own id sz off n=>
   have hlt:id<kb:=Ly hn
   have:ae (E.lt kb) v (.own id sz off n):=by
    cases h with
    |own hi hd hb hq hs hm hl hc aZ=>exact .own (E:=E.lt kb) ⟨hi,hlt⟩ hd hb hq hs hm hl hc aZ
    |bL hi hd hb aZ=>exact .bL (E:=E.lt kb) ⟨hi,hlt⟩ hd hb aZ
    |ck hi hd ho=>exact .ck (E:=E.lt kb) ⟨hi,hlt⟩ hd ho
   exact this.step hE
structure aw where
 dst:Option Nat
 ao:AO
 guard:Option (Nat×Bool)
variable {o:aw} {os full:List aw}
def eK (P:Program) (ops:Array Oper) (o:Oper):Option aw:=
 match br P o with
 |some ao=>match o.guard with
  |none=>some ⟨o.dst,ao,none⟩
  |some (j,w)=>match (ops[j]?).bind (·.dst) with
   |some t=>some ⟨o.dst,ao,some (t,w)⟩
   |none=>none
 |none=>none
def aD (σ:Nat->AV):Arg->AV
 | .s t=>σ t
 | .c a=>a
def bp (n:Nat) (d:Option Nat) (v:AV) (σ:Nat->AV):Nat->AV:=fun t=>if d=some t/\t<n then v else σ t
def bH (σ:Nat->AV):Option (Nat×Bool)->Option Bool
 |none=>some true
 |some (t,w)=>match σ t with
  | .v (.bool b)=>some (b==w)
  | .v (.tuple _)=>some false
  |_=>none
inductive da (P:Program) (σ:Nat->AV) (g:Nat->Option Bk) (fresh:Nat) (o:aw):AV->List (Nat×Option Bk)->List Nat->Prop
 |skip (hg:bH σ o.guard=some false):da P σ g fresh o (.v undef) [] []
 |done {val:AV} {ups:List (Nat×Option Bk)} (hg:bH σ o.guard=some true) (h:(o.ao.af fresh (aD σ)).run g=some (.done val ups)):
   da P σ g fresh o val ups ((o.ao.af fresh (aD σ)).acc g++(o.ao.af fresh (aD σ)).see g)
 |call {f:FuncId} {as_ bE:List AV} {r:AV} (hg:bH σ o.guard=some true) (h:(o.ao.af fresh (aD σ)).run g=some (.call f as_)) (hc:bT P f=true)
   (hs:(du as_).run g=some bE) (hf:Fn P f bE r):da P σ g fresh o r (lA as_ r) (((o.ao.af fresh (aD σ)).acc g++(o.ao.af fresh (aD σ)).see g)++((du as_).acc g++(du as_).see g))
 |lB {f:FuncId} {as_ bE:List AV} {sz:Nat} {els:List (List AV)} (hg:bH σ o.guard=some true) (h:(o.ao.af fresh (aD σ)).run g=some (.call f as_)) (hc:bT P f=true)
   (hs:(du as_).run g=some bE) (hf:Fo P f bE sz els) (hn:∀cs,cs∈els->∀c,c∈cs->c.cW=true):da P σ g fresh o (.own fresh sz 0 els.length) [(fresh,some ⟨sz,els⟩)] (((o.ao.af fresh (aD σ)).acc g++(o.ao.af fresh (aD σ)).see g)++((du as_).acc g++(du as_).see g))
theorem dA.of (hG:dQ E) {a:Act} (h:∀t,ae E (a.tmps.getD t undef) (σ t)):dA E a.eval (aD σ):=by
 intro x ax hx
 cases x with
 |tmp t=>simp [cArg] at hx;subst hx;exact h t
 |const v=>
  simp only [cArg] at hx
  cases hc:ofConst v with
  |none=>simp [hc] at hx
  |some c=>simp [hc] at hx;subst hx;exact Bw hc
 |func f=>simp [cArg] at hx;subst hx;exact Bx f
 |global g=>
  simp only [cArg] at hx
  cases hc:glArg g with
  |none=>simp [hc] at hx
  |some c=>simp [hc] at hx;subst hx;exact hG.arg hc
theorem xM (h:(snap1 a).run g=some a'):∀id,id∈a.bB->∃B,g id=some B:=by
 intro id hid
 cases a with
 |own cm sz off n=>
  simp only [AV.bB,KT] at hid
  subst hid
  simp only [snap1] at h
  obtain ⟨els,h1,_⟩:=cz h
  simp only [content,RM.run] at h1
  cases hB:g id with
  |none=>simp [hB] at h1
  |some B=>exact ⟨B,rfl⟩
 |ref cm sz i o=>
  simp only [AV.bB,KT] at hid
  subst hid
  simp only [snap1,RM.run] at h
  cases hB:g id with
  |none=>simp [hB] at h
  |some B=>exact ⟨B,rfl⟩
 |_=>simp [AV.bB] at hid
theorem qf {g:Nat->Option Bk}:∀{as_ bE:List AV},(fw as_).run g=some bE->∀id,id∈as_.flatMap AV.bB->∃B,g id=some B
 |[],_,_,id,hid=>by simp at hid
 |a::r,bE,h,id,hid=>by
  simp only [fw] at h
  obtain ⟨x,h1,h⟩:=cz h
  obtain ⟨l,h2,h⟩:=cz h
  simp only [LI,Lj] at hid
  rcases hid with hid|hid
  ·exact xM h1 id hid
  ·exact qf h2 id hid
theorem C4 (h:(dh a).run g=some a'):∀id,id∈a.ids->∃B,g id=some B:=by
 intro id hid
 cases a with
 |agg cs=>
  simp only [dh] at h
  obtain ⟨l,h1,_⟩:=cz h
  exact qf h1 id hid
 |fn f cs=>
  simp only [dh] at h
  obtain ⟨l,h1,_⟩:=cz h
  exact qf h1 id hid
 |bf f cs=>
  simp only [dh] at h
  obtain ⟨l,h1,_⟩:=cz h
  exact qf h1 id hid
 |_=>simp only [dh] at h;simp only [AV.ids] at hid;exact xM h id hid
theorem xN {g:Nat->Option Bk}:∀{as_ bE:List AV},(du as_).run g=some bE->∀id,id∈as_.flatMap AV.ids->∃B,g id=some B
 |[],_,_,id,hid=>by simp at hid
 |a::r,bE,h,id,hid=>by
  simp only [du] at h
  obtain ⟨x,h1,h⟩:=cz h
  obtain ⟨l,h2,h⟩:=cz h
  simp only [LI,Lj] at hid
  rcases hid with hid|hid
  ·exact C4 h1 id hid
  ·exact xN h2 id hid
section
variable {P:Program} {E:Env} {J:Nat->Prop} {base:Nat} {g:Nat->Option Bk} {σ:Nat->AV} {fresh:Nat}
theorem jt {a:Act} (hs:∀t,ae E (a.tmps.getD t undef) (σ t)) (hc:eK P ops op=some o) {b:Bool} (hg:bH σ o.guard=some b):Region.wanted op (yielded ops a.tmps)=b:=by
 unfold eK at hc
 split at hc
 ·rename_i ao h1
  split at hc
  ·rename_i h2
   simp only [KJ] at hc;subst hc
   simp only [bH,KJ] at hg;subst hg
   simp [Region.wanted,h2]
  ·rename_i j w h2
   split at hc
   ·rename_i t h3
    simp only [KJ] at hc;subst hc
    simp only [bH] at hg
    have ht:=hs t
    simp only [Region.wanted,h2,yielded,h3,L8]
    split at hg
    ·rename_i b' aV
     rw [aV] at ht
     have:=ht.fu
     simp only [KJ] at hg;subst hg
     have hlt:t<a.tmps.size:=by
      rcases Ls t a.tmps.size with h|h
      ·exact h
      ·simp [Array.getElem?_eq_none h,undef] at this
     have h5:a.tmps[t]? =some (.bool b'):=by
      rw [KX hlt]
      simpa [KX hlt] using this
     rw [h5]
     cases b'<;>cases w<;>rfl
    ·rename_i vs aV
     rw [aV] at ht
     have:=ht.fu
     simp only [KJ] at hg;subst hg
     have h5:a.tmps[t]? =none\/a.tmps[t]? =some (.tuple vs):=by
      rcases Ls t a.tmps.size with h|h
      ·right
       rw [KX h]
       simpa [KX h] using this
      ·left;exact Array.getElem?_eq_none h
     rcases h5 with h5|h5<;>rw [h5]<;>rfl
    ·simp at hg
   ·simp at hc
 ·simp at hc
theorem nX (hc:eK P ops op=some o):o.dst=op.dst/\br P op=some o.ao:=by
 unfold eK at hc
 split at hc
 ·rename_i ao h1
  split at hc
  ·simp only [KJ] at hc;subst hc;exact ⟨rfl,h1⟩
  ·split at hc
   ·simp only [KJ] at hc;subst hc;exact ⟨rfl,h1⟩
   ·simp at hc
 ·simp at hc
theorem s9 {a:Act} (hG:dQ E) (hs:∀t,ae E (a.tmps.getD t undef) (σ t)) (hm:aB E J base g) (hf:¬E.kn fresh) (hi:ops[i]? =some op) (hc:eK P ops op=some o)
 {acc:List Nat} (hr:da P σ g fresh o val ups acc) {K:Act->World->Prop}
  (hK:∀v E',E.Le E'->ae E' v val->aB E' J base (aj g ups)->Below base E.w E'.w->(∀id,E'.kn id->E.kn id\/id∈ups.map Prod.fst)->K (a.put o.dst v) E'.w) {rd:Option Nat}:wpOpIn (cj rd) 0 P ops Q i K a E.w:=by
 have hd:o.dst=op.dst/\br P op=some o.ao:=by
  unfold eK at hc
  split at hc
  ·rename_i ao h1
   split at hc
   ·simp only [KJ] at hc;subst hc;exact ⟨rfl,h1⟩
   ·split at hc
    ·simp only [KJ] at hc;subst hc;exact ⟨rfl,h1⟩
    ·simp at hc
  ·simp at hc
 have cS:∀e,op.semAt (cj rd).round e=execOp e op:=fun e=>MB (cj rd) _ _ (my hd.2)
 unfold wpOpIn
 simp only [hi]
 cases hr with
 |skip hg=>
  rw [jt hs hc hg]
  simp only [LF,Lh]
  rw [<-hd.1]
  exact ⟨iP,hK undef E (Env.Le.refl E) (.v rfl) hm (Lt _ _) fun _ h=> .inl h⟩
 |done hg h=>
  rw [jt hs hc hg,KL rfl]
  obtain ⟨n,v,E',h1,h2,h3,h4,h5,h6,h7⟩:=CT (dA.of hG hs) (fun _=>rfl) hm hf hd.2 h
  have:=hK v E' h3 h4 h5 h6 h7
  unfold Oper.wpIn
  rw [cS,h1]
  rw [hd.1] at this
  rcases h2 with rfl|⟨rfl,rfl⟩
  ·exact ⟨iP,this⟩
  ·exact ⟨iP,this⟩
 | @call f as_ bE r hg h bO gI eJ=>
  rw [jt hs hc hg,KL rfl]
  obtain ⟨vs,h1,h2⟩:=nS (dA.of hG hs) hd.2 h bO
  unfold Oper.wpIn
  rw [cS,h1,Oper.uponIn_enter]
  refine ⟨iP,mw,nV ((C0 hG hm h2 gI eJ fun id hid=> ?_).mono ?_)⟩
  ·obtain ⟨B,hB⟩:=xN gI id hid
   exact ((hm.live id).2 ⟨B,hB⟩).1
  ·rintro e w' ⟨v,E',rfl,rfl,k1,k2,k3,k4,k5⟩
   have:=hK v E' k1 k2 k3 k4 fun id h=> .inl (k5 id h)
   rw [hd.1] at this
   exact this
 | @lB f as_ bE sz els hg h bO gI eJ qg=>
  rw [jt hs hc hg,KL rfl]
  obtain ⟨vs,h1,h2⟩:=nS (dA.of hG hs) hd.2 h bO
  unfold Oper.wpIn
  rw [cS,h1,Oper.uponIn_enter]
  refine ⟨iP,mw,nV ((C2 hG hm h2 gI eJ qg hf).mono ?_)⟩
  ·rintro e w' ⟨v,E',rfl,rfl,k1,k2,k3,k4,k5⟩
   have:=hK v E' k1 k2 k3 k4 fun id h=>(k5 id h).imp (fun h=>h) fun h=>by simp [h]
   rw [hd.1] at this
   exact this
theorem mz (hE:E.Le E') {a:Act} (hs:∀t,ae E (a.tmps.getD t undef) (σ t)) (hv:ae E' v val) (d:Option Nat):∀t,ae E' ((a.put d v).tmps.getD t undef) (bp a.tmps.size d val σ t):=by
 intro t
 unfold bp
 cases d with
 |none=>simp only [Act.put,reduceCtorEq,false_and,Lh];exact (hs t).step hE
 |some d=>
  simp only [Act.put,KJ]
  by_cases h:d=t/\t<a.tmps.size
  ·rw [KL h]
   obtain ⟨rfl,hlt⟩:=h
   simpa [hlt] using hv
  ·rw [KK h]
   have:(a.tmps.setIfInBounds d v).getD t undef=a.tmps.getD t undef:=by
    simp only [My,ME]
    by_cases cX:d=t
    ·subst cX
     have:¬d<a.tmps.size:=fun hl=>h ⟨rfl,hl⟩
     simp [this]
    ·simp [cX]
   rw [this];exact (hs t).step hE
theorem fU (a:Act) (d:Option Nat) (v:Value):(a.put d v).tmps.size=a.tmps.size/\(a.put d v).defers=a.defers:=by
 cases d<;>simp [Act.put]
end
def Fi (P:Program) (f:FuncId) (as_:List AV) (g:Nat->Option Bk) (k:Nat) (r:AV) (g':Nat->Option Bk) (k':Nat):Prop:=
 ∀(E:Env) (J:Nat->Prop) (base:Nat) (vs:Array Value),dQ E->aB E J base g->(∀id,E.kn id->id<k)->RC E vs as_->
  Calls P f vs E.w fun e w'=>∃v E',e= .returned v/\E'.w=w'/\E.Le E'/\ae E' v r/\aB E' J base g'/\Below base E.w w'/\∀id,E'.kn id->id<k'
def Yd (P:Program) (kb:Nat) (r:Loop) (caps as_:List AV) (g:Nat->Option Bk) (k:Nat) (g':Nat->Option Bk) (k':Nat):Prop:=
 r.params.size=as_.length/\∀(E:Env) (J:Nat->Prop) (base l:Nat) (vs:Array Value),dQ E->aB E J base g->(∀id,E.kn id->id<k)->E.rg l->RC E vs as_->RC E r.tmps caps->E.I l->E.w.heap[l]? =some (.loop r)->
  RoundIn Fence.wide 0 P l r.fn ((r.params.zip vs).foldl (fun t (p,v)=>t.setIfInBounds p v) r.tmps) r.assign r.body E.w fun e w'=>e= .returned (.bool true)/\∃E',E'.w=w'/\(E.lt kb).Le E'/\aB E' J base g'/\Below base E.w w'/\∀id,E'.kn id->id<k'
theorem C5 {az:Operand->Value} {l:Nat} {c:Call} {x:Operand} (hc:c.callee= .value x) (hx:az x= .func (.yield l) #[] #[]) (w:World):
  (do let d<-resolve az c ty;invoke d.target d.args:Sem Next).run P w=(Instr.yield l (c.args.map az)).run P w:=by
 simp [resolve,hc,hx,Deferred.ofValue,invoke]
inductive fy (P:Program) (n k0:Nat):List aw->(Nat->AV)->(Nat->Option Bk)->Nat->(Nat->AV)->(Nat->Option Bk)->Nat->Prop
 |nil {σ:Nat->AV} {g:Nat->Option Bk} {k:Nat}:fy P n k0 [] σ g k σ g k
 |cons {o:aw} {os:List aw} {σ σ':Nat->AV} {g g':Nat->Option Bk} {k k1 k':Nat} {val:AV} {ups:List (Nat×Option Bk)} {acc:List Nat} (h:da P σ g k o val ups acc) (hk:k<=k1) (hu:∀id,id∈ups.map Prod.fst->id<k1)
   (hr:fy P n k0 os (bp n o.dst val σ) (aj g ups) k1 σ' g' k'):fy P n k0 (o::os) σ g k σ' g' k'
 |inl {o:aw} {os:List aw} {σ σ':Nat->AV} {g g1 g':Nat->Option Bk} {k k1 k':Nat} {f:FuncId} {as_:List AV} {r:AV} (hg:bH σ o.guard=some true) (h:(o.ao.af k (aD σ)).run g=some (.call f as_)) (hc:bT P f=true)
   (hf:Fi P f as_ g k r g1 k1) (hr:fy P n k0 os (bp n o.dst r σ) g1 k1 σ' g' k'):fy P n k0 (o::os) σ g k σ' g' k'
 |dY {o:aw} {os:List aw} {σ σ':Nat->AV} {g g1 g':Nat->Option Bk} {k k1 k':Nat} {x:Arg} {args:List Arg} {r:Loop} {caps:List AV} (hg:bH σ o.guard=some true) (h:o.ao= .call x args) (hx:aD σ x= .dY r caps)
   {kb:Nat} (pK:k0<=kb) (qg:∀t,nb kb 6 (σ t)=true) (hy:Yd P kb r caps (args.map (aD σ)) g k g1 k1) (hr:fy P n k0 os (bp n o.dst (.v (.bool true)) σ) g1 k1 σ' g' k'):fy P n k0 (o::os) σ g k σ' g' k'
structure ec (E0:Env) (J:Nat->Prop) (base:Nat) (w0:World) (n:Nat) (σ:Nat->AV) (g:Nat->Option Bk) (k:Nat) (a:Act) (w:World):Prop where
 ex:∃E:Env,E.w=w/\E0.Le E/\(∀t,ae E (a.tmps.getD t undef) (σ t))/\aB E J base g/\(∀id,E.kn id->id<k)/\Mk E w0.heap.size a.defers
 size:a.tmps.size=n
 below:Below base w0 w
 gl:dQ E0
theorem xO {rd:Option Nat} {E0:Env} (hk0:∀id,E0.kn id->id<k0) {w0:World} (h:fy P n k0 os σ g k σ' g' k'):
  ∀(i:Nat) (a:Act) (w:World),(∀j,j<os.length->∃op,ops[i+j]? =some op/\∃o,os[j]? =some o/\eK P ops op=some o)->ec E0 J base w0 n σ g k a w->(∀a w,ec E0 J base w0 n σ' g' k' a w->Q .normal a w)->wpOpsIn (cj rd) 0 P ops Q (List.range' i os.length) a w:=by
 induction h with
 |nil=>intro i a w _ hr hQ;exact hQ a w hr
 | @cons o os σ σ' g g' k k1 k' val ups acc h hk hu hr ih=>
  intro i a w dE hrel hQ
  rw [List.length_cons,List.range'_succ,wpOpsIn_cons]
  obtain ⟨op,h1,o',h2,h3⟩:=dE 0 (by simp)
  simp only [Ll,KJ] at h2
  subst h2
  rw [LC] at h1
  obtain ⟨E,rfl,hle,hs,hm,aX,hmk⟩:=hrel.ex
  refine s9 (hrel.gl.step hle) hs hm (fun hh=>LZ _ (aX k hh)) h1 h3 h fun v E' hE hv hM hB C6=> ?_
  refine ih (i+1) _ _ (fun j hj=> ?_) ⟨⟨E',rfl,hle.trans hE, ?_,hM,fun id hid=> ?_, ?_⟩, ?_, ?_,hrel.gl⟩ hQ
  ·obtain ⟨nY,m1,o',m2,m3⟩:=dE (j+1) (by simp;omega)
   exact ⟨nY,by rw [show i+1+j=i+(j+1) by omega];exact m1,o',by simpa using m2,m3⟩
  ·have:=mz hE hs hv o.dst
   rw [hrel.size] at this
   exact this
  ·rcases C6 id hid with h|h
   ·exact K8 (aX id h) hk
   ·exact hu id h
  ·rw [(fU a o.dst v).2];exact hmk.step hE
  ·rw [(fU a o.dst v).1];exact hrel.size
  ·exact hrel.below.trans hB
 | @inl o os σ σ' g g1 g' k k1 k' f as_ r hg h bO hf hr ih=>
  intro i a w dE hrel hQ
  rw [List.length_cons,List.range'_succ,wpOpsIn_cons]
  obtain ⟨op,h1,o',h2,h3⟩:=dE 0 (by simp)
  simp only [Ll,KJ] at h2
  subst h2
  rw [LC] at h1
  obtain ⟨E,rfl,hle,hs,hm,aX,hmk⟩:=hrel.ex
  have hd:=nX h3
  have cS:∀e,op.semAt (cj rd).round e=execOp e op:=fun e=>MB (cj rd) _ _ (my hd.2)
  unfold wpOpIn
  simp only [h1]
  rw [jt hs h3 hg,KL rfl]
  obtain ⟨vs,e1,e2⟩:=nS (dA.of (hrel.gl.step hle) hs) hd.2 h bO
  unfold Oper.wpIn
  rw [cS,e1,Oper.uponIn_enter]
  refine ⟨iP,mw,nV ((hf E J base vs (hrel.gl.step hle) hm aX e2).mono ?_)⟩
  rintro e w' ⟨v,E',rfl,rfl,q1,q2,q3,q4,q5⟩
  refine ih (i+1) _ _ (fun j hj=> ?_) ⟨⟨E',rfl,hle.trans q1, ?_,q3,q5, ?_⟩, ?_, ?_,hrel.gl⟩ hQ
  ·obtain ⟨nY,m1,o',m2,m3⟩:=dE (j+1) (by simp;omega)
   exact ⟨nY,by rw [show i+1+j=i+(j+1) by omega];exact m1,o',by simpa using m2,m3⟩
  ·have:=mz q1 hs q2 op.dst
   rw [hrel.size] at this
   rw [hd.1]
   exact this
  ·rw [(fU a op.dst v).2];exact hmk.step q1
  ·rw [(fU a op.dst v).1];exact hrel.size
  ·exact hrel.below.trans q4
 | @dY o os σ σ' g g1 g' k k1 k' x args r caps hg h hx kb pK qg hy hr ih=>
  intro i a w dE hrel hQ
  rw [List.length_cons,List.range'_succ,wpOpsIn_cons]
  obtain ⟨op,h1,o',h2,h3⟩:=dE 0 (by simp)
  simp only [Ll,KJ] at h2
  subst h2
  rw [LC] at h1
  obtain ⟨E,rfl,hle,hs,hm,aX,hmk⟩:=hrel.ex
  have hd:=nX h3
  have cS:∀e,op.semAt (cj rd).round e=execOp e op:=fun e=>MB (cj rd) _ _ (my hd.2)
  have xP:=hd.2
  rw [h] at xP
  obtain ⟨c,y,c1,c2,c3,c4⟩:=xE xP
  have hv:=dA.of (hrel.gl.step hle) hs y x c3
  rw [hx] at hv
  obtain ⟨vv,bX⟩:∃vv,vv=a.eval y:=⟨_,rfl⟩
  rw [<-bX] at hv
  cases hv with
  | @dY l _ _ C7 hI hh hl hr'=>
   obtain ⟨al,ar⟩:=(dA.of (hrel.gl.step hle) hs).list c4
   have xQ:=run_yield (P:=P) (args:=c.args.map a.eval) hh (by rw [hy.1];simpa using al)
   have e1:(execOp a.eval op).run P E.w= .ok (.round l r.fn ((r.params.zip (c.args.map a.eval)).foldl (fun t (p,v)=>t.setIfInBounds p v) r.tmps) r.assign r.body) E.w:=by
    unfold execOp
    simp only [c1]
    exact (C5 c2 bX.symm E.w).trans xQ
   unfold wpOpIn
   simp only [h1]
   rw [jt hs h3 hg,KL rfl]
   unfold Oper.wpIn
   rw [cS,e1,Oper.uponIn_round]
   refine ⟨iP,mw,RoundIn.mono (hy.2 E J base l (c.args.map a.eval) (hrel.gl.step hle) hm aX C7 ⟨by simpa using al,fun j u c hu hc=>ar j u c (by simpa using hu) hc⟩ ⟨hl,hr'⟩ hI hh) ?_⟩
   rintro e w' ⟨rfl,E',rfl,q1,q3,q4,q5⟩
   refine ih (i+1) _ _ (fun j hj=> ?_) ⟨⟨E',rfl,hle.cut (fun id hi=>K8 (hk0 id hi) pK) q1, ?_,q3,q5, ?_⟩, ?_, ?_,hrel.gl⟩ hQ
   ·obtain ⟨nY,m1,o',m2,m3⟩:=dE (j+1) (by simp;omega)
    exact ⟨nY,by rw [show i+1+j=i+(j+1) by omega];exact m1,o',by simpa using m2,m3⟩
   ·have:=mz (E:=E') (E':=E') (Env.Le.refl E') (fun t=>(hs t).C3 q1 6 (qg t)) (v:= .bool true) (.v rfl) op.dst
    rw [hrel.size] at this
    rw [hd.1]
    exact this
   ·rw [(fU a op.dst _).2];exact Mk.xL (E:=E) q1.dP hmk
   ·rw [(fU a op.dst _).1];exact hrel.size
   ·exact hrel.below.trans q4
open Go.RowKit
def Arg.slot:Arg->List Nat
 | .s t=>[t]
 | .c _=>[]
def mA:Option Arg->List Nat
 |none=>[]
 |some x=>x.slot
def AO.nZ:AO->List Nat
 | .mov x| .box _ x| .load _ x| .nilc x| .un _ x| .conv _ x| .fad _ x| .fld _ _ x| .ext _ x| .len _ x| .isn _ _ x=>x.slot
 | .pick a b c=>a.slot++b.slot++c.slot
 | .new _=>[]
 | .agg _ ps=>ps.flatMap fun p=>p.2.2.slot
 | .bsl _ _ _ ps=>ps.flatMap fun p=>p.2.slot
 | .store _ x y| .bin _ _ x y| .iad _ x y| .iap _ _ x y| .ixa _ _ _ x y| .mnx _ x y| .eqs _ _ _ x y| .msl _ _ _ x y| .six x y| .app _ _ x y=>x.slot++y.slot
 | .slc _ x l h m=>x.slot++mA l++mA h++mA m
 | .sls x l h=>x.slot++mA l++mA h
 | .mkf _ cs| .mkb _ cs=>cs.flatMap Arg.slot
 | .call x l=>x.slot++l.flatMap Arg.slot
 | .clr _ x| .b2s x| .s2b x=>x.slot
 | .cpy _ x y=>x.slot++y.slot
 | .mkm| .bad=>[]
 | .mup _ x k y=>x.slot++k.slot++y.slot
 | .mlk _ _ x k=>x.slot++k.slot
def AO.allocs:AO->Bool
 | .new _| .box _ _| .bsl _ _ _ _| .msl _ _ _ _ _| .app _ _ _ _| .s2b _| .mkm=>true
 |_=>false
def aw.gJ (o:aw):List Nat:=o.ao.nZ++(match o.guard with|some (t,_)=>[t]|none=>[])
theorem bk (h:∀t,t∈x.slot->σ' t=σ t):aD σ' x=aD σ x:=by
 cases x with
 |s t=>exact h t (by simp [Arg.slot])
 |c a=>rfl
theorem n6 {x:Option Arg} (h:∀t,t∈mA x->σ' t=σ t):cE (aD σ') x=cE (aD σ) x:=by
 cases x with
 |none=>rfl
 |some a=>simp only [cE,bk h]
theorem map_congr {l:List Arg} (h:∀t,t∈l.flatMap Arg.slot->σ' t=σ t):l.map (aD σ')=l.map (aD σ):=by
 apply MH
 intro x hx
 exact bk fun t ht=>h t (List.mem_flatMap.2 ⟨x,hx,ht⟩)
theorem xR {σ σ':Nat->AV}:∀{ps:List (Nat×Nat×Arg)} {cs:List AV},(∀t,t∈ps.flatMap (fun p=>p.2.2.slot)->σ' t=σ t)->fillA (aD σ') cs ps=fillA (aD σ) cs ps
 |[],cs,_=>rfl
 |(off,n,x)::r,cs,h=>by
  have h1:=bk (x:=x) (σ:=σ) (σ':=σ') fun t ht=>h t (by simp [ht])
  simp only [fillA,h1]
  split
  ·exact xR fun t ht=>h t (by rw [LI];exact Ln _ ht)
  ·rfl
theorem xS {σ σ':Nat->AV} {sz:Nat}:∀{ps:List (Nat×Arg)} {els:List (List AV)},(∀t,t∈ps.flatMap (fun p=>p.2.slot)->σ' t=σ t)->fillE (aD σ') sz els ps=fillE (aD σ) sz els ps
 |[],cs,_=>rfl
 |(i,x)::r,cs,h=>by
  have h1:=bk (x:=x) (σ:=σ) (σ':=σ') fun t ht=>h t (by simp [ht])
  simp only [fillE,h1]
  split
  ·exact xS fun t ht=>h t (by rw [LI];exact Ln _ ht)
  ·rfl
theorem xT (fresh:Nat) (h:∀t,t∈ao.nZ->σ' t=σ t):ao.af fresh (aD σ')=ao.af fresh (aD σ):=by
 cases ao<;>simp only [AO.nZ,Lj] at h<;>simp only [AO.af]
 case mov x=>rw [bk h]
 case pick a b c=>rw [bk (x:=a) fun t ht=>h t (.inl (.inl ht)),bk (x:=b) fun t ht=>h t (.inl (.inr ht)),bk (x:=c) fun t ht=>h t (.inr ht)]
 case box n x=>rw [bk h]
 case agg zs ps=>rw [xR h]
 case bsl sz ln zs ps=>rw [xS h]
 case load m x=>rw [bk h]
 case store n x y=>rw [bk (x:=x) fun t ht=>h t (.inl ht),bk (x:=y) fun t ht=>h t (.inr ht)]
 case nilc x=>rw [bk h]
 case bin bt op x y=>rw [bk (x:=x) fun t ht=>h t (.inl ht),bk (x:=y) fun t ht=>h t (.inr ht)]
 case un op x=>rw [bk h]
 case conv k x=>rw [bk h]
 case fad off x=>rw [bk h]
 case fld off m x=>rw [bk h]
 case iad sz x y=>rw [bk (x:=x) fun t ht=>h t (.inl ht),bk (x:=y) fun t ht=>h t (.inr ht)]
 case ext i x=>rw [bk h]
 case len b x=>cases b<;>simp only [AO.af]<;>rw [bk h]
 case isn kd m x=>cases kd<;>simp only [AO.af]<;>rw [bk h]
 case mnx m x y=>rw [bk (x:=x) fun t ht=>h t (.inl ht),bk (x:=y) fun t ht=>h t (.inr ht)]
 case eqs ng n L x y=>rw [bk (x:=x) fun t ht=>h t (.inl ht),bk (x:=y) fun t ht=>h t (.inr ht)]
 case msl sz by_ zs x y=>rw [bk (x:=x) fun t ht=>h t (.inl ht),bk (x:=y) fun t ht=>h t (.inr ht)]
 case slc sz x lo hi mx=>rw [bk (x:=x) fun t ht=>h t (.inl (.inl (.inl ht))),n6 (x:=lo) fun t ht=>h t (.inl (.inl (.inr ht))),n6 (x:=hi) fun t ht=>h t (.inl (.inr ht)),n6 (x:=mx) fun t ht=>h t (.inr ht)]
 case sls x lo hi=>rw [bk (x:=x) fun t ht=>h t (.inl (.inl ht)),n6 (x:=lo) fun t ht=>h t (.inl (.inr ht)),n6 (x:=hi) fun t ht=>h t (.inr ht)]
 case six x y=>rw [bk (x:=x) fun t ht=>h t (.inl ht),bk (x:=y) fun t ht=>h t (.inr ht)]
 case app sz by_ x y=>rw [bk (x:=x) fun t ht=>h t (.inl ht),bk (x:=y) fun t ht=>h t (.inr ht)]
 case mkf f cs=>rw [map_congr h]
 case mkb f cs=>rw [map_congr h]
 case clr zs x=>rw [bk h]
 case b2s x=>rw [bk h]
 case s2b x=>rw [bk h]
 case cpy sz x y=>rw [bk (x:=x) fun t ht=>h t (.inl ht),bk (x:=y) fun t ht=>h t (.inr ht)]
 case mup kd x k y=>rw [bk (x:=x) fun t ht=>h t (.inl (.inl ht)),bk (x:=k) fun t ht=>h t (.inl (.inr ht)),bk (x:=y) fun t ht=>h t (.inr ht)]
 case mlk kd z x k=>rw [bk (x:=x) fun t ht=>h t (.inl ht),bk (x:=k) fun t ht=>h t (.inr ht)]
 case ixa sz ln m x y=>rw [bk (x:=x) fun t ht=>h t (.inl ht),bk (x:=y) fun t ht=>h t (.inr ht)]
 case iap sz ln x y=>rw [bk (x:=x) fun t ht=>h t (.inl ht),bk (x:=y) fun t ht=>h t (.inr ht)]
 case call x l=>rw [bk (x:=x) fun t ht=>h t (.inl ht),map_congr fun t ht=>h t (.inr ht)]
theorem C8 (h:ao.allocs=false) (fresh C9:Nat) (ρ:Arg->AV):ao.af C9 ρ=ao.af fresh ρ:=by
 cases ao<;>simp [AO.allocs] at h<;>first|rfl|skip
 case len b x=>cases b<;>rfl
 case isn kd b x=>cases kd<;>rfl
theorem Da (h:ao.allocs=true) {ρ:Arg->AV} (hr:(ao.af fresh ρ).run g=some (.done val ups)):fresh∈ups.map Prod.fst:=by
 cases ao<;>simp [AO.allocs] at h<;>simp only [AO.af] at hr
 case new zs=>simp [RM.run] at hr;rw [<-hr.2];simp
 case mkm=>simp [RM.run] at hr;rw [<-hr.2];simp
 case box n x=>split at hr<;>simp [RM.run] at hr;rw [<-hr.2];simp
 case bsl sz ln zs ps=>
  cases hf:fillE ρ sz (List.replicate ln zs) ps with
  |none=>simp [hf,RM.opt,RM.run] at hr
  |some els=>simp [hf,RM.opt,RM.run] at hr;rw [<-hr.2];simp
 case msl sz b zs l c=>
  split at hr
  ·split at hr<;>simp [RM.run] at hr;rw [<-hr.2];simp
  ·simp [RM.run] at hr
 case s2b x=>
  split at hr
  ·split at hr<;>simp [RM.run] at hr;rw [<-hr.2];simp
  ·simp [RM.run] at hr
 case app sz b s x=>
  obtain ⟨ys,_,hr⟩:=cz hr
  split at hr
  ·split at hr<;>simp [RM.run] at hr;rw [<-hr.2];simp
  ·split at hr<;>simp [RM.run] at hr;rw [<-hr.2];simp
  ·simp only [RM.run] at hr
   split at hr
   ·split at hr
    ·simp [RM.run] at hr;rw [<-hr.2];simp
    ·split at hr<;>simp [RM.run] at hr;rw [<-hr.2];simp
   ·simp at hr
  ·simp [RM.run] at hr
theorem da.local {P:Program} {σ σ':Nat->AV} {g g':Nat->Option Bk} {fr fA:Nat} {o:aw} {val:AV} {ups:List (Nat×Option Bk)} {acc:List Nat} (h:da P σ g fr o val ups acc)
  (hσ:∀t,t∈o.gJ->σ' t=σ t) (hg:∀id,id∈acc->g' id=g id) (dT:fr∈ups.map Prod.fst->fA=fr):∃tb,da P σ' g' fA o val ups tb:=by
 have cq:bH σ' o.guard=bH σ o.guard:=by
  cases hg0:o.guard with
  |none=>rfl
  |some p=>
   obtain ⟨t,w⟩:=p
   simp only [bH,hσ t (by simp [aw.gJ,hg0])]
 have cS:∀out,(o.ao.af fr (aD σ)).run g=some out->(∀id,id∈(o.ao.af fr (aD σ)).acc g++(o.ao.af fr (aD σ)).see g->g' id=g id)->(o.ao.allocs=true->fA=fr)->(o.ao.af fA (aD σ')).run g'=some out:=by
  intro out h1 h2 h3
  have e1:o.ao.af fA (aD σ')=o.ao.af fr (aD σ):=by
   rw [xT fA fun t ht=>hσ t (by simp [aw.gJ,ht])]
   cases hal:o.ao.allocs with
   |false=>exact C8 hal _ _ _
   |true=>rw [h3 hal]
  rw [e1,RM.local _ (fun id hid=>h2 id (Lr _ hid)) (fun id hid=>by rw [h2 id (Ln _ hid)])]
  exact h1
 cases h with
 |skip hg0=>exact ⟨_, .skip (cq.trans hg0)⟩
 |done hg0 h1=>exact ⟨_, .done (cq.trans hg0) (cS _ h1 hg fun hal=>dT (Da hal h1))⟩
 | @call f as_ bE r hg0 h1 hc hs hf=>
  have hal:o.ao.allocs=false:=by
   cases hx:o.ao with
   |call x l=>rfl
   |_=>exact absurd h1 (sV (by rw [hx];simp))
  refine ⟨_, .call (cq.trans hg0) (cS _ h1 (fun id hid=>hg id (Lr _ hid)) fun h=>by rw [hal] at h;simp at h) hc ?_ hf⟩
  rw [RM.local _ (fun id hid=>hg id (Ln _ (Lr _ hid))) (fun id hid=>by rw [hg id (Ln _ (Ln _ hid))])]
  exact hs
 | @lB f as_ bE sz els hg0 h1 hc hs hf hn=>
  have hal:o.ao.allocs=false:=by
   cases hx:o.ao with
   |call x l=>rfl
   |_=>exact absurd h1 (sV (by rw [hx];simp))
  have hfe:fA=fr:=dT (by simp)
  subst hfe
  refine ⟨_, .lB (cq.trans hg0) (cS _ h1 (fun id hid=>hg id (Lr _ hid)) fun _=>rfl) hc ?_ hf hn⟩
  rw [RM.local _ (fun id hid=>hg id (Ln _ (Lr _ hid))) (fun id hid=>by rw [hg id (Ln _ (Ln _ hid))])]
  exact hs
structure Rec where
 dst:Option Nat
 val:AV
 ups:List (Nat×Option Bk)
 acc:List Nat
 fr:Nat
variable {rs:List Rec}
def Rec.keys (r:Rec):List Nat:=r.ups.map Prod.fst
inductive fW (P:Program) (n:Nat):List aw->(Nat->AV)->(Nat->Option Bk)->Nat->List Rec->(Nat->AV)->(Nat->Option Bk)->Nat->Prop
 |nil {σ:Nat->AV} {g:Nat->Option Bk} {k:Nat}:fW P n [] σ g k [] σ g k
 |cons {o:aw} {os:List aw} {σ σ':Nat->AV} {g g':Nat->Option Bk} {k k1 k':Nat} {val:AV} {ups:List (Nat×Option Bk)} {acc:List Nat} {rs:List Rec} (h:da P σ g k o val ups acc) (hk:k<=k1) (hu:∀id,id∈ups.map Prod.fst->id<k1)
   (hr:fW P n os (bp n o.dst val σ) (aj g ups) k1 rs σ' g' k'):fW P n (o::os) σ g k (⟨o.dst,val,ups,acc,k⟩::rs) σ' g' k'
def cT {β:Type} (L:Nat->Bool) (w:Rec->Option β):Nat->List Rec->β->β
 |_,[],x=>x
 |k,r::rs,x=>cT L w (k+1) rs (if L k=true then (w r).getD x else x)
theorem ia {β:Type} {L L':Nat->Bool} {w:Rec->Option β}:∀(rs:List Rec) (k:Nat) (x:β),(∀(j:Nat) r,rs[j]? =some r->L (k+j)≠L' (k+j)->w r=none)->cT L w k rs x=cT L' w k rs x
 |[],k,x,_=>rfl
 |r::rs,k,x,h=>by
  simp only [cT]
  have h0:=h 0 r rfl
  rw [LC] at h0
  have e:(if L k=true then (w r).getD x else x)=if L' k=true then (w r).getD x else x:=by
   by_cases hl:L k=L' k
   ·rw [hl]
   ·rw [h0 hl];simp
  rw [e]
  exact ia rs (k+1) _ fun j r' hr hl=>h (j+1) r' (by simpa using hr) (by rw [show k+(j+1)=k+1+j by omega];exact hl)
theorem ib {β:Type} {L:Nat->Bool} {w:Rec->Option β}:∀(rs:List Rec) (k:Nat) (x:β),(∀(j:Nat) r,rs[j]? =some r->L (k+j)=true->w r=none)->cT L w k rs x=x
 |[],k,x,_=>rfl
 |r::rs,k,x,h=>by
  simp only [cT]
  have e:(if L k=true then (w r).getD x else x)=x:=by
   split
   ·rename_i hl;rw [h 0 r rfl (by simpa using hl)];rfl
   ·rfl
  rw [e]
  exact ib rs (k+1) _ fun j r' hr hl=>h (j+1) r' (by simpa using hr) (by rw [show k+(j+1)=k+1+j by omega];exact hl)
theorem lC {β:Type} {L L':Nat->Bool} {w:Rec->Option β}:∀(rs:List Rec) (k i:Nat) (x:β) (r:Rec),rs[i]? =some r->L (k+i)=false->(∀j,L' j=if j=k+i then true else L j)->(∀(j:Nat) r',i<j->rs[j]? =some r'->L (k+j)=true->w r'=none\/w r=none)->
  cT L' w k rs x=(w r).getD (cT L w k rs x)
 |[],k,i,x,r,hr,_,_,_=>by simp at hr
 |r0::rs,k,0,x,r,hr,hf,hL,hn=>by
  simp only [Ll,KJ] at hr
  subst hr
  simp only [cT,hL k,LC,KN]
  rw [LC] at hf
  rw [hf]
  simp only [LF,Lh]
  cases hw:w r0 with
  |none=>
   simp only [Me]
   refine ia rs (k+1) x fun j r' hr' hl=> ?_
   rw [hL,KK (by omega)] at hl
   exact absurd rfl hl
  |some y=>
   simp only [LM]
   refine ib rs (k+1) y fun j r' hr' hl=> ?_
   rw [hL,KK (by omega)] at hl
   exact (hn (j+1) r' (by omega) (by simpa using hr') (by rw [show k+(j+1)=k+1+j by omega];exact hl)).resolve_right (by rw [hw];simp)
 |r0::rs,k,i+1,x,r,hr,hf,hL,hn=>by
  simp only [cT]
  have e:L' k=L k:=by rw [hL k,KK (by omega)]
  rw [e]
  exact lC rs (k+1) i _ r (by simpa using hr) (by rw [show k+1+i=k+(i+1) by omega];exact hf) (fun j=>by rw [hL j,show k+1+i=k+(i+1) by omega]) fun j r' hj hr' hl=>hn (j+1) r' (by omega) (by simpa using hr') (by rw [show k+(j+1)=k+1+j by omega];exact hl)
theorem gq {β:Type} {L:Nat->Bool} {w:Rec->Option β}:∀(rs:List Rec) (k:Nat) (x:β),cT L w (k+1) rs x=cT (fun j=>L (j+1)) w k rs x
 |[],_,_=>rfl
 |r::rs,k,x=>by
  simp only [cT]
  exact gq rs (k+1) _
def gK (n t:Nat) (r:Rec):Option AV:=if r.dst=some t/\t<n then some r.val else none
def kv:List (Nat×Option Bk)->Nat->Option (Option Bk)
 |[],_=>none
 |(k,x)::r,id=>match kv r id with
  |some y=>some y
  |none=>if id=k then some x else none
theorem iQ:∀(ups:List (Nat×Option Bk)) (g:Nat->Option Bk) (id:Nat),aj g ups id=(kv ups id).getD (g id)
 |[],g,id=>rfl
 |(k,x)::r,g,id=>by
  simp only [aj,kv,iQ r]
  cases kv r id with
  |some y=>rfl
  |none=>
   simp only [Me]
   by_cases h:id=k
   ·simp [h]
   ·simp [h]
theorem ju:∀{ups:List (Nat×Option Bk)} {id:Nat},kv ups id≠none->id∈ups.map Prod.fst
 |[],id,h=>by simp [kv] at h
 |(k,x)::r,id,h=>by
  simp only [kv] at h
  cases hr:kv r id with
  |some y=>simp only [KW,KU];exact .inr (ju (by rw [hr];simp))
  |none=>
   rw [hr] at h
   by_cases hk:id=k
   ·simp [hk]
   ·simp [hk] at h
def wg (id:Nat) (r:Rec):Option (Option Bk):=kv r.ups id
theorem jv (n t:Nat) (r:Rec) (σ:Nat->AV):bp n r.dst r.val σ t=(gK n t r).getD (σ t):=by
 unfold bp gK
 split<;>rfl
def upto (i j:Nat):Bool:=decide (j<i)
def bo (n:Nat) (L:Nat->Bool) (rs:List Rec) (σ:Nat->AV) (t:Nat):AV:=cT L (gK n t) 0 rs (σ t)
def bm (L:Nat->Bool) (rs:List Rec) (g:Nat->Option Bk) (id:Nat):Option Bk:=cT L (wg id) 0 rs (g id)
theorem tc (h:fW P n os σ g k rs σ' g' k'):
  rs.length=os.length/\k<=k'/\(∀(i:Nat) o,os[i]? =some o->∃r,rs[i]? =some r/\r.dst=o.dst/\da P (bo n (upto i) rs σ) (bm (upto i) rs g) r.fr o r.val r.ups r.acc/\k<=r.fr)/\
   (∀(i j:Nat) ri rj,i<j->rs[i]? =some ri->rs[j]? =some rj->∀id,id∈ri.keys->id<rj.fr)/\(∀(i:Nat) r,rs[i]? =some r->∀id,id∈r.keys->id<k')/\σ'=bo n (fun _=>true) rs σ/\g'=bm (fun _=>true) rs g:=by
 induction h with
 |nil=>exact ⟨rfl,KO _,fun i o ho=>by simp at ho,fun i j ri rj _ h=>by simp at h,fun i r h=>by simp at h,rfl,rfl⟩
 | @cons o os σ σ' g g' k k1 k' val ups acc rs h hk hu hr ih=>
  obtain ⟨i1,i2,i3,i4,i5,i6,i7⟩:=ih
  have e1:∀i,bo n (upto (i+1)) (⟨o.dst,val,ups,acc,k⟩::rs) σ=bo n (upto i) rs (bp n o.dst val σ):=by
   intro i;funext t
   show cT _ _ 1 rs _=_
   rw [gq]
   unfold bo
   congr 1
   ·funext j;simp [upto]
   ·rw [KL (by simp [upto])];exact (jv n t ⟨o.dst,val,ups,acc,k⟩ σ).symm
  have e2:∀i,bm (upto (i+1)) (⟨o.dst,val,ups,acc,k⟩::rs) g=bm (upto i) rs (aj g ups):=by
   intro i;funext id
   show cT _ _ 1 rs _=_
   rw [gq]
   unfold bm
   congr 1
   ·funext j;simp [upto]
   ·rw [KL (by simp [upto]),iQ];rfl
  refine ⟨by simp [i1],Lg hk i2,fun i o' ho=> ?_,fun i j ri rj aO hi hj id hid=> ?_,fun i r hr' id hid=> ?_, ?_, ?_⟩
  ·cases i with
   |zero=>
    simp only [Ll,KJ] at ho
    subst ho
    refine ⟨_,rfl,rfl, ?_,KO _⟩
    have s0:bo n (upto 0) (⟨o.dst,val,ups,acc,k⟩::rs) σ=σ:=by funext t;exact ib _ 0 _ fun j r _ hl=>by simp [upto] at hl
    have g0:bm (upto 0) (⟨o.dst,val,ups,acc,k⟩::rs) g=g:=by funext t;exact ib _ 0 _ fun j r _ hl=>by simp [upto] at hl
    rw [s0,g0]
    exact h
   |succ i=>
    obtain ⟨r,r1,r2,r3,r4⟩:=i3 i o' (by simpa using ho)
    exact ⟨r,by simpa using r1,r2,by rw [e1,e2];exact r3,Lg hk r4⟩
  ·cases j with
   |zero=>omega
   |succ j=>
    simp only [LD] at hj
    cases i with
    |zero=>
     simp only [Ll,KJ] at hi
     subst hi
     have aU:j<os.length:=by rw [<-i1];exact (KS.1 hj).1
     obtain ⟨r,r1,_,_,r4⟩:=i3 j _ (K0 aU)
     rw [hj] at r1
     simp only [KJ] at r1
     subst r1
     exact K8 (hu id hid) r4
    |succ i=>exact i4 i j ri rj (by omega) (by simpa using hi) hj id hid
  ·cases i with
   |zero=>
    simp only [Ll,KJ] at hr'
    subst hr'
    exact K8 (hu id hid) i2
   |succ i=>exact i5 i r (by simpa using hr') id hid
  ·rw [i6]
   funext t
   unfold bo
   simp only [cT]
   rw [gq,KN,jv n t ⟨o.dst,val,ups,acc,k⟩ σ]
  ·rw [i7]
   funext id
   unfold bm
   simp only [cT]
   rw [gq,KN,iQ]
   rfl
def gL (x y:aw):Bool:=
 (match x.dst with|some d=> !y.gJ.contains d&&y.dst !=some d|none=>true)&&(match y.dst with|some d=> !x.gJ.contains d|none=>true)
def eL (x y:Rec):Bool:=(x.keys.all fun id=> !y.acc.contains id&& !y.keys.contains id)&&(y.keys.all fun id=> !x.acc.contains id)
def db (o:Oper):List Nat:=o.after.toList.filterMap fun e=>if Region.binds .any e=true then some e.on else none
def gr (ops:List Oper) (dep:List (List Nat)):Bool:=
 dep.length==ops.length&&(List.range ops.length).all fun j=>((ops[j]?.map db).getD []).all (· <j)&&
  ((dep[j]?).getD []).all fun i=>i<j&&(((ops[j]?.map db).getD []).contains i||((ops[j]?.map db).getD []).any fun e=>((dep[e]?).getD []).contains i)
def eM (os:List aw) (dep:List (List Nat)):Bool:=
 (List.range os.length).all fun j=>(List.range j).all fun i=>((dep[j]?).getD []).contains i||(match os[i]?,os[j]? with|some x,some y=>gL x y|_,_=>false)
def ew (rs:List Rec) (dep:List (List Nat)):Bool:=
 (List.range rs.length).all fun j=>(List.range j).all fun i=>((dep[j]?).getD []).contains i||(match rs[i]?,rs[j]? with|some x,some y=>eL x y|_,_=>false)
theorem td:∀(N:Nat) (m:List Nat),m.Nodup->(∀j,j∈m->j<N)->m.length<=N
 |0,m,_,h=>by
  cases m with
  |nil=>simp
  |cons a l=>have:=h a (by simp);omega
 |N+1,m,hn,h=>by
  have ih:=td N (m.erase N) (hn.erase N) fun j hj=>by
   have Db:=List.mem_of_mem_erase hj
   have:=h j Db
   have aA:j≠N:=fun e=>by
    subst e
    exact (List.Nodup.mem_erase_iff hn).1 hj|>.1 rfl
   omega
  rw [List.length_erase] at ih
  split at ih<;>omega
section
variable {P:Program} {E0:Env} {n:Nat} {ops:Array Oper} {J:Nat->Prop} {base:Nat} {w0:World} {Q:Exit->Act->World->Prop} {os:List aw} {dep:List (List Nat)} {σ σ':Nat->AV} {g g':Nat->Option Bk} {k k':Nat} {rs:List Rec}
structure xU (E0:Env) (n:Nat) (ops:Array Oper) (J:Nat->Prop) (base:Nat) (w0:World) (σ:Nat->AV) (g:Nat->Option Bk) (k:Nat) (rs:List Rec) (listed:Array Bool) (a:Act) (w:World):Prop where
 ex:∃E:Env,E.w=w/\E0.Le E/\(∀t,ae E (a.tmps.getD t undef) (bo n (fun j=>listed.getD j false) rs σ t))/\aB E J base (bm (fun j=>listed.getD j false) rs g)/\
  (∀id,E.kn id->id<k\/∃j r,listed.getD j false=true/\rs[j]? =some r/\id∈r.keys)/\Mk E w0.heap.size a.defers
 size:a.tmps.size=n
 below:Below base w0 w
 gl:dQ E0
 eW:listed.size=ops.size
 closed:∀(j:Nat) op,ops[j]? =some op->listed.getD j false=true->∀e,e∈db op->listed.getD e false=true
theorem mB {e:Nat}:e∈db op↔∃x,x∈op.after/\Region.binds .any x=true/\x.on=e:=by
 unfold db
 rw [List.mem_filterMap]
 constructor
 ·rintro ⟨x,hx,h⟩
  split at h
  ·rename_i hb;simp only [KJ] at h;exact ⟨x,by simpa using hx,hb,h⟩
  ·simp at h
 ·rintro ⟨x,hx,hb,he⟩
  exact ⟨x,by simpa using hx,by simp [hb,he]⟩
theorem lD (hd:gr ops.toList dep=true) {listed:Array Bool} (hc:∀(j:Nat) op,ops[j]? =some op->listed.getD j false=true->∀e,e∈db op->listed.getD e false=true):
  ∀(j:Nat) op,ops[j]? =some op->(∀e,e∈db op->listed.getD e false=true)->∀i,i∈(dep[j]?).getD []->listed.getD i false=true:=by
 intro j
 induction j using Nat.strongRecOn with
 |_ j ih=>
  intro op bG di i hi
  have aU:j<ops.toList.length:=by simpa using (Lw.1 bG).1
  unfold gr at hd
  simp only [KM,KQ,Lo,Lk,K9,MC,L1] at hd
  have hj:=hd.2 j aU
  have lE:ops.toList[j]? =some op:=by simpa using bG
  simp only [lE,KV,LM] at hj
  obtain ⟨h1,h2⟩:=hj.2 i hi
  rcases h2 with h2|⟨e,he,h2⟩
  ·exact di i h2
  ·have Dc:e<j:=hj.1 e he
   have fp:e<ops.size:=by simp at aU;omega
   exact ih e Dc ops[e] (KX fp) (hc e _ (KX fp) (di e he)) i h2
end
open Go.RowKit
def kx:aw:=⟨none, .mov (.c (.v undef)),none⟩
def lF (k:Nat):Rec:=⟨none, .v undef,[],[],k⟩
def xV (dep:List (List Nat)) (b N:Nat):Bool:=
 ((List.range b).all fun i=>((dep[b]?).getD []).contains i)&&(List.range N).all fun j=>decide (j<=b)||((dep[j]?).getD []).contains b
section
variable {P:Program} {E0:Env} {n:Nat} {ops:Array Oper} {J:Nat->Prop} {base:Nat} {w0:World} {Q:Exit->Act->World->Prop} {os:List aw} {dep:List (List Nat)} {σ σ':Nat->AV} {g g':Nat->Option Bk} {k k':Nat} {rs:List Rec}
theorem Dd {rd:Option Nat} {i1:Nat} (dg:fW P n os σ g k rs σ' g' k') (hlen:os.length=i1) (hi1:i1<=ops.size) (dE:∀(j:Nat) op,i0<=j->j<i1->ops[j]? =some op->∃o,os[j]? =some o/\eK P ops op=some o)
  (hd:gr ops.toList dep=true) (bY:eM os dep=true) (hid:ew rs dep=true)
  (te:∀listed:Array Bool,(∀(j:Nat) op,ops[j]? =some op->listed.getD j false=true->∀e,e∈db op->listed.getD e false=true)->(∀j,listed.getD j false=true->j<i1)->(¬∀j,j<i1->listed.getD j false=true)->∀i op,ops[i]? =some op->(∀e,e∈db op->listed.getD e false=true)->i<i1)
  (hK:∀fuel listed a w,ec E0 J base w0 n σ' g' k' a w->listed.size=ops.size->(∀j,listed.getD j false=decide (j<i1))->(∀m:List Nat,(∀j,j∈m->j<ops.size/\listed.getD j true=false)->m.Nodup->m.length<=fuel)->wpAnyIn (cj rd) 0 P .any ops Q fuel listed a w):
  ∀(fuel:Nat) (listed:Array Bool) (a:Act) (w:World),xU E0 n ops J base w0 σ g k rs listed a w->(∀j,j<i0->listed.getD j false=true)->(∀j,listed.getD j false=true->j<i1)->(∀m:List Nat,(∀j,j∈m->j<ops.size/\listed.getD j true=false)->m.Nodup->m.length<=fuel)->wpAnyIn (cj rd) 0 P .any ops Q fuel listed a w:=by
 obtain ⟨c1,c2,c3,c4,c5,c6,c7⟩:=tc dg
 have done:∀(fuel:Nat) (listed:Array Bool) (a:Act) (w:World),xU E0 n ops J base w0 σ g k rs listed a w->(∀j,listed.getD j false=true->j<i1)->(∀m:List Nat,(∀j,j∈m->j<ops.size/\listed.getD j true=false)->m.Nodup->m.length<=fuel)->(∀j,j<i1->listed.getD j false=true)->wpAnyIn (cj rd) 0 P .any ops Q fuel listed a w:=by
  intro fuel listed a w hI dR eN bq
  obtain ⟨E,rfl,hle,h1,h2,h3,hmk⟩:=hI.ex
  have e6:bo n (fun j=>listed.getD j false) rs σ=σ':=by
   rw [c6];funext t
   refine ia _ 0 _ fun j r hr hl=>absurd ?_ hl
   rw [KY,bq j (by rw [<-hlen, <-c1];exact (KS.1 hr).1)]
  have e7:bm (fun j=>listed.getD j false) rs g=g':=by
   rw [c7];funext t
   refine ia _ 0 _ fun j r hr hl=>absurd ?_ hl
   rw [KY,bq j (by rw [<-hlen, <-c1];exact (KS.1 hr).1)]
  rw [e6] at h1;rw [e7] at h2
  refine hK fuel listed a E.w ⟨⟨E,rfl,hle,h1,h2,fun id hh=> ?_,hmk⟩,hI.size,hI.below,hI.gl⟩ hI.eW (fun j=> ?_) eN
  ·rcases h3 id hh with h|⟨j,r,_,hr,hk⟩
   ·exact K8 h c2
   ·exact c5 j r hr id hk
  ·by_cases hj:j<i1
   ·rw [bq j hj];simp [hj]
   ·cases hl:listed.getD j false with
    |true=>exact absurd (dR j hl) hj
    |false=>simp [hj]
 have first:∀(listed:Array Bool),listed.size=ops.size->(∀(j:Nat) op,ops[j]? =some op->listed.getD j false=true->∀e,e∈db op->listed.getD e false=true)->(¬∀j,j<i1->listed.getD j false=true)->Region.ready .any ops listed≠[]:=by
  intro listed cL bO bq hr
  refine bq fun j=> ?_
  induction j using Nat.strongRecOn with
  |_ j ih=>
   intro hj
   cases hl:listed.getD j false with
   |true=>rfl
   |false=>
    exfalso
    have jw:j<listed.size:=by rw [cL];omega
    have gM:j<ops.size:=by omega
    have:j∈Region.ready .any ops listed:=by
     rw [mem_ready]
     refine ⟨by simp [jw] at hl ⊢; exact hl,ops[j],KX gM,fun e he hb=> ?_⟩
     have cA:=hd
     unfold gr at cA
     simp only [KM,KQ,Lo,Lk] at cA
     have gN:=(cA.2 j (by simpa using gM)).1
     have lE:ops.toList[j]? =some ops[j]:=by simp [gM]
     simp only [lE,KV,LM] at gN
     have hlt:=gN e.on (mB.2 ⟨e,he,hb,rfl⟩)
     exact ih e.on hlt (by omega)
    rw [hr] at this
    simp at this
 intro fuel
 induction fuel with
 |zero=>
  intro listed a w hI fB dR eN
  by_cases bq:∀j,j<i1->listed.getD j false=true
  ·exact done 0 listed a w hI dR eN bq
  ·exfalso
   cases hr:Region.ready .any ops listed with
   |nil=>exact first listed hI.eW hI.closed bq hr
   |cons x xs=>
    have hx:x∈Region.ready .any ops listed:=by rw [hr];simp
    obtain ⟨m1,o,m2,_⟩:=mem_ready.1 hx
    have:=eN [x] (fun j hj=>by simp at hj;subst hj;exact ⟨(Lw.1 m2).1,m1⟩) (by simp)
    simp at this
 |succ fuel ih=>
  intro listed a w hI fB dR eN
  by_cases bq:∀j,j<i1->listed.getD j false=true
  ·exact done _ listed a w hI dR eN bq
  refine ⟨fun hr=>absurd hr (first listed hI.eW hI.closed bq),fun i hi=> ?_⟩
  obtain ⟨m1,op,m2,m3⟩:=mem_ready.1 hi
  have cg:i<ops.size:=(Lw.1 m2).1
  have cB:listed.getD i false=false:=by
   have:i<listed.size:=by rw [hI.eW];exact cg
   simp [this] at m1 ⊢; exact m1
  have di:∀e,e∈db op->listed.getD e false=true:=fun e he=>by
   obtain ⟨x,hx,hb,rfl⟩:=mB.1 he
   exact m3 x hx hb
  have fQ:i<i1:=te listed hI.closed dR bq i op m2 di
  have De:i0<=i:=by
   rcases Ls i i0 with h|h
   ·have:=fB i h;rw [cB] at this;simp at this
   ·exact h
  obtain ⟨o,ho,gO⟩:=dE i op De fQ m2
  obtain ⟨r,bZ,bU,hrun,dT⟩:=c3 i o ho
  obtain ⟨E,rfl,hle,h1,h2,h3,hmk⟩:=hI.ex
  -- Df is listed out of turn is free of this one
  have free:∀j rj oj,j≠i->rs[j]? =some rj->os[j]? =some oj->listed.getD j false≠upto i j->(gL (if i<j then o else oj) (if i<j then oj else o)=true/\eL (if i<j then r else rj) (if i<j then rj else r)=true):=by
   intro j rj oj aA aF aY hl
   have aU:j<os.length:=(KS.1 aY).1
   unfold eM at bY
   unfold ew at hid
   simp only [KQ,Lo,K9,L1] at bY hid
   by_cases aO:i<j
   ·rw [KL aO,KL aO,KL aO,KL aO]
    have aH:listed.getD j false=true:=by
     have hu:upto i j=false:=by simp [upto];omega
     rw [hu] at hl
     simpa using hl
    have cu:i∉(dep[j]?).getD []:=by
     intro cK
     have gM:j<ops.size:=by omega
     have:=lD hd hI.closed j ops[j] (KX gM) (hI.closed j _ (KX gM) aH) i cK
     rw [cB] at this;simp at this
    have s1:=(bY j aU i aO).resolve_left cu
    have s2:=(hid j (by rw [c1];exact aU) i aO).resolve_left cu
    rw [ho,aY] at s1;rw [bZ,aF] at s2
    exact ⟨s1,s2⟩
   ·rw [KK aO,KK aO,KK aO,KK aO]
    have bn:j<i:=by omega
    have aH:listed.getD j false=false:=by
     have hu:upto i j=true:=by simp [upto];omega
     rw [hu] at hl
     simpa using hl
    have cu:j∉(dep[i]?).getD []:=by
     intro cK
     have:=lD hd hI.closed i op m2 di j cK
     rw [aH] at this;simp at this
    have s1:=(bY i (by omega) j bn).resolve_left cu
    have s2:=(hid i (by omega) j bn).resolve_left cu
    rw [ho,aY] at s1;rw [bZ,aF] at s2
    exact ⟨s1,s2⟩
  have fC:∀(j:Nat) rj,rs[j]? =some rj->∃oj,os[j]? =some oj/\rj.dst=oj.dst:=fun j rj aF=>by
   have aU:j<os.length:=by rw [<-c1];exact (KS.1 aF).1
   obtain ⟨r',q1,q2,_,_⟩:=c3 j _ (K0 aU)
   rw [aF] at q1;simp only [KJ] at q1;subst q1
   exact ⟨_,K0 aU,q2⟩
  -- a slot n7 it looks at is as it comes one behind hY other
  have hσ:∀t,t∈o.gJ->bo n (fun j=>listed.getD j false) rs σ t=bo n (upto i) rs σ t:=by
   intro t ht
   refine ia _ 0 _ fun j rj aF hl=> ?_
   rw [KY] at hl
   by_cases aA:j=i
   ·subst aA;rw [cB] at hl;simp [upto] at hl
   ·obtain ⟨oj,aY,cA⟩:=fC j rj aF
    have hf:=(free j rj oj aA aF aY hl).1
    unfold gK
    rw [KK]
    rintro ⟨cX,_⟩
    rw [cA] at cX
    unfold gL at hf
    by_cases aO:i<j
    ·simp only [KL aO,cX,KM,K3,Lp,K6] at hf
     exact hf.2 ht
    ·simp only [KK aO,cX,KM,K3,Lp,K6] at hf
     exact hf.1.1 ht
  have hg:∀id,id∈r.acc->bm (fun j=>listed.getD j false) rs g id=bm (upto i) rs g id:=by
   intro id n8
   refine ia _ 0 _ fun j rj aF hl=> ?_
   rw [KY] at hl
   by_cases aA:j=i
   ·subst aA;rw [cB] at hl;simp [upto] at hl
   ·obtain ⟨oj,aY,cA⟩:=fC j rj aF
    have hf:=(free j rj oj aA aF aY hl).2
    cases hw:wg id rj with
    |none=>rfl
    |some y=>
     exfalso
     have hk:id∈rj.keys:=ju (by unfold wg at hw;rw [hw];simp)
     unfold eL at hf
     by_cases aO:i<j
     ·simp only [KL aO,KM,KQ,K3,Lp,K6] at hf
      exact hf.2 id hk n8
     ·simp only [KK aO,KM,KQ,K3,Lp,K6] at hf
      exact (hf.1 id hk).1 n8
  -- a name n7 Dg has
  have nQ:∃fA,¬E.kn fA/\(r.fr∈r.ups.map Prod.fst->fA=r.fr):=by
   by_cases fQ:r.fr∈r.ups.map Prod.fst
   ·refine ⟨r.fr,fun hk=> ?_,fun _=>rfl⟩
    rcases h3 _ hk with h|⟨j,rj,aH,aF,cv⟩
    ·omega
    ·by_cases aA:j=i
     ·subst aA;rw [cB] at aH;simp at aH
     ·by_cases aO:i<j
      ·obtain ⟨oj,aY,_⟩:=fC j rj aF
       have hf:=(free j rj oj aA aF aY (by rw [aH];simp [upto];omega)).2
       unfold eL at hf
       simp only [KL aO,KM,KQ,K3,Lp,K6] at hf
       exact (hf.1 _ fQ).2 cv
      ·have:=c4 j i rj r (by omega) aF bZ _ cv
       exact LZ _ this
   ·refine ⟨k',fun hk=> ?_,fun h=>absurd h fQ⟩
    rcases h3 _ hk with h|⟨j,rj,aH,aF,cv⟩
    ·omega
    ·exact LZ _ (c5 j rj aF _ cv)
  obtain ⟨fA,tg,ti⟩:=nQ
  obtain ⟨tb,tj⟩:=hrun.local hσ hg ti
  refine s9 (hI.gl.step hle) h1 h2 tg m2 gO tj fun v E' hE hv hM hB aX=> ?_
  -- it is listed now
  have cM:∀j,(listed.setIfInBounds i true).getD j false=if j=0+i then true else listed.getD j false:=by
   intro j
   rw [KY]
   have fX:i<listed.size:=by rw [hI.eW];exact cg
   by_cases bn:j=i
   ·subst bn;simp [fX]
   ·rw [KK bn,getD_set_ne false (Ne.symm bn)]
  have lG:∀t,bo n (fun j=>(listed.setIfInBounds i true).getD j false) rs σ t=bp n o.dst r.val (bo n (fun j=>listed.getD j false) rs σ) t:=by
   intro t
   rw [<-bU,jv]
   refine lC rs 0 i _ r bZ (by rw [KY];exact cB) cM fun j rj aO aF aH=> ?_
   rw [KY] at aH
   obtain ⟨oj,aY,cA⟩:=fC j rj aF
   have hf:=(free j rj oj (by omega) aF aY (by rw [aH];simp [upto];omega)).1
   unfold gL at hf
   simp only [KL aO] at hf
   by_cases gp:r.dst=some t
   ·left
    unfold gK
    rw [KK]
    rintro ⟨cX,_⟩
    rw [bU] at gp
    rw [cA] at cX
    simp only [gp,cX,KM,bne_iff_ne,ne_eq] at hf
    exact hf.1.2 trivial
   ·right
    unfold gK
    rw [KK]
    rintro ⟨cX,_⟩
    exact gp cX
  have ng:∀id,bm (fun j=>(listed.setIfInBounds i true).getD j false) rs g id=aj (bm (fun j=>listed.getD j false) rs g) r.ups id:=by
   intro id
   rw [iQ]
   refine lC rs 0 i _ r bZ (by rw [KY];exact cB) cM fun j rj aO aF aH=> ?_
   rw [KY] at aH
   obtain ⟨oj,aY,cA⟩:=fC j rj aF
   have hf:=(free j rj oj (by omega) aF aY (by rw [aH];simp [upto];omega)).2
   unfold eL at hf
   simp only [KL aO,KM,KQ,K3,Lp,K6] at hf
   cases hw:wg id r with
   |none=>exact .inr rfl
   |some y=>
    left
    cases hw2:wg id rj with
    |none=>rfl
    |some y2=>
     exfalso
     have k1:id∈r.keys:=ju (by unfold wg at hw;rw [hw];simp)
     have k2:id∈rj.keys:=ju (by unfold wg at hw2;rw [hw2];simp)
     exact (hf.1 id k1).2 k2
  refine ih _ _ _ ⟨⟨E',rfl,hle.trans hE,fun t=> ?_, ?_,fun id hh=> ?_, ?_⟩, ?_,hI.below.trans hB,hI.gl,by simpa using hI.eW,fun j oj aY aH e he=> ?_⟩ (fun j hj=>getD_set_true (fB j hj)) (fun j hj=> ?_) fun m hm cu=> ?_
  ·rw [lG t]
   have:=mz hE h1 hv o.dst t
   rw [hI.size] at this
   exact this
  ·rw [show bm (fun j=>(listed.setIfInBounds i true).getD j false) rs g=aj (bm (fun j=>listed.getD j false) rs g) r.ups from funext ng]
   exact hM
  ·rcases aX id hh with h|h
   ·rcases h3 id h with h|⟨j,rj,q1,q2,q3⟩
    ·exact .inl h
    ·exact .inr ⟨j,rj,getD_set_true q1,q2,q3⟩
   ·refine .inr ⟨i,r, ?_,bZ,h⟩
    rw [cM i,KY,KL rfl]
  ·rw [(fU a o.dst v).2];exact hmk.step hE
  ·rw [(fU a o.dst v).1];exact hI.size
  ·rw [cM j,KY] at aH
   by_cases bn:j=i
   ·subst bn
    rw [m2] at aY;simp only [KJ] at aY;subst aY
    exact getD_set_true (di e he)
   ·rw [KK bn] at aH
    exact getD_set_true (hI.closed j oj aY aH e he)
  ·rw [cM j,KY] at hj
   by_cases bn:j=i
   ·rw [bn];exact fQ
   ·rw [KK bn] at hj;exact dR j hj
  ·have ky:i∉m:=fun cK=>by
    have:=(hm i cK).2
    have fX:i<listed.size:=by rw [hI.eW];exact cg
    simp [fX] at this
   have:=eN (i::m) (fun j hj=>by
    rcases KU.1 hj with rfl|hj
    ·exact ⟨cg,m1⟩
    ·refine ⟨(hm j hj).1, ?_⟩
     have h5:=(hm j hj).2
     have bn:i≠j:=fun e=>ky (e▸hj)
     rwa [getD_set_ne true bn] at h5) (List.nodup_cons.2 ⟨ky,cu⟩)
   simpa using this
inductive jx (P:Program) (n:Nat) (dep:List (List Nat)):List aw->(Nat->AV)->(Nat->Option Bk)->Nat->List Rec->(Nat->AV)->(Nat->Option Bk)->Nat->Prop
 |nil {σ:Nat->AV} {g:Nat->Option Bk} {k:Nat} {rs:List Rec} (hid:ew rs dep=true):jx P n dep [] σ g k rs σ g k
 |cons {o:aw} {os:List aw} {σ σ':Nat->AV} {g g':Nat->Option Bk} {k k1 k':Nat} {val:AV} {ups:List (Nat×Option Bk)} {acc:List Nat} {rs:List Rec} (h:da P σ g k o val ups acc) (hk:k<=k1) (hu:∀id,id∈ups.map Prod.fst->id<k1)
   (hr:jx P n dep os (bp n o.dst val σ) (aj g ups) k1 (rs++[⟨o.dst,val,ups,acc,k⟩]) σ' g' k'):jx P n dep (o::os) σ g k rs σ' g' k'
 |Dh {o:aw} {os:List aw} {σ σ':Nat->AV} {g g1 g':Nat->Option Bk} {k k1 k':Nat} {f:FuncId} {as_:List AV} {r:AV} {rs:List Rec} (hid:ew rs dep=true) (hb:xV dep rs.length (rs.length+1+os.length)=true) (hg:bH σ o.guard=some true)
   (h:(o.ao.af k (aD σ)).run g=some (.call f as_)) (hc:bT P f=true) (hf:Fi P f as_ g k r g1 k1) (hr:jx P n dep os (bp n o.dst r σ) g1 k1 (List.replicate (rs.length+1) (lF k1)) σ' g' k'):jx P n dep (o::os) σ g k rs σ' g' k'
theorem Di:da P σ g k kx (.v undef) [] []:= .done (val:= .v undef) (ups:=[]) rfl rfl
theorem fW.xW:∀i,fW P n (List.replicate i kx) σ g k (List.replicate i (lF k)) σ g k
 |0=> .nil
 |i+1=>by
  rw [List.replicate_succ,List.replicate_succ]
  exact .cons (o:=kx) (k1:=k) Di (KO _) (by simp) (fW.xW i)
theorem fW.snoc {k1:Nat} (h0:fW P n os σ g k rs σ' g' k') (h:da P σ' g' k' o val ups acc) (hk:k'<=k1) (hu:∀id,id∈ups.map Prod.fst->id<k1):fW P n (os++[o]) σ g k (rs++[⟨o.dst,val,ups,acc,k'⟩]) (bp n o.dst val σ') (aj g' ups) k1:=by
 induction h0 with
 |nil=>exact .cons h hk hu .nil
 |cons h1 h2 h3 h4 ih=>exact .cons h1 h2 h3 (ih h hk)
theorem Dj {pre:List aw} (h:eM full dep=true) (hl:pre.length<=full.length) (h1:∀j,i0<=j->j<pre.length->pre[j]? =full[j]?) (h2:∀j,j<i0->j<pre.length->pre[j]? =some kx):eM pre dep=true:=by
 unfold eM at h ⊢
 simp only [KQ,Lo,K9] at h ⊢
 intro j hj i hi
 rcases h j (by omega) i hi with h|h
 ·exact .inl h
 ·right
  by_cases hi0:i0<=i
  ·rw [h1 i hi0 (by omega),h1 j (by omega) hj];exact h
  ·rw [h2 i (by omega) (by omega)]
   cases hp:pre[j]? with
   |none=>simp [List.getElem?_eq_none_iff] at hp;omega
   |some y=>
    simp only [gL,kx,aw.gJ,AO.nZ,Arg.slot,Bool.true_and]
    split<;>simp
theorem Dk {rd:Option Nat} (ic:full.length=ops.size) (dE:∀(j:Nat) op,ops[j]? =some op->∃o,full[j]? =some o/\eK P ops op=some o) (hd:gr ops.toList dep=true) (bY:eM full dep=true)
  (hQ:∀a w,ec E0 J base w0 n σ' g' k' a w->Q .normal a w) (h:jx P n dep os σ g k rs σ' g' k'):
  ∀(i0:Nat) (pre:List aw) (cG:Nat->AV) (g0:Nat->Option Bk) (kk:Nat),fW P n pre cG g0 kk rs σ g k->i0<=pre.length->pre.length+os.length=full.length->(∀j,i0<=j->(pre++os)[j]? =full[j]?)->(∀j,j<i0->pre[j]? =some kx/\∃q,rs[j]? =some (lF q))->
   ∀(fuel:Nat) (listed:Array Bool) (a:Act) (w:World),ec E0 J base w0 n cG g0 kk a w->listed.size=ops.size->(∀j,listed.getD j false=decide (j<i0))->(∀m:List Nat,(∀j,j∈m->j<ops.size/\listed.getD j true=false)->m.Nodup->m.length<=fuel)->wpAnyIn (cj rd) 0 P .any ops Q fuel listed a w:=by
 have tl:∀(j:Nat) op,ops[j]? =some op->∀e,e∈db op->e<j:=by
  intro j op bG e he
  have gM:j<ops.size:=(Lw.1 bG).1
  have cA:=hd
  unfold gr at cA
  simp only [KM,KQ,Lo,Lk] at cA
  have gN:=(cA.2 j (by simpa using gM)).1
  have lE:ops.toList[j]? =some op:=by simpa using bG
  simp only [lE,KV,LM] at gN
  exact gN e he
 -- a phase, given Kl comes behind it
 have phase:∀{os:List aw} {σ:Nat->AV} {g:Nat->Option Bk} {k:Nat} {rs:List Rec} (i0:Nat) (pre:List aw) (cG:Nat->AV) (g0:Nat->Option Bk) (kk:Nat),fW P n pre cG g0 kk rs σ g k->i0<=pre.length->pre.length+os.length=full.length->(∀j,i0<=j->(pre++os)[j]? =full[j]?)->(∀j,j<i0->pre[j]? =some kx/\∃q,rs[j]? =some (lF q))->ew rs dep=true->
   (∀listed:Array Bool,(∀(j:Nat) op,ops[j]? =some op->listed.getD j false=true->∀e,e∈db op->listed.getD e false=true)->(∀j,listed.getD j false=true->j<pre.length)->(¬∀j,j<pre.length->listed.getD j false=true)->∀i op,ops[i]? =some op->(∀e,e∈db op->listed.getD e false=true)->i<pre.length)->
   (∀fuel listed a w,ec E0 J base w0 n σ g k a w->listed.size=ops.size->(∀j,listed.getD j false=decide (j<pre.length))->(∀m:List Nat,(∀j,j∈m->j<ops.size/\listed.getD j true=false)->m.Nodup->m.length<=fuel)->wpAnyIn (cj rd) 0 P .any ops Q fuel listed a w)->
   ∀(fuel:Nat) (listed:Array Bool) (a:Act) (w:World),ec E0 J base w0 n cG g0 kk a w->listed.size=ops.size->(∀j,listed.getD j false=decide (j<i0))->(∀m:List Nat,(∀j,j∈m->j<ops.size/\listed.getD j true=false)->m.Nodup->m.length<=fuel)->wpAnyIn (cj rd) 0 P .any ops Q fuel listed a w:=by
  intro os σ g k rs i0 pre cG g0 kk dg hi0 aZ jy kz hid te hK fuel listed a w hrel cL cM eN
  have xX:∀j,i0<=j->j<pre.length->pre[j]? =full[j]? :=fun j h1 h2=>by
   have:=jy j h1
   rwa [LH h2] at this
  refine Dd (i0:=i0) dg rfl (by omega) (fun j op h1 h2 bG=> ?_) hd (Dj bY (by omega) xX fun j h1 _=>(kz j h1).1) hid te hK fuel listed a w ?_ (fun j hj=>by rw [cM];simpa using hj) (fun j hj=>by rw [cM] at hj;simp at hj;omega) eN
  ·rw [xX j h1 h2];exact dE j op bG
  ·obtain ⟨E,rfl,hle,h1,h2,h3,hmk⟩:=hrel.ex
   have z:∀{β:Type} (wt:Rec->Option β) (x:β),(∀q,wt (lF q)=none)->cT (fun j=>listed.getD j false) wt 0 rs x=x:=by
    intro β wt x hw
    refine ib rs 0 x fun j r hr hl=> ?_
    rw [KY,cM] at hl
    obtain ⟨q,hq⟩:=(kz j (by simpa using hl)).2
    rw [hq] at hr;simp only [KJ] at hr;subst hr
    exact hw q
   have e1:bo n (fun j=>listed.getD j false) rs cG=cG:=by funext t;exact z _ _ fun q=>by simp [gK,lF]
   have e2:bm (fun j=>listed.getD j false) rs g0=g0:=by funext t;exact z _ _ fun q=>by simp [wg,lF,kv]
   refine ⟨⟨E,rfl,hle, ?_, ?_,fun id hh=> .inl (h3 id hh),hmk⟩,hrel.size,hrel.below,hrel.gl,cL,fun j op bG hl e he=> ?_⟩
   ·rw [e1];exact h1
   ·rw [e2];exact h2
   ·rw [cM] at hl ⊢
    have:=tl j op bG e he
    simp at hl ⊢; omega
 induction h with
 | @nil σ g k rs hid=>
  intro i0 pre cG g0 kk dg hi0 aZ jy kz
  have p8:pre.length=ops.size:=by simp at aZ;omega
  refine phase i0 pre cG g0 kk dg hi0 aZ jy kz hid (fun listed _ _ _ i op bG _=> ?_) fun fuel listed a w hrel cL cM eN=> ?_
  ·rw [p8];exact (Lw.1 bG).1
  ·have hr:Region.ready .any ops listed=[]:=by
    cases hr:Region.ready .any ops listed with
    |nil=>rfl
    |cons x xs=>
     have hx:x∈Region.ready .any ops listed:=by rw [hr];simp
     obtain ⟨m1,o,m2,_⟩:=mem_ready.1 hx
     have tm:x<ops.size:=(Lw.1 m2).1
     have Dl:x<listed.size:=by rw [cL];exact tm
     have h5:=cM x
     rw [p8] at h5
     simp [Dl,tm] at h5 m1
     rw [h5] at m1;simp at m1
   cases fuel with
   |zero=>exact ⟨hr,hQ a w hrel⟩
   |succ fuel=>exact ⟨fun _=>hQ a w hrel,fun i hi=>by rw [hr] at hi;simp at hi⟩
 | @cons o os σ σ' g g' k k1 k' val ups acc rs h hk hu hr ih=>
  intro i0 pre cG g0 kk dg hi0 aZ jy kz
  obtain ⟨c1,_⟩:=tc dg
  refine ih hQ i0 (pre++[o]) cG g0 kk (dg.snoc h hk hu) (by simp;omega) (by simp at aZ ⊢; omega) (fun j hj=>by rw [L4];exact jy j hj) fun j hj=> ?_
  obtain ⟨d1,q,d2⟩:=kz j hj
  exact ⟨by rw [LH (by omega)];exact d1,q,by rw [LH (by omega)];exact d2⟩
 | @Dh o os σ σ' g g1 g' k k1 k' f as_ r rs hid hb hg h bO hf hr ih=>
  intro i0 pre cG g0 kk dg hi0 aZ jy kz
  obtain ⟨c1,_⟩:=tc dg
  obtain ⟨b,fD⟩:∃b,pre.length=b:=⟨_,rfl⟩
  rw [c1,fD] at hb
  have hbl:b<ops.size:=by simp at aZ;omega
  have Dm:full[b]? =some o:=by
   have:=jy b (by omega)
   rw [<-this,LX (by omega),fD,Nat.sub_self];rfl
  unfold xV at hb
  simp only [KM,KQ,Lo,K9,Lk,L1] at hb
  have xY:∀listed:Array Bool,(∀(j:Nat) op,ops[j]? =some op->listed.getD j false=true->∀e,e∈db op->listed.getD e false=true)->(∀j,listed.getD j false=true->j<b)->∀i op,ops[i]? =some op->(∀e,e∈db op->listed.getD e false=true)->i<=b:=by
   intro listed bO dR i op bG di
   rcases Ls b i with hlt|hge
   ·exfalso
    have hi:i<ops.size:=(Lw.1 bG).1
    have hm:=(hb.2 i (by simp at aZ;omega)).resolve_left (by omega)
    exact LZ _ (dR b (lD hd bO i op bG di b hm))
   ·exact hge
  refine phase i0 pre cG g0 kk dg hi0 aZ jy kz hid (fun listed bO dR bq i op bG di=> ?_) fun fuel listed a w hrel cL cM eN=> ?_
  ·rw [fD] at dR bq ⊢
   have h1:=xY listed bO dR i op bG di
   rcases Ls i b with h2|h2
   ·exact h2
   ·exfalso
    have e:i=b:=by omega
    subst e
    exact bq fun j hj=>lD hd bO i op bG di j (hb.1 j hj)
  ·rw [fD] at cM
   have tn:b<listed.size:=by rw [cL];exact hbl
   have hcd:∀(j:Nat) op,ops[j]? =some op->listed.getD j false=true->∀e,e∈db op->listed.getD e false=true:=fun j op bG hl e he=>by
    rw [cM] at hl ⊢
    have:=tl j op bG e he
    simp at hl ⊢; omega
   have xZ:listed.getD b true=false:=by
    have:=cM b
    simp [tn] at this ⊢; exact this
   cases fuel with
   |zero=>
    have:=eN [b] (fun j hj=>by simp at hj;subst hj;exact ⟨hbl,xZ⟩) (by simp)
    simp at this
   |succ fuel=>
    refine ⟨fun hr=> ?_,fun i hi=> ?_⟩
    ·have:b∈Region.ready .any ops listed:=by
      rw [mem_ready]
      refine ⟨xZ,ops[b],KX hbl,fun e he hb=> ?_⟩
      have:=tl b _ (KX hbl) e.on (mB.2 ⟨e,he,hb,rfl⟩)
      rw [cM];simpa using this
     rw [hr] at this;simp at this
    ·obtain ⟨m1,op,m2,m3⟩:=mem_ready.1 hi
     have cg:i<ops.size:=(Lw.1 m2).1
     have di:∀e,e∈db op->listed.getD e false=true:=fun e he=>by
      obtain ⟨x,hx,hb,rfl⟩:=mB.1 he
      exact m3 x hx hb
     have Dn:i=b:=by
      have h1:=xY listed hcd (fun j hj=>by rw [cM] at hj;simpa using hj) i op m2 di
      rcases Ls i b with h2|h2
      ·exfalso
       have Dp:i<listed.size:=by rw [cL];exact cg
       have h5:=cM i
       simp [Dp,h2] at h5 m1
       rw [h5] at m1;simp at m1
      ·omega
     subst Dn
     obtain ⟨o',gj,h3⟩:=dE i op m2
     rw [Dm] at gj;simp only [KJ] at gj;subst gj
     obtain ⟨E,rfl,hle,hs,hm,aX,hmk⟩:=hrel.ex
     have hdd:=nX h3
     have cS:∀e,op.semAt (cj rd).round e=execOp e op:=fun e=>MB (cj rd) _ _ (my hdd.2)
     unfold wpOpIn
     simp only [m2]
     rw [jt hs h3 hg,KL rfl]
     obtain ⟨vs,e1,e2⟩:=nS (dA.of (hrel.gl.step hle) hs) hdd.2 h bO
     unfold Oper.wpIn
     rw [cS,e1,Oper.uponIn_enter]
     refine ⟨iP,mw,nV ((hf E J base vs (hrel.gl.step hle) hm aX e2).mono ?_)⟩
     rintro e w' ⟨v,E',rfl,rfl,q1,q2,q3,q4,q5⟩
     refine ih hQ (i+1) (List.replicate (i+1) kx) _ _ _ (by rw [c1,fD];exact fW.xW (i+1)) (by simp) (by simp at aZ ⊢; omega) (fun j hj=> ?_) (fun j hj=>⟨by simp [hj],k1,by rw [c1,fD];simp [hj]⟩) fuel _ _ _ ⟨⟨E',rfl,hle.trans q1, ?_,q3,q5, ?_⟩, ?_, ?_,hrel.gl⟩ (by simpa using cL) (fun j=> ?_) fun m hH cu=> ?_
     ·have h7:=jy j (by omega)
      rw [<-h7,LX (by simp;omega),LX (by omega),fD]
      simp only [MF]
      rw [show j - i=(j - (i+1))+1 by omega,LD]
     ·have:=mz q1 hs q2 op.dst
      rw [hrel.size] at this
      rw [hdd.1]
      exact this
     ·rw [(fU a op.dst v).2];exact hmk.step q1
     ·rw [(fU a op.dst v).1];exact hrel.size
     ·exact hrel.below.trans q4
     ·by_cases bn:j=i
      ·subst bn;simp [tn]
      ·rw [getD_set_ne false (Ne.symm bn),cM j,decide_eq_decide];omega
     ·have ky:i∉m:=fun cK=>by
       have:=(hH i cK).2
       simp [tn] at this
      have:=eN (i::m) (fun j hj=>by
       rcases KU.1 hj with rfl|hj
       ·exact ⟨cg,m1⟩
       ·refine ⟨(hH j hj).1, ?_⟩
        have h5:=(hH j hj).2
        have bn:i≠j:=fun e=>ky (e▸hj)
        rwa [getD_set_ne true bn] at h5) (List.nodup_cons.2 ⟨ky,cu⟩)
      simpa using this
theorem Dq {id:Nat} (tp:P.follows .mixedOrders=true) (h:jx P n dep os σ g k [] σ' g' k') (hlen:os.length=ops.size) (dE:∀(j:Nat) op,ops[j]? =some op->∃o,os[j]? =some o/\eK P ops op=some o)
  (hd:gr ops.toList dep=true) (bY:eM os dep=true) (hQ:∀a w,ec E0 J base w0 n σ' g' k' a w->Q .normal a w) {a:Act} (hrel:ec E0 J base w0 n σ g k a w) {rd:Option Nat}:(Code.region id ops true).wpIn (cj rd) 0 P Q a w:=by
 refine wpIn_region_any tp ?_
 obtain ⟨E,rfl,hle,h1,h2,h3,hmk⟩:=hrel.ex
 obtain ⟨E',hw,hE,hM,_,hk,_,_⟩:=h2.drew
 have cF:∀(j:Nat),(Array.replicate ops.size false).getD j false=false:=by
  intro j
  rcases Ls j ops.size with h|h
  ·simp [h]
  ·simp [h]
 refine Dk hlen dE hd bY hQ h 0 [] σ g k .nil (by simp) (by simp) (fun j _=>by simp) (fun j hj=>by omega) ops.size _ a _ ⟨⟨E',hw,hle.trans hE,fun t=>(h1 t).step hE,hM,fun id hh=>h3 id ((hk id).1 hh),hmk.step hE⟩,hrel.size,hrel.below.drew,hrel.gl⟩ (by simp) (fun j=>by rw [cF];simp) fun m hm cu=> ?_
 exact td _ _ cu fun j hj=>(hm j hj).1
end
open Go.RowKit
inductive AC where
 |skip
 |bI (os:List aw) (dep:Option (List (List Nat)))
 |seq (a b:AC)
 |cond (c:Arg) (a b:AC)
 |block (id:Nat) (a:AC)
 |loop (a:AC)
 |exit (id:Nat)
 |ret
 |qh (g:Arg) (ps:List Nat) (a b:AC)
variable {b ac y:AC}
def AC.iR:AC->Bool
 | .seq a b| .cond _ a b=>a.iR||b.iR
 | .block _ a| .loop a=>a.iR
 | .qh _ _ _ _=>true
 |_=>false
def mC (P:Program) (ops:Array Oper):List Oper->Option (List aw)
 |[]=>some []
 |o::r=>match eK P ops o,mC P ops r with
  |some x,some l=>some (x::l)
  |_,_=>none
def tq (ops:List Oper):List (List Nat):=
 ops.foldl (fun acc o=>acc++[(db o++(db o).flatMap fun e=>(acc[e]?).getD []).eraseDups]) []
def cCode (P:Program):Code->Option AC
 | .skip=>some .skip
 | .region _ ops draw=>match mC P ops ops.toList with
  |some os=>if draw=true then
    (if gr ops.toList (tq ops.toList)=true/\eM os (tq ops.toList)=true/\P.follows .mixedOrders=true then some (.bI os (some (tq ops.toList))) else none)
   else some (.bI os none)
  |none=>none
 | .seq a b=>match cCode P a,cCode P b with
  |some x,some y=>some (.seq x y)
  |_,_=>none
 | .cond c a b=>match cArg c,cCode P a,cCode P b with
  |some c,some x,some y=>some (.cond c x y)
  |_,_,_=>none
 | .block id a=>(cCode P a).map (.block id)
 | .loop a=>(cCode P a).map .loop
 | .exit id=>some (.exit id)
 | .ret=>some .ret
 | .rangeFunc g ps a b=>match cArg g,cCode P a,cCode P b with
  |some g,some x,some y=>some (.qh g ps.toList x y)
  |_,_,_=>none
 |_=>none
structure S3 where
 σ:Nat->AV
 g:Nat->Option Bk
 k:Nat
variable {s':S3}
inductive Ex where
 |normal
 |exit (id:Nat)
 |ret
def Ex.up:Ex->Exit
 | .normal=> .normal
 | .exit id=> .exit id
 | .ret=> .ret
def EW (P:Program) (n k0:Nat) (ac:AC) (s:S3) (Q:Ex->S3->Prop):Prop:=
 ∀(rd:Option Nat) (c:Code) (E0:Env) (J:Nat->Prop) (base:Nat) (w0:World) (a:Act) (w:World),(ac.iR=true->rd=none)->cCode P c=some ac->(∀id,E0.kn id->id<k0)->ec E0 J base w0 n s.σ s.g s.k a w->
  c.wpIn (cj rd) 0 P (fun e a' w'=>∃x s',Q x s'/\e=x.up/\ec E0 J base w0 n s'.σ s'.g s'.k a' w') a w
section
variable {P:Program} {n k0:Nat} {s:S3} {Q:Ex->S3->Prop}
theorem EW.jz {Q':Ex->S3->Prop} (h:EW P n k0 ac s Q) (hq:∀x s,Q x s->Q' x s):EW P n k0 ac s Q':=by
 intro rd c E0 J base w0 a w bU hc hk hr
 exact wpIn_mono (h rd c E0 J base w0 a w bU hc hk hr) fun e a' w' ⟨x,s',h1,h2,h3⟩=>⟨x,s',hq x s' h1,h2,h3⟩
def S3.Le (k0 n:Nat) (s s':S3):Prop:=∀(E0:Env) (J:Nat->Prop) (base:Nat) (w0:World) (a:Act) (w:World),(∀id,E0.kn id->id<k0)->ec E0 J base w0 n s.σ s.g s.k a w->ec E0 J base w0 n s'.σ s'.g s'.k a w
theorem EW.iS (hs:s.Le k0 n s') (h:EW P n k0 ac s' Q):EW P n k0 ac s Q:=by
 intro rd c E0 J base w0 a w bU hc hk hr
 exact h rd c E0 J base w0 a w bU hc hk (hs E0 J base w0 a w hk hr)
theorem Dr (h:cCode P c=some .skip):c= .skip:=by
 cases c<;>simp [cCode] at h ⊢
 case region id ops draw=>
  split at h
  ·split at h
   ·split at h<;>simp at h
   ·simp at h
  ·simp at h
 case seq a b=>split at h<;>simp at h
 case cond c a b=>split at h<;>simp at h
 case rangeFunc=>split at h<;>simp at h
theorem EW.skip (h:Q .normal s):EW P n k0 .skip s Q:=by
 intro rd c E0 J base w0 a w bU hc hk hr
 rw [Dr hc]
 exact wpIn_skip ⟨.normal,s,h,rfl,hr⟩
theorem Ds (h:cCode P c=some .ret):c= .ret:=by
 cases c<;>simp [cCode] at h ⊢
 case region id ops draw=>
  split at h
  ·split at h
   ·split at h<;>simp at h
   ·simp at h
  ·simp at h
 case seq a b=>split at h<;>simp at h
 case cond c a b=>split at h<;>simp at h
 case rangeFunc=>split at h<;>simp at h
theorem EW.ret (h:Q .ret s):EW P n k0 .ret s Q:=by
 intro rd c E0 J base w0 a w bU hc hk hr
 rw [Ds hc]
 exact wpIn_ret ⟨.ret,s,h,rfl,hr⟩
theorem Dt {id:Nat} (h:cCode P c=some (.exit id)):c= .exit id:=by
 cases c<;>simp [cCode] at h ⊢
 case region id ops draw=>
  split at h
  ·split at h
   ·split at h<;>simp at h
   ·simp at h
  ·simp at h
 case seq a b=>split at h<;>simp at h
 case cond c a b=>split at h<;>simp at h
 case rangeFunc=>split at h<;>simp at h
 case exit=>exact h
theorem EW.exit {id:Nat} (h:Q (.exit id) s):EW P n k0 (.exit id) s Q:=by
 intro rd c E0 J base w0 a w bU hc hk hr
 rw [Dt hc]
 exact wpIn_exit ⟨.exit id,s,h,rfl,hr⟩
theorem Du {x:AC} (h:cCode P c=some (.seq x y)):∃a b,c= .seq a b/\cCode P a=some x/\cCode P b=some y:=by
 cases c with
 |seq a b=>
  simp only [cCode] at h
  split at h
  ·rename_i h1 h2
   simp only [KJ,AC.seq.injEq] at h
   obtain ⟨rfl,rfl⟩:=h
   exact ⟨a,b,rfl,h1,h2⟩
  ·simp at h
 |_=>
  exfalso
  simp only [cCode] at h
  repeat' (first|(simp at h;done)|split at h)
def Ex.then (next:S3->Prop) (Q:Ex->S3->Prop):Ex->S3->Prop
 | .normal,s=>next s
 |e,s=>Q e s
theorem EW.seq {x y:AC} (h:EW P n k0 x s (Ex.then (fun s'=>EW P n k0 y s' Q) Q)):EW P n k0 (.seq x y) s Q:=by
 intro rd c E0 J base w0 a w bU hc hk hr
 obtain ⟨ca,cb,rfl,h1,h2⟩:=Du hc
 refine wpIn_seq (wpIn_mono (h rd ca E0 J base w0 a w (fun hh=>bU (by simp [AC.iR,hh])) h1 hk hr) ?_)
 rintro e a' w' ⟨x,s',hq,rfl,hr'⟩
 cases x with
 |normal=>exact hq rd cb E0 J base w0 a' w' (fun hh=>bU (by simp [AC.iR,hh])) h2 hk hr'
 |exit id=>exact ⟨.exit id,s',hq,rfl,hr'⟩
 |ret=>exact ⟨.ret,s',hq,rfl,hr'⟩
theorem Dv {b:Arg} {x:AC} (h:cCode P c=some (.cond b x y)):∃o p q,c= .cond o p q/\cArg o=some b/\cCode P p=some x/\cCode P q=some y:=by
 cases c with
 |cond c p q=>
  simp only [cCode] at h
  split at h
  ·rename_i h1 h2 h3
   simp only [KJ,AC.cond.injEq] at h
   obtain ⟨rfl,rfl,rfl⟩:=h
   exact ⟨c,p,q,rfl,h1,h2,h3⟩
  ·simp at h
 |_=>
  exfalso
  simp only [cCode] at h
  repeat' (first|(simp at h;done)|split at h)
theorem EW.cond {b:Arg} {x y:AC} {t:Bool} (hb:aD s.σ b= .v (.bool t)) (h:EW P n k0 (if t=true then x else y) s Q):EW P n k0 (.cond b x y) s Q:=by
 intro rd c E0 J base w0 a w bU hc hk hr
 obtain ⟨o,p,q,rfl,h1,h2,h3⟩:=Dv hc
 obtain ⟨E,rfl,hle,hs,hm,aX,hmk⟩:=hr.ex
 have:=dA.of (hr.gl.step hle) hs o b h1
 rw [hb] at this
 refine wpIn_cond this.fu ?_
 cases t with
 |true=>exact h rd p E0 J base w0 a _ (fun hh=>bU (by simp only [KN] at hh;simp [AC.iR,hh])) h2 hk hr
 |false=>exact h rd q E0 J base w0 a _ (fun hh=>bU (by simp only [LF,Lh] at hh;simp [AC.iR,hh])) h3 hk hr
theorem Dw {id:Nat} {x:AC} (h:cCode P c=some (.block id x)):∃b,c= .block id b/\cCode P b=some x:=by
 cases c with
 |block i b=>
  simp only [cCode] at h
  cases hb:cCode P b with
  |none=>simp [hb] at h
  |some y=>
   simp only [hb,KV,KJ,AC.block.injEq] at h
   obtain ⟨rfl,rfl⟩:=h
   exact ⟨b,rfl,hb⟩
 |_=>
  exfalso
  simp only [cCode] at h
  repeat' (first|(simp at h;done)|split at h)
def Ex.inBlock (id:Nat) (Q:Ex->S3->Prop):Ex->S3->Prop
 | .exit i,s=>if i=id then Q .normal s else Q (.exit i) s
 |e,s=>Q e s
theorem EW.block {id:Nat} {x:AC} (h:EW P n k0 x s (Ex.inBlock id Q)):EW P n k0 (.block id x) s Q:=by
 intro rd c E0 J base w0 a w bU hc hk hr
 obtain ⟨b,rfl,h1⟩:=Dw hc
 refine wpIn_block (wpIn_mono (h rd b E0 J base w0 a w (fun hh=>bU (by simp only [AC.iR];exact hh)) h1 hk hr) ?_)
 rintro e a' w' ⟨x,s',hq,rfl,hr'⟩
 cases x with
 |normal=>exact ⟨.normal,s',hq,rfl,hr'⟩
 |exit i=>
  simp only [Ex.inBlock] at hq
  simp only [Ex.up,Exit.inBlock]
  split
  ·rename_i hi;rw [KL hi] at hq;exact ⟨.normal,s',hq,rfl,hr'⟩
  ·rename_i hi;rw [KK hi] at hq;exact ⟨.exit i,s',hq,rfl,hr'⟩
 |ret=>exact ⟨.ret,s',hq,rfl,hr'⟩
theorem Dx {x:AC} (h:cCode P c=some (.loop x)):∃b,c= .loop b/\cCode P b=some x:=by
 cases c with
 |loop b=>
  simp only [cCode] at h
  cases hb:cCode P b with
  |none=>simp [hb] at h
  |some y=>
   simp only [hb,KV,KJ,AC.loop.injEq] at h
   subst h
   exact ⟨b,rfl,hb⟩
 |_=>
  exfalso
  simp only [cCode] at h
  repeat' (first|(simp at h;done)|split at h)
theorem Dy {F:Fence} {nn:Nat} {Q:Exit->Act->World->Prop} {a:Act} (I:Nat->Act->World->Prop) {m:Nat} (Dz:I m a w)
  (round:∀m a w,I m a w->c.wpIn F nn P (Exit.then (fun a' w'=>∃m',m'<m/\I m' a' w') Q) a w):(Code.loop c).wpIn F nn P Q a w:=by
 intro b k cs DA hb hr
 have key:∀m a w,I m a w->∃e a' w',Q e a' w'/\ArrivesIn (Machine.fenced P F) P (lone (b.atR a (.code c:: .inLoop c::k)) cs w) b k cs e a' w':=by
  intro m
  induction m using Nat.strongRecOn with
  |_ m ih=>
   intro a w hI
   obtain ⟨e,mD,mE,hq,kA⟩:=round m a w hI b (.inLoop c::k) cs DA hb hr
   cases e with
   |normal=>
    obtain ⟨m',hlt,DB⟩:=hq
    obtain ⟨DC,DD,DE,DF,DG⟩:=ih m' hlt mD mE DB
    exact ⟨DC,DD,DE,DF, .of_steps (StepsIn.trans kA (.one (fenced_calm hb hr rfl) stepR_inLoop)) DG⟩
   |exit id=>exact ⟨_,mD,mE,hq, .pass (x:= .inLoop c) rfl (fun _ _=> .inl (by simp)) kA⟩
   |goto l=>exact ⟨_,mD,mE,hq, .pass (x:= .inLoop c) rfl (fun _ _=> .inl (by simp)) kA⟩
   |ret=>exact ⟨_,mD,mE,hq, .pass (x:= .inLoop c) rfl (fun _ _=> .inl (by simp)) kA⟩
   |panic ch=>exact ⟨_,mD,mE,hq, .pass (x:= .inLoop c) rfl (fun _ _=> .inl (by simp)) kA⟩
   |outgrown=>exact ⟨_,mD,mE,hq, .pass (x:= .inLoop c) rfl (fun _ _=> .inl (by simp)) kA⟩
 obtain ⟨e,a',w',hq,kA⟩:=key m a w Dz
 exact ⟨e,a',w',hq, .of_steps (.one (fenced_calm hb hr rfl) stepR_loop) kA⟩
theorem EW.loop {x:AC} (I:Nat->S3->Prop) {m:Nat} (h0:I m s) (round:∀m s,I m s->EW P n k0 x s (Ex.then (fun s'=>∃m',m'<m/\I m' s') Q)):EW P n k0 (.loop x) s Q:=by
 intro rd c E0 J base w0 a w bU hc hk hr
 obtain ⟨b,rfl,h1⟩:=Dx hc
 refine Dy (fun m a w=>∃s,I m s/\ec E0 J base w0 n s.σ s.g s.k a w) (m:=m) ⟨s,h0,hr⟩ ?_
 rintro m a w ⟨s,hI,hr⟩
 refine wpIn_mono (round m s hI rd b E0 J base w0 a w (fun hh=>bU (by simp only [AC.iR];exact hh)) h1 hk hr) ?_
 rintro e a' w' ⟨x,s',hq,rfl,hr'⟩
 cases x with
 |normal=>
  obtain ⟨m',hm,ig⟩:=hq
  exact ⟨m',hm,s',ig,hr'⟩
 |exit id=>exact ⟨.exit id,s',hq,rfl,hr'⟩
 |ret=>exact ⟨.ret,s',hq,rfl,hr'⟩
theorem n9 {ops:Array Oper}:∀{l:List Oper} {os:List aw},mC P ops l=some os->l.length=os.length/\∀(j:Nat) op,l[j]? =some op->∃o,os[j]? =some o/\eK P ops op=some o
 |[],os,h=>by simp only [mC,KJ] at h;subst h;exact ⟨rfl,fun j op hj=>by simp at hj⟩
 |o::r,os,h=>by
  simp only [mC] at h
  split at h
  ·rename_i x l h1 h2
   simp only [KJ] at h;subst h
   obtain ⟨k1,k2⟩:=n9 h2
   refine ⟨by simp [k1],fun j op hj=> ?_⟩
   cases j with
   |zero=>simp at hj;subst hj;exact ⟨x,rfl,h1⟩
   |succ j=>simp at hj ⊢; exact k2 j op hj
  ·simp at h
theorem qi {dep:Option (List (List Nat))} (h:cCode P c=some (.bI os dep)):∃id ops draw,c= .region id ops draw/\mC P ops ops.toList=some os/\
  ((draw=false/\dep=none)\/(draw=true/\∃d,dep=some d/\gr ops.toList d=true/\eM os d=true/\P.follows .mixedOrders=true)):=by
 cases c with
 |region id ops draw=>
  simp only [cCode] at h
  split at h
  ·rename_i Km h1
   split at h
   ·rename_i hd
    split at h
    ·rename_i hc
     simp only [KJ,AC.bI.injEq] at h
     obtain ⟨rfl,rfl⟩:=h
     exact ⟨id,ops,draw,rfl,h1, .inr ⟨hd,_,rfl,hc.1,hc.2.1,hc.2.2⟩⟩
    ·simp at h
   ·rename_i hd
    simp only [KJ,AC.bI.injEq] at h
    obtain ⟨rfl,rfl⟩:=h
    exact ⟨id,ops,draw,rfl,h1, .inl ⟨by simpa using hd,rfl⟩⟩
  ·simp at h
 |_=>
  exfalso
  simp only [cCode] at h
  repeat' (first|(simp at h;done)|split at h)
theorem EW.bI {os:List aw} {s':S3} (h:fy P n k0 os s.σ s.g s.k s'.σ s'.g s'.k) (hq:Q .normal s'):EW P n k0 (.bI os none) s Q:=by
 intro rd c E0 J base w0 a w bU hc hk hr
 obtain ⟨id,ops,draw,rfl,h1,h2⟩:=qi hc
 rcases h2 with ⟨rfl,_⟩|⟨_,d,hd,_⟩
 ·obtain ⟨k1,k2⟩:=n9 h1
  refine wpIn_region ?_
  have hsz:ops.size=os.length:=by rw [<-k1];simp
  rw [List.range_eq_range',hsz]
  refine xO (ops:=ops) hk h 0 a w (fun j hj=> ?_) hr fun a' w' hr'=>⟨.normal,s',hq,rfl,hr'⟩
  have jw:j<ops.size:=by omega
  obtain ⟨o,m1,m2⟩:=k2 j ops[j] (by simp [jw])
  exact ⟨ops[j],by rw [KY];exact KX jw,o,m1,m2⟩
 ·simp at hd
theorem EW.draw {os:List aw} {dep:List (List Nat)} {s':S3} (h:jx P n dep os s.σ s.g s.k [] s'.σ s'.g s'.k) (hq:Q .normal s'):EW P n k0 (.bI os (some dep)) s Q:=by
 intro rd c E0 J base w0 a w bU hc hk hr
 obtain ⟨id,ops,draw,rfl,h1,h2⟩:=qi hc
 rcases h2 with ⟨rfl,hh⟩|⟨rfl,d,hd,h3,h4,h5⟩
 ·simp at hh
 ·simp only [KJ] at hd
  subst hd
  obtain ⟨k1,k2⟩:=n9 h1
  refine Dq h5 h (by rw [<-k1];simp) (fun j op hj=>k2 j op (by simpa using hj)) h3 h4 (fun a' w' hr'=>⟨.normal,s',hq,rfl,hr'⟩) hr
end
open Go.RowKit
inductive jA where
 |tmp (t:Nat)
 |cell (t:Nat) (m:Option Nat)
structure dc where
 n:Nat
 res:List jA
 code:AC
variable {F:dc}
def cRes (P:Program):List ResultVar->Option (List jA)
 |[]=>some []
 | .tmp t::r=>(cRes P r).map (.tmp t:: ·)
 | .cell a t::r=>match gE P t,cRes P r with
  |some m,some l=>some (.cell a m::l)
  |_,_=>none
def cFunc (P:Program) (f:FuncId):Option dc:=
 match P.funcs[f]? with
 |some fn=>match fn.body with
  |some c=>match cRes P fn.results.toList,cCode P c with
   |some res,some code=>some ⟨fn.ntmps,res,code⟩
   |_,_=>none
  |none=>none
 |none=>none
def oa (m:Option Nat):AV->RM AV
 | .pim cs o=> .opt (getCells cs o m)
 | .ref id sz i o=> .rd id fun B=>if B.sz=sz then .opt (B.els[i]?.bind fun cs=>getCells cs o m) else .fail
 |_=> .fail
def iT (σ:Nat->AV):List jA->RM (List AV)
 |[]=> .ret []
 | .tmp t::r=>(iT σ r).bind fun l=> .ret (σ t::l)
 | .cell t m::r=>(oa m (σ t)).bind fun a=>(iT σ r).bind fun l=> .ret (a::l)
def jB:List AV->AV
 |[a]=>a
 |l=> .aG l
def ij (σ:Nat->AV) (rs:List jA):RM AV:=(iT σ rs).bind fun l=> .ret (jB l)
def oc:AV->RM AV
 | .aG vs=>(du vs).bind fun l=> .ret (.aG l)
 |a=>dh a
section
variable {P:Program} {E:Env} {J:Nat->Prop} {base:Nat} {g:Nat->Option Bk} {σ:Nat->AV}
theorem DH (hm:aB E J base g) {m:Option Nat} (ht:gE P t=some m) {x:AV} (hv:ae E v x) (h:(oa m x).run g=some a):∃v',(do loadVar t (<-asAddr v):Sem Value).run P E.w= .ok v' E.w/\ae E v' a:=by
 unfold oa at h
 split at h
 ·rename_i cs o
  cases hg:getCells cs o m with
  |none=>simp [hg,RM.opt,RM.run] at h
  |some a'=>
   simp [hg,RM.opt,RM.run] at h
   subst h
   cases hv with
   |pim u hb hq hu eF hr=>
    obtain ⟨v',hl,hr'⟩:=pO (P:=P) ht hq u hu hr hg
    exact ⟨v',by simp [asAddr,hl],hr'⟩
 ·rename_i id sz i o
  simp only [RM.run] at h
  cases hgi:g id with
  |none=>simp [hgi] at h
  |some B=>
   simp only [hgi] at h
   split at h
   ·rename_i hsz
    cases hei:B.els[i]? with
    |none=>simp [hei,RM.opt,RM.run] at h
    |some cs=>
     cases hg:getCells cs o m with
     |none=>simp [hei,hg,RM.opt,RM.run] at h
     |some a'=>
      simp [hei,hg,RM.opt,RM.run] at h
      subst h
      cases hv with
      | @ref _ _ _ _ b q hi hd hb hq=>
       have bM:=hm.at_ id B hgi
       rw [hb] at bM
       have g6:∀(j:Nat) (x:AV),cs[j]? =some x->∃u,E.w.cell? ⟨b,i*B.sz+j,none⟩=some u/\u.oneCell'=true/\ae E u x:=fun j x hj=>bM.cell hei hj
       obtain ⟨v',hl,hr'⟩:=pO (P:=P) (E:=E) (cs:=cs) ht (b:=b) (off:=i*sz) hq (fun j=>(E.w.cell? ⟨b,i*sz+j,none⟩).getD undef)
        (fun j x hj=>by obtain ⟨u,k1,_,_⟩:=g6 j x hj;rw [hsz] at k1;simp [k1])
        (fun j x hj=>by obtain ⟨u,k1,_,k3⟩:=g6 j x hj;rw [hsz] at k1;simpa [k1] using k3) hg
       exact ⟨v',by simp [asAddr,hl],hr'⟩
      |dZ hi hd=>exact absurd hd ((hm.live id).2 ⟨B,hgi⟩).2
   ·simp [RM.run] at h
 ·simp [RM.run] at h
def qj (tmps:Array Value):ResultVar->Sem Value
 | .tmp t=>pure (tmps.getD t undef)
 | .cell a t=>do loadVar t (<-asAddr (tmps.getD a undef))
theorem DI (fn:Func) (tmps:Array Value):results fn tmps=(do
  let vs<-fn.results.mapM (qj tmps)
  pure (if h:vs.size=1 then vs[0] else .tuple vs)):=by
 unfold results
 congr 1
theorem tr (hm:aB E J base g) {tmps:Array Value} (hs:∀t,ae E (tmps.getD t undef) (σ t)):∀{rs:List ResultVar} {kB:List jA} {l:List AV},cRes P rs=some kB->(iT σ kB).run g=some l->
  ∃vs:List Value,(rs.mapM (qj tmps)).run P E.w= .ok vs E.w/\vs.length=l.length/\∀(i:Nat) v c,vs[i]? =some v->l[i]? =some c->ae E v c
 |[],kB,l,hc,h=>by
  simp only [cRes,KJ] at hc;subst hc
  simp only [iT,RM.run,KJ] at h;subst h
  exact ⟨[],by simp,rfl,fun i v c hv=>by simp at hv⟩
 | .tmp t::r,kB,l,hc,h=>by
  simp only [cRes] at hc
  cases hr:cRes P r with
  |none=>simp [hr] at hc
  |some ar=>
   simp only [hr,KV,KJ] at hc;subst hc
   simp only [iT] at h
   obtain ⟨l',h1,h2⟩:=cz h
   simp only [RM.run,KJ] at h2;subst h2
   obtain ⟨vs,k1,k2,k3⟩:=tr hm hs hr h1
   refine ⟨tmps.getD t undef::vs,by rw [List.mapM_cons,Lu,qj,Sem.run_pure,Mm,Lu,k1];rfl,by simp [k2],fun i v c hv hc=> ?_⟩
   cases i with
   |zero=>simp at hv hc;subst hv;subst hc;simpa using hs t
   |succ i=>simp at hv hc;exact k3 i v c hv hc
 | .cell a t::r,kB,l,hc,h=>by
  simp only [cRes] at hc
  split at hc
  ·rename_i m ar c8 hr
   simp only [KJ] at hc;subst hc
   simp only [iT] at h
   obtain ⟨x,h1,h⟩:=cz h
   obtain ⟨l',h2,h3⟩:=cz h
   simp only [RM.run,KJ] at h3;subst h3
   obtain ⟨vs,k1,k2,k3⟩:=tr hm hs hr h2
   obtain ⟨v',e1,e2⟩:=DH (P:=P) hm c8 (hs a) h1
   refine ⟨v'::vs, ?_,by simp [k2],fun i v c hv hc=> ?_⟩
   ·rw [List.mapM_cons,Lu,qj,e1,Mm,Lu,k1]
    rfl
   ·cases i with
    |zero=>simp at hv hc;subst hv;subst hc;exact e2
    |succ i=>simp at hv hc;exact k3 i v c hv hc
  ·simp at hc
theorem x1 (hm:aB E J base g) {tmps:Array Value} (hs:∀t,ae E (tmps.getD t undef) (σ t)) {kB:List jA} (hc:cRes P fn.results.toList=some kB) (h:(ij σ kB).run g=some r):∃v,(results fn tmps).run P E.w= .ok v E.w/\ae E v r:=by
 obtain ⟨l,h1,h2⟩:=cz h
 simp only [RM.run,KJ] at h2
 obtain ⟨vs,k1,k2,k3⟩:=tr hm hs hc h1
 refine ⟨if h:vs.toArray.size=1 then vs.toArray[0] else .tuple vs.toArray, ?_, ?_⟩
 ·rw [DI,Array.mapM_eq_mapM_toList,Lu,Sem.run_map,k1]
  rfl
 ·subst h2
  cases vs with
  |nil=>
   have:l=[]:=L9 (by simpa using k2.symm)
   subst this
   exact .aG rfl (fun i v c hv=>by simp at hv)
  |cons v vs=>
   cases vs with
   |nil=>
    obtain ⟨a,rfl⟩:∃a,l=[a]:=by
     cases l with
     |nil=>simp at k2
     |cons a l=>cases l with
      |nil=>exact ⟨a,rfl⟩
      |cons=>simp at k2
    simpa [jB] using k3 0 v a rfl rfl
   |cons v' vs=>
    rw [dif_neg (by simp)]
    have e:jB l= .aG l:=by
     cases l with
     |nil=>rfl
     |cons a l=>cases l with
      |nil=>simp at k2
      |cons=>rfl
    rw [e]
    exact .aG (by simpa using k2) (fun i v c hv hc=>k3 i v c (by simpa using hv) hc)
end
theorem x4 (h:cFunc P f=some F):∃fn c,P.funcs[f]? =some fn/\fn.body=some c/\cRes P fn.results.toList=some F.res/\cCode P c=some F.code/\fn.ntmps=F.n:=by
 unfold cFunc at h
 split at h
 ·rename_i fn h1
  split at h
  ·rename_i c h2
   split at h
   ·rename_i res code h3 h4
    simp only [KJ] at h;subst h
    exact ⟨fn,c,h1,h2,h3,h4,rfl⟩
   ·simp at h
  ·simp at h
 ·simp at h
def cG (as_:List AV) (t:Nat):AV:=(as_[t]?).getD (.v undef)
theorem x5 (h:RC E vs as_) (m:Nat):∀t,ae E ((vs++Array.replicate m undef).getD t undef) (cG as_ t):=by
 intro t
 unfold cG
 by_cases ht:t<vs.size
 ·have hta:t<as_.length:=by rw [<-h.1];exact ht
  rw [K0 hta]
  simp only [LM,My]
  rw [MG ht,KX ht]
  exact h.2 t _ _ (KX ht) (K0 hta)
 ·rw [Mo (by rw [<-h.1];omega)]
  simp only [Me,My]
  rw [Array.getElem?_append_right (by omega)]
  have:(Array.replicate m undef)[t - vs.size]?.getD undef=undef:=by
   rcases Ls (t - vs.size) m with h|h
   ·simp [h]
   ·simp [h]
  rw [this]
  exact .v rfl
theorem ae.tt (hc:∀b o,w'.cell? ⟨b,o,none⟩=E.w.cell? ⟨b,o,none⟩) (hs:∀b,w'.shape? b=E.w.shape? b) (hl:∀(b:Nat) r,E.w.heap[b]? =some (.loop r)->w'.heap[b]? =some (.loop r)) (h:ae E v a):ae { E with w:=w' } v a:=by
 induction h with
 |v h=>exact .v h
 |agg hl h ih=>exact .agg hl ih
 |aG hl h ih=>exact .aG hl ih
 |dy hc=>exact .dy hc
 |dO u hn hl hcc hb hz hu h1 h ih=>exact .dO u hn hl hcc hb hz (fun i cs j x hi hj=>(hc _ _).trans (hu i cs j x hi hj)) h1 ih
 |cy h ih=>exact .cy ih
 |emp=>exact .emp
 |pim u hb hq hu h1 h ih=>exact .pim u hb hq (fun j x hj=>(hc _ _).trans (hu j x hj)) h1 ih
 |ref hi hd hb hq=>exact .ref hi hd hb hq
 |own hi hd hb hq od hm hl hcc aZ=>exact .own hi hd hb hq ((hs _).trans od) hm hl hcc aZ
 |bL hi hd hb aZ=>exact .bL hi hd hb aZ
 |dZ hi hd ho=>exact .dZ hi hd ho
 |ck hi hd ho=>exact .ck hi hd ho
 |mp hi hd hb=>exact .mp hi hd hb
 |gB hi hd ho=>exact .gB hi hd ho
 |fn hl h ih=>exact .fn hl ih
 |bf hl h ih=>exact .bf hl ih
 |dY hg hI hh c9 h ih=>exact .dY hg hI (hl _ _ hh) c9 ih
 |dq=>exact .dq
 |dead=>exact .dead
theorem aB.tt (hm:aB E J base g) (hR:∀{v a},ae E v a->ae { E with w:=w' } v a) (g6:∀(b:Nat) arr t x,E.w.heap[b]? =some (.cells arr t x)->w'.heap[b]? =some (.cells arr t x)) (tu:∀(b:Nat) es c,E.w.heap[b]? =some (.map es c)->w'.heap[b]? =some (.map es c)) (hsz:w'.heap.size=E.w.heap.size):aB { E with w:=w' } J base g:=by
 refine ⟨hm.live,fun id B hg=> ?_,hm.apart,hm.out,fun b hb=>⟨by show b<w'.heap.size;rw [hsz];exact (hm.low b hb).1,(hm.low b hb).2⟩,by show base<=w'.heap.size;rw [hsz];exact hm.size,hm.len,hm.gi,fun b hb=>⟨by show b<w'.heap.size;rw [hsz];exact (hm.xo b hb).1,(hm.xo b hb).2⟩⟩
 have:=hm.at_ id B hg
 show ct { E with w:=w' } base B (E.loc id)
 cases hl:E.loc id with
 |none=>rw [hl] at this;exact this
 |some b=>
  rw [hl] at this
  obtain ⟨h1,⟨hz,arr,t,h2,h3,h4⟩|⟨hz,es,c,h2,h3,h4⟩⟩:=this
  ·refine .iE ⟨h1,arr,t,g6 _ _ _ _ h2,h3,fun i cs hi=>⟨(h4 i cs hi).1,fun j x hj=> ?_⟩⟩ hz
   obtain ⟨u,k1,k2,k3⟩:=(h4 i cs hi).2 j x hj
   exact ⟨u,k1,k2,hR k3⟩
  ·refine .ofMap ⟨h1,es,c,tu _ _ _ h2,h3,fun i e cs he hi=> ?_⟩ hz
   obtain ⟨x,k1,k2,k3⟩:=h4 i e cs he hi
   exact ⟨x,k1,k2,hR k3⟩
structure gu (lo:Nat) (E E':Env):Prop where
 rep:∀{v a},ae E v a->ae E' v a
 mem:∀{J base g},aB E J base g->aB E' J base g
 heap:∀b,b<lo->E'.w.heap[b]? =E.w.heap[b]?
 size:E'.w.heap.size=E.w.heap.size
 shape:∀b,E'.w.shape? b=E.w.shape? b
 eqs:E'.kn=E.kn/\E'.dead=E.dead/\E'.loc=E.loc/\E'.ln=E.ln/\E'.I=E.I/\E'.rg=E.rg/\E'.X=E.X
 below:∀{base w0},base<=lo->Below base w0 E.w->Below base w0 E'.w
theorem gu.refl (lo:Nat) (E:Env):gu lo E E:=⟨fun h=>h,fun h=>h,fun _ _=>rfl,rfl,fun _=>rfl,⟨rfl,rfl,rfl,rfl,rfl,rfl,rfl⟩,fun _ h=>h⟩
theorem gu.le {E0:Env} (h:gu lo E E') (hle:E0.Le E) (hI:∀b,E0.I b->b<lo) (hX:∀b,E0.X b->b<lo):E0.Le E':=by
 obtain ⟨q1,q2,q3,q4,q5,q6,q7⟩:=h.eqs
 refine ⟨fun id hi=>by rw [q1];exact hle.kn id hi,fun b hb=>⟨by rw [q5];exact (hle.dP b hb).1,(h.heap b (hI b hb)).trans (hle.dP b hb).2⟩,fun id hi hd=>by rw [q2];exact hle.dead id hi hd,fun id hi hd=>by rw [q2,q3];exact hle.loc id hi hd,fun id b hi hd hb=>by rw [q2,h.shape];exact hle.shape id b hi hd hb,fun id hi hd=>by rw [q2,q4];exact hle.ln id hi hd,fun l hg=>by rw [q6];exact hle.rg l hg,fun b hb=>⟨by rw [q7];exact (hle.fx b hb).1,(h.heap b (hX b hb)).trans (hle.fx b hb).2⟩⟩
theorem DJ {o:Obj} (o':Obj) (hh:w.heap[D]? =some o) (ho:o.isCells=false) (gj:o'.isCells=false):
  (∀b k,(w.putObj D o').cell? ⟨b,k,none⟩=w.cell? ⟨b,k,none⟩)/\(∀b,(w.putObj D o').shape? b=w.shape? b)/\∀(b:Nat) arr t x,w.heap[b]? =some (.cells arr t x)->(w.putObj D o').heap[b]? =some (.cells arr t x):=by
 have hlt:=(Lw.1 hh).1
 have hs:=World.putObj_heap_same (w:=w) (o:=o') hlt
 refine ⟨fun b k=> ?_,fun b=> ?_,fun b arr t x hb=> ?_⟩
 ·by_cases hb:b=D
  ·subst hb
   unfold World.cell?
   simp only [hs,hh]
   cases o<;>cases o'<;>simp_all [Obj.isCells]
  ·exact World.cell?_of_block (w:=w) (w':=w.putObj D o') (a:=⟨b,k,none⟩) (Mp hb)
 ·by_cases hb:b=D
  ·subst hb
   unfold World.shape?
   simp only [hs,hh]
   cases o<;>cases o'<;>simp_all [Obj.isCells]
  ·unfold World.shape?
   rw [Mp hb]
 ·by_cases kC:b=D
  ·subst kC
   rw [hh] at hb
   simp only [KJ] at hb
   subst hb
   simp [Obj.isCells] at ho
  ·rw [Mp kC];exact hb
theorem gu.one (hD:lo<=D) (hh:E.w.heap[D]? =some (.deferred (some []))):gu lo E { E with w:=E.w.putObj D (.deferred none) }:=by
 obtain ⟨c1,c2,c3⟩:=DJ (.deferred none) hh rfl rfl
 have hR:∀{v a},ae E v a->ae { E with w:=E.w.putObj D (.deferred none) } v a:=fun h=>ae.tt c1 c2 (fun b r hb=>by
  by_cases kC:b=D
  ·subst kC;rw [hh] at hb;simp at hb
  ·rw [Mp kC];exact hb) h
 have tu:∀(b:Nat) es c,E.w.heap[b]? =some (.map es c)->(E.w.putObj D (.deferred none)).heap[b]? =some (.map es c):=fun b es c hb=>by
  by_cases kC:b=D
  ·subst kC;rw [hh] at hb;simp at hb
  ·rw [Mp kC];exact hb
 refine ⟨hR,fun hm=>hm.tt hR c3 tu (by simp),fun b hb=>Mp (by omega),by simp,c2,⟨rfl,rfl,rfl,rfl,rfl,rfl,rfl⟩,fun fB hb=>hb.trans ⟨rfl,rfl,rfl,by simp,fun k hk=>Mp (by omega)⟩⟩
theorem gu.trans {lo:Nat} {E E' kg:Env} (h:gu lo E E') (k:gu lo E' kg):gu lo E kg:=by
 obtain ⟨q1,q2,q3,q4,q5,q6,q7⟩:=h.eqs
 obtain ⟨p1,p2,p3,p4,p5,p6,p7⟩:=k.eqs
 exact ⟨fun hr=>k.rep (h.rep hr),fun hm=>k.mem (h.mem hm),fun b hb=>(k.heap b hb).trans (h.heap b hb),k.size.trans h.size,fun b=>(k.shape b).trans (h.shape b),⟨p1.trans q1,p2.trans q2,p3.trans q3,p4.trans q4,p5.trans q5,p6.trans q6,p7.trans q7⟩,fun fB hb=>k.below fB (h.below fB hb)⟩
theorem tv {P:Program} {fn:Func} {tmps:Array Value} {R:Ending->World->Prop} {lo:Nat}:∀(ds:List Deferred) (E:Env),Mk E lo ds->
  (∀E',gu lo E E'->∃v,(results fn tmps).run P E'.w= .ok v E'.w/\R (.returned v) E'.w)->LeavesInM Fence.wide 0 P fn tmps R ds .returning E.w
 |[],E,_,h=>h E (gu.refl lo E)
 |d::ds,E,hmk,h=>by
  cases hmk with
  | @cons D _ hI hD hh aA t=>
   have h1:=gu.one hD hh
   refine ⟨by simp, .inl ⟨D,_,rfl,run_takeDeferred hh, ?_⟩⟩
   refine tv ds { E with w:=E.w.putObj D (.deferred none) } ?_ fun E' hS=>h E' (h1.trans hS)
   clear h h1 hh
   induction t with
   |nil=>exact .nil
   | @cons D' Kn ig DK DL DM t' ih=>
    have DN:D'≠D:=fun e=>aA _ (LJ ..) (by rw [e])
    exact .cons ig DK ((Mp DN).trans DL) DM (ih fun d hd=>aA d (Lx _ hd))
theorem x6 {c:Code} {args:Array Value} (hf:P.funcs[f]? =some fn) (hb:fn.body=some c)
  (h:c.wpIn (cj none) 0 P (fun e a' w'=>(e= .normal\/e= .ret)/\LeavesInM Fence.wide 0 P fn a'.tmps R a'.defers .returning w') { tmps:=args++Array.replicate (fn.ntmps - args.size) undef,defers:=[] } w):Calls P f args w R:=
 (callsIn_wide (n:=0)).1 (callsIn_of_wp_marks (F:=Fence.wide) (n:=0) hf hb trivial (wpIn_mono h fun e a' w' ⟨he,hl⟩=>by
  rcases he with rfl|rfl
  ·exact hl
  ·exact hl) rfl)
open Go.RowKit
structure L3 where
 t:List (Nat×AV)
 m:List (Option Bk)
variable {x':L3}
def slot:List (Nat×AV)->Nat->AV
 |[],_=> .dead
 |(j,v)::r,i=>bif Nat.beq i j then v else slot r i
def oe (d:Nat):List (Nat×AV)->List (Nat×AV)
 |[]=>[]
 |(j,v)::r=>bif Nat.beq j d then oe d r else (j,v)::oe d r
def jC (t:List (Nat×AV)):Option Nat->AV->List (Nat×AV)
 |none,_=>t
 |some d,v=>(d,v)::oe d t
def dstOK (n:Nat):Option Nat->Bool
 |none=>true
 |some d=>Nat.blt d n
def look (m:List (Option Bk)) (id:Nat):Option Bk:=(m[id]?).join
def L3.s (x:L3):S3:=⟨slot x.t,look x.m,x.m.length⟩
def eO (m:List (Option Bk)):List (Nat×Option Bk)->List (Option Bk)
 |[]=>m
 |(id,x)::r=>eO (if id<m.length then m.set id x else m++[x]) r
def upsOK (k:Nat):List (Nat×Option Bk)->Bool
 |[]=>true
 |(id,_)::r=>decide (id<=k)&&upsOK (if id<k then k else k+1) r
theorem DO {t:List (Nat×AV)} {d:Nat} (h:i≠d):slot (oe d t) i=slot t i:=by
 induction t with
 |nil=>rfl
 |cons p r ih=>
  obtain ⟨j,v⟩:=p
  simp only [oe,slot]
  cases hj:Nat.beq j d with
  |true=>
   have:=K1 hj
   subst this
   have hi:Nat.beq i j=false:=by
    cases hb:Nat.beq i j with
    |false=>rfl
    |true=>exact absurd (K1 hb) h
   simp [hi,ih]
  |false=>simp only [K4,slot,ih]
theorem x7 (t:List (Nat×AV)) (d:Option Nat) (hd:dstOK n d=true) (v:AV):slot (jC t d v)=bp n d v (slot t):=by
 funext i
 unfold bp
 cases d with
 |none=>simp [jC]
 |some d=>
  simp only [dstOK] at hd
  have tw:=Ly hd
  simp only [jC,slot,KJ]
  by_cases h:d=i
  ·subst h
   have:Nat.beq d d=true:=Nat.beq_refl d
   rw [this,KL ⟨rfl,tw⟩];rfl
  ·have hb:Nat.beq i d=false:=by
    cases hb:Nat.beq i d with
    |false=>rfl
    |true=>exact absurd (K1 hb).symm h
   rw [hb,KK (fun hh=>h hh.1)]
   exact DO (fun e=>h e.symm)
theorem tx (m:List (Option Bk)) (id:Nat) (x:Option Bk) (h:id<=m.length):look (if id<m.length then m.set id x else m++[x])=fun k=>if k=id then x else look m k:=by
 funext k
 unfold look
 by_cases hl:id<m.length
 ·rw [KL hl,List.getElem?_set]
  by_cases hk:id=k
  ·subst hk;simp [hl]
  ·simp [hk,Ne.symm hk]
 ·rw [KK hl]
  have:id=m.length:=by omega
  subst this
  by_cases hk:k=m.length
  ·subst hk;simp
  ·rw [KK hk]
   rcases Ls k m.length with h1|h1
   ·rw [LH h1]
   ·rw [Mo (by simp;omega),Mo (by omega)]
theorem tz:∀(ups:List (Nat×Option Bk)) (m:List (Option Bk)),upsOK m.length ups=true->look (eO m ups)=aj (look m) ups/\m.length<=(eO m ups).length/\∀id,id∈ups.map Prod.fst->id<(eO m ups).length
 |[],m,_=>⟨rfl,KO _,fun id h=>by simp at h⟩
 |(i,x)::r,m,h=>by
  simp only [upsOK,KM,Lk] at h
  have hlen:(if i<m.length then m.set i x else m++[x]).length=if i<m.length then m.length else m.length+1:=by split<;>simp
  obtain ⟨h1,h2,h3⟩:=tz r (if i<m.length then m.set i x else m++[x]) (by rw [hlen];exact h.2)
  rw [hlen] at h2
  have e1:m.length<=(if i<m.length then m.length else m.length+1):=by split<;>omega
  have e2:i<(if i<m.length then m.length else m.length+1):=by have:=h.1;split<;>omega
  refine ⟨?_, ?_,fun id hid=> ?_⟩
  ·simp only [eO,aj]
   rw [h1,tx m i x h.1]
  ·simp only [eO];omega
  ·simp only [eO]
   simp only [KW,KU] at hid
   rcases hid with rfl|hid
   ·omega
   ·exact h3 id hid
inductive tA where
 |done (val:AV) (ups:List (Nat×Option Bk)) (acc:List Nat)
 |call (f:FuncId) (as_:List AV)
 |stuck
def x8 (ao:AO) (x:L3):List Nat:=(ao.af x.m.length (aD (slot x.t))).acc (look x.m)++(ao.af x.m.length (aD (slot x.t))).see (look x.m)
def eX (o:aw) (x:L3):tA:=
 match bH (slot x.t) o.guard with
 |some false=> .done (.v undef) [] []
 |some true=>match (o.ao.af x.m.length (aD (slot x.t))).run (look x.m) with
  |some (.done val ups)=> .done val ups (x8 o.ao x)
  |some (.call f as_)=> .call f as_
  |none=> .stuck
 |none=> .stuck
theorem x9 {x:L3} (h:eX o x= .done val ups acc):da P (slot x.t) (look x.m) x.m.length o val ups acc:=by
 unfold eX at h
 split at h
 ·rename_i hg
  simp only [tA.done.injEq] at h
  obtain ⟨rfl,rfl,rfl⟩:=h
  exact .skip hg
 ·rename_i hg
  split at h
  ·rename_i h1
   simp only [tA.done.injEq] at h
   obtain ⟨rfl,rfl,rfl⟩:=h
   exact .done hg h1
  ·simp at h
  ·simp at h
 ·simp at h
def OW (P:Program) (n k0:Nat) (os:List aw) (x:L3) (K:L3->Prop):Prop:=∃x':L3,fy P n k0 os (slot x.t) (look x.m) x.m.length (slot x'.t) (look x'.m) x'.m.length/\K x'
def DW (P:Program) (n:Nat) (dep:List (List Nat)) (os:List aw) (x:L3) (rs:List Rec) (K:L3->Prop):Prop:=
 ∃x':L3,jx P n dep os (slot x.t) (look x.m) x.m.length rs (slot x'.t) (look x'.m) x'.m.length/\K x'
section
variable {P:Program} {n k0:Nat} {x:L3} {K:L3->Prop}
theorem OW.nil (h:K x):OW P n k0 [] x K:=⟨x, .nil,h⟩
theorem OW.cons {o:aw} {os:List aw} {val:AV} {ups:List (Nat×Option Bk)} {acc:List Nat} (hd:dstOK n o.dst=true) (h:eX o x= .done val ups acc) (hu:upsOK x.m.length ups=true) (hr:OW P n k0 os ⟨jC x.t o.dst val,eO x.m ups⟩ K):OW P n k0 (o::os) x K:=by
 obtain ⟨x',h1,h3⟩:=hr
 simp only [x7 _ _ hd] at h1
 obtain ⟨m1,m2,m3⟩:=tz ups x.m hu
 rw [m1] at h1
 exact ⟨x', .cons (x9 h) m2 m3 h1,h3⟩
theorem DW.nil {dep:List (List Nat)} {rs:List Rec} (hid:ew rs dep=true) (h:K x):DW P n dep [] x rs K:=⟨x, .nil hid,h⟩
theorem DW.cons {dep:List (List Nat)} {rs:List Rec} {o:aw} {os:List aw} {val:AV} {ups:List (Nat×Option Bk)} {acc:List Nat} (hd:dstOK n o.dst=true) (h:eX o x= .done val ups acc) (hu:upsOK x.m.length ups=true)
  (hr:DW P n dep os ⟨jC x.t o.dst val,eO x.m ups⟩ (rs++[⟨o.dst,val,ups,acc,x.m.length⟩]) K):DW P n dep (o::os) x rs K:=by
 obtain ⟨x',h1,h4⟩:=hr
 simp only [x7 _ _ hd] at h1
 obtain ⟨m1,m2,m3⟩:=tz ups x.m hu
 rw [m1] at h1
 exact ⟨x', .cons (x9 h) m2 m3 h1,h4⟩
end
def EL (P:Program) (n k0:Nat) (ac:AC) (x:L3) (Q:Ex->L3->Prop):Prop:=EW P n k0 ac x.s fun e s'=>∃x':L3,s'=x'.s/\Q e x'
section
variable {P:Program} {n k0:Nat} {x:L3} {Q:Ex->L3->Prop}
def Ex.ya (next:L3->Prop) (Q:Ex->L3->Prop):Ex->L3->Prop
 | .normal,s=>next s
 |e,s=>Q e s
theorem EL.iS {ac:AC} {y:L3} (hs:x.s.Le k0 n y.s) (h:EL P n k0 ac y Q):EL P n k0 ac x Q:=EW.iS hs h
theorem EL.skip (h:Q .normal x):EL P n k0 .skip x Q:=EW.skip ⟨x,rfl,h⟩
theorem EL.ret (h:Q .ret x):EL P n k0 .ret x Q:=EW.ret ⟨x,rfl,h⟩
theorem EL.seq {a b:AC} (h:EL P n k0 a x (Ex.ya (fun x'=>EL P n k0 b x' Q) Q)):EL P n k0 (.seq a b) x Q:=
 EW.seq (EW.jz h fun e s ⟨x',h1,h3⟩=>by
  cases e with
  |normal=>subst h1;exact h3
  |exit id=>exact ⟨x',h1,h3⟩
  |ret=>exact ⟨x',h1,h3⟩)
theorem EL.cond {b:Arg} {y z:AC} {t:Bool} (hb:aD (slot x.t) b= .v (.bool t)) (h1:t=true->EL P n k0 y x Q) (h2:t=false->EL P n k0 z x Q):EL P n k0 (.cond b y z) x Q:=
 EW.cond hb (by
  cases t with
  |true=>exact h1 rfl
  |false=>exact h2 rfl)
theorem EL.bI {os:List aw} (h:OW P n k0 os x (Q .normal)):EL P n k0 (.bI os none) x Q:=by
 obtain ⟨x',h1,h3⟩:=h
 exact EW.bI (s':=x'.s) h1 ⟨x',rfl,h3⟩
theorem EL.draw {os:List aw} {dep:List (List Nat)} (h:DW P n dep os x [] (Q .normal)):EL P n k0 (.bI os (some dep)) x Q:=by
 obtain ⟨x',h1,h4⟩:=h
 exact EW.draw (s':=x'.s) h1 ⟨x',rfl,h4⟩
theorem S3.yb {s:S3} (hσ:∀t,s'.σ t=s.σ t\/s'.σ t= .dead\/s.σ t= .v undef/\False) (hg:s'.g=s.g) (hk:s'.k=s.k):s.Le k0 n s':=by
 intro E0 J base w0 a w _ hr
 obtain ⟨E,h1,h2,h3,h4,h5,h6⟩:=hr.ex
 refine ⟨⟨E,h1,h2,fun t=> ?_,by rw [hg];exact h4,by rw [hk];exact h5,h6⟩,hr.size,hr.below,hr.gl⟩
 rcases hσ t with h|h|h
 ·rw [h];exact h3 t
 ·rw [h];exact .dead
 ·exact h.2.elim
end
def kD:Nat->List AV->List (Nat×AV)
 |_,[]=>[]
 |i,a::r=>(i,a)::kD (i+1) r
def start (as_:List AV):L3:=⟨kD 0 as_,[]⟩
theorem tB:∀(as_:List AV) (i t:Nat),slot (kD i as_) t=if i<=t then (as_[t - i]?).getD .dead else .dead
 |[],i,t=>by simp [kD,slot]
 |a::r,i,t=>by
  simp only [kD,slot]
  by_cases h:t=i
  ·subst h
   rw [Nat.beq_refl];simp
  ·have hb:Nat.beq t i=false:=by
    cases hb:Nat.beq t i with
    |false=>rfl
    |true=>exact absurd (K1 hb) h
   rw [hb,K4,tB r (i+1) t]
   by_cases h1:i<=t
   ·rw [KL h1,KL (by omega),show t - i=(t - (i+1))+1 by omega,LD]
   ·rw [KK h1,KK (by omega)]
theorem DP (as_:List AV) (g:Nat->Option Bk) (k:Nat):(⟨cG as_,g,k⟩:S3).Le k0 n ⟨slot (kD 0 as_),g,k⟩:=by
 refine S3.yb (fun t=> ?_) rfl rfl
 show slot (kD 0 as_) t=cG as_ t\/_
 rw [tB,KL (Nat.zero_le _),Nat.sub_zero]
 unfold cG
 cases h:as_[t]? with
 |none=>exact .inr (.inl (by simp [tB,h]))
 |some a=>exact .inl rfl
open Go.RowKit
abbrev ow (a:AO):aw:=⟨none,a,none⟩
abbrev on (d:Nat) (a:AO) (g:Nat):aw:=⟨some d,a,some (g,false)⟩
section
variable {P:Program} {T:FuncId->Option dc}
end
open Go.RowKit
def tC (o:aw) (x:L3):Option (AV×List (Nat×Option Bk)):=
 match eX o x with
 | .done v u _=>some (v,u)
 |_=>none
def runN (n:Nat):Nat->List aw->L3->Option L3
 |0,_,x=>some x
 |_+1,[],_=>none
 |k+1,o::os,x=>bif dstOK n o.dst then match tC o x with
   |some (v,u)=>bif upsOK x.m.length u then runN n k os ⟨jC x.t o.dst v,eO x.m u⟩ else none
   |none=>none
  else none
def mF:Nat->List aw->L3->List Rec
 |0,_,_=>[]
 |_+1,[],_=>[]
 |k+1,o::os,x=>match eX o x with
  | .done v u acc=>⟨o.dst,v,u,acc,x.m.length⟩::mF k os ⟨jC x.t o.dst v,eO x.m u⟩
  |_=>[]
def bD (live:List Nat):List (Nat×AV)->List (Nat×AV)
 |[]=>[]
 |(j,v)::r=>bif live.any (Nat.beq j) then (j,v)::bD live r else bD live r
def L3.bD (live:List Nat) (x:L3):L3:=⟨Ytpoikkflcpklgaa.bD live x.t,x.m⟩
theorem ql (live:List Nat):∀(t:List (Nat×AV)) (i:Nat),slot (bD live t) i=if live.any (Nat.beq i)=true then slot t i else .dead
 |[],i=>by simp [bD,slot]
 |(j,v)::r,i=>by
  simp only [bD,slot]
  cases hb:Nat.beq i j with
  |true=>
   have:=K1 hb
   subst this
   cases hl:live.any (Nat.beq i) with
   |true=>simp [slot]
   |false=>simp [ql live r,hl]
  |false=>
   cases hl:live.any (Nat.beq j) with
   |true=>simp [slot,hb,ql live r]
   |false=>simp [ql live r]
section
variable {P:Program} {n k0:Nat} {x:L3} {K:L3->Prop} {Q:Ex->L3->Prop} {R:List aw} {k:Nat}
theorem EL.prune (live:List Nat) (h:EL P n k0 ac (x.bD live) Q):EL P n k0 ac x Q:=by
 refine EL.iS (y:=x.bD live) (S3.yb (fun t=> ?_) rfl rfl) h
 show slot (bD live x.t) t=slot x.t t\/slot (bD live x.t) t= .dead\/_
 rw [ql]
 split
 ·exact .inl rfl
 ·exact .inr (.inl rfl)
theorem yc {v:AV} (h:tC o x=some (v,u)):∃acc,eX o x= .done v u acc:=by
 unfold tC at h
 split at h
 ·rename_i v' u' acc he
  simp only [KJ,KZ] at h
  obtain ⟨rfl,rfl⟩:=h
  exact ⟨acc,he⟩
 ·simp at h
theorem yd:∀(c:Nat) (os:List aw) (x x':L3),runN n c os x=some x'->OW P n k0 (os.drop c) x' K->OW P n k0 os x K
 |0,os,x,x',h,hr=>by simp only [runN,KJ] at h;subst h;exact hr
 |c+1,[],x,x',h,hr=>by simp [runN] at h
 |c+1,o::os,x,x',h,hr=>by
  simp only [runN] at h
  cases hd:dstOK n o.dst with
  |false=>rw [hd] at h;simp at h
  |true=>
   rw [hd,KP] at h
   split at h
   ·rename_i v u hv
    obtain ⟨acc,he⟩:=yc hv
    cases hu:upsOK x.m.length u with
    |false=>rw [hu] at h;simp at h
    |true=>
     rw [hu,KP] at h
     exact OW.cons hd he hu (yd c os _ x' h hr)
   ·simp at h
theorem ye {dep:List (List Nat)}:∀(c:Nat) (os:List aw) (x x':L3) (rs:List Rec),runN n c os x=some x'->DW P n dep (os.drop c) x' (rs++mF c os x) K->DW P n dep os x rs K
 |0,os,x,x',rs,h,hr=>by simp only [runN,KJ] at h;subst h;simpa [mF] using hr
 |c+1,[],x,x',rs,h,hr=>by simp [runN] at h
 |c+1,o::os,x,x',rs,h,hr=>by
  simp only [runN] at h
  cases hd:dstOK n o.dst with
  |false=>rw [hd] at h;simp at h
  |true=>
   rw [hd,KP] at h
   split at h
   ·rename_i v u hv
    obtain ⟨acc,he⟩:=yc hv
    cases hu:upsOK x.m.length u with
    |false=>rw [hu] at h;simp at h
    |true=>
     rw [hu,KP] at h
     refine DW.cons hd he hu (ye c os _ x' _ h ?_)
     simp only [mF,he] at hr
     simpa using hr
   ·simp at h
def opD (R:List aw) (k:Nat):aw:=(R[k]?).getD ⟨none, .mov (.c .dead),none⟩
theorem yf (h:Nat.blt k R.length=true):R.drop k=opD R k::R.drop (k+1):=by
 have hk:k<R.length:=Ly h
 rw [List.drop_eq_getElem_cons hk]
 simp [opD,hk]
theorem OW.run (c:Nat) (h:runN n c (R.drop k) x=some x') (hr:OW P n k0 (R.drop (k+c)) x' K):OW P n k0 (R.drop k) x K:=
 yd c _ x x' h (by rw [List.drop_drop];exact hr)
theorem OW.last (c:Nat) (live:List Nat) (h:(runN n c (R.drop k) x).map (L3.bD live)=some x') (he:(R.drop (k+c)).isEmpty=true) (hr:EL P n k0 b x' Q):OW P n k0 (R.drop k) x fun y=>EL P n k0 b y Q:=by
 cases hy:runN n c (R.drop k) x with
 |none=>rw [hy] at h;simp at h
 |some y=>
  rw [hy] at h
  simp only [KV,KJ] at h
  refine OW.run c hy ?_
  rw [LN.1 he]
  exact OW.nil (EL.prune live (by rw [h];exact hr))
theorem EL.mG (h:OW P n k0 (R.drop 0) x fun y=>EL P n k0 b y Q):EL P n k0 (.seq (.bI R none) b) x Q:=EL.seq (EL.bI (by have:=h;rw [Mz] at this;exact this))
theorem DW.run (c:Nat) (h:runN n c (R.drop k) x=some x') (hr:DW P n dep (R.drop (k+c)) x' (rs++mF c (R.drop k) x) K):DW P n dep (R.drop k) x rs K:=
 ye c _ x x' rs h (by rw [List.drop_drop];exact hr)
theorem DW.last (c:Nat) (live:List Nat) (h:(runN n c (R.drop k) x).map (L3.bD live)=some x') (he:((R.drop (k+c)).isEmpty&&ew (rs++mF c (R.drop k) x) dep)=true) (hr:EL P n k0 b x' Q):DW P n dep (R.drop k) x rs fun y=>EL P n k0 b y Q:=by
 simp only [KM] at he
 cases hy:runN n c (R.drop k) x with
 |none=>rw [hy] at h;simp at h
 |some y=>
  rw [hy] at h
  simp only [KV,KJ] at h
  refine DW.run c hy ?_
  rw [LN.1 he.1]
  exact DW.nil he.2 (EL.prune live (by rw [h];exact hr))
theorem EL.DQ (h:DW P n dep (R.drop 0) x [] fun y=>EL P n k0 b y Q):EL P n k0 (.seq (.bI R (some dep)) b) x Q:=EL.seq (EL.draw (by have:=h;rw [Mz] at this;exact this))
theorem tN {f:L3->Prop} (h:f x):Ex.ya f Q .normal x:=h
theorem EL.DR {b:Arg} {z:AC} (hb:aD (slot x.t) b= .v (.bool false)) (h:EL P n k0 z x Q):EL P n k0 (.cond b y z) x Q:=EL.cond hb (fun e=>by simp at e) (fun _=>h)
abbrev VI (n:Int):AV:= .v (.int .i64 n)
end
open Go.RowKit
section
variable {P:Program} {n k0:Nat} {x:L3} {K:L3->Prop} {Q:Ex->L3->Prop} {R:List aw} {k:Nat}
theorem OW.iU {v:AV} (hl:Nat.blt k R.length=true) (h:eX (opD R k) x= .done v u acc) (hx:(bif dstOK n (opD R k).dst&&upsOK x.m.length u then some (⟨jC x.t (opD R k).dst v,eO x.m u⟩:L3) else none)=some x') (hr:OW P n k0 (R.drop (k+1)) x' K):OW P n k0 (R.drop k) x K:=by
 rw [yf hl]
 cases hd:(dstOK n (opD R k).dst&&upsOK x.m.length u) with
 |false=>rw [hd] at hx;simp at hx
 |true=>
  rw [hd,KP] at hx
  simp only [KJ] at hx
  subst hx
  simp only [KM] at hd
  exact OW.cons hd.1 h hd.2 hr
theorem DW.iU {v:AV} (hl:Nat.blt k R.length=true) (h:eX (opD R k) x= .done v u acc) (hx:(bif dstOK n (opD R k).dst&&upsOK x.m.length u then some (⟨jC x.t (opD R k).dst v,eO x.m u⟩:L3) else none)=some x') (hr:DW P n dep (R.drop (k+1)) x' (rs++[⟨(opD R k).dst,v,u,acc,x.m.length⟩]) K):DW P n dep (R.drop k) x rs K:=by
 rw [yf hl]
 cases hd:(dstOK n (opD R k).dst&&upsOK x.m.length u) with
 |false=>rw [hd] at hx;simp at hx
 |true=>
  rw [hd,KP] at hx
  simp only [KJ] at hx
  subst hx
  simp only [KM] at hd
  exact DW.cons hd.1 h hd.2 hr
end
section
variable {o:aw} {x:L3}
theorem kE (ao:AO) {v:AV} {see:List Nat} (ho:o.ao=ao) (hg:bH (slot x.t) o.guard=some true) (h:(ao.af x.m.length (aD (slot x.t))).run (look x.m)=some (.done v u))
  (h2:(ao.af x.m.length (aD (slot x.t))).acc (look x.m)=acc) (h3:(ao.af x.m.length (aD (slot x.t))).see (look x.m)=see):eX o x= .done v u (acc++see):=by
 unfold eX
 rw [hg]
 simp only [ho,h]
 unfold x8
 rw [h2,h3]
end
section
variable {o:aw} {x:L3}
theorem run_bind {α β:Type} {g:Nat->Option Bk} {f:α->RM β}:∀(m:RM α) {a:α},m.run g=some a->(m.bind f).run g=(f a).run g/\(m.bind f).acc g=m.acc g++(f a).acc g/\(m.bind f).see g=m.see g++(f a).see g
 | .ret b,a,h=>by simp only [RM.run,KJ] at h;subst h;exact ⟨rfl,rfl,rfl⟩
 | .fail,a,h=>by simp [RM.run] at h
 | .rd id k,a,h=>by
  cases hg:g id with
  |none=>simp [RM.run,hg] at h
  |some B=>
   simp only [RM.run,hg] at h
   obtain ⟨h1,h2,h3⟩:=run_bind (f:=f) (k B) h
   exact ⟨by simp [RM.bind,RM.run,hg,h1],by simp [RM.bind,RM.acc,hg,h2],by simp [RM.bind,RM.see,hg,h3]⟩
 | .lv id k,a,h=>by
  cases hg:g id with
  |none=>simp [RM.run,hg] at h
  |some B=>
   simp only [RM.run,hg] at h
   obtain ⟨h1,h2,h3⟩:=run_bind (f:=f) k h
   exact ⟨by simp [RM.bind,RM.run,hg,h1],by simp [RM.bind,RM.acc,h2],by simp [RM.bind,RM.see,h3]⟩
end
open Go.RowKit
theorem tF (h:ae E v .emp):∃A,v= .slice A 0 0:=by
 cases h with
 |emp=>exact ⟨_,rfl⟩
section
variable {E E':Env} {ρ:Nat->Option Nat}
end
abbrev DS (m:List (Option Bk)) (id:Nat):Prop:=∃(α:Type) (f:α->List AV) (xs:List α) (sz:Nat),look m id=some ⟨sz,xs.map f⟩/\∀y,(f y).all AV.pu1=true
theorem pu {α:Type} {id:Nat} (sz:Nat) (f:α->List AV) (xs:List α) (h:look m id=some ⟨sz,xs.map f⟩) (hp:∀y,(f y).all AV.pu1=true):DS m id:=⟨α,f,xs,sz,h,hp⟩
section
variable {P:Program} {n k0:Nat} {x:L3} {Q:Ex->L3->Prop}
end
section
variable {g:Nat->Option Bk}
end
def bJ (a b:AV):Prop:=∀(E:Env) (v:Value),ae E v a->ae E v b
theorem bJ.refl:bJ a a:=fun _ _ h=>h
theorem bJ.of_eq {b:AV} (h:a=b):bJ a b:=h▸bJ.refl
theorem bJ.trans {b c:AV} (h:bJ a b) (k:bJ b c):bJ a c:=fun E v r=>k E v (h E v r)
theorem bJ.emp {sz:Nat}:bJ .emp (.aN sz []):=fun E v h=>by
 obtain ⟨A,rfl⟩:=tF h
 exact .dy (by omega)
inductive dw:List AV->List AV->Prop
 |nil:dw [] []
 |cons {a b:AV} {r s:List AV} (h:bJ a b) (t:dw r s):dw (a::r) (b::s)
theorem dw.get {r s:List AV} (h:dw r s):r.length=s.length/\∀(i:Nat) b,s[i]? =some b->∃a,r[i]? =some a/\bJ a b:=by
 induction h with
 |nil=>exact ⟨rfl,fun i b h=>by simp at h⟩
 |cons h t ih=>
  refine ⟨by simp [ih.1],fun i b hb=> ?_⟩
  cases i with
  |zero=>simp only [Ll,KJ] at hb;subst hb;exact ⟨_,by simp,h⟩
  |succ i=>exact ih.2 i b (by simpa using hb)
theorem bJ.aG {r s:List AV} (h:dw r s):bJ (.aG r) (.aG s):=fun E v hv=>by
 cases hv with
 |aG hl hh=>exact .aG (hl.trans h.get.1) fun i u c hu hc=>let ⟨a,ha,tG⟩:=h.get.2 i c hc;tG _ _ (hh i u a hu ha)
theorem bJ.agg {r s:List AV} (h:dw r s):bJ (.agg r) (.agg s):=fun E v hv=>by
 cases hv with
 |agg hl hh=>exact .agg (hl.trans h.get.1) fun i u c hu hc=>let ⟨a,ha,tG⟩:=h.get.2 i c hc;tG _ _ (hh i u a hu ha)
theorem Fn.args (h:Fn P f as_ r) (ha:dw bE as_):Fn P f bE r:=fun w J vs hJ hG bW=>
 h w J vs hJ hG ⟨bW.1.trans ha.get.1,fun i u c hu hc=>let ⟨a,h1,h2⟩:=ha.get.2 i c hc;h2 _ _ (bW.2 i u a hu h1)⟩
theorem DT (hF:cFunc P f=some F) (hl:as_.length<=F.n)
  (h:EW P F.n 0 F.code ⟨cG as_,fun _=>none,0⟩ fun x s'=>(x= .normal\/x= .ret)/\∃r',((ij s'.σ F.res).bind oc).run s'.g=some r'/\bJ r' r):Fn P f as_ r:=by
 intro w J vs hJ hG bW
 obtain ⟨fn,c,h1,h2,h3,h4,h5⟩:=x4 hF
 have hm:aB (E0 w J) J w.heap.size (fun _=>none):=⟨fun id=>by simp [E0],fun id B hg=>by simp at hg,fun id cm b B B' hg=>by simp at hg,fun id b B hg=>by simp at hg,fun b hb=>⟨hJ b hb, .inl hb⟩,KO _,fun id B hg=>by simp at hg,fun _ h=>h.elim,fun _ h=>h.elim⟩
 refine x6 h1 h2 (wpIn_mono (h none c (E0 w J) J w.heap.size w _ w (fun _=>rfl) h4 (fun id hid=>hid.elim) ⟨⟨E0 w J,rfl,Env.Le.refl _,x5 bW _,hm,fun id hid=>hid.elim, .nil⟩, ?_,Lt _ _,hG⟩) ?_)
 ·simp only [Array.size_append,Array.size_replicate,bW.1];omega
 ·rintro e a' w' ⟨x,s',⟨hx,r',hr,DU⟩,rfl,hrel⟩
  obtain ⟨E1,rfl,hle,hs1,hM1,hk,hmk⟩:=hrel.ex
  refine ⟨by rcases hx with rfl|rfl<;>simp [Ex.up],tv _ E1 hmk fun E' hS=> ?_⟩
  have hM:=hS.mem hM1
  have hs:=fun t=>hS.rep (hs1 t)
  obtain ⟨r0,eF,dd⟩:=cz hr
  obtain ⟨v,e1,e2⟩:=x1 hM hs h3 eF
  have hI:∀ids b,Handed E' s'.g ids b->J b\/(w.heap.size<=b/\b<E'.w.heap.size):=by
   intro ids b hb
   rcases hb with hb|⟨id,B,_,hg,hl⟩
   ·have:=hM.low b hb
    rcases this.2 with h|h
    ·exact .inl h
    ·exact .inr ⟨h,this.1⟩
   ·have:=hM.at_ id B hg
    rw [hl] at this
    exact .inr this.lt
  have cF:ae (Proofs.Ytpoikkflcpklgaa.E0 E'.w fun b=>J b\/(w.heap.size<=b/\b<E'.w.heap.size)) v r:=by
   refine DU _ _ ?_
   cases r0 with
   |aG us=>
    simp only [oc] at dd
    obtain ⟨l,m1,m2⟩:=cz dd
    simp only [RM.run,KJ] at m2;subst m2
    obtain ⟨k1,k2⟩:=qe hM _ m1 (hI _)
    cases e2 with
    |aG hl h=>
     refine .aG (by rw [k1];exact hl) fun i v c hv hc=> ?_
     have hi:i<us.length:=by rw [<-k1];exact (KS.1 hc).1
     exact k2 i v us[i] c (h i v _ hv (K0 hi)) (K0 hi) hc
   |_=>exact xH hM _ e2 dd (hI _)
  exact ⟨v,e1,v,rfl,cF,hS.below (KO _) hrel.below⟩
theorem yg (hF:cFunc P f=some F) (hl:as_.length<=F.n)
  (h:EW P F.n k F.code ⟨cG as_,g,k⟩ fun x s'=>(x= .normal\/x= .ret)/\∃y:S3,s'.Le k F.n y/\(ij y.σ F.res).run y.g=some r/\y.g=g'/\y.k=k'):Fi P f as_ g k r g' k':=by
 intro E J base vs hG hm aX bW
 obtain ⟨fn,c,h1,h2,h3,h4,h5⟩:=x4 hF
 refine x6 h1 h2 (wpIn_mono (h none c E J base E.w _ E.w (fun _=>rfl) h4 aX ⟨⟨E,rfl,Env.Le.refl E,x5 bW _,hm,aX, .nil⟩, ?_,Lt _ _,hG⟩) ?_)
 ·simp only [Array.size_append,Array.size_replicate,bW.1];omega
 ·rintro e a' w' ⟨x,s',⟨hx,y,hy,hr,rfl,rfl⟩,rfl,DV⟩
  have hrel:=hy E J base E.w a' w' aX DV
  obtain ⟨E',rfl,hle,hs,hM,hk,hmk⟩:=hrel.ex
  refine ⟨by rcases hx with rfl|rfl<;>simp [Ex.up],tv _ E' hmk fun E2 hS=> ?_⟩
  have hM2:=hS.mem hM
  obtain ⟨v,e1,e2⟩:=x1 hM2 (fun t=>hS.rep (hs t)) h3 hr
  exact ⟨v,e1,v,E2,rfl,rfl,hS.le hle (fun b hb=>(hm.low b hb).1) (fun b hb=>(hm.xo b hb).1),e2,hM2,hS.below hm.size hrel.below,fun id hid=>hk id (by rw [<-hS.eqs.1];exact hid)⟩
theorem fV (hF:cFunc P f=some F) (hl:as_.length<=F.n) {m':List (Option Bk)}
  (h:EL P F.n m.length F.code ⟨kD 0 as_,m⟩ fun e x=>(e= .normal\/e= .ret)/\∃y:L3,x.s.Le m.length F.n y.s/\(ij (slot y.t) F.res).run (look y.m)=some r/\y.m=m'):Fi P f as_ (look m) m.length r (look m') m'.length:=by
 refine yg hF hl (EW.iS (DP as_ _ _) (EW.jz h ?_))
 rintro e s ⟨x',rfl,h1,y,h2,h3,rfl⟩
 exact ⟨h1,y.s,h2,h3,rfl,rfl⟩
section
variable {P:Program} {n k0:Nat} {x:L3} {K:L3->Prop} {R:List aw} {k:Nat}
end
section
variable {o:aw} {x:L3}
end
end Go.Proofs.Ytpoikkflcpklgaa
