/- A function that is handed values without letters is run. No condition. -/
import Derived.Test.YtimomnfobfjggaaPAvStr
import Derived.OrdersIn
import Derived.OwnWalkIn
import Derived.RangeFuncOwn
import Derived.RangeFuncLeaves
set_option linter.unusedSimpArgs false
set_option linter.unusedVariables false
namespace Go.Proofs.Ytimomnfobfjggaa
variable {ao:AO} {val a r a':AV} {x:Arg} {ops:Array Oper} {vs args:Array Value} {c:Code} {R:Ending->World->Prop} {E E':Env} {Q:Exit->Act->World->Prop} {fn:Func} {f:FuncId} {ups:List (Nat×Option Bk)} {as_ bq:List AV} {ds:List Deferred} {acc:List Nat} {n k lo k' fresh kb i k0 base i0 D:Nat} {σ σ':Nat->AV} {g g':Nat->Option Bk} {J:Nat->Prop} {op:Oper} {xo:Operand} {ρ:Option Nat} {P:Program} {t ty e:TypeId} {v:Value} {w w':World}
open Go.RowKit
abbrev N9:=@Bool.and_eq_true
abbrev Ob:=@cond_true
abbrev Of:=@List.mem_singleton
abbrev Oj:=@List.mem_cons
abbrev Ol:=@Nat.eq_of_beq_eq_true
abbrev Ot:=@cond_false
abbrev Ov:=@Bool.not_eq_true'
abbrev Oz:=@Nat.lt_of_lt_of_le
abbrev OA:=@Bool.or_eq_true
abbrev OL:=@List.mem_range
abbrev OM:=@List.mem_append
abbrev ON:=@Nat.le_of_ble_eq_true
abbrev OO:=@List.mem_append_right
abbrev OP:=@List.contains_eq_mem
abbrev OQ:=@decide_eq_false_iff_not
abbrev OR:=@List.mem_append_left
abbrev O5:=@List.flatMap_cons
abbrev O6:=@List.mem_cons_self
abbrev Pb:=@decide_eq_true_eq
abbrev Pl:=@Nat.lt_irrefl
abbrev Pm:=@List.contains_iff_mem
abbrev Pn:=@World.putObj_heap_other
abbrev Ps:=@List.cons_append
abbrev Pz:=@Array.getD_eq_getD_getElem?
abbrev PI:=@List.getElem?_eq_none
abbrev PT:=@Array.toList_inj
abbrev PU:=@List.any_eq_true
abbrev P0:=@Oper.semAt_plain
abbrev P4:=@List.map_congr_left
abbrev P5:=@Array.size_replicate
abbrev P7:=@Array.getElem?_append_right
section
variable {P:Program} {E:Env} {J:Nat->Prop} {base:Nat} {g:Nat->Option Bk} {aD:Operand->Value} {ρ:Arg->AV} {fresh:Nat}
theorem Ag {cs ds:List AV}:∀{L M:List (Nat×LK)} {b:Bool},eqA cs ds (L++M)=some b->∃x y,eqA cs ds L=some x/\eqA cs ds M=some y/\b=(x&&y)
 |[],M,b,h=>⟨true,b,rfl,h,by simp⟩
 |(o,k)::L,M,b,h=>by
  simp only [Ps,eqA] at h ⊢
  split at h
  ·rename_i a c h1 h2
   split at h
   ·rename_i x y h3 h4
    obtain ⟨x',y',k1,k2,k3⟩:=Ag h4
    simp only [N6] at h
    refine ⟨x&&x',y', ?_,k2,by rw [<-h,k3,Bool.and_assoc]⟩
    simp [h1,h2,h3,k1]
   ·simp at h
  ·simp at h
def partOf (P:Program) (t:TypeId) (vs:Array Value) (off:Nat):Value->Prop:=fun x=>
 match P.underlying t with
 |some (.struct _)=>∃n,szOf P t=some n/\off+n<=vs.size/\x= .agg (vs.extract off (off+n))
 |_=>vs[off]? =some x
theorem Gb {ws:Array Value} {cs ds:List AV} (h1:RC E vs cs) (h2:RC E ws ds):∀(d:Nat) (t:TypeId) (off:Nat) (L:List (Nat×LK)) (b:Bool),jZ P d t off=some L->eqA cs ds L=some b->∀D,d<=D->∀x y,partOf P t vs off x->partOf P t ws off y->
  (Op.equalIn D t x y).run P E.w= .ok b E.w:=by
 intro d
 induction d with
 |zero=>intro t off L b hL;simp [jZ] at hL
 |succ d ih=>
  intro t off L b hL hb D hD x y hx hy
  obtain ⟨D,rfl⟩:∃D',D=D'+1:=⟨D - 1,by omega⟩
  simp only [jZ] at hL
  have leaf:∀k,L=[(off,k)]->vs[off]? =some x->ws[off]? =some y->∃a c,cs[off]? =some a/\ds[off]? =some c/\jY k a c=some b/\aj E x a/\aj E y c:=by
   intro k hk hx hy
   subst hk
   simp only [eqA] at hb
   split at hb
   ·rename_i a c e1 e2
    split at hb
    ·rename_i u v e3 e4
     simp only [N6] at hb e4
     subst e4
     rw [Bool.and_true] at hb
     subst hb
     exact ⟨a,c,e1,e2,e3,h1.2 _ _ _ hx e1,h2.2 _ _ _ hy e2⟩
    ·simp at hb
   ·simp at hb
  split at hL
  ·rename_i k hu
   simp only [N6] at hL
   simp only [partOf,hu] at hx hy
   obtain ⟨a,c,e1,e2,e3,e4,e5⟩:=leaf .int hL.symm hx hy
   unfold jY at e3
   split at e3<;>try (simp at e3;done)
   ·rename_i k1 m1 k2 m2 _
    split at e3
    ·rename_i hk;subst hk
     simp only [N6] at e3;subst e3
     cases e4;cases e5
     exact run_equalIn_int _ D t k1 k m1 m2 hu
    ·simp at e3
   all_goals (rename_i hk;simp at hk)
  ·rename_i hu
   simp only [N6] at hL
   simp only [partOf,hu] at hx hy
   obtain ⟨a,c,e1,e2,e3,e4,e5⟩:=leaf .str hL.symm hx hy
   unfold jY at e3
   split at e3<;>try (simp at e3;done)
   all_goals try (rename_i hk;simp at hk;done)
   simp only [N6] at e3;subst e3
   cases e4;cases e5
   rw [zK]
   exact run_equalIn_string _ D t _ _ hu
  ·rename_i hu
   simp only [N6] at hL
   simp only [partOf,hu] at hx hy
   obtain ⟨a,c,e1,e2,e3,e4,e5⟩:=leaf .bool hL.symm hx hy
   unfold jY at e3
   split at e3<;>try (simp at e3;done)
   all_goals try (rename_i hk;simp at hk;done)
   simp only [N6] at e3;subst e3
   cases e4;cases e5
   exact run_equalIn_bool' _ D t _ _ hu
  ·rename_i fs hu
   split at hL
   ·simp at hL
   ·rename_i dd
    split at hL
    ·rename_i n hn
     simp only [partOf,hu] at hx hy
     obtain ⟨nx,qd,Gc,rfl⟩:=hx
     obtain ⟨ny,oC,Ge,rfl⟩:=hy
     obtain rfl:n=nx:=by rw [hn] at qd;simpa using qd
     obtain rfl:n=ny:=by rw [hn] at oC;simpa using oC
     have oD:P.fieldsOf t=fs:=by simp [Program.fieldsOf,hu]
     rw [run_equalIn_struct E.w D t _ _ (by rw [oD];exact hu) (by simpa using dd),oD]
     clear oD dd leaf hu
     generalize fs.toList=l at hL
     induction l generalizing L b with
     |nil=>
      simp only [sj,N6] at hL
      subst hL
      simp only [eqA,N6] at hb
      subst hb
      rfl
     |cons f l Gf=>
      simp only [sj] at hL
      split at hL
      ·simp at hL
      ·rename_i qe
       split at hL
       ·rename_i k hk
        split at hL
        ·rename_i hfit
         split at hL
         ·rename_i La Lb ea eb
          simp only [N6] at hL
          subst hL
          obtain ⟨xa,xb,m1,m2,rfl⟩:=Ag hb
          have hp:∀(us:Array Value),off+n<=us.size->∃p,(part f.type (us.extract off (off+n)) f.offset).run P E.w= .ok p E.w/\partOf P f.type us (off+f.offset) p:=by
           intro us Nt
           have hsz:=l5 hk E.w
           cases hd:P.underlying f.type with
           |none=>
            exfalso
            cases d with
            |zero=>simp [jZ] at ea
            |succ d=>simp [jZ,hd] at ea
           |some desc=>
            have we:(isAgg f.type).run P E.w= .ok false E.w->(∀qf,desc≠ .struct qf)->0<k\/True->f.offset<n->∃p,(part f.type (us.extract off (off+n)) f.offset).run P E.w= .ok p E.w/\partOf P f.type us (off+f.offset) p:=by
             intro dH hne _ hlt
             have hg:(us.extract off (off+n))[f.offset]? =us[off+f.offset]? :=by
              rw [Array.getElem?_extract]
              simp;omega
             have sF:off+f.offset<us.size:=by omega
             refine ⟨us[off+f.offset], ?_, ?_⟩
             ·simp [part,dH,hg,Oo sF]
             ·simp only [partOf,hd]
              cases desc<;>first|exact Oo sF|exact absurd rfl (hne _)
            cases desc with
            |struct qf=>
             refine ⟨_,by simp [part,isAgg,run_underlying hd,hsz];rfl, ?_⟩
             simp only [partOf,hd]
             refine ⟨k,hk,by omega, ?_⟩
             congr 1
             apply Array.ext_getElem?
             intro i
             simp only [Array.getElem?_extract]
             by_cases hi:i<k
             ·rw [N8 (by omega),N8 (by omega)]
              try rw [N8 (by omega)]
              try (congr 1;omega)
             ·rw [N7 (by omega),N7 (by omega)]
            |int _=>exact we (by simp [isAgg,run_underlying hd]) (fun qf h=>by cases h) (.inr trivial) hfit.2
            |string=>exact we (by simp [isAgg,run_underlying hd]) (fun qf h=>by cases h) (.inr trivial) hfit.2
            |bool=>exact we (by simp [isAgg,run_underlying hd]) (fun qf h=>by cases h) (.inr trivial) hfit.2
            |_=>
             exfalso
             cases d with
             |zero=>simp [jZ] at ea
             |succ d=>simp [jZ,hd] at ea
          obtain ⟨p1,r1,q1⟩:=hp vs Gc
          obtain ⟨p2,r2,q2⟩:=hp ws Ge
          have cp:=ih f.type (off+f.offset) La xa ea m1 D (by omega) p1 p2 q1 q2
          have Gg:=Gf Lb xb m2 eb
          simp only [Op.eqFields]
          rw [N8 qe]
          simp only [OS,r1,r2,cp,PF,Sem.run_ite]
          cases xa
          ·simp
          ·simp [Gg]
         ·simp at hL
        ·simp at hL
       ·simp at hL
    ·simp at hL
  ·simp at hL
theorem Ah (hm:aE E J base g) {neg:Bool} {op:BinOp} (bV:op=if neg then .neq else .eql) {L:List (Nat×LK)} {fs:Array Field} (hu:P.underlying t=some (.struct fs)) (hn:szOf P t=some n) (hg:P.eqGuardType P.depth t=false) (hL:jZ P 8 t 0=some L) {vx vy:Value} {yo:Operand} {y:Arg} (hvx:aj E vx (ρ x)) (hvy:aj E vy (ρ y))
 (h:((AO.eqs neg n L x y).au fresh ρ).run g=some (.done val ups)):
  bN E J base g ((do pure (Next.value (<-(do eqGuard op t xo yo vx vy;binOp op t vx vy:Sem Value))):Sem Next).run P E.w) val ups:=by
 simp only [AO.au] at h
 split at h
 ·rename_i cs ds h1 h2
  split at h
  case isFalse=>simp [RM.run] at h
  rename_i hlen
  cases hb:eqA cs ds L with
  |none=>simp [hb,RM.opt,RM.run] at h
  |some b=>
   simp [hb,RM.opt,RM.run] at h
   obtain ⟨rfl,rfl⟩:=h
   have s1:szOf P t=some cs.length:=by rw [hlen.1];exact hn
   have s2:szOf P t=some ds.length:=by rw [hlen.2];exact hn
   rw [h1] at hvx;rw [h2] at hvy
   cases hvx with
   | @agg xs _ l1 r1=>cases hvy with
    | @agg ys _ l2 r2=>
     have hrun:=Gb (P:=P) (E:=E) ⟨l1,r1⟩ ⟨l2,r2⟩ 8 t 0 L b hL hb 10000 (by omega) (.agg xs) (.agg ys) (by
      simp only [partOf,hu];refine ⟨_,s1,by omega, ?_⟩;congr 1;rw [On, <-l1];simp) (by
      simp only [partOf,hu];refine ⟨_,s2,by omega, ?_⟩;congr 1;rw [On, <-l2];simp)
     cases neg with
     |false=>
      simp only [O0,OH] at bV ⊢
      subst bV
      refine bp hm (v:= .bool b) ?_ (.v rfl)
      simp [run_eqGuard_agg E.w _ t xo yo xs ys hg,run_eql_struct,hrun]
     |true=>
      simp only [Oa] at bV ⊢
      subst bV
      refine bp hm (v:= .bool (!b)) ?_ (.v rfl)
      simp [run_eqGuard_agg E.w _ t xo yo xs ys hg,run_neq_struct,hrun]
 ·simp [RM.run] at h
theorem Gh (ha:dx E aD ρ) (hm:aE E J base g) (hu:P.underlying t=some .string) {x:Operand} {ax:Arg} (hx:cArg x=some ax) {lo hi:Option Operand} {jW jX:Option Arg} (h1:eO lo=some jW) (h2:eO hi=some jX)
 (h:((AO.sls ax jW jX).au fresh ρ).run g=some (.done val ups)):
  bN E J base g ((do pure (Next.value (<-Instr.sliceAt t (aD x) (lo.map aD) (hi.map aD) none)):Sem Next).run P E.w) val ups:=by
 have hv:=ha x ax hx
 simp only [AO.au] at h
 split at h
 ·rename_i nlo nhi s k1 k2 cF
  cases hb:bounds s.size nlo nhi with
  |none=>simp [hb,RM.opt,RM.run] at h
  |some b=>
   simp [hb,RM.opt,RM.run] at h
   obtain ⟨rfl,rfl⟩:=h
   rw [cF] at hv
   have hvx:aD x= .string s:=by
    obtain ⟨vv,b6⟩:∃vv,vv=aD x:=⟨_,rfl⟩
    rw [<-b6] at hv ⊢
    cases hv with|v=>rfl
   have fF:=m4 (P:=P) (E:=E) (isS:=false) (mx:=none) (amx:=none) (nmx:=none) ha (Og s.size) h1 h2 rfl k1 k2 rfl (by simp) hb (fun m hm=>by simp at hm)
   simp only [Option.map_none,Py] at fF
   refine bp hm (v:= .string (s.extract b.1 b.2)) ?_ (.v rfl)
   simp [hvx,Instr.sliceAt,Instr.slice,run_underlying hu,fF]
 ·simp [RM.run] at h
theorem Gi (hm:aE E J base g) (hu:P.underlying t=some .string) {vi:Value} {i:Arg} (hv:aj E v (ρ x)) (hvi:aj E vi (ρ i))
 (h:((AO.six x i).au fresh ρ).run g=some (.done val ups)):
  bN E J base g ((do pure (Next.value (<-Instr.index t v vi)):Sem Next).run P E.w) val ups:=by
 simp only [AO.au] at h
 split at h
 ·rename_i s n hx hn
  cases hb:s[n]? with
  |none=>simp [hb,RM.opt,RM.run] at h
  |some b=>
   simp [hb,RM.opt,RM.run] at h
   obtain ⟨rfl,rfl⟩:=h
   obtain ⟨k,rfl⟩:=su hvi hn
   rw [hx] at hv
   cases hv with
   |v hp=>
    refine bp hm (v:= .int .u8 b.toNat) ?_ (.v rfl)
    simp [Instr.index,asIntOf,run_underlying hu,hb]
 ·simp [RM.run] at h
theorem Gj {caps:Array Value} {c:Call} {x:Operand} (hc:c.callee= .value x) (hx:aD x= .func (.func f) #[] caps) (w:World):
  (do let d<-resolve aD c ty;invoke d.target d.args:Sem Next).run P w=(callFunc f (c.args.map aD++caps)).run P w:=by
 simp [resolve,hc,hx,Deferred.ofValue,invoke]
theorem Gk {first:Array Value} {c:Call} {x:Operand} (hc:c.callee= .value x) (hx:aD x= .func (.func f) first #[]) (w:World):
  (do let d<-resolve aD c ty;invoke d.target d.args:Sem Next).run P w=(callFunc f (first++c.args.map aD)).run P w:=by
 simp [resolve,hc,hx,Deferred.ofValue,invoke]
def bH (P:Program) (f:FuncId):Bool:=
 match P.funcs[f]? with
 |some fn=>fn.body.isSome&&fn.name != "runtime.NumGoroutine"
 |none=>false
theorem wh (h:bH P f=true) (args:Array Value) (w:World):(callFunc f args).run P w= .ok (.enter f args) w:=by
 unfold bH at h
 cases hf:P.funcs[f]? with
 |none=>simp [hf] at h
 |some fn=>
  simp only [hf,N9,bne_iff_ne,ne_eq] at h
  have hb:fn.body.isNone=false:=by cases hbb:fn.body<;>simp [hbb] at h ⊢
  simp only [callFunc,OS,run_program,PF,hf,hb,O0,OH]
  rw [N7 (by simpa using h.2)]
  rfl
theorem aj.iw {a:Value} (h:aj E v (.v a)):v=a:=by cases h;rfl
theorem Ai {x:Option Operand} {ax:Option Arg} (h:eO x=some ax):ax.isSome=x.isSome:=by
 cases x with
 |none=>simp [eO] at h;subst h;rfl
 |some o=>
  simp only [eO] at h
  cases hc:cArg o<;>simp [hc] at h
  subst h;rfl
theorem wi (hn:∀x args,ao≠ .call x args):(ao.au fresh ρ).run g≠some (.call f as_):=by
 intro h
 have me:∀{α:Type} (m:Option α) (k:α->Out),(∀a,∀f as_,k a≠ .call f as_)->∀f as_,RM.run g (RM.opt (m.map k))=some (.call f as_)->False:=by
  intro α m k hk f as_ hh
  cases m with
  |none=>simp [RM.opt,RM.run] at hh
  |some a=>simp [RM.opt,RM.run] at hh;exact hk a _ _ hh
 have Aj:∀{α β:Type} (m:Option α) (k:α->Option β) (k2:β->Out),(∀a,∀f as_,k2 a≠ .call f as_)->∀f as_,RM.run g (RM.opt (m.bind fun x=>(k x).map k2))=some (.call f as_)->False:=by
  intro α β m k k2 hk f as_ hh
  cases m with
  |none=>simp [RM.opt,RM.run] at hh
  |some a=>simp only [Pg] at hh;exact me _ _ hk _ _ hh
 cases ao with
 |call x args=>exact hn x args rfl
 |app sz bytes s x=>
  simp only [AO.au] at h
  obtain ⟨ys,_,h⟩:=cA h
  split at h
  ·split at h<;>simp [RM.run] at h
  ·split at h<;>simp [RM.run] at h
  ·simp only [RM.run] at h
   split at h
   ·split at h
    ·simp [RM.run] at h
    ·split at h<;>simp [RM.run] at h
   ·simp at h
  ·simp [RM.run] at h
 |clr zs x=>
  simp only [AO.au] at h
  split at h
  ·simp [RM.run] at h
  ·simp only [RM.run] at h
   split at h
   ·split at h<;>simp [RM.run] at h
   ·simp at h
  ·simp [RM.run] at h
 |cpy sz x y=>
  simp only [AO.au] at h
  obtain ⟨ys,_,h⟩:=cA h
  split at h
  ·simp only [RM.run] at h
   split at h
   ·split at h<;>simp [RM.run] at h
   ·simp at h
  ·simp [RM.run] at h
 |slc sz x lo hi mx=>
  simp only [AO.au] at h
  split at h
  ·split at h
   ·split at h
    ·exact Aj _ _ _ (by simp) _ _ h
    ·simp [RM.run] at h
   ·split at h
    ·exact Aj _ _ _ (by simp) _ _ h
    ·simp [RM.run] at h
   ·generalize bounds 0 _ _=bb at h
    cases bb with
    |none=>simp [RM.opt,RM.run] at h
    |some b=>
     simp only [Pg] at h
     split at h<;>simp [RM.opt,RM.run] at h
   ·obtain ⟨B,_,h⟩:=iq h
    split at h
    ·split at h
     ·split at h
      ·simp [RM.run] at h
      ·simp only [RM.run] at h
       split at h
       ·split at h
        ·exact me _ _ (by simp) _ _ h
        ·simp [RM.run] at h
       ·simp at h
      ·simp [RM.run] at h
     ·simp [RM.run] at h
    ·simp only [RM.run] at h
     split at h
     ·split at h
      ·generalize bounds _ _ _=bb at h
       cases bb with
       |none=>simp [RM.opt,RM.run] at h
       |some b=>
        simp only [Pg] at h
        split at h<;>simp [RM.opt,RM.run] at h
      ·simp [RM.run] at h
     ·simp at h
   ·simp [RM.run] at h
  ·simp [RM.run] at h
 |mup kd x k y=>
  simp only [AO.au] at h
  split at h
  ·simp only [RM.run] at h
   split at h
   ·split at h
    ·split at h<;>simp [RM.run] at h
    ·simp [RM.run] at h
   ·simp at h
  ·simp [RM.run] at h
 |mlk kd z x k=>
  simp only [AO.au] at h
  split at h
  ·simp only [RM.run] at h
   split at h
   ·split at h
    ·exact me _ _ (by simp) _ _ h
    ·simp [RM.run] at h
   ·simp at h
  ·simp [RM.run] at h
 |b2s x=>
  simp only [AO.au] at h
  obtain ⟨ys,_,h⟩:=cA h
  exact me _ _ (by simp) _ _ h
 |isn kd b x=>cases kd<;>simp only [AO.au] at h<;>split at h<;>first|(simp [RM.run] at h;done)|(obtain ⟨B,_,h⟩:=iq h;simp [RM.run] at h)
 |len b x=>cases b<;>simp only [AO.au] at h<;>split at h<;>first|(simp [RM.run] at h;done)|(obtain ⟨B,_,h⟩:=iq h;simp [RM.run] at h)
 |_=>
  simp only [AO.au] at h
  first
  |(simp [RM.run] at h;done)
  |exact me _ _ (by simp) _ _ h
  |(split at h<;>first
    |(simp [RM.run] at h;done)
    |exact me _ _ (by simp) _ _ h
    |(obtain ⟨B,_,h⟩:=iq h;simp [RM.run] at h;done)
    |(split at h<;>first
      |(simp [RM.run] at h;done)
      |exact me _ _ (by simp) _ _ h
      |(obtain ⟨B,_,h⟩:=iq h;simp [RM.run] at h;done))
    |(simp only [RM.run] at h;split at h<;>first
      |(simp at h;done)
      |(split at h<;>first
        |(simp [RM.run] at h;done)
        |exact me _ _ (by simp) _ _ h
        |(split at h<;>simp [RM.run] at h))))
theorem Ak {o:Oper} {args:List Arg} (hc:bM P o=some (.call x args)):∃c y,o.op= .call c/\c.callee= .value y/\cArg y=some x/\l0 c.args.toList=some args:=by
 obtain ⟨dst,op,type,pos,after,guard⟩:=o
 cases op with
 |call c=>
  simp only [bM] at hc
  split at hc
  ·rename_i y hy
   split at hc
   ·rename_i ax al h1 h2
    simp only [N6,AO.call.injEq] at hc
    obtain ⟨rfl,rfl⟩:=hc
    exact ⟨c,y,rfl,hy,h1,h2⟩
   ·simp at hc
  all_goals exfalso
  all_goals (repeat' (first|(simp at hc;done)|split at hc))
 |makeFunc fn first caps=>
  exfalso
  cases fn<;>simp only [bM] at hc
  all_goals (repeat' (first|(simp at hc;done)|split at hc))
 |mapUpdate t m k y=>
  exfalso
  simp only [bM] at hc
  split at hc
  ·cases hk:keyT P _ with
   |none=>rw [hk] at hc;simp at hc
   |some kd=>rw [hk] at hc;simp at hc
  ·simp at hc
 |insert t m k y=>
  exfalso
  simp only [bM] at hc
  split at hc
  ·cases hk:keyT P _ with
   |none=>rw [hk] at hc;simp at hc
   |some kd=>rw [hk] at hc;simp at hc
  ·simp at hc
 |_=>
  exfalso
  simp only [bM] at hc
  all_goals (repeat' (first|(simp at hc;done)|split at hc))
theorem qg (ha:dx E aD ρ) {o:Oper} (hc:bM P o=some ao) (h:(ao.au fresh ρ).run g=some (.call f as_)) (hf:bH P f=true):
  ∃vs,(execOp aD o).run P E.w= .ok (.enter f vs) E.w/\RC E vs as_:=by
 by_cases hn:∀x args,ao≠ .call x args
 ·exact absurd h (wi hn)
 ·obtain ⟨x,args,rfl⟩:∃x args,ao= .call x args:=by
   simp only [ne_eq] at hn
   cases ao<;>first|exact ⟨_,_,rfl⟩|(exfalso;exact hn (by simp))
  obtain ⟨c,y,h1,h2,h3,h4⟩:=Ak hc
  simp only [AO.au] at h
  split at h
  ·rename_i f' caps hx
   simp only [RM.run,N6,Out.call.injEq] at h
   obtain ⟨rfl,rfl⟩:=h
   have hv:=ha y x h3
   rw [hx] at hv
   obtain ⟨vv,b6⟩:∃vv,vv=aD y:=⟨_,rfl⟩
   rw [<-b6] at hv
   cases hv with
   | @fn _ us _ hl hr=>
    obtain ⟨al,ar⟩:=ha.list h4
    refine ⟨c.args.map aD++us, ?_, ?_⟩
    ·unfold execOp
     simp only [h1]
     exact (Gj (caps:=us) h2 b6.symm E.w).trans (wh hf _ _)
    ·refine ⟨by simp [hl];rw [<-al];simp,fun j u a hu dy=> ?_⟩
     have bY:(c.args.map aD).size=args.length:=by rw [<-al];simp
     by_cases hj:j<args.length
     ·rw [PZ (by omega)] at hu
      rw [O4 (by simpa using hj)] at dy
      exact ar j u a (by simpa using hu) dy
     ·rw [P7 (by omega),bY] at hu
      rw [Ph (by simpa using hj)] at dy
      simp only [Ox] at dy
      exact hr _ u a hu dy
  ·rename_i f' caps hx
   simp only [RM.run,N6,Out.call.injEq] at h
   obtain ⟨rfl,rfl⟩:=h
   have hv:=ha y x h3
   rw [hx] at hv
   obtain ⟨vv,b6⟩:∃vv,vv=aD y:=⟨_,rfl⟩
   rw [<-b6] at hv
   cases hv with
   | @bf _ us _ hl hr=>
    obtain ⟨al,ar⟩:=ha.list h4
    refine ⟨us++c.args.map aD, ?_, ?_⟩
    ·unfold execOp
     simp only [h1]
     exact (Gk (first:=us) h2 b6.symm E.w).trans (wh hf _ _)
    ·refine ⟨by simp [hl];rw [<-al];simp,fun j u a hu dy=> ?_⟩
     by_cases hj:j<us.size
     ·rw [PZ hj] at hu
      rw [O4 (by omega)] at dy
      exact hr _ u a hu dy
     ·rw [P7 (by omega)] at hu
      rw [Ph (by omega), <-hl] at dy
      exact ar _ u a (by simpa using hu) dy
  ·simp [RM.run] at h
theorem wj {op:BinOp} {n:Bool} (h:negOf op=some n):op=if n then .neq else .eql:=by
 cases op<;>cases h<;>rfl
theorem Gl (hu:P.underlying t=some (.slice e)) (A:Option Addr) (n c:Nat) (w:World):(Op.equal t (.slice A n c) (.slice none 0 0)).run P w= .ok A.isNone w:=by
 show (Op.equalIn (9999+1) t _ _).run P w=_
 unfold Op.equalIn
 cases A<;>simp [run_underlying hu]
theorem Gm (hu:P.underlying t=some (.pointer e)) (A:Option Addr) (w:World):(Op.equal t (.pointer A) (.pointer none)).run P w= .ok A.isNone w:=by
 show (Op.equalIn (9999+1) t _ _).run P w=_
 unfold Op.equalIn
 cases A<;>simp [run_underlying hu]
theorem wk {a1 a2 a3} (hu:P.underlying t=some (.func a1 a2 a3)) (f:Go.Fn) (x y:Array Value) (w:World):(Op.equal t (.func f x y) .nilFunc).run P w= .ok false w:=by
 show (Op.equalIn (9999+1) t _ _).run P w=_
 unfold Op.equalIn
 simp [run_underlying hu]
theorem wm {a1 a2 a3} (hu:P.underlying t=some (.func a1 a2 a3)) (w:World):(Op.equal t .nilFunc .nilFunc).run P w= .ok true w:=by
 show (Op.equalIn (9999+1) t _ _).run P w=_
 unfold Op.equalIn
 simp [run_underlying hu]
theorem Gn (hm:aE E J base g) (oE:∀v,aD (.const v)=v) {op:BinOp} {y:Operand} {q:NK×Bool} (hn:vM P t op y=some q) (hv:aj E (aD xo) (ρ x))
  (h:((AO.isn q.1 q.2 x).au fresh ρ).run g=some (.done val ups)):bN E J base g ((do pure (Next.value (<-(do eqGuard op t xo y (aD xo) (aD y);binOp op t (aD xo) (aD y)))):Sem Next).run P E.w) val ups:=by
 obtain ⟨vx,hvx⟩:∃vx,vx=aD xo:=⟨_,rfl⟩
 rw [<-hvx] at hv ⊢
 unfold vM at hn
 split at hn
 ·-- Nu
  rename_i e hu
  rw [oE]
  cases hng:negOf op with
  |none=>simp [hng] at hn
  |some neg=>
   simp only [hng,Oh,N6] at hn
   subst hn
   have bV:=wj hng
   have run:∀A n c,vx= .slice A n c->(do pure (Next.value (<-(do eqGuard op t xo (.const (.slice none 0 0)) vx (.slice none 0 0);binOp op t vx (.slice none 0 0)))):Sem Next).run P E.w= .ok (.value (.bool (A.isNone !=neg))) E.w:=by
    rintro A n c rfl
    cases neg<;>simp only [Oa,O0,OH] at bV<;>subst bV<;>cases A<;>simp [eqGuard,binOp,Gl hu]
   have Al:∀A n c,vx= .slice (some A) n c->∀{v},v=AV.v (.bool neg)->bN E J base g ((do pure (Next.value (<-(do eqGuard op t xo (.const (.slice none 0 0)) vx (.slice none 0 0);binOp op t vx (.slice none 0 0)))):Sem Next).run P E.w) v []:=by
    intro A n c hA v hv
    subst hv
    refine bp hm (v:= .bool neg) ?_ (.v rfl)
    rw [run _ _ _ hA];cases neg<;>rfl
   have qh:∀A n c,vx= .slice A n c->bN E J base g ((do pure (Next.value (<-(do eqGuard op t xo (.const (.slice none 0 0)) vx (.slice none 0 0);binOp op t vx (.slice none 0 0)))):Sem Next).run P E.w) .cZ []:=by
    intro A n c hA
    exact bp hm (v:= .bool (A.isNone !=neg)) (run _ _ _ hA) .cZ
   have aU:∀sz els,aj E vx (.aU sz els)->val=(if els.isEmpty=true then .cZ else .v (.bool neg))->ups=[]->bN E J base g ((do pure (Next.value (<-(do eqGuard op t xo (.const (.slice none 0 0)) vx (.slice none 0 0);binOp op t vx (.slice none 0 0)))):Sem Next).run P E.w) val ups:=by
    rintro sz els hr rfl rfl
    cases hr with
    |dD hc=>exact qh _ _ _ rfl
    |eg u hn hl hc=>
     by_cases he:els.isEmpty=true
     ·rw [N8 he];exact qh _ _ _ rfl
     ·rw [N7 he];exact Al _ _ _ rfl rfl
   simp only [AO.au] at h
   split at h
   ·rename_i sz els hx
    simp only [RM.run,N6,Out.done.injEq] at h
    rw [hx] at hv
    exact aU sz els hv h.1.symm h.2.symm
   ·rename_i sz els hx
    simp only [RM.run,N6,Out.done.injEq] at h
    rw [hx] at hv
    cases hv with
    |ck hv=>exact aU sz els hv h.1.symm h.2.symm
   ·rename_i hx
    simp only [RM.run,N6,Out.done.injEq] at h
    obtain ⟨rfl,rfl⟩:=h
    rw [hx] at hv
    cases hv with
    |emp=>exact qh _ _ _ rfl
   ·rename_i id sz off n hx
    obtain ⟨B,hB,h⟩:=iq h
    simp only [RM.run,N6,Out.done.injEq] at h
    obtain ⟨rfl,rfl⟩:=h
    rw [hx] at hv
    cases hv with
    |own hi hd hb hq hs c9 hl hc=>
     by_cases h0:n=0
     ·rw [N8 h0];exact qh _ _ _ rfl
     ·rw [N7 h0];exact Al _ _ _ rfl rfl
    |bQ hi hd hb=>rw [N8 rfl];exact qh _ _ _ rfl
    |cg hi hd=>exact absurd hd (alive hm hB)
   ·simp [RM.run] at h
 ·-- Nv
  rename_i a1 a2 a3 hu
  rw [oE]
  cases hng:negOf op with
  |none=>simp [hng] at hn
  |some neg=>
   simp only [hng,Oh,N6] at hn
   subst hn
   have bV:=wj hng
   simp only [AO.au] at h
   split at h
   ·rename_i f cs hx
    simp only [RM.run,N6,Out.done.injEq] at h
    obtain ⟨rfl,rfl⟩:=h
    rw [hx] at hv
    cases hv with
    |fn hl hh=>
     refine bp hm (v:= .bool neg) ?_ (.v rfl)
     cases neg<;>simp only [Oa,O0,OH] at bV<;>subst bV<;>simp [eqGuard,binOp,wk hu,wm hu]
   ·rename_i f cs hx
    simp only [RM.run,N6,Out.done.injEq] at h
    obtain ⟨rfl,rfl⟩:=h
    rw [hx] at hv
    cases hv with
    |bf hl hh=>
     refine bp hm (v:= .bool neg) ?_ (.v rfl)
     cases neg<;>simp only [Oa,O0,OH] at bV<;>subst bV<;>simp [eqGuard,binOp,wk hu,wm hu]
   ·rename_i hx
    simp only [RM.run,N6,Out.done.injEq] at h
    obtain ⟨rfl,rfl⟩:=h
    rw [hx] at hv
    have:=hv.iw
    subst this
    refine bp hm (v:= .bool !neg) ?_ (.v rfl)
    cases neg<;>simp only [Oa,O0,OH] at bV<;>subst bV<;>simp [eqGuard,binOp,wk hu,wm hu]
   ·simp [RM.run] at h
 ·-- Nw
  rename_i e hu
  rw [oE]
  cases hng:negOf op with
  |none=>simp [hng] at hn
  |some neg=>
   simp only [hng,Oh,N6] at hn
   subst hn
   have bV:=wj hng
   have run:∀A,vx= .pointer A->(do pure (Next.value (<-(do eqGuard op t xo (.const (.pointer none)) vx (.pointer none);binOp op t vx (.pointer none)))):Sem Next).run P E.w= .ok (.value (.bool (A.isNone !=neg))) E.w:=by
    rintro A rfl
    cases neg<;>simp only [Oa,O0,OH] at bV<;>subst bV<;>cases A<;>simp [eqGuard,binOp,Gm hu]
   simp only [AO.au] at h
   split at h
   ·rename_i id sz i o hx
    obtain ⟨B,hB,h⟩:=iq h
    simp only [RM.run,N6,Out.done.injEq] at h
    obtain ⟨rfl,rfl⟩:=h
    rw [hx] at hv
    cases hv with
    |ref hi hd hb hq=>
     refine bp hm (v:= .bool neg) ?_ (.v rfl)
     rw [run _ rfl];cases neg<;>rfl
    |dL hi hd=>exact absurd hd (alive hm hB)
   ·rename_i cs o hx
    simp only [RM.run,N6,Out.done.injEq] at h
    obtain ⟨rfl,rfl⟩:=h
    rw [hx] at hv
    cases hv with
    |pim u hb hq Nx eD hr=>
     refine bp hm (v:= .bool neg) ?_ (.v rfl)
     rw [run _ rfl];cases neg<;>rfl
   ·rename_i hx
    simp only [RM.run,N6,Out.done.injEq] at h
    obtain ⟨rfl,rfl⟩:=h
    rw [hx] at hv
    have:=hv.iw
    refine bp hm (v:= .bool !neg) ?_ (.v rfl)
    rw [run _ this];cases neg<;>rfl
   ·simp [RM.run] at h
 ·simp at hn
theorem Gp (ha:dx E aD ρ) (oE:∀v,aD (.const v)=v) (hm:aE E J base g) (hf:¬E.kn fresh) {o:Oper} (hc:bM P o=some ao) (h:(ao.au fresh ρ).run g=some (.done val ups)):
  bN E J base g ((execOp aD o).run P E.w) val ups:=by
 obtain ⟨dst,op,type,pos,after,guard⟩:=o
 have omap:∀{α β:Type} {m:Option α} {k:α->β} {y:β},m.map k=some y->∃x,m=some x/\k x=y:=by
  intro α β m k y h
  cases m with
  |none=>simp at h
  |some a=>exact ⟨a,rfl,by simpa using h⟩
 have mov:∀x ax,cArg x=some ax->((AO.mov ax).au fresh ρ).run g=some (.done val ups)->∀r,r= .ok (.value (aD x)) E.w->bN E J base g r val ups:=by
  intro x ax h1 h2 r hr
  simp only [AO.au,RM.run,N6,Out.done.injEq] at h2
  obtain ⟨rfl,rfl⟩:=h2
  exact bp hm hr (ha x ax h1)
 cases op with
 |move x=>simp only [bM] at hc;obtain ⟨ax,h1,rfl⟩:=omap hc;exact mov x ax h1 h _ rfl
 |assign x=>simp only [bM] at hc;obtain ⟨ax,h1,rfl⟩:=omap hc;exact mov x ax h1 h _ rfl
 |pick c a b=>
  simp only [bM] at hc
  split at hc
  ·rename_i ac aa ab h1 h2 h3
   simp only [N6] at hc;subst hc
   simp only [AO.au] at h
   split at h
   ·rename_i t ht
    simp only [RM.run,N6,Out.done.injEq] at h
    obtain ⟨rfl,rfl⟩:=h
    have hv:=ha c ac h1
    rw [ht] at hv
    obtain ⟨vv,b6⟩:∃vv,vv=aD c:=⟨_,rfl⟩
    rw [<-b6] at hv
    cases hv with
    |v hp=>
     refine bp hm (v:=if t then aD a else aD b) ?_ ?_
     ·unfold execOp
      simp only [<-b6]
      cases t<;>simp [asBool]
     ·cases t
      ·exact ha b ab h3
      ·exact ha a aa h2
   ·simp [RM.run] at h
  ·simp at hc
 |alloc t=>
  simp only [bM] at hc
  split at hc
  ·rename_i zs h1
   split at hc
   ·rename_i hz0
    simp only [N6] at hc;subst hc
    simp only [AO.au,RM.run,N6,Out.done.injEq] at h
    obtain ⟨rfl,rfl⟩:=h
    exact EU hm hf h1 hz0
   ·simp at hc
  ·simp at hc
 |panic x=>
  simp only [bM,N6] at hc
  subst hc
  simp [AO.au,RM.run] at h
 |makeInterface t x=>
  simp only [bM,N6] at hc
  subst hc
  simp [AO.au,RM.run] at h
 |makeMap t r=>
  simp only [bM] at hc
  split at hc
  ·rename_i kt et h1
   simp only [N6] at hc;subst hc
   simp only [AO.au,RM.run,N6,Out.done.injEq] at h
   obtain ⟨rfl,rfl⟩:=h
   exact z8 hm hf h1 (.inl rfl)
  ·rename_i kt et k n h1
   simp only [N6] at hc;subst hc
   simp only [AO.au,RM.run,N6,Out.done.injEq] at h
   obtain ⟨rfl,rfl⟩:=h
   have:=z8 (P:=P) (r:=some (aD (.const (.int k n)))) hm hf h1 (.inr ⟨k,n,by rw [oE]⟩)
   exact this
  ·simp at hc
 |mapUpdate t x k y=>
  simp only [bM] at hc
  split at hc
  ·rename_i kt et ax ak ay h1 h2 h3 h4
   obtain ⟨kd,h5,rfl⟩:=omap hc
   exact Ab hm h1 h5 (ha x ax h2) (ha k ak h3) (ha y ay h4) h
  ·simp at hc
 |insert t x k y=>
  simp only [bM] at hc
  split at hc
  ·rename_i kt et ax ak ay h1 h2 h3 h4
   obtain ⟨kd,h5,rfl⟩:=omap hc
   exact Ab hm h1 h5 (ha x ax h2) (ha k ak h3) (ha y ay h4) h
  ·simp at hc
 |lookup t x k ok=>
  simp only [bM] at hc
  split at hc
  ·rename_i kt et ax ak h1 h2 h3
   split at hc
   ·rename_i hok
    subst hok
    split at hc
    ·rename_i z kd h4 h5
     simp only [N6] at hc;subst hc
     exact FV hm h1 h5 h4 (ha x ax h2) (ha k ak h3) h
    ·simp at hc
   ·simp at hc
  ·simp at hc
 |box t x=>
  simp only [bM] at hc
  split at hc
  ·rename_i n ax h1 h2
   split at hc
   ·rename_i hz0
    simp only [N6] at hc;subst hc
    simp only [AO.au] at h
    split at h
    ·rename_i bX
     simp only [RM.run,N6,Out.done.injEq] at h
     obtain ⟨rfl,rfl⟩:=h
     exact EV hm hf (ha x ax h2) bX.1 bX.2 hz0
    ·simp [RM.run] at h
   ·simp at hc
  ·simp at hc
 |build t parts=>
  simp only [bM] at hc
  split at hc
  ·rename_i zs fields h1 h2
   split at hc
   ·rename_i places h3
    obtain ⟨as_,h4,rfl⟩:=omap hc
    refine zM ha hm h1 h4 (fun z i hi hz ps=> ?_) h
    unfold placesOf at h3
    simp only [Program.built,hi,h2,hz,h3]
   ·simp at hc
  ·rename_i zs k e h1 h2
   split at hc
   ·rename_i sz h3
    obtain ⟨as_,h4,rfl⟩:=omap hc
    refine zM ha hm h1 h4 (fun z i hi hz ps=> ?_) h
    unfold szOf at h3
    obtain ⟨ie,Gq,hs⟩:=omap h3
    simp only [Program.built,hi,h2,hz,Gq,hs]
   ·simp at hc
  ·simp at hc
 |buildSlice t len parts=>
  simp only [bM] at hc
  split at hc
  ·rename_i e h1
   split at hc
   ·rename_i zs h2
    split at hc
    ·rename_i bX
     obtain ⟨as_,h3,rfl⟩:=omap hc
     exact Fc ha hm hf h1 h2 bX.1 bX.2 h3 h
    ·simp at hc
   ·simp at hc
  ·simp at hc
 |load t x=>
  simp only [bM] at hc
  split at hc
  ·rename_i m ax h1 h2
   simp only [N6] at hc;subst hc
   exact EX hm h1 (ha x ax h2) h
  ·simp at hc
 |store t x y=>
  simp only [bM] at hc
  split at hc
  ·rename_i n ax ay h1 h2 h3
   simp only [N6] at hc;subst hc
   exact EY hm h1 (ha x ax h2) (ha y ay h3) h
  ·simp at hc
 |nilCheck x=>simp only [bM] at hc;obtain ⟨ax,h1,rfl⟩:=omap hc;exact Ff hm (ha x ax h1) rfl rfl h
 |binOp op t x y yt=>
  simp only [bM] at hc
  split at hc
  ·rename_i q fh
   obtain ⟨ax,h1,rfl⟩:=omap hc
   exact Gn hm oE fh (ha x ax h1) h
  rename_i fh
  clear fh
  split at hc
  ·rename_i ax ay h1 h2
   split at hc
   ·simp only [N6] at hc;subst hc
    simp only [AO.au] at h
    split at h
    ·rename_i a b hx hy
     cases hb:binA (boolT P t) op a b with
     |none=>simp [hb,RM.opt,RM.run] at h
     |some v=>
      simp [hb,RM.opt,RM.run] at h
      obtain ⟨rfl,rfl⟩:=h
      have hvx:=ha x ax h1
      have hvy:=ha y ay h2
      rw [hx] at hvx;rw [hy] at hvy
      have ex:aD x=a:=hvx.iw
      have ey:aD y=b:=hvy.iw
      obtain ⟨r1,r2⟩:=E8 (P:=P) (x:=x) (y:=y) hb E.w
      refine bp hm (v:=v) ?_ (.v r2)
      show (do pure (Next.value (<-(do eqGuard op t x y (aD x) (aD y);binOp op t (aD x) (aD y)))):Sem Next).run P E.w=_
      rw [ex,ey,OS,r1]
      rfl
    ·simp [RM.run] at h
   ·split at hc
    ·simp at hc
    ·rename_i hg
     split at hc
     ·rename_i fs L n hu hL hn
      simp only [N6] at hc;subst hc
      exact Ah hm (by simp) hu hn (by simpa using hg) hL (ha x ax h1) (ha y ay h2) h
     ·rename_i fs L n hu hL hn
      simp only [N6] at hc;subst hc
      exact Ah hm (by simp) hu hn (by simpa using hg) hL (ha x ax h1) (ha y ay h2) h
     ·simp at hc
  ·simp at hc
 |unOp op t x=>
  simp only [bM] at hc;obtain ⟨ax,h1,rfl⟩:=omap hc
  simp only [AO.au] at h
  split at h
  ·rename_i a hx
   cases hb:unA op a with
   |none=>simp [hb,RM.opt,RM.run] at h
   |some v=>
    simp [hb,RM.opt,RM.run] at h
    obtain ⟨rfl,rfl⟩:=h
    have hvx:=ha x ax h1
    rw [hx] at hvx
    have ex:aD x=a:=hvx.iw
    obtain ⟨r1,r2⟩:=E9 (P:=P) hb E.w
    refine bp hm (v:=v) ?_ (.v r2)
    show (do pure (Next.value (<-Op.unary op (aD x))):Sem Next).run P E.w=_
    rw [ex,OS,r1]
    rfl
  ·simp [RM.run] at h
 |convert s d x=>
  simp only [bM] at hc
  split at hc
  ·rename_i k1 k ax h1 h2 h3
   simp only [N6] at hc;subst hc
   simp only [AO.au] at h
   split at h
   ·rename_i k0 n hx
    simp only [RM.run,N6,Out.done.injEq] at h
    obtain ⟨rfl,rfl⟩:=h
    have hvx:=ha x ax h3
    rw [hx] at hvx
    have ex:aD x= .int k0 n:=hvx.iw
    refine bp hm (v:= .int k (k.wrap n)) ?_ (.v rfl)
    show (do pure (Next.value (<-convert s d (aD x))):Sem Next).run P E.w=_
    rw [ex]
    simp [convert,run_underlying h1,run_underlying h2,Conv.intToInt]
   ·simp [RM.run] at h
  ·rename_i e ax h1 h2 h3
   split at hc
   ·rename_i h4
    simp only [N6] at hc;subst hc
    exact F4 hm h1 h2 h4 (ha x ax h3) h
   ·simp at hc
  ·rename_i e ax h1 h2 h3
   split at hc
   ·rename_i h4
    simp only [N6] at hc;subst hc
    exact Ga hm hf h1 h2 h4 (ha x ax h3) h
   ·simp at hc
  ·simp at hc
 |fieldAddr s x f=>
  simp only [bM] at hc
  split at hc
  ·rename_i fields ax h1 h2
   split at hc
   ·rename_i fd h3
    split at hc
    ·simp at hc
    ·rename_i bX
     simp only [N6] at hc;subst hc
     cases hz:szOf P fd.type with
     |none=>simp [hz] at bX
     |some n=>exact Fg hm (ha x ax h2) h1 h3 hz (by rw [hz] at bX;simpa using bX) h
   ·simp at hc
  ·simp at hc
 |field s x f=>
  simp only [bM] at hc
  split at hc
  ·rename_i fields ax h1 h2
   split at hc
   ·rename_i fd h3
    obtain ⟨m,h4,rfl⟩:=omap hc
    exact Fh hm (ha x ax h2) h1 h3 h4 h
   ·simp at hc
  ·simp at hc
 |indexAddr t x i=>
  simp only [bM] at hc
  split at hc
  ·rename_i e ax ai h1 h2 h3
   split at hc
   ·rename_i sz h4
    split at hc
    ·rename_i c8
     simp only [N6] at hc;subst hc
     exact Fm hm (ha x ax h2) (ha i ai h3) h1 h4 c8 h
    ·simp at hc
   ·simp at hc
  ·rename_i len e ax ai h1 h2 h3
   split at hc
   ·rename_i sz h4
    split at hc
    ·rename_i c8
     simp only [N6] at hc;subst hc
     exact Fj hm (ha x ax h2) (ha i ai h3) h1 h4 h
    ·simp at hc
   ·simp at hc
  ·simp at hc
 |index t x i=>
  simp only [bM] at hc
  split at hc
  ·rename_i ax ai h1 h2 h3
   simp only [N6] at hc;subst hc
   exact Gi hm h1 (ha x ax h2) (ha i ai h3) h
  ·rename_i len e ax ai h1 h2 h3
   split at hc
   ·rename_i sz m h4 h5
    simp only [N6] at hc;subst hc
    exact Fl hm (ha x ax h2) (ha i ai h3) h1 h4 h5 h
   ·simp at hc
  ·simp at hc
 |extract x i=>simp only [bM] at hc;obtain ⟨ax,h1,rfl⟩:=omap hc;exact Fp hm (ha x ax h1) h
 |makeSlice t l c=>
  simp only [bM] at hc
  split at hc
  ·rename_i e al ac h1 h2 h3
   split at hc
   ·rename_i zs i h4 h5
    split at hc
    ·rename_i bX
     simp only [N6] at hc;subst hc
     exact Fq hm hf h1 h4 h5 bX.1 bX.2 (ha l al h2) (ha c ac h3) h
    ·simp at hc
   ·simp at hc
  ·simp at hc
 |slice t x lo hi mx=>
  simp only [bM] at hc
  split at hc
  ·rename_i e ax jW jX amx h1 h2 h3 h4 h5
   split at hc
   ·rename_i sz h6
    split at hc
    ·rename_i bX
     simp only [N6] at hc;subst hc
     exact Fu ha hm h1 h6 h2 h3 h4 h5 (fun hh=>by rw [<-Ai h4];exact bX.2 (by rw [Ai h5];exact hh)) h
    ·simp at hc
   ·simp at hc
  ·rename_i ax jW jX h1 h2 h3 h4 h5
   simp only [N6] at hc;subst hc
   have gQ:mx=none:=by cases mx<;>simp [eO] at h5 ⊢
   subst gQ
   exact Gh ha hm h1 h2 h3 h4 h
  ·simp at hc
 |makeFunc fn first caps=>
  cases fn with
  |func f=>
   simp only [bM] at hc
   split at hc
   ·rename_i Gr
    obtain ⟨l,h1,rfl⟩:=omap hc
    simp only [AO.au,RM.run,N6,Out.done.injEq] at h
    obtain ⟨rfl,rfl⟩:=h
    obtain ⟨e1,e2⟩:=ha.list h1
    have oB:first= #[]:=by simpa using Gr
    subst oB
    refine bp hm (v:= .func (.func f) #[] (caps.map aD)) (by simp [execOp,Instr.makeFunc]) (.fn (by simp;rw [<-e1];simp) (fun i v c hv hc=>e2 i v c (by simpa using hv) hc))
   ·split at hc
    ·rename_i _ sG
     obtain ⟨l,h1,rfl⟩:=omap hc
     simp only [AO.au,RM.run,N6,Out.done.injEq] at h
     obtain ⟨rfl,rfl⟩:=h
     obtain ⟨e1,e2⟩:=ha.list h1
     have oB:caps= #[]:=by simpa using sG
     subst oB
     refine bp hm (v:= .func (.func f) (first.map aD) #[]) (by simp [execOp,Instr.makeFunc]) (.bf (by simp;rw [<-e1];simp) (fun i v c hv hc=>e2 i v c (by simpa using hv) hc))
    ·simp at hc
  |_=>simp [bM] at hc
 |call c=>
  by_cases sH:∃x args,ao= .call x args
  ·obtain ⟨x,args,rfl⟩:=sH
   simp only [AO.au] at h
   split at h<;>simp [RM.run] at h
  ·simp only [bM] at hc
   split at hc
   ·split at hc
    ·simp only [N6] at hc;exact absurd ⟨_,_,hc.symm⟩ sH
    ·simp at hc
   all_goals rename_i er
   all_goals try (simp at hc;done)
   ·split at hc
    ·rename_i x t gr m9
     have j5:c.args= #[x]:=by apply PT.1;rw [gr]
     have na:∀b,c.callee= .builtin b->b= .len->(execOp aD ⟨dst, .call c,type,pos,after,guard⟩).run P E.w=(do pure (Next.value (<-Builtin.len_ c.argTypes type #[aD x])):Sem Next).run P E.w:=by
      intro b hb hl;subst hl
      simp [execOp,resolve,hb,invoke,builtin,j5]
     have Gs:∀v ty,(Builtin.len_ c.argTypes ty #[v])=Builtin.len_ #[t] ty #[v]:=by
      intro v ty
      simp [Builtin.len_,m9]
     rw [na _ er rfl,Gs]
     split at hc
     ·rename_i e hu
      obtain ⟨ax,h1,rfl⟩:=omap hc
      exact zP hm (by simp;exact ⟨e,hu⟩) (ha x ax h1) type h
     ·rename_i hu
      obtain ⟨ax,h1,rfl⟩:=omap hc
      exact zP hm (by simp;exact hu) (ha x ax h1) type h
     ·simp at hc
    ·simp at hc
   ·split at hc
    ·rename_i s x t u gr m9
     split at hc
     ·rename_i Gt
      subst Gt
      split at hc
      ·rename_i e as_ ax h1 h2 h3
       split at hc
       ·rename_i zs i h4 h5
        split at hc
        ·rename_i bX
         simp only [N6] at hc;subst hc
         have j5:c.args= #[s,x]:=by apply PT.1;rw [gr]
         have Gu:c.argTypes= #[t,t]:=by apply PT.1;rw [m9]
         have:=FN (P:=P) (ty:=type) hm hf h1 h4 h5 bX.1 bX.2 (ha s as_ h2) (ha x ax h3) h
         have na:(execOp aD ⟨dst, .call c,type,pos,after,guard⟩).run P E.w=(do pure (Next.value (<-Builtin.append_ #[t,t] type #[aD s,aD x])):Sem Next).run P E.w:=by
          simp [execOp,resolve,er,invoke,builtin,j5,Gu]
         rw [na];exact this
        ·simp at hc
       ·simp at hc
      ·simp at hc
     ·simp at hc
    ·simp at hc
   ·split at hc
    ·rename_i x t gr m9
     split at hc
     ·rename_i e ax h1 h2
      split at hc
      ·rename_i zs h4
       split at hc
       ·rename_i bX
        simp only [N6] at hc;subst hc
        have j5:c.args= #[x]:=by apply PT.1;rw [gr]
        have:=FK (P:=P) (ty:=type) hm h1 h4 bX (ha x ax h2) h
        have na:(execOp aD ⟨dst, .call c,type,pos,after,guard⟩).run P E.w=(do pure (Next.value (<-Builtin.clear_ #[t] type #[aD x])):Sem Next).run P E.w:=by
         simp [execOp,resolve,er,invoke,builtin,j5,Builtin.clear_,m9]
        rw [na];exact this
       ·simp at hc
      ·simp at hc
     ·simp at hc
    ·simp at hc
   ·split at hc
    ·rename_i x y t gr m9
     split at hc
     ·rename_i e ax ay h1 h2 h3
      split at hc
      ·rename_i sz h4
       split at hc
       ·rename_i bX
        simp only [N6] at hc;subst hc
        have j5:c.args= #[x,y]:=by apply PT.1;rw [gr]
        have:=FL (P:=P) (ty:=type) (u:=t) hm h1 h4 bX (ha x ax h2) (ha y ay h3) h c.argTypes m9
        have na:(execOp aD ⟨dst, .call c,type,pos,after,guard⟩).run P E.w=(do pure (Next.value (<-Builtin.copy_ c.argTypes type #[aD x,aD y])):Sem Next).run P E.w:=by
         simp [execOp,resolve,er,invoke,builtin,j5]
        rw [na];exact this
       ·simp at hc
      ·simp at hc
     ·simp at hc
    ·simp at hc
   all_goals
    split at hc
    ·rename_i x y gr
     split at hc
     ·rename_i ax ay h1 h2
      simp only [N6] at hc;subst hc
      have j5:c.args= #[x,y]:=by apply PT.1;rw [gr]
      simp only [AO.au] at h
      split at h
      ·rename_i a b hx hy
       obtain ⟨mx,mb,gQ,zQ,h⟩:∃mx mb,(mx=false/\c.callee= .builtin .min\/mx=true/\c.callee= .builtin .max)/\pO mx a b=mb/\RM.run g (RM.opt (Option.map (fun v=>Out.done (AV.v v) []) mb))=some (Out.done val ups):=by
        first
        |exact ⟨false,_, .inl ⟨rfl,er⟩,rfl,h⟩
        |exact ⟨true,_, .inr ⟨rfl,er⟩,rfl,h⟩
       cases mb with
       |none=>simp [RM.opt,RM.run] at h
       |some v=>
        simp [RM.opt,RM.run] at h
        obtain ⟨rfl,rfl⟩:=h
        have hvx:=ha x ax h1
        have hvy:=ha y ay h2
        rw [hx] at hvx;rw [hy] at hvy
        have ex:aD x=a:=hvx.iw
        have ey:aD y=b:=hvy.iw
        obtain ⟨r1,r2,r3⟩:=Fa (P:=P) zQ E.w
        refine bp hm (v:=v) ?_ (.v r1)
        rcases gQ with ⟨gQ,er⟩|⟨gQ,er⟩
        ·simp [execOp,resolve,er,invoke,builtin,j5,ex,ey,r2 gQ]
        ·simp [execOp,resolve,er,invoke,builtin,j5,ex,ey,r3 gQ]
      ·simp [RM.run] at h
     ·simp at hc
    ·simp at hc
 |_=>simp [bM] at hc
end
open Go.RowKit
def AV.pu1:AV->Bool
 | .v _| .emp| .aU _ _| .ck _ _| .pim _ _| .dead=>true
 | .fn _ caps=>caps.isEmpty
 |_=>false
theorem AV.qi (h:a.pu1=true):Pu a:=by
 cases a<;>simp [AV.pu1] at h<;>try constructor
 subst h;intro c hc;simp at hc
def snap1:AV->RM AV
 | .own id sz off n=>(content sz (.own id sz off n)).bind fun els=>if (els.all fun cs=>cs.all AV.pu1)=true then .ret (.aU sz els) else .fail
 | .ref id sz i o=> .rd id fun B=>if B.sz=sz then (match B.els[i]? with
  |some cs=>if cs.all AV.pu1=true then .ret (.pim cs o) else .fail
  |none=> .fail) else .fail
 |a=>if a.pu1=true then .ret a else .fail
def gu:List AV->RM (List AV)
 |[]=> .ret []
 |a::r=>(snap1 a).bind fun x=>(gu r).bind fun l=> .ret (x::l)
def du:AV->RM AV
 | .agg cs=>(gu cs).bind fun l=> .ret (.agg l)
 | .fn f cs=>(gu cs).bind fun l=> .ret (.fn f l)
 | .bf f cs=>(gu cs).bind fun l=> .ret (.bf f l)
 |a=>snap1 a
def cO:List AV->RM (List AV)
 |[]=> .ret []
 |a::r=>(du a).bind fun x=>(cO r).bind fun l=> .ret (x::l)
def AV.bS:AV->List Nat
 | .own id _ _ _=>[id]
 | .ref id _ _ _=>[id]
 |_=>[]
def AV.ids:AV->List Nat
 | .agg cs=>cs.flatMap AV.bS
 | .fn _ cs=>cs.flatMap AV.bS
 | .bf _ cs=>cs.flatMap AV.bS
 |a=>a.bS
def AV.de:AV->Bool
 | .v _| .emp| .dead=>true
 | .fn _ caps=>caps.isEmpty
 |_=>false
def AV.dA:AV->Bool
 | .agg cs=>cs.all AV.de
 |a=>a.de
def AV.nob:AV->Bool
 | .aK vs=>vs.all AV.dA
 |a=>a.dA
def E0 (w:World) (I:Nat->Prop):Env:=⟨w,fun _=>False,fun _=>none,fun _=>False,I,fun _=>0,fun _=>False,fun _=>False⟩
theorem dW.sub {I:Nat->Prop} (h:dW E) (hw:E.w=w) (hI:∀b,E.I b->I b):dW (E0 w I):=trivial
def Fn (P:Program) (f:FuncId) (as_:List AV) (r:AV):Prop:=
 ∀(w:World) (J:Nat->Prop) (vs:Array Value),(∀b,J b->b<w.heap.size)->dW (E0 w J)->RC (E0 w J) vs as_->
  Calls P f vs w fun e w'=>∃v,e= .returned v/\aj (E0 w' fun b=>J b\/(w.heap.size<=b/\b<w'.heap.size)) v r/\Below w.heap.size w w'
section
variable {P:Program} {E:Env} {J:Nat->Prop} {base:Nat} {g:Nat->Option Bk}
theorem aj.de {E':Env} {v:Value} {a:AV} (h:aj E v a) (hn:a.de=true):aj E' v a:=by
 cases h<;>simp [AV.de] at hn
 ·exact .v (by assumption)
 ·exact .emp
 ·rename_i f vs cs hl h
  subst hn
  exact .fn hl (fun i v c hv hc=>by simp at hc)
 ·exact .dead
theorem aj.dA {E':Env} {v:Value} {a:AV} (h:aj E v a) (hn:a.dA=true):aj E' v a:=by
 cases a with
 |agg cs=>cases h with
  |agg hl h=>
   simp only [AV.dA,Oc] at hn
   exact .agg hl fun i v c hv hc=>(h i v c hv hc).de (hn c (OG hc))
 |_=>exact h.de (by simpa [AV.dA] using hn)
theorem aj.nob {E':Env} {v:Value} {a:AV} (h:aj E v a) (hn:a.nob=true):aj E' v a:=by
 cases a with
 |aK cs=>cases h with
  |aK hl h=>
   simp only [AV.nob,Oc] at hn
   exact .aK hl fun i v c hv hc=>(h i v c hv hc).dA (hn c (OG hc))
 |_=>exact h.dA (by simpa [AV.nob] using hn)
def Handed (E:Env) (g:Nat->Option Bk) (ids:List Nat) (b:Nat):Prop:=E.I b\/∃id B,id∈ids/\g id=some B/\E.loc id=some b
theorem wq (hm:aE E J base g) (I:Nat->Prop) (h:aj E v a) (hs:(snap1 a).run g=some a') (hI:∀b,Handed E g a.bS b->I b):aj (E0 E.w I) v a':=by
 have pure:∀{v:Value} {a:AV},(∀b,E.I b->I b)->aj E v a->Pu a->aj (E0 E.w I) v a:=fun hI h hp=>h.pure (E':=E0 E.w I) (fun b hb=>⟨hI b hb,fun _=>rfl⟩) hp
 have qj:∀b,E.I b->I b:=fun b hb=>hI b (.inl hb)
 have other:(if a.pu1=true then RM.ret a else RM.fail).run g=some a'->aj (E0 E.w I) v a':=by
  intro hs
  split at hs
  ·rename_i hp
   simp only [RM.run,N6] at hs;subst hs
   exact pure qj h (AV.qi hp)
  ·simp [RM.run] at hs
 cases a with
 |own id sz off n=>
  simp only [snap1] at hs
  obtain ⟨els,h1,h2⟩:=cA hs
  split at h2
  ·rename_i bI
   simp only [RM.run,N6] at h2;subst h2
   simp only [content,RM.run] at h1
   cases hB:g id with
   |none=>simp [hB] at h1
   |some B=>
    simp only [hB] at h1
    split at h1
    ·rename_i hc
     obtain ⟨-, gU,hfit⟩:=hc
     simp only [RM.run,N6] at h1;subst h1
     have hlen:((B.els.drop off).take n).length=n:=by simp;omega
     cases h with
     |cg hi hd=>exact absurd hd (alive hm hB)
     |bQ hi hd hb=>
      have:(B.els.drop 0).take 0=[]:=by simp
      rw [this]
      exact .dD (by omega)
     | @own _ _ _ _ c b q mm t' hi hd hb hq iM c9 hl hcc=>
      rcases PR n with h0|h0
      ·subst h0
       rw [List.take_zero]
       exact .dD hcc
      ·have ir:q=off*sz:=by
        rcases hq with hq|hq
        ·exact hq
        ·omega
       subst ir
       have bW:=hm.at_ id B hB
       rw [hb] at bW
       obtain ⟨kJ,arr,t,ha,kM,dz⟩:=bW.cells (by first|assumption|omega)
       rw [gU] at dz
       have get:∀(i:Nat) cs (j:Nat) x,((B.els.drop off).take n)[i]? =some cs->cs[j]? =some x->∃u,E.w.cell? ⟨b,off*sz+i*sz+j,none⟩=some u/\u.oneCell'=true/\aj E u x:=by
        intro i cs j x hi hj
        rw [Pe] at hi
        split at hi
        ·rw [Pf] at hi
         obtain ⟨u,k1,k2,k3⟩:=(dz _ cs hi).2 j x hj
         refine ⟨u, ?_,k2,k3⟩
         rw [cell_of_row _ _ _ _ _ _ ha]
         rw [OD] at k1
         exact k1
        ·simp at hi
       refine .eg (fun i j=>(E.w.cell? ⟨b,off*sz+i*sz+j,none⟩).getD undef) hlen.symm hl hcc (hI b (.inr ⟨id,B,by simp [AV.bS],hB,hb⟩)) (fun i cs hi=> ?_) (fun i cs j x hi hj=> ?_) (fun i cs j x hi hj=> ?_) (fun i cs j x hi hj=> ?_)
       ·rw [Pe] at hi
        split at hi
        ·rw [Pf] at hi
         exact (dz _ cs hi).1
        ·simp at hi
       ·obtain ⟨u,k1,_,_⟩:=get i cs j x hi hj
        show E.w.cell? _=_
        rw [k1];rfl
       all_goals
        obtain ⟨u,k1,k2,k3⟩:=get i cs j x hi hj
        have hp:Pu x:=by
         simp only [Oc] at bI
         exact AV.qi (bI cs (OG hi) x (OG hj))
        simp only [k1,O8]
        first
        |exact ⟨k2,hp⟩
        |exact pure qj k3 hp
    ·simp [RM.run] at h1
  ·simp [RM.run] at h2
 |ref id sz i o=>
  simp only [snap1,RM.run] at hs
  cases hB:g id with
  |none=>simp [hB] at hs
  |some B=>
   simp only [hB] at hs
   split at hs
   ·rename_i hsz
    split at hs
    ·rename_i cs hcs
     split at hs
     ·rename_i bI
      simp only [RM.run,N6] at hs;subst hs
      cases h with
      |dL hi hd=>exact absurd hd (alive hm hB)
      | @ref _ _ _ _ b q hi hd hb hq=>
       have bW:=hm.at_ id B hB
       rw [hb] at bW
       obtain ⟨kJ,arr,t,ha,kM,dz⟩:=bW.cells (by first|assumption|omega)
       rw [hsz] at dz
       have get:∀(j:Nat) x,cs[j]? =some x->∃u,E.w.cell? ⟨b,i*sz+j,none⟩=some u/\aj E u x:=by
        intro j x hj
        obtain ⟨u,k1,k2,k3⟩:=(dz i cs hcs).2 j x hj
        exact ⟨u,by rw [cell_of_row _ _ _ _ _ _ ha];exact k1,k3⟩
       have hp:∀(j:Nat) x,cs[j]? =some x->Pu x:=fun j x hj=>by
        simp only [Oc] at bI
        exact AV.qi (bI x (OG hj))
       refine .pim (off:=i*sz) (fun j=>(E.w.cell? ⟨b,i*sz+j,none⟩).getD undef) (hI b (.inr ⟨id,B,by simp [AV.bS],hB,hb⟩)) hq (fun j x hj=> ?_) hp (fun j x hj=> ?_)
       ·obtain ⟨u,k1,_⟩:=get j x hj
        show E.w.cell? _=_
        rw [k1];rfl
       ·obtain ⟨u,k1,k3⟩:=get j x hj
        simp only [k1,O8]
        exact pure qj k3 (hp j x hj)
     ·simp [RM.run] at hs
    ·simp [RM.run] at hs
   ·simp [RM.run] at hs
 |_=>exact other hs
theorem sI (hm:aE E J base g) (I:Nat->Prop):∀{as_ bq:List AV},(gu as_).run g=some bq->(∀b,Handed E g (as_.flatMap AV.bS) b->I b)->bq.length=as_.length/\∀(i:Nat) v c c',aj E v c->as_[i]? =some c->bq[i]? =some c'->aj (E0 E.w I) v c'
 |[],bq,h,_=>by
  simp only [gu,RM.run,N6] at h;subst h
  exact ⟨rfl,fun i v c c' _ hc=>by simp at hc⟩
 |a::r,bq,h,hI=>by
  simp only [gu] at h
  obtain ⟨x,h1,h⟩:=cA h
  obtain ⟨l,h2,h⟩:=cA h
  simp only [RM.run,N6] at h;subst h
  have nc:∀b,Handed E g a.bS b->I b:=fun b hb=>hI b (hb.imp id fun ⟨id,B,hi,hh⟩=>⟨id,B,by simp [hi],hh⟩)
  have j6:∀b,Handed E g (r.flatMap AV.bS) b->I b:=fun b hb=>hI b (hb.imp id fun ⟨id,B,hi,hh⟩=>⟨id,B,by simp only [O5,OM];exact .inr hi,hh⟩)
  have ih:=sI hm I h2 j6
  refine ⟨by simp [ih.1],fun i v c c' hr hc dy=> ?_⟩
  cases i with
  |zero=>simp at hc dy;subst hc;subst dy;exact wq hm I hr h1 nc
  |succ i=>simp at hc dy;exact ih.2 i v c c' hr hc dy
theorem wu (hm:aE E J base g) (I:Nat->Prop) (h:aj E v a) (hs:(du a).run g=some a') (hI:∀b,Handed E g a.ids b->I b):aj (E0 E.w I) v a':=by
 cases a with
 |agg cs=>
  simp only [du] at hs
  obtain ⟨l,h1,h2⟩:=cA hs
  simp only [RM.run,N6] at h2;subst h2
  obtain ⟨k1,k2⟩:=sI hm I h1 hI
  cases h with
  |agg hl h=>
   refine .agg (by rw [k1];exact hl) fun i v c hv hc=> ?_
   have hi:i<cs.length:=by rw [<-k1];exact (Oe.1 hc).1
   exact k2 i v cs[i] c (h i v _ hv (Oq hi)) (Oq hi) hc
 |fn f cs=>
  simp only [du] at hs
  obtain ⟨l,h1,h2⟩:=cA hs
  simp only [RM.run,N6] at h2;subst h2
  obtain ⟨k1,k2⟩:=sI hm I h1 hI
  cases h with
  |fn hl h=>
   refine .fn (by rw [k1];exact hl) fun i v c hv hc=> ?_
   have hi:i<cs.length:=by rw [<-k1];exact (Oe.1 hc).1
   exact k2 i v cs[i] c (h i v _ hv (Oq hi)) (Oq hi) hc
 |bf f cs=>
  simp only [du] at hs
  obtain ⟨l,h1,h2⟩:=cA hs
  simp only [RM.run,N6] at h2;subst h2
  obtain ⟨k1,k2⟩:=sI hm I h1 hI
  cases h with
  |bf hl h=>
   refine .bf (by rw [k1];exact hl) fun i v c hv hc=> ?_
   have hi:i<cs.length:=by rw [<-k1];exact (Oe.1 hc).1
   exact k2 i v cs[i] c (h i v _ hv (Oq hi)) (Oq hi) hc
 |_=>exact wq hm I h hs hI
theorem ql (hm:aE E J base g) (I:Nat->Prop):∀{as_ bq:List AV},(cO as_).run g=some bq->(∀b,Handed E g (as_.flatMap AV.ids) b->I b)->bq.length=as_.length/\∀(i:Nat) v c c',aj E v c->as_[i]? =some c->bq[i]? =some c'->aj (E0 E.w I) v c'
 |[],bq,h,_=>by
  simp only [cO,RM.run,N6] at h;subst h
  exact ⟨rfl,fun i v c c' _ hc=>by simp at hc⟩
 |a::r,bq,h,hI=>by
  simp only [cO] at h
  obtain ⟨x,h1,h⟩:=cA h
  obtain ⟨l,h2,h⟩:=cA h
  simp only [RM.run,N6] at h;subst h
  have nc:∀b,Handed E g a.ids b->I b:=fun b hb=>hI b (hb.imp id fun ⟨id,B,hi,hh⟩=>⟨id,B,by simp [hi],hh⟩)
  have j6:∀b,Handed E g (r.flatMap AV.ids) b->I b:=fun b hb=>hI b (hb.imp id fun ⟨id,B,hi,hh⟩=>⟨id,B,by simp only [O5,OM];exact .inr hi,hh⟩)
  have ih:=ql hm I h2 j6
  refine ⟨by simp [ih.1],fun i v c c' hr hc dy=> ?_⟩
  cases i with
  |zero=>simp at hc dy;subst hc;subst dy;exact wu hm I hr h1 nc
  |succ i=>simp at hc dy;exact ih.2 i v c c' hr hc dy
theorem aE.grow (hm:aE E J base g) (hb:Below E.w.heap.size E.w w'):
  ∃E':Env,E'.w=w'/\E.Le E'/\aE E' J base g/\(∀k,E'.kn k->E.kn k)/\(∀b,E.I b\/(E.w.heap.size<=b/\b<w'.heap.size)->E'.I b):=by
 have hlt:∀id b B,g id=some B->E.loc id=some b->b<E.w.heap.size:=fun id b B hg hb=>by
  have:=hm.at_ id B hg;rw [hb] at this;exact this.lt.2
 let E':Env:={ E with w:=w',I:=fun b=>E.I b\/(E.w.heap.size<=b/\b<w'.heap.size) }
 have hE:E.Le E':=by
  refine ⟨fun _ h=>h,fun b bm=>⟨.inl bm,hb.block b (hm.low b bm).1⟩,fun _ _ h=>h,fun _ _ _=> .inr rfl,fun id b hi hd hl=> .inr ?_,fun _ _ _=> .inr rfl,fun _ h=>h,fun b bm=>⟨bm,hb.block b (hm.xo b bm).1⟩⟩
  obtain ⟨B,hB⟩:=(hm.live id).1 ⟨hi,hd⟩
  show w'.shape? b=_
  simp only [World.shape?,hb.block b (hlt id b B hB hl)]
 refine ⟨E',rfl,hE,⟨hm.live,fun id B hg=>(hm.at_ id B hg).bL hE fun b hl=>hb.block b (hlt id b B hg hl),hm.apart,fun id b B hg hl hI=> ?_,fun b hI=> ?_,OF hm.size hb.size,hm.len,hm.fb,fun b hX=>⟨Oz (hm.xo b hX).1 hb.size,fun hI=>hI.elim (hm.xo b hX).2.1 fun h=>by have:=(hm.xo b hX).1;omega,(hm.xo b hX).2.2⟩⟩,fun _ h=>h,fun b h=>h⟩
 ·rcases hI with hI|hI
  ·exact hm.out id b B hg hl hI
  ·have:=hlt id b B hg hl;omega
 ·rcases hI with hI|hI
  ·exact ⟨Oz (hm.low b hI).1 hb.size,(hm.low b hI).2⟩
  ·exact ⟨hI.2, .inr (OF hm.size hI.1)⟩
def callUps (as_:List AV) (r:AV):List (Nat×Option Bk):=if r.nob=true then [] else (as_.flatMap AV.ids).map fun id=>(id,none)
theorem Gv (hG:dW E) (hm:aE E J base g) (hvs:RC E vs as_) (hs:(cO as_).run g=some bq) (hf:Fn P f bq r) (Gw:∀id,id∈as_.flatMap AV.ids->E.kn id):
  Calls P f vs E.w fun e w'=>∃v E',e= .returned v/\E'.w=w'/\E.Le E'/\aj E' v r/\aE E' J base (aA g (callUps as_ r))/\Below base E.w w'/\∀id,E'.kn id->E.kn id:=by
 let I:=Handed E g (as_.flatMap AV.ids)
 have wv:∀b,I b->b<E.w.heap.size:=fun b hb=>by
  rcases hb with hb|⟨id,B,_,hg,hl⟩
  ·exact (hm.low b hb).1
  ·have:=hm.at_ id B hg;rw [hl] at this;exact this.lt.2
 have bF:RC (E0 E.w I) vs bq:=by
  obtain ⟨k1,k2⟩:=ql hm I hs (fun b hb=>hb)
  refine ⟨by rw [k1];exact hvs.1,fun j u c hu hc=> ?_⟩
  have hj:j<as_.length:=by rw [<-k1];exact (Oe.1 hc).1
  exact k2 j u as_[j] c (hvs.2 j u _ hu (Oq hj)) (Oq hj) hc
 refine (hf E.w I vs wv (hG.sub rfl fun b hb=> .inl hb) bF).mono ?_
 rintro e w' ⟨v,he,hr,hb⟩
 unfold callUps
 by_cases hn:r.nob=true
 ·rw [N8 hn]
  obtain ⟨E',hw,hE,hM,hk,_⟩:=hm.grow hb
  exact ⟨v,E',he,hw,hE,hr.nob hn,hM,hb.mono hm.size,hk⟩
 ·rw [N7 hn]
  obtain ⟨E1,gT,fk,iu,bU,nc,j6⟩:=hm.kill (as_.flatMap AV.ids) Gw
  have l7:Below E1.w.heap.size E1.w w':=by rw [gT];exact hb
  obtain ⟨E',hw,hE,hM,hk,hI⟩:=iu.grow l7
  refine ⟨v,E',he,hw,fk.trans hE, ?_,hM,hb.mono hm.size,fun id h=>bU _ (hk _ h)⟩
  refine hr.pure (E':=E') (fun b bm=> ?_) ?_
  ·refine ⟨hI b ?_,fun o=>by rw [hw];rfl⟩
   rcases bm with bm|bm
   ·left
    rcases bm with bm|⟨id,B,hid,hg,hl⟩
    ·exact j6 b bm
    ·exact nc id b B hid hg hl
   ·right;rw [gT];exact bm
  ·clear hn hI hM hk hE hw nc j6 l7 bU iu fk gT hb he
   generalize (fun b=>I b\/E.w.heap.size<=b/\b<w'.heap.size)=I' at hr
   have:∀{E:Env} {v:Value} {a:AV},aj E v a->(∀id,¬E.kn id)->(∀l,¬E.rg l)->Pu a:=by
    intro E v a h hk hy
    induction h with
    |v h=>exact .v
    |agg hl h ih=>
     refine .agg fun c hc=> ?_
     obtain ⟨i,hi,rfl⟩:=PO hc
     exact ih i _ _ (Oo (by omega)) (Oq hi)
    |aK hl h ih=>
     refine .aK fun c hc=> ?_
     obtain ⟨i,hi,rfl⟩:=PO hc
     exact ih i _ _ (Oo (by omega)) (Oq hi)
    |dD hc=>exact .aU
    |eg=>exact .aU
    |ck h ih=>exact .ck
    |emp=>exact .emp
    |pim=>exact .pim
    |ref hi=>exact absurd hi (hk _)
    |own hi=>exact absurd hi (hk _)
    |bQ hi=>exact absurd hi (hk _)
    |dL hi=>exact absurd hi (hk _)
    |cg hi=>exact absurd hi (hk _)
    |mp hi=>exact absurd hi (hk _)
    |gj hi=>exact absurd hi (hk _)
    |fn hl h ih=>
     refine .fn fun c hc=> ?_
     obtain ⟨i,hi,rfl⟩:=PO hc
     exact ih i _ _ (Oo (by omega)) (Oq hi)
    |bf hl h ih=>
     refine .bf fun c hc=> ?_
     obtain ⟨i,hi,rfl⟩:=PO hc
     exact ih i _ _ (Oo (by omega)) (Oq hi)
    |af hg=>exact absurd hg (hy _)
    |cZ=>exact .cZ
    |dead=>exact .dead
   exact this hr (fun id h=>h) (fun _ h=>h)
def Fo (P:Program) (f:FuncId) (as_:List AV) (sz:Nat) (els:List (List AV)):Prop:=
 ∀(w:World) (J:Nat->Prop) (vs:Array Value),(∀b,J b->b<w.heap.size)->dW (E0 w J)->RC (E0 w J) vs as_->
  Calls P f vs w fun e w'=>∃v E1,e= .returned v/\E1.w=w'/\Below w.heap.size w w'/\aj E1 v (.own 0 sz 0 els.length)/\E1.kn 0/\¬E1.dead 0/\cD E1 w.heap.size ⟨sz,els⟩ (E1.loc 0)/\E1.ln 0=els.length
theorem Gx (hG:dW E) (hm:aE E J base g) {sz:Nat} {els:List (List AV)} (hvs:RC E vs as_) (hs:(cO as_).run g=some bq) (hf:Fo P f bq sz els) (wx:∀cs,cs∈els->∀c,c∈cs->c.de=true) (ep:¬E.kn fresh):
  Calls P f vs E.w fun e w'=>∃v E',e= .returned v/\E'.w=w'/\E.Le E'/\aj E' v (.own fresh sz 0 els.length)/\aE E' J base (aA g [(fresh,some ⟨sz,els⟩)])/\Below base E.w w'/\∀id,E'.kn id->E.kn id\/id=fresh:=by
 let I:=Handed E g (as_.flatMap AV.ids)
 have wv:∀b,I b->b<E.w.heap.size:=fun b hb=>by
  rcases hb with hb|⟨id,B,_,hg,hl⟩
  ·exact (hm.low b hb).1
  ·have:=hm.at_ id B hg;rw [hl] at this;exact this.lt.2
 have bF:RC (E0 E.w I) vs bq:=by
  obtain ⟨k1,k2⟩:=ql hm I hs (fun b hb=>hb)
  refine ⟨by rw [k1];exact hvs.1,fun j u c hu hc=> ?_⟩
  have hj:j<as_.length:=by rw [<-k1];exact (Oe.1 hc).1
  exact k2 j u as_[j] c (hvs.2 j u _ hu (Oq hj)) (Oq hj) hc
 refine (hf E.w I vs wv (hG.sub rfl fun b hb=> .inl hb) bF).mono ?_
 rintro e w' ⟨v,E1,he,rfl,hb,hr,nd,sw,bW,Am⟩
 have hlt:∀id b B,g id=some B->E.loc id=some b->b<E.w.heap.size:=fun id b B hg hb=>by
  have:=hm.at_ id B hg;rw [hb] at this;exact this.lt.2
 let E':Env:={ w:=E1.w,kn:=fun id=>E.kn id\/id=fresh,loc:=fun id=>if id=fresh then E1.loc 0 else E.loc id,dead:=fun id=>E.dead id/\id≠fresh,I:=E.I,ln:=fun id=>if id=fresh then els.length else E.ln id,rg:=E.rg,X:=E.X }
 have hne:∀id,E.kn id->id≠fresh:=fun id hi he=>ep (he▸hi)
 have hE:E.Le E':=by
  refine ⟨fun id hi=> .inl hi,fun b bm=>⟨bm,hb.block b (hm.low b bm).1⟩,fun id hi hd=>⟨hd,hne id hi⟩,fun id hi hd=> .inr (N7 (hne id hi)),fun id b hi hd hl=> .inr ?_,fun id hi hd=> .inr (N7 (hne id hi)),fun _ h=>h,fun b bm=>⟨bm,hb.block b (hm.xo b bm).1⟩⟩
  obtain ⟨B',aL⟩:=(hm.live id).1 ⟨hi,hd⟩
  show E1.w.shape? b=_
  simp only [World.shape?,hb.block b (hlt id b B' aL hl)]
 have An:E'.kn fresh:= .inr rfl
 have fc:¬E'.dead fresh:=fun hd=>hd.2 rfl
 have dj:E'.loc fresh=E1.loc 0:=N8 rfl
 have Ao:sz≠0:=hr.sh sw
 have j0:∀b,E1.loc 0=some b->E.w.heap.size<=b/\b<E1.w.heap.size:=fun b hl=>by rw [hl] at bW;exact bW.lt
 refine ⟨v,E',he,rfl,hE, ?_,⟨fun id=> ?_,fun id B' hg=> ?_,fun id b5 b B1 B2 h1 h2 h3 h4=> ?_,fun id b B' hg bm hI=> ?_,fun b bm=>⟨Oz (hm.low b bm).1 hb.size,(hm.low b bm).2⟩,OF hm.size hb.size,fun id B' hg cE=> ?_,hm.fb,fun b hX=>⟨Oz (hm.xo b hX).1 hb.size,(hm.xo b hX).2.1,fun k B1 hk he=> ?_⟩⟩,hb.mono hm.size,fun id hi=>hi⟩
 ·obtain ⟨n,hn⟩:∃n,n=els.length:=⟨_,rfl⟩
  rw [<-hn] at hr ⊢
  cases hr with
  |own hi hd hl hq hs c9 vR hcc wy=>exact .own An fc (dj.trans hl) hq hs c9 vR hcc (by rw [show E'.ln fresh=els.length from N8 rfl, <-Am];exact wy)
  |bQ hi hd hl wy=>exact .bQ An fc (dj.trans hl) ((show E'.ln fresh=els.length from N8 rfl).trans (Am.symm.trans wy))
  |cg hi hd=>exact absurd hd sw
 ·simp only [aA]
  by_cases hid:id=fresh
  ·subst hid;simp [E']
  ·simp only [hid,OH]
   rw [<-hm.live id]
   simp [E',hid]
 ·simp only [aA] at hg
  by_cases hid:id=fresh
  ·subst hid
   simp only [Oa,N6] at hg
   subst hg
   rw [dj]
   cases hl:E1.loc 0 with
   |none=>rw [hl] at bW;exact bW
   |some b=>
    rw [hl] at bW
    obtain ⟨q1,arr,t,q2,q3,q4⟩:=bW.cells Ao
    refine .iK ⟨OF hm.size q1,arr,t,q2,q3,fun i cs hi=>⟨(q4 i cs hi).1,fun j x hj=> ?_⟩⟩ Ao
    obtain ⟨u,u1,u2,u3⟩:=(q4 i cs hi).2 j x hj
    exact ⟨u,u1,u2,u3.de (wx cs (OG hi) x (OG hj))⟩
  ·simp only [hid,OH] at hg
   show cD E' base B' (if id=fresh then _ else _)
   rw [N7 hid]
   exact (hm.at_ id B' hg).bL hE fun b hl=>hb.block b (hlt id b B' hg hl)
 ·simp only [aA] at h1 h2
  have e3:(if id=fresh then E1.loc 0 else E.loc id)=some b:=h3
  have e4:(if b5=fresh then E1.loc 0 else E.loc b5)=some b:=h4
  by_cases hid:id=fresh<;>by_cases jw:b5=fresh
  ·rw [hid,jw]
  ·rw [N8 hid] at e3;rw [N7 jw] at e4 h2
   have:=hlt _ _ _ h2 e4
   have:=j0 b e3
   omega
  ·rw [N7 hid] at e3 h1;rw [N8 jw] at e4
   have:=hlt _ _ _ h1 e3
   have:=j0 b e4
   omega
  ·rw [N7 hid] at e3 h1;rw [N7 jw] at e4 h2
   exact hm.apart id b5 b B1 B2 h1 h2 e3 e4
 ·simp only [aA] at hg
  have e3:(if id=fresh then E1.loc 0 else E.loc id)=some b:=bm
  have:=(hm.low b hI).1
  by_cases hid:id=fresh
  ·rw [N8 hid] at e3
   have:=j0 b e3
   omega
  ·rw [N7 hid] at e3 hg
   exact hm.out id b B' hg e3 hI
 ·simp only [aA] at hg
  show _=if id=fresh then _ else _
  by_cases hid:id=fresh
  ·rw [N8 hid] at hg ⊢
   simp only [N6] at hg;rw [<-hg]
  ·rw [N7 hid] at hg ⊢
   exact hm.len id B' hg cE
 ·simp only [aA] at hk
  have e3:(if k=fresh then E1.loc 0 else E.loc k)=some b:=he
  by_cases hid:k=fresh
  ·rw [N8 hid] at e3
   have:=j0 b e3
   have:=(hm.xo b hX).1
   omega
  ·rw [N7 hid] at e3 hk
   exact (hm.xo b hX).2.2 k B1 hk e3
end
open Go.RowKit
def cx (ρ:Option Nat):Fence:={ Fence.wide with round:=ρ }
theorem nh:(cx ρ).depth.isSome=true->1<=n:=fun h=>by simp [cx,Fence.wide] at h
theorem j7 {o:Oper} {e:Operand->Value}:∀f,o.about P w e=some f->(cx ρ).fn f:=fun _ _=>trivial
theorem oF (h:Calls P f args w R):CallsIn (cx ρ) n P f args w R:=(callsIn_wide (n:=n)).2 h
theorem oG {o:Oper} (h:bM P o=some ao):∀c,o.op≠ .defer c:=by
 intro c hc
 obtain ⟨dst,op,type,pos,after,guard⟩:=o
 simp only at hc
 subst hc
 simp [bM] at h
inductive Mk (E:Env) (lo:Nat):List Deferred->Prop
 |nil:Mk E lo []
 |cons {D:Nat} {ds:List Deferred} (hI:E.I D) (hD:lo<=D) (hh:E.w.heap[D]? =some (.deferred (some []))) (hne:∀d,d∈ds->d.target≠ .collected D) (t:Mk E lo ds):Mk E lo ({ target:= .collected D,args:= #[] }::ds)
theorem Mk.step {E E':Env} (hE:E.Le E') {lo:Nat} {ds:List Deferred} (h:Mk E lo ds):Mk E' lo ds:=by
 induction h with
 |nil=>exact .nil
 |cons hI hD hh hne t ih=>exact .cons (hE.cz _ hI).1 hD ((hE.cz _ hI).2.trans hh) hne ih
theorem Mk.wz (hE:∀b,E.I b->E'.I b/\E'.w.heap[b]? =E.w.heap[b]?) (h:Mk E lo ds):Mk E' lo ds:=by
 induction h with
 |nil=>exact .nil
 |cons hI hD hh hne t ih=>exact .cons (hE _ hI).1 hD ((hE _ hI).2.trans hh) hne ih
theorem Mk.lt (h:Mk E lo ds):∀d,d∈ds->∀D,d.target= .collected D->D<E.w.heap.size:=by
 induction h with
 |nil=>intro d hd;simp at hd
 | @cons D ds hI hD hh hne t ih=>
  intro d hd D' qm
  rcases Oj.1 hd with rfl|hd
  ·simp only [Target.collected.injEq] at qm;subst qm
   exact (OJ.1 hh).1
  ·exact ih d hd D' qm
def Env.lt (E:Env) (kb:Nat):Env:={ E with kn:=fun id=>E.kn id/\id<kb }
theorem Env.Ap (E:Env) (kb:Nat):(E.lt kb).Le E:=⟨fun _ h=>h.1,fun _ h=>⟨h,rfl⟩,fun _ _ h=>h,fun _ _ _=> .inr rfl,fun _ _ _ _ _=> .inr rfl,fun _ _ _=> .inr rfl,fun _ h=>h,fun _ h=>⟨h,rfl⟩⟩
theorem Env.Le.cut {E0:Env} (h:E0.Le E) (hk:∀id,E0.kn id->id<kb) (k:(E.lt kb).Le E'):E0.Le E':=
 Env.Le.trans (E':=E.lt kb) ⟨fun id hi=>⟨h.kn id hi,hk id hi⟩,h.cz,h.dead,h.loc,h.shape,h.ln,h.rg,h.fx⟩ k
def nb (kb:Nat):Nat->AV->Bool
 |0,_=>false
 |d+1, .agg cs=>cs.all (nb kb d)
 |d+1, .aK cs=>cs.all (nb kb d)
 |d+1, .fn _ cs=>cs.all (nb kb d)
 |d+1, .bf _ cs=>cs.all (nb kb d)
 |d+1, .af _ cs=>cs.all (nb kb d)
 |_+1, .ref id _ _ _=>Nat.blt id kb
 |_+1, .own id _ _ _=>Nat.blt id kb
 |_+1, .mp id=>Nat.blt id kb
 |_+1,_=>true
theorem aj.Aq (hE:(E.lt kb).Le E'):∀(d:Nat) {v:Value} {a:AV},aj E v a->nb kb d a=true->aj E' v a:=by
 have hI:∀b,E.I b->E'.I b/\∀o,E'.w.cell? ⟨b,o,none⟩=E.w.cell? ⟨b,o,none⟩:=fun b hb=>⟨(hE.cz b hb).1,fun o=>hE.cell (E:=E.lt kb) hb o⟩
 intro d
 induction d with
 |zero=>intro v a _ h;simp [nb] at h
 |succ d ih=>
  have fG:∀{vs:Array Value} {cs:List AV},(∀(i:Nat) v c,vs[i]? =some v->cs[i]? =some c->aj E v c)->cs.all (nb kb d)=true->∀(i:Nat) v c,vs[i]? =some v->cs[i]? =some c->aj E' v c:=by
   intro vs cs h hn i v c hv hc
   simp only [Oc] at hn
   exact ih (h i v c hv hc) (hn c (OG hc))
  intro v a h hn
  cases a with
  |v x=>exact h.pure hI .v
  |agg cs=>cases h with|agg hl hh=>exact .agg hl (fG hh hn)
  |aK cs=>cases h with|aK hl hh=>exact .aK hl (fG hh hn)
  |fn f cs=>cases h with|fn hl hh=>exact .fn hl (fG hh hn)
  |bf f cs=>cases h with|bf hl hh=>exact .bf hl (fG hh hn)
  |af r cs=>cases h with|af h1 h2 h3 hl hh=>exact .af (hE.rg _ h1) (hE.cz _ h2).1 ((hE.cz _ h2).2.trans h3) hl (fG hh hn)
  |aU sz els=>exact h.pure hI .aU
  |ck sz els=>exact h.pure hI .ck
  |emp=>exact h.pure hI .emp
  |pim cs o=>exact h.pure hI .pim
  |cZ=>exact h.pure hI .cZ
  |dead=>exact .dead
  |ref id sz i o=>
   have hlt:id<kb:=ON hn
   have:aj (E.lt kb) v (.ref id sz i o):=by
    cases h with
    |ref hi hd hb hq=>exact .ref (E:=E.lt kb) ⟨hi,hlt⟩ hd hb hq
    |dL hi hd ho=>exact .dL (E:=E.lt kb) ⟨hi,hlt⟩ hd ho
   exact this.step hE
  |mp id=>
   have hlt:id<kb:=ON hn
   have:aj (E.lt kb) v (.mp id):=by
    cases h with
    |mp hi hd hb=>exact .mp (E:=E.lt kb) ⟨hi,hlt⟩ hd hb
    |gj hi hd ho=>exact .gj (E:=E.lt kb) ⟨hi,hlt⟩ hd ho
   exact this.step hE
  |own id sz off n=>
   have hlt:id<kb:=ON hn
   have:aj (E.lt kb) v (.own id sz off n):=by
    cases h with
    |own hi hd hb hq hs hm hl hc bh=>exact .own (E:=E.lt kb) ⟨hi,hlt⟩ hd hb hq hs hm hl hc bh
    |bQ hi hd hb bh=>exact .bQ (E:=E.lt kb) ⟨hi,hlt⟩ hd hb bh
    |cg hi hd ho=>exact .cg (E:=E.lt kb) ⟨hi,hlt⟩ hd ho
   exact this.step hE
structure az where
 dst:Option Nat
 ao:AO
 guard:Option (Nat×Bool)
variable {o:az} {os full:List az}
def fo (P:Program) (ops:Array Oper) (o:Oper):Option az:=
 match bM P o with
 |some ao=>match o.guard with
  |none=>some ⟨o.dst,ao,none⟩
  |some (j,w)=>match (ops[j]?).bind (·.dst) with
   |some t=>some ⟨o.dst,ao,some (t,w)⟩
   |none=>none
 |none=>none
def aG (σ:Nat->AV):Arg->AV
 | .s t=>σ t
 | .c a=>a
def bD (n:Nat) (d:Option Nat) (v:AV) (σ:Nat->AV):Nat->AV:=fun t=>if d=some t/\t<n then v else σ t
def bO (σ:Nat->AV):Option (Nat×Bool)->Option Bool
 |none=>some true
 |some (t,w)=>match σ t with
  | .v (.bool b)=>some (b==w)
  | .v (.tuple _)=>some false
  |_=>none
inductive dk (P:Program) (σ:Nat->AV) (g:Nat->Option Bk) (fresh:Nat) (o:az):AV->List (Nat×Option Bk)->List Nat->Prop
 |skip (hg:bO σ o.guard=some false):dk P σ g fresh o (.v undef) [] []
 |done {val:AV} {ups:List (Nat×Option Bk)} (hg:bO σ o.guard=some true) (h:(o.ao.au fresh (aG σ)).run g=some (.done val ups)):
   dk P σ g fresh o val ups ((o.ao.au fresh (aG σ)).acc g++(o.ao.au fresh (aG σ)).see g)
 |call {f:FuncId} {as_ bq:List AV} {r:AV} (hg:bO σ o.guard=some true) (h:(o.ao.au fresh (aG σ)).run g=some (.call f as_)) (hc:bH P f=true)
   (hs:(cO as_).run g=some bq) (hf:Fn P f bq r):dk P σ g fresh o r (callUps as_ r) (((o.ao.au fresh (aG σ)).acc g++(o.ao.au fresh (aG σ)).see g)++((cO as_).acc g++(cO as_).see g))
 |ni {f:FuncId} {as_ bq:List AV} {sz:Nat} {els:List (List AV)} (hg:bO σ o.guard=some true) (h:(o.ao.au fresh (aG σ)).run g=some (.call f as_)) (hc:bH P f=true)
   (hs:(cO as_).run g=some bq) (hf:Fo P f bq sz els) (hn:∀cs,cs∈els->∀c,c∈cs->c.de=true):dk P σ g fresh o (.own fresh sz 0 els.length) [(fresh,some ⟨sz,els⟩)] (((o.ao.au fresh (aG σ)).acc g++(o.ao.au fresh (aG σ)).see g)++((cO as_).acc g++(cO as_).see g))
theorem dx.of (hG:dW E) {a:Act} (h:∀t,aj E (a.tmps.getD t undef) (σ t)):dx E a.eval (aG σ):=by
 intro x ax hx
 cases x with
 |tmp t=>simp [cArg] at hx;subst hx;exact h t
 |const v=>
  simp only [cArg] at hx
  cases hc:ofConst v with
  |none=>simp [hc] at hx
  |some c=>simp [hc] at hx;subst hx;exact ES hc
 |func f=>simp [cArg] at hx;subst hx;exact ET f
 |global g=>
  simp only [cArg] at hx
  cases hc:glArg g with
  |none=>simp [hc] at hx
  |some c=>simp [hc] at hx;subst hx;exact hG.arg hc
theorem As (h:(snap1 a).run g=some a'):∀id,id∈a.bS->∃B,g id=some B:=by
 intro id hid
 cases a with
 |own b5 sz off n=>
  simp only [AV.bS,Of] at hid
  subst hid
  simp only [snap1] at h
  obtain ⟨els,h1,_⟩:=cA h
  simp only [content,RM.run] at h1
  cases hB:g id with
  |none=>simp [hB] at h1
  |some B=>exact ⟨B,rfl⟩
 |ref b5 sz i o=>
  simp only [AV.bS,Of] at hid
  subst hid
  simp only [snap1,RM.run] at h
  cases hB:g id with
  |none=>simp [hB] at h
  |some B=>exact ⟨B,rfl⟩
 |_=>simp [AV.bS] at hid
theorem sJ {g:Nat->Option Bk}:∀{as_ bq:List AV},(gu as_).run g=some bq->∀id,id∈as_.flatMap AV.bS->∃B,g id=some B
 |[],_,_,id,hid=>by simp at hid
 |a::r,bq,h,id,hid=>by
  simp only [gu] at h
  obtain ⟨x,h1,h⟩:=cA h
  obtain ⟨l,h2,h⟩:=cA h
  simp only [O5,OM] at hid
  rcases hid with hid|hid
  ·exact As h1 id hid
  ·exact sJ h2 id hid
theorem Gy (h:(du a).run g=some a'):∀id,id∈a.ids->∃B,g id=some B:=by
 intro id hid
 cases a with
 |agg cs=>
  simp only [du] at h
  obtain ⟨l,h1,_⟩:=cA h
  exact sJ h1 id hid
 |fn f cs=>
  simp only [du] at h
  obtain ⟨l,h1,_⟩:=cA h
  exact sJ h1 id hid
 |bf f cs=>
  simp only [du] at h
  obtain ⟨l,h1,_⟩:=cA h
  exact sJ h1 id hid
 |_=>simp only [du] at h;simp only [AV.ids] at hid;exact As h id hid
theorem At {g:Nat->Option Bk}:∀{as_ bq:List AV},(cO as_).run g=some bq->∀id,id∈as_.flatMap AV.ids->∃B,g id=some B
 |[],_,_,id,hid=>by simp at hid
 |a::r,bq,h,id,hid=>by
  simp only [cO] at h
  obtain ⟨x,h1,h⟩:=cA h
  obtain ⟨l,h2,h⟩:=cA h
  simp only [O5,OM] at hid
  rcases hid with hid|hid
  ·exact Gy h1 id hid
  ·exact At h2 id hid
section
variable {P:Program} {E:Env} {J:Nat->Prop} {base:Nat} {g:Nat->Option Bk} {σ:Nat->AV} {fresh:Nat}
theorem kO {a:Act} (hs:∀t,aj E (a.tmps.getD t undef) (σ t)) (hc:fo P ops op=some o) {b:Bool} (hg:bO σ o.guard=some b):Region.wanted op (yielded ops a.tmps)=b:=by
 unfold fo at hc
 split at hc
 ·rename_i ao h1
  split at hc
  ·rename_i h2
   simp only [N6] at hc;subst hc
   simp only [bO,N6] at hg;subst hg
   simp [Region.wanted,h2]
  ·rename_i j w h2
   split at hc
   ·rename_i t h3
    simp only [N6] at hc;subst hc
    simp only [bO] at hg
    have ht:=hs t
    simp only [Region.wanted,h2,yielded,h3,Pg]
    split at hg
    ·rename_i b' bm
     rw [bm] at ht
     have:=ht.iw
     simp only [N6] at hg;subst hg
     have hlt:t<a.tmps.size:=by
      rcases OT t a.tmps.size with h|h
      ·exact h
      ·simp [Array.getElem?_eq_none h,undef] at this
     have h5:a.tmps[t]? =some (.bool b'):=by
      rw [Oo hlt]
      simpa [Oo hlt] using this
     rw [h5]
     cases b'<;>cases w<;>rfl
    ·rename_i vs bm
     rw [bm] at ht
     have:=ht.iw
     simp only [N6] at hg;subst hg
     have h5:a.tmps[t]? =none\/a.tmps[t]? =some (.tuple vs):=by
      rcases OT t a.tmps.size with h|h
      ·right
       rw [Oo h]
       simpa [Oo h] using this
      ·left;exact Array.getElem?_eq_none h
     rcases h5 with h5|h5<;>rw [h5]<;>rfl
    ·simp at hg
   ·simp at hc
 ·simp at hc
theorem qn (hc:fo P ops op=some o):o.dst=op.dst/\bM P op=some o.ao:=by
 unfold fo at hc
 split at hc
 ·rename_i ao h1
  split at hc
  ·simp only [N6] at hc;subst hc;exact ⟨rfl,h1⟩
  ·split at hc
   ·simp only [N6] at hc;subst hc;exact ⟨rfl,h1⟩
   ·simp at hc
 ·simp at hc
theorem wA {a:Act} (hG:dW E) (hs:∀t,aj E (a.tmps.getD t undef) (σ t)) (hm:aE E J base g) (hf:¬E.kn fresh) (hi:ops[i]? =some op) (hc:fo P ops op=some o)
 {acc:List Nat} (hr:dk P σ g fresh o val ups acc) {K:Act->World->Prop}
  (hK:∀v E',E.Le E'->aj E' v val->aE E' J base (aA g ups)->Below base E.w E'.w->(∀id,E'.kn id->E.kn id\/id∈ups.map Prod.fst)->K (a.put o.dst v) E'.w) {rd:Option Nat}:wpOpIn (cx rd) 0 P ops Q i K a E.w:=by
 have hd:o.dst=op.dst/\bM P op=some o.ao:=by
  unfold fo at hc
  split at hc
  ·rename_i ao h1
   split at hc
   ·simp only [N6] at hc;subst hc;exact ⟨rfl,h1⟩
   ·split at hc
    ·simp only [N6] at hc;subst hc;exact ⟨rfl,h1⟩
    ·simp at hc
  ·simp at hc
 have da:∀e,op.semAt (cx rd).round e=execOp e op:=fun e=>P0 (cx rd) _ _ (oG hd.2)
 unfold wpOpIn
 simp only [hi]
 cases hr with
 |skip hg=>
  rw [kO hs hc hg]
  simp only [O0,OH]
  rw [<-hd.1]
  exact ⟨j7,hK undef E (Env.Le.refl E) (.v rfl) hm (OK _ _) fun _ h=> .inl h⟩
 |done hg h=>
  rw [kO hs hc hg,N8 rfl]
  obtain ⟨n,v,E',h1,h2,h3,h4,h5,h6,h7⟩:=Gp (dx.of hG hs) (fun _=>rfl) hm hf hd.2 h
  have:=hK v E' h3 h4 h5 h6 h7
  unfold Oper.wpIn
  rw [da,h1]
  rw [hd.1] at this
  rcases h2 with rfl|⟨rfl,rfl⟩
  ·exact ⟨j7,this⟩
  ·exact ⟨j7,this⟩
 | @call f as_ bq r hg h bY fH eR=>
  rw [kO hs hc hg,N8 rfl]
  obtain ⟨vs,h1,h2⟩:=qg (dx.of hG hs) hd.2 h bY
  unfold Oper.wpIn
  rw [da,h1,Oper.uponIn_enter]
  refine ⟨j7,nh,oF ((Gv hG hm h2 fH eR fun id hid=> ?_).mono ?_)⟩
  ·obtain ⟨B,hB⟩:=At fH id hid
   exact ((hm.live id).2 ⟨B,hB⟩).1
  ·rintro e w' ⟨v,E',rfl,rfl,k1,k2,k3,k4,k5⟩
   have:=hK v E' k1 k2 k3 k4 fun id h=> .inl (k5 id h)
   rw [hd.1] at this
   exact this
 | @ni f as_ bq sz els hg h bY fH eR j8=>
  rw [kO hs hc hg,N8 rfl]
  obtain ⟨vs,h1,h2⟩:=qg (dx.of hG hs) hd.2 h bY
  unfold Oper.wpIn
  rw [da,h1,Oper.uponIn_enter]
  refine ⟨j7,nh,oF ((Gx hG hm h2 fH eR j8 hf).mono ?_)⟩
  ·rintro e w' ⟨v,E',rfl,rfl,k1,k2,k3,k4,k5⟩
   have:=hK v E' k1 k2 k3 k4 fun id h=>(k5 id h).imp (fun h=>h) fun h=>by simp [h]
   rw [hd.1] at this
   exact this
theorem oH (hE:E.Le E') {a:Act} (hs:∀t,aj E (a.tmps.getD t undef) (σ t)) (hv:aj E' v val) (d:Option Nat):∀t,aj E' ((a.put d v).tmps.getD t undef) (bD a.tmps.size d val σ t):=by
 intro t
 unfold bD
 cases d with
 |none=>simp only [Act.put,reduceCtorEq,false_and,OH];exact (hs t).step hE
 |some d=>
  simp only [Act.put,N6]
  by_cases h:d=t/\t<a.tmps.size
  ·rw [N8 h]
   obtain ⟨rfl,hlt⟩:=h
   simpa [hlt] using hv
  ·rw [N7 h]
   have:(a.tmps.setIfInBounds d v).getD t undef=a.tmps.getD t undef:=by
    simp only [Pz,PX]
    by_cases dg:d=t
    ·subst dg
     have:¬d<a.tmps.size:=fun hl=>h ⟨rfl,hl⟩
     simp [this]
    ·simp [dg]
   rw [this];exact (hs t).step hE
theorem gW (a:Act) (d:Option Nat) (v:Value):(a.put d v).tmps.size=a.tmps.size/\(a.put d v).defers=a.defers:=by
 cases d<;>simp [Act.put]
end
def Fi (P:Program) (f:FuncId) (as_:List AV) (g:Nat->Option Bk) (k:Nat) (r:AV) (g':Nat->Option Bk) (k':Nat):Prop:=
 ∀(E:Env) (J:Nat->Prop) (base:Nat) (vs:Array Value),dW E->aE E J base g->(∀id,E.kn id->id<k)->RC E vs as_->
  Calls P f vs E.w fun e w'=>∃v E',e= .returned v/\E'.w=w'/\E.Le E'/\aj E' v r/\aE E' J base g'/\Below base E.w w'/\∀id,E'.kn id->id<k'
def Yd (P:Program) (kb:Nat) (r:Loop) (caps as_:List AV) (g:Nat->Option Bk) (k:Nat) (g':Nat->Option Bk) (k':Nat):Prop:=
 r.params.size=as_.length/\∀(E:Env) (J:Nat->Prop) (base l:Nat) (vs:Array Value),dW E->aE E J base g->(∀id,E.kn id->id<k)->E.rg l->RC E vs as_->RC E r.tmps caps->E.I l->E.w.heap[l]? =some (.loop r)->
  RoundIn Fence.wide 0 P l r.fn ((r.params.zip vs).foldl (fun t (p,v)=>t.setIfInBounds p v) r.tmps) r.assign r.body E.w fun e w'=>e= .returned (.bool true)/\∃E',E'.w=w'/\(E.lt kb).Le E'/\aE E' J base g'/\Below base E.w w'/\∀id,E'.kn id->id<k'
theorem Gz {aD:Operand->Value} {l:Nat} {c:Call} {x:Operand} (hc:c.callee= .value x) (hx:aD x= .func (.yield l) #[] #[]) (w:World):
  (do let d<-resolve aD c ty;invoke d.target d.args:Sem Next).run P w=(Instr.yield l (c.args.map aD)).run P w:=by
 simp [resolve,hc,hx,Deferred.ofValue,invoke]
inductive gv (P:Program) (n k0:Nat):List az->(Nat->AV)->(Nat->Option Bk)->Nat->(Nat->AV)->(Nat->Option Bk)->Nat->Prop
 |nil {σ:Nat->AV} {g:Nat->Option Bk} {k:Nat}:gv P n k0 [] σ g k σ g k
 |cons {o:az} {os:List az} {σ σ':Nat->AV} {g g':Nat->Option Bk} {k k1 k':Nat} {val:AV} {ups:List (Nat×Option Bk)} {acc:List Nat} (h:dk P σ g k o val ups acc) (hk:k<=k1) (hu:∀id,id∈ups.map Prod.fst->id<k1)
   (hr:gv P n k0 os (bD n o.dst val σ) (aA g ups) k1 σ' g' k'):gv P n k0 (o::os) σ g k σ' g' k'
 |inl {o:az} {os:List az} {σ σ':Nat->AV} {g g1 g':Nat->Option Bk} {k k1 k':Nat} {f:FuncId} {as_:List AV} {r:AV} (hg:bO σ o.guard=some true) (h:(o.ao.au k (aG σ)).run g=some (.call f as_)) (hc:bH P f=true)
   (hf:Fi P f as_ g k r g1 k1) (hr:gv P n k0 os (bD n o.dst r σ) g1 k1 σ' g' k'):gv P n k0 (o::os) σ g k σ' g' k'
 |af {o:az} {os:List az} {σ σ':Nat->AV} {g g1 g':Nat->Option Bk} {k k1 k':Nat} {x:Arg} {args:List Arg} {r:Loop} {caps:List AV} (hg:bO σ o.guard=some true) (h:o.ao= .call x args) (hx:aG σ x= .af r caps)
   {kb:Nat} (ox:k0<=kb) (j8:∀t,nb kb 6 (σ t)=true) (hy:Yd P kb r caps (args.map (aG σ)) g k g1 k1) (hr:gv P n k0 os (bD n o.dst (.v (.bool true)) σ) g1 k1 σ' g' k'):gv P n k0 (o::os) σ g k σ' g' k'
structure eE (E0:Env) (J:Nat->Prop) (base:Nat) (w0:World) (n:Nat) (σ:Nat->AV) (g:Nat->Option Bk) (k:Nat) (a:Act) (w:World):Prop where
 ex:∃E:Env,E.w=w/\E0.Le E/\(∀t,aj E (a.tmps.getD t undef) (σ t))/\aE E J base g/\(∀id,E.kn id->id<k)/\Mk E w0.heap.size a.defers
 size:a.tmps.size=n
 below:Below base w0 w
 gl:dW E0
theorem Au {rd:Option Nat} {E0:Env} (nd:∀id,E0.kn id->id<k0) {w0:World} (h:gv P n k0 os σ g k σ' g' k'):
  ∀(i:Nat) (a:Act) (w:World),(∀j,j<os.length->∃op,ops[i+j]? =some op/\∃o,os[j]? =some o/\fo P ops op=some o)->eE E0 J base w0 n σ g k a w->(∀a w,eE E0 J base w0 n σ' g' k' a w->Q .normal a w)->wpOpsIn (cx rd) 0 P ops Q (List.range' i os.length) a w:=by
 induction h with
 |nil=>intro i a w _ hr hQ;exact hQ a w hr
 | @cons o os σ σ' g g' k k1 k' val ups acc h hk hu hr ih=>
  intro i a w dI hrel hQ
  rw [List.length_cons,List.range'_succ,wpOpsIn_cons]
  obtain ⟨op,h1,o',h2,h3⟩:=dI 0 (by simp)
  simp only [OI,N6] at h2
  subst h2
  rw [OY] at h1
  obtain ⟨E,rfl,hle,hs,hm,aX,hmk⟩:=hrel.ex
  refine wA (hrel.gl.step hle) hs hm (fun hh=>Pl _ (aX k hh)) h1 h3 h fun v E' hE hv hM hB GA=> ?_
  refine ih (i+1) _ _ (fun j hj=> ?_) ⟨⟨E',rfl,hle.trans hE, ?_,hM,fun id hid=> ?_, ?_⟩, ?_, ?_,hrel.gl⟩ hQ
  ·obtain ⟨qo,m1,o',m2,m3⟩:=dI (j+1) (by simp;omega)
   exact ⟨qo,by rw [show i+1+j=i+(j+1) by omega];exact m1,o',by simpa using m2,m3⟩
  ·have:=oH hE hs hv o.dst
   rw [hrel.size] at this
   exact this
  ·rcases GA id hid with h|h
   ·exact Oz (aX id h) hk
   ·exact hu id h
  ·rw [(gW a o.dst v).2];exact hmk.step hE
  ·rw [(gW a o.dst v).1];exact hrel.size
  ·exact hrel.below.trans hB
 | @inl o os σ σ' g g1 g' k k1 k' f as_ r hg h bY hf hr ih=>
  intro i a w dI hrel hQ
  rw [List.length_cons,List.range'_succ,wpOpsIn_cons]
  obtain ⟨op,h1,o',h2,h3⟩:=dI 0 (by simp)
  simp only [OI,N6] at h2
  subst h2
  rw [OY] at h1
  obtain ⟨E,rfl,hle,hs,hm,aX,hmk⟩:=hrel.ex
  have hd:=qn h3
  have da:∀e,op.semAt (cx rd).round e=execOp e op:=fun e=>P0 (cx rd) _ _ (oG hd.2)
  unfold wpOpIn
  simp only [h1]
  rw [kO hs h3 hg,N8 rfl]
  obtain ⟨vs,e1,e2⟩:=qg (dx.of (hrel.gl.step hle) hs) hd.2 h bY
  unfold Oper.wpIn
  rw [da,e1,Oper.uponIn_enter]
  refine ⟨j7,nh,oF ((hf E J base vs (hrel.gl.step hle) hm aX e2).mono ?_)⟩
  rintro e w' ⟨v,E',rfl,rfl,q1,q2,q3,q4,q5⟩
  refine ih (i+1) _ _ (fun j hj=> ?_) ⟨⟨E',rfl,hle.trans q1, ?_,q3,q5, ?_⟩, ?_, ?_,hrel.gl⟩ hQ
  ·obtain ⟨qo,m1,o',m2,m3⟩:=dI (j+1) (by simp;omega)
   exact ⟨qo,by rw [show i+1+j=i+(j+1) by omega];exact m1,o',by simpa using m2,m3⟩
  ·have:=oH q1 hs q2 op.dst
   rw [hrel.size] at this
   rw [hd.1]
   exact this
  ·rw [(gW a op.dst v).2];exact hmk.step q1
  ·rw [(gW a op.dst v).1];exact hrel.size
  ·exact hrel.below.trans q4
 | @af o os σ σ' g g1 g' k k1 k' x args r caps hg h hx kb ox j8 hy hr ih=>
  intro i a w dI hrel hQ
  rw [List.length_cons,List.range'_succ,wpOpsIn_cons]
  obtain ⟨op,h1,o',h2,h3⟩:=dI 0 (by simp)
  simp only [OI,N6] at h2
  subst h2
  rw [OY] at h1
  obtain ⟨E,rfl,hle,hs,hm,aX,hmk⟩:=hrel.ex
  have hd:=qn h3
  have da:∀e,op.semAt (cx rd).round e=execOp e op:=fun e=>P0 (cx rd) _ _ (oG hd.2)
  have Av:=hd.2
  rw [h] at Av
  obtain ⟨c,y,c1,c2,c3,c4⟩:=Ak Av
  have hv:=dx.of (hrel.gl.step hle) hs y x c3
  rw [hx] at hv
  obtain ⟨vv,b6⟩:∃vv,vv=a.eval y:=⟨_,rfl⟩
  rw [<-b6] at hv
  cases hv with
  | @af l _ _ qp hI hh hl hr'=>
   obtain ⟨al,ar⟩:=(dx.of (hrel.gl.step hle) hs).list c4
   have Aw:=run_yield (P:=P) (args:=c.args.map a.eval) hh (by rw [hy.1];simpa using al)
   have e1:(execOp a.eval op).run P E.w= .ok (.round l r.fn ((r.params.zip (c.args.map a.eval)).foldl (fun t (p,v)=>t.setIfInBounds p v) r.tmps) r.assign r.body) E.w:=by
    unfold execOp
    simp only [c1]
    exact (Gz c2 b6.symm E.w).trans Aw
   unfold wpOpIn
   simp only [h1]
   rw [kO hs h3 hg,N8 rfl]
   unfold Oper.wpIn
   rw [da,e1,Oper.uponIn_round]
   refine ⟨j7,nh,RoundIn.mono (hy.2 E J base l (c.args.map a.eval) (hrel.gl.step hle) hm aX qp ⟨by simpa using al,fun j u c hu hc=>ar j u c (by simpa using hu) hc⟩ ⟨hl,hr'⟩ hI hh) ?_⟩
   rintro e w' ⟨rfl,E',rfl,q1,q3,q4,q5⟩
   refine ih (i+1) _ _ (fun j hj=> ?_) ⟨⟨E',rfl,hle.cut (fun id hi=>Oz (nd id hi) ox) q1, ?_,q3,q5, ?_⟩, ?_, ?_,hrel.gl⟩ hQ
   ·obtain ⟨qo,m1,o',m2,m3⟩:=dI (j+1) (by simp;omega)
    exact ⟨qo,by rw [show i+1+j=i+(j+1) by omega];exact m1,o',by simpa using m2,m3⟩
   ·have:=oH (E:=E') (E':=E') (Env.Le.refl E') (fun t=>(hs t).Aq q1 6 (j8 t)) (v:= .bool true) (.v rfl) op.dst
    rw [hrel.size] at this
    rw [hd.1]
    exact this
   ·rw [(gW a op.dst _).2];exact Mk.wz (E:=E) q1.cz hmk
   ·rw [(gW a op.dst _).1];exact hrel.size
   ·exact hrel.below.trans q4
open Go.RowKit
def Arg.slot:Arg->List Nat
 | .s t=>[t]
 | .c _=>[]
def oI:Option Arg->List Nat
 |none=>[]
 |some x=>x.slot
def AO.qq:AO->List Nat
 | .mov x| .box _ x| .load _ x| .nilc x| .un _ x| .conv _ x| .fad _ x| .fld _ _ x| .ext _ x| .len _ x| .isn _ _ x=>x.slot
 | .pick a b c=>a.slot++b.slot++c.slot
 | .new _=>[]
 | .agg _ ps=>ps.flatMap fun p=>p.2.2.slot
 | .bsl _ _ _ ps=>ps.flatMap fun p=>p.2.slot
 | .store _ x y| .bin _ _ x y| .iad _ x y| .iap _ _ x y| .ixa _ _ _ x y| .mnx _ x y| .eqs _ _ _ x y| .msl _ _ _ x y| .six x y| .app _ _ x y=>x.slot++y.slot
 | .slc _ x l h m=>x.slot++oI l++oI h++oI m
 | .sls x l h=>x.slot++oI l++oI h
 | .mkf _ cs| .mkb _ cs=>cs.flatMap Arg.slot
 | .call x l=>x.slot++l.flatMap Arg.slot
 | .clr _ x| .b2s x| .s2b x=>x.slot
 | .cpy _ x y=>x.slot++y.slot
 | .mkm| .bad=>[]
 | .mup _ x k y=>x.slot++k.slot++y.slot
 | .mlk _ _ x k=>x.slot++k.slot
def AO.allocs:AO->Bool
 | .new _| .box _ _| .bsl _ _ _ _| .msl _ _ _ _ _| .app _ _ _ _| .s2b _| .mkm=>true
 |_=>false
def az.iO (o:az):List Nat:=o.ao.qq++(match o.guard with|some (t,_)=>[t]|none=>[])
theorem bA (h:∀t,t∈x.slot->σ' t=σ t):aG σ' x=aG σ x:=by
 cases x with
 |s t=>exact h t (by simp [Arg.slot])
 |c a=>rfl
theorem qs {x:Option Arg} (h:∀t,t∈oI x->σ' t=σ t):cN (aG σ') x=cN (aG σ) x:=by
 cases x with
 |none=>rfl
 |some a=>simp only [cN,bA h]
theorem map_congr {l:List Arg} (h:∀t,t∈l.flatMap Arg.slot->σ' t=σ t):l.map (aG σ')=l.map (aG σ):=by
 apply P4
 intro x hx
 exact bA fun t ht=>h t (List.mem_flatMap.2 ⟨x,hx,ht⟩)
theorem Ax {σ σ':Nat->AV}:∀{ps:List (Nat×Nat×Arg)} {cs:List AV},(∀t,t∈ps.flatMap (fun p=>p.2.2.slot)->σ' t=σ t)->fillA (aG σ') cs ps=fillA (aG σ) cs ps
 |[],cs,_=>rfl
 |(off,n,x)::r,cs,h=>by
  have h1:=bA (x:=x) (σ:=σ) (σ':=σ') fun t ht=>h t (by simp [ht])
  simp only [fillA,h1]
  split
  ·exact Ax fun t ht=>h t (by rw [O5];exact OO _ ht)
  ·rfl
theorem Ay {σ σ':Nat->AV} {sz:Nat}:∀{ps:List (Nat×Arg)} {els:List (List AV)},(∀t,t∈ps.flatMap (fun p=>p.2.slot)->σ' t=σ t)->fillE (aG σ') sz els ps=fillE (aG σ) sz els ps
 |[],cs,_=>rfl
 |(i,x)::r,cs,h=>by
  have h1:=bA (x:=x) (σ:=σ) (σ':=σ') fun t ht=>h t (by simp [ht])
  simp only [fillE,h1]
  split
  ·exact Ay fun t ht=>h t (by rw [O5];exact OO _ ht)
  ·rfl
theorem Az (fresh:Nat) (h:∀t,t∈ao.qq->σ' t=σ t):ao.au fresh (aG σ')=ao.au fresh (aG σ):=by
 cases ao<;>simp only [AO.qq,OM] at h<;>simp only [AO.au]
 case mov x=>rw [bA h]
 case pick a b c=>rw [bA (x:=a) fun t ht=>h t (.inl (.inl ht)),bA (x:=b) fun t ht=>h t (.inl (.inr ht)),bA (x:=c) fun t ht=>h t (.inr ht)]
 case box n x=>rw [bA h]
 case agg zs ps=>rw [Ax h]
 case bsl sz ln zs ps=>rw [Ay h]
 case load m x=>rw [bA h]
 case store n x y=>rw [bA (x:=x) fun t ht=>h t (.inl ht),bA (x:=y) fun t ht=>h t (.inr ht)]
 case nilc x=>rw [bA h]
 case bin bt op x y=>rw [bA (x:=x) fun t ht=>h t (.inl ht),bA (x:=y) fun t ht=>h t (.inr ht)]
 case un op x=>rw [bA h]
 case conv k x=>rw [bA h]
 case fad off x=>rw [bA h]
 case fld off m x=>rw [bA h]
 case iad sz x y=>rw [bA (x:=x) fun t ht=>h t (.inl ht),bA (x:=y) fun t ht=>h t (.inr ht)]
 case ext i x=>rw [bA h]
 case len b x=>cases b<;>simp only [AO.au]<;>rw [bA h]
 case isn kd m x=>cases kd<;>simp only [AO.au]<;>rw [bA h]
 case mnx m x y=>rw [bA (x:=x) fun t ht=>h t (.inl ht),bA (x:=y) fun t ht=>h t (.inr ht)]
 case eqs ng n L x y=>rw [bA (x:=x) fun t ht=>h t (.inl ht),bA (x:=y) fun t ht=>h t (.inr ht)]
 case msl sz by_ zs x y=>rw [bA (x:=x) fun t ht=>h t (.inl ht),bA (x:=y) fun t ht=>h t (.inr ht)]
 case slc sz x lo hi mx=>rw [bA (x:=x) fun t ht=>h t (.inl (.inl (.inl ht))),qs (x:=lo) fun t ht=>h t (.inl (.inl (.inr ht))),qs (x:=hi) fun t ht=>h t (.inl (.inr ht)),qs (x:=mx) fun t ht=>h t (.inr ht)]
 case sls x lo hi=>rw [bA (x:=x) fun t ht=>h t (.inl (.inl ht)),qs (x:=lo) fun t ht=>h t (.inl (.inr ht)),qs (x:=hi) fun t ht=>h t (.inr ht)]
 case six x y=>rw [bA (x:=x) fun t ht=>h t (.inl ht),bA (x:=y) fun t ht=>h t (.inr ht)]
 case app sz by_ x y=>rw [bA (x:=x) fun t ht=>h t (.inl ht),bA (x:=y) fun t ht=>h t (.inr ht)]
 case mkf f cs=>rw [map_congr h]
 case mkb f cs=>rw [map_congr h]
 case clr zs x=>rw [bA h]
 case b2s x=>rw [bA h]
 case s2b x=>rw [bA h]
 case cpy sz x y=>rw [bA (x:=x) fun t ht=>h t (.inl ht),bA (x:=y) fun t ht=>h t (.inr ht)]
 case mup kd x k y=>rw [bA (x:=x) fun t ht=>h t (.inl (.inl ht)),bA (x:=k) fun t ht=>h t (.inl (.inr ht)),bA (x:=y) fun t ht=>h t (.inr ht)]
 case mlk kd z x k=>rw [bA (x:=x) fun t ht=>h t (.inl ht),bA (x:=k) fun t ht=>h t (.inr ht)]
 case ixa sz ln m x y=>rw [bA (x:=x) fun t ht=>h t (.inl ht),bA (x:=y) fun t ht=>h t (.inr ht)]
 case iap sz ln x y=>rw [bA (x:=x) fun t ht=>h t (.inl ht),bA (x:=y) fun t ht=>h t (.inr ht)]
 case call x l=>rw [bA (x:=x) fun t ht=>h t (.inl ht),map_congr fun t ht=>h t (.inr ht)]
theorem GB (h:ao.allocs=false) (fresh GC:Nat) (ρ:Arg->AV):ao.au GC ρ=ao.au fresh ρ:=by
 cases ao<;>simp [AO.allocs] at h<;>first|rfl|skip
 case len b x=>cases b<;>rfl
 case isn kd b x=>cases kd<;>rfl
theorem GD (h:ao.allocs=true) {ρ:Arg->AV} (hr:(ao.au fresh ρ).run g=some (.done val ups)):fresh∈ups.map Prod.fst:=by
 cases ao<;>simp [AO.allocs] at h<;>simp only [AO.au] at hr
 case new zs=>simp [RM.run] at hr;rw [<-hr.2];simp
 case mkm=>simp [RM.run] at hr;rw [<-hr.2];simp
 case box n x=>split at hr<;>simp [RM.run] at hr;rw [<-hr.2];simp
 case bsl sz ln zs ps=>
  cases hf:fillE ρ sz (List.replicate ln zs) ps with
  |none=>simp [hf,RM.opt,RM.run] at hr
  |some els=>simp [hf,RM.opt,RM.run] at hr;rw [<-hr.2];simp
 case msl sz b zs l c=>
  split at hr
  ·split at hr<;>simp [RM.run] at hr;rw [<-hr.2];simp
  ·simp [RM.run] at hr
 case s2b x=>
  split at hr
  ·split at hr<;>simp [RM.run] at hr;rw [<-hr.2];simp
  ·simp [RM.run] at hr
 case app sz b s x=>
  obtain ⟨ys,_,hr⟩:=cA hr
  split at hr
  ·split at hr<;>simp [RM.run] at hr;rw [<-hr.2];simp
  ·split at hr<;>simp [RM.run] at hr;rw [<-hr.2];simp
  ·simp only [RM.run] at hr
   split at hr
   ·split at hr
    ·simp [RM.run] at hr;rw [<-hr.2];simp
    ·split at hr<;>simp [RM.run] at hr;rw [<-hr.2];simp
   ·simp at hr
  ·simp [RM.run] at hr
theorem dk.local {P:Program} {σ σ':Nat->AV} {g g':Nat->Option Bk} {fr gw:Nat} {o:az} {val:AV} {ups:List (Nat×Option Bk)} {acc:List Nat} (h:dk P σ g fr o val ups acc)
  (hσ:∀t,t∈o.iO->σ' t=σ t) (hg:∀id,id∈acc->g' id=g id) (ep:fr∈ups.map Prod.fst->gw=fr):∃wB,dk P σ' g' gw o val ups wB:=by
 have cq:bO σ' o.guard=bO σ o.guard:=by
  cases hg0:o.guard with
  |none=>rfl
  |some p=>
   obtain ⟨t,w⟩:=p
   simp only [bO,hσ t (by simp [az.iO,hg0])]
 have da:∀out,(o.ao.au fr (aG σ)).run g=some out->(∀id,id∈(o.ao.au fr (aG σ)).acc g++(o.ao.au fr (aG σ)).see g->g' id=g id)->(o.ao.allocs=true->gw=fr)->(o.ao.au gw (aG σ')).run g'=some out:=by
  intro out h1 h2 h3
  have e1:o.ao.au gw (aG σ')=o.ao.au fr (aG σ):=by
   rw [Az gw fun t ht=>hσ t (by simp [az.iO,ht])]
   cases hal:o.ao.allocs with
   |false=>exact GB hal _ _ _
   |true=>rw [h3 hal]
  rw [e1,RM.local _ (fun id hid=>h2 id (OR _ hid)) (fun id hid=>by rw [h2 id (OO _ hid)])]
  exact h1
 cases h with
 |skip hg0=>exact ⟨_, .skip (cq.trans hg0)⟩
 |done hg0 h1=>exact ⟨_, .done (cq.trans hg0) (da _ h1 hg fun hal=>ep (GD hal h1))⟩
 | @call f as_ bq r hg0 h1 hc hs hf=>
  have hal:o.ao.allocs=false:=by
   cases hx:o.ao with
   |call x l=>rfl
   |_=>exact absurd h1 (wi (by rw [hx];simp))
  refine ⟨_, .call (cq.trans hg0) (da _ h1 (fun id hid=>hg id (OR _ hid)) fun h=>by rw [hal] at h;simp at h) hc ?_ hf⟩
  rw [RM.local _ (fun id hid=>hg id (OO _ (OR _ hid))) (fun id hid=>by rw [hg id (OO _ (OO _ hid))])]
  exact hs
 | @ni f as_ bq sz els hg0 h1 hc hs hf hn=>
  have hal:o.ao.allocs=false:=by
   cases hx:o.ao with
   |call x l=>rfl
   |_=>exact absurd h1 (wi (by rw [hx];simp))
  have hfe:gw=fr:=ep (by simp)
  subst hfe
  refine ⟨_, .ni (cq.trans hg0) (da _ h1 (fun id hid=>hg id (OR _ hid)) fun _=>rfl) hc ?_ hf hn⟩
  rw [RM.local _ (fun id hid=>hg id (OO _ (OR _ hid))) (fun id hid=>by rw [hg id (OO _ (OO _ hid))])]
  exact hs
structure Rec where
 dst:Option Nat
 val:AV
 ups:List (Nat×Option Bk)
 acc:List Nat
 fr:Nat
def Rec.keys (r:Rec):List Nat:=r.ups.map Prod.fst
inductive gX (P:Program) (n:Nat):List az->(Nat->AV)->(Nat->Option Bk)->Nat->List Rec->(Nat->AV)->(Nat->Option Bk)->Nat->Prop
 |nil {σ:Nat->AV} {g:Nat->Option Bk} {k:Nat}:gX P n [] σ g k [] σ g k
 |cons {o:az} {os:List az} {σ σ':Nat->AV} {g g':Nat->Option Bk} {k k1 k':Nat} {val:AV} {ups:List (Nat×Option Bk)} {acc:List Nat} {rs:List Rec} (h:dk P σ g k o val ups acc) (hk:k<=k1) (hu:∀id,id∈ups.map Prod.fst->id<k1)
   (hr:gX P n os (bD n o.dst val σ) (aA g ups) k1 rs σ' g' k'):gX P n (o::os) σ g k (⟨o.dst,val,ups,acc,k⟩::rs) σ' g' k'
def db {β:Type} (L:Nat->Bool) (w:Rec->Option β):Nat->List Rec->β->β
 |_,[],x=>x
 |k,r::rs,x=>db L w (k+1) rs (if L k=true then (w r).getD x else x)
theorem jC {β:Type} {L L':Nat->Bool} {w:Rec->Option β}:∀(rs:List Rec) (k:Nat) (x:β),(∀(j:Nat) r,rs[j]? =some r->L (k+j)≠L' (k+j)->w r=none)->db L w k rs x=db L' w k rs x
 |[],k,x,_=>rfl
 |r::rs,k,x,h=>by
  simp only [db]
  have h0:=h 0 r rfl
  rw [OY] at h0
  have e:(if L k=true then (w r).getD x else x)=if L' k=true then (w r).getD x else x:=by
   by_cases hl:L k=L' k
   ·rw [hl]
   ·rw [h0 hl];simp
  rw [e]
  exact jC rs (k+1) _ fun j r' hr hl=>h (j+1) r' (by simpa using hr) (by rw [show k+(j+1)=k+1+j by omega];exact hl)
theorem jD {β:Type} {L:Nat->Bool} {w:Rec->Option β}:∀(rs:List Rec) (k:Nat) (x:β),(∀(j:Nat) r,rs[j]? =some r->L (k+j)=true->w r=none)->db L w k rs x=x
 |[],k,x,_=>rfl
 |r::rs,k,x,h=>by
  simp only [db]
  have e:(if L k=true then (w r).getD x else x)=x:=by
   split
   ·rename_i hl;rw [h 0 r rfl (by simpa using hl)];rfl
   ·rfl
  rw [e]
  exact jD rs (k+1) _ fun j r' hr hl=>h (j+1) r' (by simpa using hr) (by rw [show k+(j+1)=k+1+j by omega];exact hl)
theorem nj {β:Type} {L L':Nat->Bool} {w:Rec->Option β}:∀(rs:List Rec) (k i:Nat) (x:β) (r:Rec),rs[i]? =some r->L (k+i)=false->(∀j,L' j=if j=k+i then true else L j)->(∀(j:Nat) r',i<j->rs[j]? =some r'->L (k+j)=true->w r'=none\/w r=none)->
  db L' w k rs x=(w r).getD (db L w k rs x)
 |[],k,i,x,r,hr,_,_,_=>by simp at hr
 |r0::rs,k,0,x,r,hr,hf,hL,hn=>by
  simp only [OI,N6] at hr
  subst hr
  simp only [db,hL k,OY,Oa]
  rw [OY] at hf
  rw [hf]
  simp only [O0,OH]
  cases hw:w r0 with
  |none=>
   simp only [Py]
   refine jC rs (k+1) x fun j r' hr' hl=> ?_
   rw [hL,N7 (by omega)] at hl
   exact absurd rfl hl
  |some y=>
   simp only [O8]
   refine jD rs (k+1) y fun j r' hr' hl=> ?_
   rw [hL,N7 (by omega)] at hl
   exact (hn (j+1) r' (by omega) (by simpa using hr') (by rw [show k+(j+1)=k+1+j by omega];exact hl)).resolve_right (by rw [hw];simp)
 |r0::rs,k,i+1,x,r,hr,hf,hL,hn=>by
  simp only [db]
  have e:L' k=L k:=by rw [hL k,N7 (by omega)]
  rw [e]
  exact nj rs (k+1) i _ r (by simpa using hr) (by rw [show k+1+i=k+(i+1) by omega];exact hf) (fun j=>by rw [hL j,show k+1+i=k+(i+1) by omega]) fun j r' hj hr' hl=>hn (j+1) r' (by omega) (by simpa using hr') (by rw [show k+(j+1)=k+1+j by omega];exact hl)
theorem ix {β:Type} {L:Nat->Bool} {w:Rec->Option β}:∀(rs:List Rec) (k:Nat) (x:β),db L w (k+1) rs x=db (fun j=>L (j+1)) w k rs x
 |[],_,_=>rfl
 |r::rs,k,x=>by
  simp only [db]
  exact ix rs (k+1) _
def iP (n t:Nat) (r:Rec):Option AV:=if r.dst=some t/\t<n then some r.val else none
def kv:List (Nat×Option Bk)->Nat->Option (Option Bk)
 |[],_=>none
 |(k,x)::r,id=>match kv r id with
  |some y=>some y
  |none=>if id=k then some x else none
theorem j9:∀(ups:List (Nat×Option Bk)) (g:Nat->Option Bk) (id:Nat),aA g ups id=(kv ups id).getD (g id)
 |[],g,id=>rfl
 |(k,x)::r,g,id=>by
  simp only [aA,kv,j9 r]
  cases kv r id with
  |some y=>rfl
  |none=>
   simp only [Py]
   by_cases h:id=k
   ·simp [h]
   ·simp [h]
theorem kP:∀{ups:List (Nat×Option Bk)} {id:Nat},kv ups id≠none->id∈ups.map Prod.fst
 |[],id,h=>by simp [kv] at h
 |(k,x)::r,id,h=>by
  simp only [kv] at h
  cases hr:kv r id with
  |some y=>simp only [Om,Oj];exact .inr (kP (by rw [hr];simp))
  |none=>
   rw [hr] at h
   by_cases hk:id=k
   ·simp [hk]
   ·simp [hk] at h
def wg (id:Nat) (r:Rec):Option (Option Bk):=kv r.ups id
theorem kQ (n t:Nat) (r:Rec) (σ:Nat->AV):bD n r.dst r.val σ t=(iP n t r).getD (σ t):=by
 unfold bD iP
 split<;>rfl
def upto (i j:Nat):Bool:=decide (j<i)
def bE (n:Nat) (L:Nat->Bool) (rs:List Rec) (σ:Nat->AV) (t:Nat):AV:=db L (iP n t) 0 rs (σ t)
def bB (L:Nat->Bool) (rs:List Rec) (g:Nat->Option Bk) (id:Nat):Option Bk:=db L (wg id) 0 rs (g id)
theorem wC {rs:List Rec} (h:gX P n os σ g k rs σ' g' k'):
  rs.length=os.length/\k<=k'/\(∀(i:Nat) o,os[i]? =some o->∃r,rs[i]? =some r/\r.dst=o.dst/\dk P (bE n (upto i) rs σ) (bB (upto i) rs g) r.fr o r.val r.ups r.acc/\k<=r.fr)/\
   (∀(i j:Nat) ri rj,i<j->rs[i]? =some ri->rs[j]? =some rj->∀id,id∈ri.keys->id<rj.fr)/\(∀(i:Nat) r,rs[i]? =some r->∀id,id∈r.keys->id<k')/\σ'=bE n (fun _=>true) rs σ/\g'=bB (fun _=>true) rs g:=by
 induction h with
 |nil=>exact ⟨rfl,Og _,fun i o ho=>by simp at ho,fun i j ri rj _ h=>by simp at h,fun i r h=>by simp at h,rfl,rfl⟩
 | @cons o os σ σ' g g' k k1 k' val ups acc rs h hk hu hr ih=>
  obtain ⟨i1,i2,i3,i4,i5,i6,i7⟩:=ih
  have e1:∀i,bE n (upto (i+1)) (⟨o.dst,val,ups,acc,k⟩::rs) σ=bE n (upto i) rs (bD n o.dst val σ):=by
   intro i;funext t
   show db _ _ 1 rs _=_
   rw [ix]
   unfold bE
   congr 1
   ·funext j;simp [upto]
   ·rw [N8 (by simp [upto])];exact (kQ n t ⟨o.dst,val,ups,acc,k⟩ σ).symm
  have e2:∀i,bB (upto (i+1)) (⟨o.dst,val,ups,acc,k⟩::rs) g=bB (upto i) rs (aA g ups):=by
   intro i;funext id
   show db _ _ 1 rs _=_
   rw [ix]
   unfold bB
   congr 1
   ·funext j;simp [upto]
   ·rw [N8 (by simp [upto]),j9];rfl
  refine ⟨by simp [i1],OF hk i2,fun i o' ho=> ?_,fun i j ri rj aW hi hj id hid=> ?_,fun i r hr' id hid=> ?_, ?_, ?_⟩
  ·cases i with
   |zero=>
    simp only [OI,N6] at ho
    subst ho
    refine ⟨_,rfl,rfl, ?_,Og _⟩
    have s0:bE n (upto 0) (⟨o.dst,val,ups,acc,k⟩::rs) σ=σ:=by funext t;exact jD _ 0 _ fun j r _ hl=>by simp [upto] at hl
    have g0:bB (upto 0) (⟨o.dst,val,ups,acc,k⟩::rs) g=g:=by funext t;exact jD _ 0 _ fun j r _ hl=>by simp [upto] at hl
    rw [s0,g0]
    exact h
   |succ i=>
    obtain ⟨r,r1,r2,r3,r4⟩:=i3 i o' (by simpa using ho)
    exact ⟨r,by simpa using r1,r2,by rw [e1,e2];exact r3,OF hk r4⟩
  ·cases j with
   |zero=>omega
   |succ j=>
    simp only [OX] at hj
    cases i with
    |zero=>
     simp only [OI,N6] at hi
     subst hi
     have bj:j<os.length:=by rw [<-i1];exact (Oe.1 hj).1
     obtain ⟨r,r1,_,_,r4⟩:=i3 j _ (Oq bj)
     rw [hj] at r1
     simp only [N6] at r1
     subst r1
     exact Oz (hu id hid) r4
    |succ i=>exact i4 i j ri rj (by omega) (by simpa using hi) hj id hid
  ·cases i with
   |zero=>
    simp only [OI,N6] at hr'
    subst hr'
    exact Oz (hu id hid) i2
   |succ i=>exact i5 i r (by simpa using hr') id hid
  ·rw [i6]
   funext t
   unfold bE
   simp only [db]
   rw [ix,Oa,kQ n t ⟨o.dst,val,ups,acc,k⟩ σ]
  ·rw [i7]
   funext id
   unfold bB
   simp only [db]
   rw [ix,Oa,j9]
   rfl
def iQ (x y:az):Bool:=
 (match x.dst with|some d=> !y.iO.contains d&&y.dst !=some d|none=>true)&&(match y.dst with|some d=> !x.iO.contains d|none=>true)
def fp (x y:Rec):Bool:=(x.keys.all fun id=> !y.acc.contains id&& !y.keys.contains id)&&(y.keys.all fun id=> !x.acc.contains id)
def dm (o:Oper):List Nat:=o.after.toList.filterMap fun e=>if Region.binds .any e=true then some e.on else none
def iy (ops:List Oper) (dep:List (List Nat)):Bool:=
 dep.length==ops.length&&(List.range ops.length).all fun j=>((ops[j]?.map dm).getD []).all (· <j)&&
  ((dep[j]?).getD []).all fun i=>i<j&&(((ops[j]?.map dm).getD []).contains i||((ops[j]?.map dm).getD []).any fun e=>((dep[e]?).getD []).contains i)
def fq (os:List az) (dep:List (List Nat)):Bool:=
 (List.range os.length).all fun j=>(List.range j).all fun i=>((dep[j]?).getD []).contains i||(match os[i]?,os[j]? with|some x,some y=>iQ x y|_,_=>false)
def dX (rs:List Rec) (dep:List (List Nat)):Bool:=
 (List.range rs.length).all fun j=>(List.range j).all fun i=>((dep[j]?).getD []).contains i||(match rs[i]?,rs[j]? with|some x,some y=>fp x y|_,_=>false)
theorem wD:∀(N:Nat) (m:List Nat),m.Nodup->(∀j,j∈m->j<N)->m.length<=N
 |0,m,_,h=>by
  cases m with
  |nil=>simp
  |cons a l=>have:=h a (by simp);omega
 |N+1,m,hn,h=>by
  have ih:=wD N (m.erase N) (hn.erase N) fun j hj=>by
   have GF:=List.mem_of_mem_erase hj
   have:=h j GF
   have hne:j≠N:=fun e=>by
    subst e
    exact (List.Nodup.mem_erase_iff hn).1 hj|>.1 rfl
   omega
  rw [List.length_erase] at ih
  split at ih<;>omega
section
variable {P:Program} {E0:Env} {n:Nat} {ops:Array Oper} {J:Nat->Prop} {base:Nat} {w0:World} {Q:Exit->Act->World->Prop} {os:List az} {dep:List (List Nat)} {σ σ':Nat->AV} {g g':Nat->Option Bk} {k k':Nat} {rs:List Rec}
structure AA (E0:Env) (n:Nat) (ops:Array Oper) (J:Nat->Prop) (base:Nat) (w0:World) (σ:Nat->AV) (g:Nat->Option Bk) (k:Nat) (rs:List Rec) (listed:Array Bool) (a:Act) (w:World):Prop where
 ex:∃E:Env,E.w=w/\E0.Le E/\(∀t,aj E (a.tmps.getD t undef) (bE n (fun j=>listed.getD j false) rs σ t))/\aE E J base (bB (fun j=>listed.getD j false) rs g)/\
  (∀id,E.kn id->id<k\/∃j r,listed.getD j false=true/\rs[j]? =some r/\id∈r.keys)/\Mk E w0.heap.size a.defers
 size:a.tmps.size=n
 below:Below base w0 w
 gl:dW E0
 fI:listed.size=ops.size
 closed:∀(j:Nat) op,ops[j]? =some op->listed.getD j false=true->∀e,e∈dm op->listed.getD e false=true
theorem oJ {e:Nat}:e∈dm op↔∃x,x∈op.after/\Region.binds .any x=true/\x.on=e:=by
 unfold dm
 rw [List.mem_filterMap]
 constructor
 ·rintro ⟨x,hx,h⟩
  split at h
  ·rename_i hb;simp only [N6] at h;exact ⟨x,by simpa using hx,hb,h⟩
  ·simp at h
 ·rintro ⟨x,hx,hb,he⟩
  exact ⟨x,by simpa using hx,by simp [hb,he]⟩
theorem np (hd:iy ops.toList dep=true) {listed:Array Bool} (hc:∀(j:Nat) op,ops[j]? =some op->listed.getD j false=true->∀e,e∈dm op->listed.getD e false=true):
  ∀(j:Nat) op,ops[j]? =some op->(∀e,e∈dm op->listed.getD e false=true)->∀i,i∈(dep[j]?).getD []->listed.getD i false=true:=by
 intro j
 induction j using Nat.strongRecOn with
 |_ j ih=>
  intro op bV dv i hi
  have bj:j<ops.toList.length:=by simpa using (OJ.1 bV).1
  unfold iy at hd
  simp only [N9,Oc,OL,Pb,OA,PU,Pm] at hd
  have hj:=hd.2 j bj
  have nq:ops.toList[j]? =some op:=by simpa using bV
  simp only [nq,Oh,O8] at hj
  obtain ⟨h1,h2⟩:=hj.2 i hi
  rcases h2 with h2|⟨e,he,h2⟩
  ·exact dv i h2
  ·have GG:e<j:=hj.1 e he
   have fj:e<ops.size:=by simp at bj;omega
   exact ih e GG ops[e] (Oo fj) (hc e _ (Oo fj) (dv e he)) i h2
end
open Go.RowKit
def mf:az:=⟨none, .mov (.c (.v undef)),none⟩
def nt (k:Nat):Rec:=⟨none, .v undef,[],[],k⟩
def AB (dep:List (List Nat)) (b N:Nat):Bool:=
 ((List.range b).all fun i=>((dep[b]?).getD []).contains i)&&(List.range N).all fun j=>decide (j<=b)||((dep[j]?).getD []).contains b
section
variable {P:Program} {E0:Env} {n:Nat} {ops:Array Oper} {J:Nat->Prop} {base:Nat} {w0:World} {Q:Exit->Act->World->Prop} {os:List az} {dep:List (List Nat)} {σ σ':Nat->AV} {g g':Nat->Option Bk} {k k':Nat} {rs:List Rec}
theorem GH {rd:Option Nat} {i1:Nat} (cp:gX P n os σ g k rs σ' g' k') (hlen:os.length=i1) (Ny:i1<=ops.size) (dI:∀(j:Nat) op,i0<=j->j<i1->ops[j]? =some op->∃o,os[j]? =some o/\fo P ops op=some o)
  (hd:iy ops.toList dep=true) (cm:fq os dep=true) (hid:dX rs dep=true)
  (wE:∀listed:Array Bool,(∀(j:Nat) op,ops[j]? =some op->listed.getD j false=true->∀e,e∈dm op->listed.getD e false=true)->(∀j,listed.getD j false=true->j<i1)->(¬∀j,j<i1->listed.getD j false=true)->∀i op,ops[i]? =some op->(∀e,e∈dm op->listed.getD e false=true)->i<i1)
  (hK:∀fuel listed a w,eE E0 J base w0 n σ' g' k' a w->listed.size=ops.size->(∀j,listed.getD j false=decide (j<i1))->(∀m:List Nat,(∀j,j∈m->j<ops.size/\listed.getD j true=false)->m.Nodup->m.length<=fuel)->wpAnyIn (cx rd) 0 P .any ops Q fuel listed a w):
  ∀(fuel:Nat) (listed:Array Bool) (a:Act) (w:World),AA E0 n ops J base w0 σ g k rs listed a w->(∀j,j<i0->listed.getD j false=true)->(∀j,listed.getD j false=true->j<i1)->(∀m:List Nat,(∀j,j∈m->j<ops.size/\listed.getD j true=false)->m.Nodup->m.length<=fuel)->wpAnyIn (cx rd) 0 P .any ops Q fuel listed a w:=by
 obtain ⟨c1,c2,c3,c4,c5,c6,c7⟩:=wC cp
 have done:∀(fuel:Nat) (listed:Array Bool) (a:Act) (w:World),AA E0 n ops J base w0 σ g k rs listed a w->(∀j,listed.getD j false=true->j<i1)->(∀m:List Nat,(∀j,j∈m->j<ops.size/\listed.getD j true=false)->m.Nodup->m.length<=fuel)->(∀j,j<i1->listed.getD j false=true)->wpAnyIn (cx rd) 0 P .any ops Q fuel listed a w:=by
  intro fuel listed a w hI ek fu bI
  obtain ⟨E,rfl,hle,h1,h2,h3,hmk⟩:=hI.ex
  have e6:bE n (fun j=>listed.getD j false) rs σ=σ':=by
   rw [c6];funext t
   refine jC _ 0 _ fun j r hr hl=>absurd ?_ hl
   rw [On,bI j (by rw [<-hlen, <-c1];exact (Oe.1 hr).1)]
  have e7:bB (fun j=>listed.getD j false) rs g=g':=by
   rw [c7];funext t
   refine jC _ 0 _ fun j r hr hl=>absurd ?_ hl
   rw [On,bI j (by rw [<-hlen, <-c1];exact (Oe.1 hr).1)]
  rw [e6] at h1;rw [e7] at h2
  refine hK fuel listed a E.w ⟨⟨E,rfl,hle,h1,h2,fun id hh=> ?_,hmk⟩,hI.size,hI.below,hI.gl⟩ hI.fI (fun j=> ?_) fu
  ·rcases h3 id hh with h|⟨j,r,_,hr,hk⟩
   ·exact Oz h c2
   ·exact c5 j r hr id hk
  ·by_cases hj:j<i1
   ·rw [bI j hj];simp [hj]
   ·cases hl:listed.getD j false with
    |true=>exact absurd (ek j hl) hj
    |false=>simp [hj]
 have first:∀(listed:Array Bool),listed.size=ops.size->(∀(j:Nat) op,ops[j]? =some op->listed.getD j false=true->∀e,e∈dm op->listed.getD e false=true)->(¬∀j,j<i1->listed.getD j false=true)->Region.ready .any ops listed≠[]:=by
  intro listed cU bY bI hr
  refine bI fun j=> ?_
  induction j using Nat.strongRecOn with
  |_ j ih=>
   intro hj
   cases hl:listed.getD j false with
   |true=>rfl
   |false=>
    exfalso
    have hjs:j<listed.size:=by rw [cU];omega
    have iS:j<ops.size:=by omega
    have:j∈Region.ready .any ops listed:=by
     rw [mem_ready]
     refine ⟨by simp [hjs] at hl ⊢; exact hl,ops[j],Oo iS,fun e he hb=> ?_⟩
     have cJ:=hd
     unfold iy at cJ
     simp only [N9,Oc,OL,Pb] at cJ
     have iT:=(cJ.2 j (by simpa using iS)).1
     have nq:ops.toList[j]? =some ops[j]:=by simp [iS]
     simp only [nq,Oh,O8] at iT
     have hlt:=iT e.on (oJ.2 ⟨e,he,hb,rfl⟩)
     exact ih e.on hlt (by omega)
    rw [hr] at this
    simp at this
 intro fuel
 induction fuel with
 |zero=>
  intro listed a w hI gx ek fu
  by_cases bI:∀j,j<i1->listed.getD j false=true
  ·exact done 0 listed a w hI ek fu bI
  ·exfalso
   cases hr:Region.ready .any ops listed with
   |nil=>exact first listed hI.fI hI.closed bI hr
   |cons x xs=>
    have hx:x∈Region.ready .any ops listed:=by rw [hr];simp
    obtain ⟨m1,o,m2,_⟩:=mem_ready.1 hx
    have:=fu [x] (fun j hj=>by simp at hj;subst hj;exact ⟨(OJ.1 m2).1,m1⟩) (by simp)
    simp at this
 |succ fuel ih=>
  intro listed a w hI gx ek fu
  by_cases bI:∀j,j<i1->listed.getD j false=true
  ·exact done _ listed a w hI ek fu bI
  refine ⟨fun hr=>absurd hr (first listed hI.fI hI.closed bI),fun i hi=> ?_⟩
  obtain ⟨m1,op,m2,m3⟩:=mem_ready.1 hi
  have cw:i<ops.size:=(OJ.1 m2).1
  have cK:listed.getD i false=false:=by
   have:i<listed.size:=by rw [hI.fI];exact cw
   simp [this] at m1 ⊢; exact m1
  have dv:∀e,e∈dm op->listed.getD e false=true:=fun e he=>by
   obtain ⟨x,hx,hb,rfl⟩:=oJ.1 he
   exact m3 x hx hb
  have gS:i<i1:=wE listed hI.closed ek bI i op m2 dv
  have GI:i0<=i:=by
   rcases OT i i0 with h|h
   ·have:=gx i h;rw [cK] at this;simp at this
   ·exact h
  obtain ⟨o,ho,iU⟩:=dI i op GI gS m2
  obtain ⟨r,cr,b7,hrun,ep⟩:=c3 i o ho
  obtain ⟨E,rfl,hle,h1,h2,h3,hmk⟩:=hI.ex
  -- GJ is listed out of turn is free of this one
  have free:∀j rj oj,j≠i->rs[j]? =some rj->os[j]? =some oj->listed.getD j false≠upto i j->(iQ (if i<j then o else oj) (if i<j then oj else o)=true/\fp (if i<j then r else rj) (if i<j then rj else r)=true):=by
   intro j rj oj hne aO bo hl
   have bj:j<os.length:=(Oe.1 bo).1
   unfold fq at cm
   unfold dX at hid
   simp only [Oc,OL,OA,Pm] at cm hid
   by_cases aW:i<j
   ·rw [N8 aW,N8 aW,N8 aW,N8 aW]
    have aQ:listed.getD j false=true:=by
     have hu:upto i j=false:=by simp [upto];omega
     rw [hu] at hl
     simpa using hl
    have cG:i∉(dep[j]?).getD []:=by
     intro cS
     have iS:j<ops.size:=by omega
     have:=np hd hI.closed j ops[j] (Oo iS) (hI.closed j _ (Oo iS) aQ) i cS
     rw [cK] at this;simp at this
    have s1:=(cm j bj i aW).resolve_left cG
    have s2:=(hid j (by rw [c1];exact bj) i aW).resolve_left cG
    rw [ho,bo] at s1;rw [cr,aO] at s2
    exact ⟨s1,s2⟩
   ·rw [N7 aW,N7 aW,N7 aW,N7 aW]
    have bC:j<i:=by omega
    have aQ:listed.getD j false=false:=by
     have hu:upto i j=true:=by simp [upto];omega
     rw [hu] at hl
     simpa using hl
    have cG:j∉(dep[i]?).getD []:=by
     intro cS
     have:=np hd hI.closed i op m2 dv j cS
     rw [aQ] at this;simp at this
    have s1:=(cm i (by omega) j bC).resolve_left cG
    have s2:=(hid i (by omega) j bC).resolve_left cG
    rw [ho,bo] at s1;rw [cr,aO] at s2
    exact ⟨s1,s2⟩
  have gy:∀(j:Nat) rj,rs[j]? =some rj->∃oj,os[j]? =some oj/\rj.dst=oj.dst:=fun j rj aO=>by
   have bj:j<os.length:=by rw [<-c1];exact (Oe.1 aO).1
   obtain ⟨r',q1,q2,_,_⟩:=c3 j _ (Oq bj)
   rw [aO] at q1;simp only [N6] at q1;subst q1
   exact ⟨_,Oq bj,q2⟩
  -- a slot qt it looks at is as it comes one behind jA other
  have hσ:∀t,t∈o.iO->bE n (fun j=>listed.getD j false) rs σ t=bE n (upto i) rs σ t:=by
   intro t ht
   refine jC _ 0 _ fun j rj aO hl=> ?_
   rw [On] at hl
   by_cases hne:j=i
   ·subst hne;rw [cK] at hl;simp [upto] at hl
   ·obtain ⟨oj,bo,cJ⟩:=gy j rj aO
    have hf:=(free j rj oj hne aO bo hl).1
    unfold iP
    rw [N7]
    rintro ⟨dg,_⟩
    rw [cJ] at dg
    unfold iQ at hf
    by_cases aW:i<j
    ·simp only [N8 aW,dg,N9,Ov,OP,OQ] at hf
     exact hf.2 ht
    ·simp only [N7 aW,dg,N9,Ov,OP,OQ] at hf
     exact hf.1.1 ht
  have hg:∀id,id∈r.acc->bB (fun j=>listed.getD j false) rs g id=bB (upto i) rs g id:=by
   intro id qu
   refine jC _ 0 _ fun j rj aO hl=> ?_
   rw [On] at hl
   by_cases hne:j=i
   ·subst hne;rw [cK] at hl;simp [upto] at hl
   ·obtain ⟨oj,bo,cJ⟩:=gy j rj aO
    have hf:=(free j rj oj hne aO bo hl).2
    cases hw:wg id rj with
    |none=>rfl
    |some y=>
     exfalso
     have hk:id∈rj.keys:=kP (by unfold wg at hw;rw [hw];simp)
     unfold fp at hf
     by_cases aW:i<j
     ·simp only [N8 aW,N9,Oc,Ov,OP,OQ] at hf
      exact hf.2 id hk qu
     ·simp only [N7 aW,N9,Oc,Ov,OP,OQ] at hf
      exact (hf.1 id hk).1 qu
  -- a name qt GK has
  have qe:∃gw,¬E.kn gw/\(r.fr∈r.ups.map Prod.fst->gw=r.fr):=by
   by_cases gS:r.fr∈r.ups.map Prod.fst
   ·refine ⟨r.fr,fun hk=> ?_,fun _=>rfl⟩
    rcases h3 _ hk with h|⟨j,rj,aQ,aO,cH⟩
    ·omega
    ·by_cases hne:j=i
     ·subst hne;rw [cK] at aQ;simp at aQ
     ·by_cases aW:i<j
      ·obtain ⟨oj,bo,_⟩:=gy j rj aO
       have hf:=(free j rj oj hne aO bo (by rw [aQ];simp [upto];omega)).2
       unfold fp at hf
       simp only [N8 aW,N9,Oc,Ov,OP,OQ] at hf
       exact (hf.1 _ gS).2 cH
      ·have:=c4 j i rj r (by omega) aO cr _ cH
       exact Pl _ this
   ·refine ⟨k',fun hk=> ?_,fun h=>absurd h gS⟩
    rcases h3 _ hk with h|⟨j,rj,aQ,aO,cH⟩
    ·omega
    ·exact Pl _ (c5 j rj aO _ cH)
  obtain ⟨gw,wF,wG⟩:=qe
  obtain ⟨wB,wH⟩:=hrun.local hσ hg wG
  refine wA (hI.gl.step hle) h1 h2 wF m2 iU wH fun v E' hE hv hM hB aX=> ?_
  -- it is listed now
  have cV:∀j,(listed.setIfInBounds i true).getD j false=if j=0+i then true else listed.getD j false:=by
   intro j
   rw [On]
   have gY:i<listed.size:=by rw [hI.fI];exact cw
   by_cases bC:j=i
   ·subst bC;simp [gY]
   ·rw [N7 bC,getD_set_ne false (Ne.symm bC)]
  have nu:∀t,bE n (fun j=>(listed.setIfInBounds i true).getD j false) rs σ t=bD n o.dst r.val (bE n (fun j=>listed.getD j false) rs σ) t:=by
   intro t
   rw [<-b7,kQ]
   refine nj rs 0 i _ r cr (by rw [On];exact cK) cV fun j rj aW aO aQ=> ?_
   rw [On] at aQ
   obtain ⟨oj,bo,cJ⟩:=gy j rj aO
   have hf:=(free j rj oj (by omega) aO bo (by rw [aQ];simp [upto];omega)).1
   unfold iQ at hf
   simp only [N8 aW] at hf
   by_cases iv:r.dst=some t
   ·left
    unfold iP
    rw [N7]
    rintro ⟨dg,_⟩
    rw [b7] at iv
    rw [cJ] at dg
    simp only [iv,dg,N9,bne_iff_ne,ne_eq] at hf
    exact hf.1.2 trivial
   ·right
    unfold iP
    rw [N7]
    rintro ⟨dg,_⟩
    exact iv dg
  have ng:∀id,bB (fun j=>(listed.setIfInBounds i true).getD j false) rs g id=aA (bB (fun j=>listed.getD j false) rs g) r.ups id:=by
   intro id
   rw [j9]
   refine nj rs 0 i _ r cr (by rw [On];exact cK) cV fun j rj aW aO aQ=> ?_
   rw [On] at aQ
   obtain ⟨oj,bo,cJ⟩:=gy j rj aO
   have hf:=(free j rj oj (by omega) aO bo (by rw [aQ];simp [upto];omega)).2
   unfold fp at hf
   simp only [N8 aW,N9,Oc,Ov,OP,OQ] at hf
   cases hw:wg id r with
   |none=>exact .inr rfl
   |some y=>
    left
    cases hw2:wg id rj with
    |none=>rfl
    |some y2=>
     exfalso
     have k1:id∈r.keys:=kP (by unfold wg at hw;rw [hw];simp)
     have k2:id∈rj.keys:=kP (by unfold wg at hw2;rw [hw2];simp)
     exact (hf.1 id k1).2 k2
  refine ih _ _ _ ⟨⟨E',rfl,hle.trans hE,fun t=> ?_, ?_,fun id hh=> ?_, ?_⟩, ?_,hI.below.trans hB,hI.gl,by simpa using hI.fI,fun j oj bo aQ e he=> ?_⟩ (fun j hj=>getD_set_true (gx j hj)) (fun j hj=> ?_) fun m hm cG=> ?_
  ·rw [nu t]
   have:=oH hE h1 hv o.dst t
   rw [hI.size] at this
   exact this
  ·rw [show bB (fun j=>(listed.setIfInBounds i true).getD j false) rs g=aA (bB (fun j=>listed.getD j false) rs g) r.ups from funext ng]
   exact hM
  ·rcases aX id hh with h|h
   ·rcases h3 id h with h|⟨j,rj,q1,q2,q3⟩
    ·exact .inl h
    ·exact .inr ⟨j,rj,getD_set_true q1,q2,q3⟩
   ·refine .inr ⟨i,r, ?_,cr,h⟩
    rw [cV i,On,N8 rfl]
  ·rw [(gW a o.dst v).2];exact hmk.step hE
  ·rw [(gW a o.dst v).1];exact hI.size
  ·rw [cV j,On] at aQ
   by_cases bC:j=i
   ·subst bC
    rw [m2] at bo;simp only [N6] at bo;subst bo
    exact getD_set_true (dv e he)
   ·rw [N7 bC] at aQ
    exact getD_set_true (hI.closed j oj bo aQ e he)
  ·rw [cV j,On] at hj
   by_cases bC:j=i
   ·rw [bC];exact gS
   ·rw [N7 bC] at hj;exact ek j hj
  ·have mg:i∉m:=fun cS=>by
    have:=(hm i cS).2
    have gY:i<listed.size:=by rw [hI.fI];exact cw
    simp [gY] at this
   have:=fu (i::m) (fun j hj=>by
    rcases Oj.1 hj with rfl|hj
    ·exact ⟨cw,m1⟩
    ·refine ⟨(hm j hj).1, ?_⟩
     have h5:=(hm j hj).2
     have bC:i≠j:=fun e=>mg (e▸hj)
     rwa [getD_set_ne true bC] at h5) (List.nodup_cons.2 ⟨mg,cG⟩)
   simpa using this
inductive kR (P:Program) (n:Nat) (dep:List (List Nat)):List az->(Nat->AV)->(Nat->Option Bk)->Nat->List Rec->(Nat->AV)->(Nat->Option Bk)->Nat->Prop
 |nil {σ:Nat->AV} {g:Nat->Option Bk} {k:Nat} {rs:List Rec} (hid:dX rs dep=true):kR P n dep [] σ g k rs σ g k
 |cons {o:az} {os:List az} {σ σ':Nat->AV} {g g':Nat->Option Bk} {k k1 k':Nat} {val:AV} {ups:List (Nat×Option Bk)} {acc:List Nat} {rs:List Rec} (h:dk P σ g k o val ups acc) (hk:k<=k1) (hu:∀id,id∈ups.map Prod.fst->id<k1)
   (hr:kR P n dep os (bD n o.dst val σ) (aA g ups) k1 (rs++[⟨o.dst,val,ups,acc,k⟩]) σ' g' k'):kR P n dep (o::os) σ g k rs σ' g' k'
 |GL {o:az} {os:List az} {σ σ':Nat->AV} {g g1 g':Nat->Option Bk} {k k1 k':Nat} {f:FuncId} {as_:List AV} {r:AV} {rs:List Rec} (hid:dX rs dep=true) (hb:AB dep rs.length (rs.length+1+os.length)=true) (hg:bO σ o.guard=some true)
   (h:(o.ao.au k (aG σ)).run g=some (.call f as_)) (hc:bH P f=true) (hf:Fi P f as_ g k r g1 k1) (hr:kR P n dep os (bD n o.dst r σ) g1 k1 (List.replicate (rs.length+1) (nt k1)) σ' g' k'):kR P n dep (o::os) σ g k rs σ' g' k'
theorem GM:dk P σ g k mf (.v undef) [] []:= .done (val:= .v undef) (ups:=[]) rfl rfl
theorem gX.AD:∀i,gX P n (List.replicate i mf) σ g k (List.replicate i (nt k)) σ g k
 |0=> .nil
 |i+1=>by
  rw [List.replicate_succ,List.replicate_succ]
  exact .cons (o:=mf) (k1:=k) GM (Og _) (by simp) (gX.AD i)
theorem gX.snoc {k1:Nat} (h0:gX P n os σ g k rs σ' g' k') (h:dk P σ' g' k' o val ups acc) (hk:k'<=k1) (hu:∀id,id∈ups.map Prod.fst->id<k1):gX P n (os++[o]) σ g k (rs++[⟨o.dst,val,ups,acc,k'⟩]) (bD n o.dst val σ') (aA g' ups) k1:=by
 induction h0 with
 |nil=>exact .cons h hk hu .nil
 |cons h1 h2 h3 h4 ih=>exact .cons h1 h2 h3 (ih h hk)
theorem GN {pre:List az} (h:fq full dep=true) (hl:pre.length<=full.length) (h1:∀j,i0<=j->j<pre.length->pre[j]? =full[j]?) (h2:∀j,j<i0->j<pre.length->pre[j]? =some mf):fq pre dep=true:=by
 unfold fq at h ⊢
 simp only [Oc,OL,OA] at h ⊢
 intro j hj i hi
 rcases h j (by omega) i hi with h|h
 ·exact .inl h
 ·right
  by_cases nv:i0<=i
  ·rw [h1 i nv (by omega),h1 j (by omega) hj];exact h
  ·rw [h2 i (by omega) (by omega)]
   cases hp:pre[j]? with
   |none=>simp [List.getElem?_eq_none_iff] at hp;omega
   |some y=>
    simp only [iQ,mf,az.iO,AO.qq,Arg.slot,Bool.true_and]
    split<;>simp
theorem GO {rd:Option Nat} (jE:full.length=ops.size) (dI:∀(j:Nat) op,ops[j]? =some op->∃o,full[j]? =some o/\fo P ops op=some o) (hd:iy ops.toList dep=true) (cm:fq full dep=true)
  (hQ:∀a w,eE E0 J base w0 n σ' g' k' a w->Q .normal a w) (h:kR P n dep os σ g k rs σ' g' k'):
  ∀(i0:Nat) (pre:List az) (b8:Nat->AV) (g0:Nat->Option Bk) (kk:Nat),gX P n pre b8 g0 kk rs σ g k->i0<=pre.length->pre.length+os.length=full.length->(∀j,i0<=j->(pre++os)[j]? =full[j]?)->(∀j,j<i0->pre[j]? =some mf/\∃q,rs[j]? =some (nt q))->
   ∀(fuel:Nat) (listed:Array Bool) (a:Act) (w:World),eE E0 J base w0 n b8 g0 kk a w->listed.size=ops.size->(∀j,listed.getD j false=decide (j<i0))->(∀m:List Nat,(∀j,j∈m->j<ops.size/\listed.getD j true=false)->m.Nodup->m.length<=fuel)->wpAnyIn (cx rd) 0 P .any ops Q fuel listed a w:=by
 have wI:∀(j:Nat) op,ops[j]? =some op->∀e,e∈dm op->e<j:=by
  intro j op bV e he
  have iS:j<ops.size:=(OJ.1 bV).1
  have cJ:=hd
  unfold iy at cJ
  simp only [N9,Oc,OL,Pb] at cJ
  have iT:=(cJ.2 j (by simpa using iS)).1
  have nq:ops.toList[j]? =some op:=by simpa using bV
  simp only [nq,Oh,O8] at iT
  exact iT e he
 -- a phase, given Nz comes behind it
 have phase:∀{os:List az} {σ:Nat->AV} {g:Nat->Option Bk} {k:Nat} {rs:List Rec} (i0:Nat) (pre:List az) (b8:Nat->AV) (g0:Nat->Option Bk) (kk:Nat),gX P n pre b8 g0 kk rs σ g k->i0<=pre.length->pre.length+os.length=full.length->(∀j,i0<=j->(pre++os)[j]? =full[j]?)->(∀j,j<i0->pre[j]? =some mf/\∃q,rs[j]? =some (nt q))->dX rs dep=true->
   (∀listed:Array Bool,(∀(j:Nat) op,ops[j]? =some op->listed.getD j false=true->∀e,e∈dm op->listed.getD e false=true)->(∀j,listed.getD j false=true->j<pre.length)->(¬∀j,j<pre.length->listed.getD j false=true)->∀i op,ops[i]? =some op->(∀e,e∈dm op->listed.getD e false=true)->i<pre.length)->
   (∀fuel listed a w,eE E0 J base w0 n σ g k a w->listed.size=ops.size->(∀j,listed.getD j false=decide (j<pre.length))->(∀m:List Nat,(∀j,j∈m->j<ops.size/\listed.getD j true=false)->m.Nodup->m.length<=fuel)->wpAnyIn (cx rd) 0 P .any ops Q fuel listed a w)->
   ∀(fuel:Nat) (listed:Array Bool) (a:Act) (w:World),eE E0 J base w0 n b8 g0 kk a w->listed.size=ops.size->(∀j,listed.getD j false=decide (j<i0))->(∀m:List Nat,(∀j,j∈m->j<ops.size/\listed.getD j true=false)->m.Nodup->m.length<=fuel)->wpAnyIn (cx rd) 0 P .any ops Q fuel listed a w:=by
  intro os σ g k rs i0 pre b8 g0 kk cp nv bh jF mh hid wE hK fuel listed a w hrel cU cV fu
  have AE:∀j,i0<=j->j<pre.length->pre[j]? =full[j]? :=fun j h1 h2=>by
   have:=jF j h1
   rwa [O4 h2] at this
  refine GH (i0:=i0) cp rfl (by omega) (fun j op h1 h2 bV=> ?_) hd (GN cm (by omega) AE fun j h1 _=>(mh j h1).1) hid wE hK fuel listed a w ?_ (fun j hj=>by rw [cV];simpa using hj) (fun j hj=>by rw [cV] at hj;simp at hj;omega) fu
  ·rw [AE j h1 h2];exact dI j op bV
  ·obtain ⟨E,rfl,hle,h1,h2,h3,hmk⟩:=hrel.ex
   have z:∀{β:Type} (wt:Rec->Option β) (x:β),(∀q,wt (nt q)=none)->db (fun j=>listed.getD j false) wt 0 rs x=x:=by
    intro β wt x hw
    refine jD rs 0 x fun j r hr hl=> ?_
    rw [On,cV] at hl
    obtain ⟨q,hq⟩:=(mh j (by simpa using hl)).2
    rw [hq] at hr;simp only [N6] at hr;subst hr
    exact hw q
   have e1:bE n (fun j=>listed.getD j false) rs b8=b8:=by funext t;exact z _ _ fun q=>by simp [iP,nt]
   have e2:bB (fun j=>listed.getD j false) rs g0=g0:=by funext t;exact z _ _ fun q=>by simp [wg,nt,kv]
   refine ⟨⟨E,rfl,hle, ?_, ?_,fun id hh=> .inl (h3 id hh),hmk⟩,hrel.size,hrel.below,hrel.gl,cU,fun j op bV hl e he=> ?_⟩
   ·rw [e1];exact h1
   ·rw [e2];exact h2
   ·rw [cV] at hl ⊢
    have:=wI j op bV e he
    simp at hl ⊢; omega
 induction h with
 | @nil σ g k rs hid=>
  intro i0 pre b8 g0 kk cp nv bh jF mh
  have sE:pre.length=ops.size:=by simp at bh;omega
  refine phase i0 pre b8 g0 kk cp nv bh jF mh hid (fun listed _ _ _ i op bV _=> ?_) fun fuel listed a w hrel cU cV fu=> ?_
  ·rw [sE];exact (OJ.1 bV).1
  ·have hr:Region.ready .any ops listed=[]:=by
    cases hr:Region.ready .any ops listed with
    |nil=>rfl
    |cons x xs=>
     have hx:x∈Region.ready .any ops listed:=by rw [hr];simp
     obtain ⟨m1,o,m2,_⟩:=mem_ready.1 hx
     have AF:x<ops.size:=(OJ.1 m2).1
     have GP:x<listed.size:=by rw [cU];exact AF
     have h5:=cV x
     rw [sE] at h5
     simp [GP,AF] at h5 m1
     rw [h5] at m1;simp at m1
   cases fuel with
   |zero=>exact ⟨hr,hQ a w hrel⟩
   |succ fuel=>exact ⟨fun _=>hQ a w hrel,fun i hi=>by rw [hr] at hi;simp at hi⟩
 | @cons o os σ σ' g g' k k1 k' val ups acc rs h hk hu hr ih=>
  intro i0 pre b8 g0 kk cp nv bh jF mh
  obtain ⟨c1,_⟩:=wC cp
  refine ih hQ i0 (pre++[o]) b8 g0 kk (cp.snoc h hk hu) (by simp;omega) (by simp at bh ⊢; omega) (fun j hj=>by rw [Po];exact jF j hj) fun j hj=> ?_
  obtain ⟨d1,q,d2⟩:=mh j hj
  exact ⟨by rw [O4 (by omega)];exact d1,q,by rw [O4 (by omega)];exact d2⟩
 | @GL o os σ σ' g g1 g' k k1 k' f as_ r rs hid hb hg h bY hf hr ih=>
  intro i0 pre b8 g0 kk cp nv bh jF mh
  obtain ⟨c1,_⟩:=wC cp
  obtain ⟨b,gz⟩:∃b,pre.length=b:=⟨_,rfl⟩
  rw [c1,gz] at hb
  have bk:b<ops.size:=by simp at bh;omega
  have GQ:full[b]? =some o:=by
   have:=jF b (by omega)
   rw [<-this,Ph (by omega),gz,Nat.sub_self];rfl
  unfold AB at hb
  simp only [N9,Oc,OL,OA,Pb,Pm] at hb
  have AG:∀listed:Array Bool,(∀(j:Nat) op,ops[j]? =some op->listed.getD j false=true->∀e,e∈dm op->listed.getD e false=true)->(∀j,listed.getD j false=true->j<b)->∀i op,ops[i]? =some op->(∀e,e∈dm op->listed.getD e false=true)->i<=b:=by
   intro listed bY ek i op bV dv
   rcases OT b i with hlt|GR
   ·exfalso
    have hi:i<ops.size:=(OJ.1 bV).1
    have hm:=(hb.2 i (by simp at bh;omega)).resolve_left (by omega)
    exact Pl _ (ek b (np hd bY i op bV dv b hm))
   ·exact GR
  refine phase i0 pre b8 g0 kk cp nv bh jF mh hid (fun listed bY ek bI i op bV dv=> ?_) fun fuel listed a w hrel cU cV fu=> ?_
  ·rw [gz] at ek bI ⊢
   have h1:=AG listed bY ek i op bV dv
   rcases OT i b with h2|h2
   ·exact h2
   ·exfalso
    have e:i=b:=by omega
    subst e
    exact bI fun j hj=>np hd bY i op bV dv j (hb.1 j hj)
  ·rw [gz] at cV
   have wJ:b<listed.size:=by rw [cU];exact bk
   have hcd:∀(j:Nat) op,ops[j]? =some op->listed.getD j false=true->∀e,e∈dm op->listed.getD e false=true:=fun j op bV hl e he=>by
    rw [cV] at hl ⊢
    have:=wI j op bV e he
    simp at hl ⊢; omega
   have AH:listed.getD b true=false:=by
    have:=cV b
    simp [wJ] at this ⊢; exact this
   cases fuel with
   |zero=>
    have:=fu [b] (fun j hj=>by simp at hj;subst hj;exact ⟨bk,AH⟩) (by simp)
    simp at this
   |succ fuel=>
    refine ⟨fun hr=> ?_,fun i hi=> ?_⟩
    ·have:b∈Region.ready .any ops listed:=by
      rw [mem_ready]
      refine ⟨AH,ops[b],Oo bk,fun e he hb=> ?_⟩
      have:=wI b _ (Oo bk) e.on (oJ.2 ⟨e,he,hb,rfl⟩)
      rw [cV];simpa using this
     rw [hr] at this;simp at this
    ·obtain ⟨m1,op,m2,m3⟩:=mem_ready.1 hi
     have cw:i<ops.size:=(OJ.1 m2).1
     have dv:∀e,e∈dm op->listed.getD e false=true:=fun e he=>by
      obtain ⟨x,hx,hb,rfl⟩:=oJ.1 he
      exact m3 x hx hb
     have GS:i=b:=by
      have h1:=AG listed hcd (fun j hj=>by rw [cV] at hj;simpa using hj) i op m2 dv
      rcases OT i b with h2|h2
      ·exfalso
       have GU:i<listed.size:=by rw [cU];exact cw
       have h5:=cV i
       simp [GU,h2] at h5 m1
       rw [h5] at m1;simp at m1
      ·omega
     subst GS
     obtain ⟨o',im,h3⟩:=dI i op m2
     rw [GQ] at im;simp only [N6] at im;subst im
     obtain ⟨E,rfl,hle,hs,hm,aX,hmk⟩:=hrel.ex
     have hdd:=qn h3
     have da:∀e,op.semAt (cx rd).round e=execOp e op:=fun e=>P0 (cx rd) _ _ (oG hdd.2)
     unfold wpOpIn
     simp only [m2]
     rw [kO hs h3 hg,N8 rfl]
     obtain ⟨vs,e1,e2⟩:=qg (dx.of (hrel.gl.step hle) hs) hdd.2 h bY
     unfold Oper.wpIn
     rw [da,e1,Oper.uponIn_enter]
     refine ⟨j7,nh,oF ((hf E J base vs (hrel.gl.step hle) hm aX e2).mono ?_)⟩
     rintro e w' ⟨v,E',rfl,rfl,q1,q2,q3,q4,q5⟩
     refine ih hQ (i+1) (List.replicate (i+1) mf) _ _ _ (by rw [c1,gz];exact gX.AD (i+1)) (by simp) (by simp at bh ⊢; omega) (fun j hj=> ?_) (fun j hj=>⟨by simp [hj],k1,by rw [c1,gz];simp [hj]⟩) fuel _ _ _ ⟨⟨E',rfl,hle.trans q1, ?_,q3,q5, ?_⟩, ?_, ?_,hrel.gl⟩ (by simpa using cU) (fun j=> ?_) fun m gp cG=> ?_
     ·have h7:=jF j (by omega)
      rw [<-h7,Ph (by simp;omega),Ph (by omega),gz]
      simp only [P3]
      rw [show j - i=(j - (i+1))+1 by omega,OX]
     ·have:=oH q1 hs q2 op.dst
      rw [hrel.size] at this
      rw [hdd.1]
      exact this
     ·rw [(gW a op.dst v).2];exact hmk.step q1
     ·rw [(gW a op.dst v).1];exact hrel.size
     ·exact hrel.below.trans q4
     ·by_cases bC:j=i
      ·subst bC;simp [wJ]
      ·rw [getD_set_ne false (Ne.symm bC),cV j,decide_eq_decide];omega
     ·have mg:i∉m:=fun cS=>by
       have:=(gp i cS).2
       simp [wJ] at this
      have:=fu (i::m) (fun j hj=>by
       rcases Oj.1 hj with rfl|hj
       ·exact ⟨cw,m1⟩
       ·refine ⟨(gp j hj).1, ?_⟩
        have h5:=(gp j hj).2
        have bC:i≠j:=fun e=>mg (e▸hj)
        rwa [getD_set_ne true bC] at h5) (List.nodup_cons.2 ⟨mg,cG⟩)
      simpa using this
theorem GV {id:Nat} (wK:P.follows .mixedOrders=true) (h:kR P n dep os σ g k [] σ' g' k') (hlen:os.length=ops.size) (dI:∀(j:Nat) op,ops[j]? =some op->∃o,os[j]? =some o/\fo P ops op=some o)
  (hd:iy ops.toList dep=true) (cm:fq os dep=true) (hQ:∀a w,eE E0 J base w0 n σ' g' k' a w->Q .normal a w) {a:Act} (hrel:eE E0 J base w0 n σ g k a w) {rd:Option Nat}:(Code.region id ops true).wpIn (cx rd) 0 P Q a w:=by
 refine wpIn_region_any wK ?_
 obtain ⟨E,rfl,hle,h1,h2,h3,hmk⟩:=hrel.ex
 obtain ⟨E',hw,hE,hM,_,hk,_,_⟩:=h2.drew
 have cv:∀(j:Nat),(Array.replicate ops.size false).getD j false=false:=by
  intro j
  rcases OT j ops.size with h|h
  ·simp [h]
  ·simp [h]
 refine GO hlen dI hd cm hQ h 0 [] σ g k .nil (by simp) (by simp) (fun j _=>by simp) (fun j hj=>by omega) ops.size _ a _ ⟨⟨E',hw,hle.trans hE,fun t=>(h1 t).step hE,hM,fun id hh=>h3 id ((hk id).1 hh),hmk.step hE⟩,hrel.size,hrel.below.drew,hrel.gl⟩ (by simp) (fun j=>by rw [cv];simp) fun m hm cG=> ?_
 exact wD _ _ cG fun j hj=>(hm j hj).1
end
open Go.RowKit
inductive AC where
 |skip
 |bG (os:List az) (dep:Option (List (List Nat)))
 |seq (a b:AC)
 |cond (c:Arg) (a b:AC)
 |block (id:Nat) (a:AC)
 |loop (a:AC)
 |exit (id:Nat)
 |ret
 |gB (g:Arg) (ps:List Nat) (a b:AC)
variable {ac y:AC}
def AC.gZ:AC->Bool
 | .seq a b| .cond _ a b=>a.gZ||b.gZ
 | .block _ a| .loop a=>a.gZ
 | .gB _ _ _ _=>true
 |_=>false
def oK (P:Program) (ops:Array Oper):List Oper->Option (List az)
 |[]=>some []
 |o::r=>match fo P ops o,oK P ops r with
  |some x,some l=>some (x::l)
  |_,_=>none
def wL (ops:List Oper):List (List Nat):=
 ops.foldl (fun acc o=>acc++[(dm o++(dm o).flatMap fun e=>(acc[e]?).getD []).eraseDups]) []
def cCode (P:Program):Code->Option AC
 | .skip=>some .skip
 | .region _ ops draw=>match oK P ops ops.toList with
  |some os=>if draw=true then
    (if iy ops.toList (wL ops.toList)=true/\fq os (wL ops.toList)=true/\P.follows .mixedOrders=true then some (.bG os (some (wL ops.toList))) else none)
   else some (.bG os none)
  |none=>none
 | .seq a b=>match cCode P a,cCode P b with
  |some x,some y=>some (.seq x y)
  |_,_=>none
 | .cond c a b=>match cArg c,cCode P a,cCode P b with
  |some c,some x,some y=>some (.cond c x y)
  |_,_,_=>none
 | .block id a=>(cCode P a).map (.block id)
 | .loop a=>(cCode P a).map .loop
 | .exit id=>some (.exit id)
 | .ret=>some .ret
 | .rangeFunc g ps a b=>match cArg g,cCode P a,cCode P b with
  |some g,some x,some y=>some (.gB g ps.toList x y)
  |_,_,_=>none
 |_=>none
structure S3 where
 σ:Nat->AV
 g:Nat->Option Bk
 k:Nat
variable {s':S3}
inductive Ex where
 |normal
 |exit (id:Nat)
 |ret
def Ex.up:Ex->Exit
 | .normal=> .normal
 | .exit id=> .exit id
 | .ret=> .ret
def EW (P:Program) (n k0:Nat) (ac:AC) (s:S3) (Q:Ex->S3->Prop):Prop:=
 ∀(rd:Option Nat) (c:Code) (E0:Env) (J:Nat->Prop) (base:Nat) (w0:World) (a:Act) (w:World),(ac.gZ=true->rd=none)->cCode P c=some ac->(∀id,E0.kn id->id<k0)->eE E0 J base w0 n s.σ s.g s.k a w->
  c.wpIn (cx rd) 0 P (fun e a' w'=>∃x s',Q x s'/\e=x.up/\eE E0 J base w0 n s'.σ s'.g s'.k a' w') a w
section
variable {P:Program} {n k0:Nat} {s:S3} {Q:Ex->S3->Prop}
theorem EW.cL {Q':Ex->S3->Prop} (h:EW P n k0 ac s Q) (hq:∀x s,Q x s->Q' x s):EW P n k0 ac s Q':=by
 intro rd c E0 J base w0 a w b7 hc hk hr
 exact wpIn_mono (h rd c E0 J base w0 a w b7 hc hk hr) fun e a' w' ⟨x,s',h1,h2,h3⟩=>⟨x,s',hq x s' h1,h2,h3⟩
def S3.Le (k0 n:Nat) (s s':S3):Prop:=∀(E0:Env) (J:Nat->Prop) (base:Nat) (w0:World) (a:Act) (w:World),(∀id,E0.kn id->id<k0)->eE E0 J base w0 n s.σ s.g s.k a w->eE E0 J base w0 n s'.σ s'.g s'.k a w
theorem EW.fJ (hs:s.Le k0 n s') (h:EW P n k0 ac s' Q):EW P n k0 ac s Q:=by
 intro rd c E0 J base w0 a w b7 hc hk hr
 exact h rd c E0 J base w0 a w b7 hc hk (hs E0 J base w0 a w hk hr)
theorem GW (h:cCode P c=some .skip):c= .skip:=by
 cases c<;>simp [cCode] at h ⊢
 case region id ops draw=>
  split at h
  ·split at h
   ·split at h<;>simp at h
   ·simp at h
  ·simp at h
 case seq a b=>split at h<;>simp at h
 case cond c a b=>split at h<;>simp at h
 case rangeFunc=>split at h<;>simp at h
theorem EW.skip (h:Q .normal s):EW P n k0 .skip s Q:=by
 intro rd c E0 J base w0 a w b7 hc hk hr
 rw [GW hc]
 exact wpIn_skip ⟨.normal,s,h,rfl,hr⟩
theorem GX (h:cCode P c=some .ret):c= .ret:=by
 cases c<;>simp [cCode] at h ⊢
 case region id ops draw=>
  split at h
  ·split at h
   ·split at h<;>simp at h
   ·simp at h
  ·simp at h
 case seq a b=>split at h<;>simp at h
 case cond c a b=>split at h<;>simp at h
 case rangeFunc=>split at h<;>simp at h
theorem EW.ret (h:Q .ret s):EW P n k0 .ret s Q:=by
 intro rd c E0 J base w0 a w b7 hc hk hr
 rw [GX hc]
 exact wpIn_ret ⟨.ret,s,h,rfl,hr⟩
theorem GY {id:Nat} (h:cCode P c=some (.exit id)):c= .exit id:=by
 cases c<;>simp [cCode] at h ⊢
 case region id ops draw=>
  split at h
  ·split at h
   ·split at h<;>simp at h
   ·simp at h
  ·simp at h
 case seq a b=>split at h<;>simp at h
 case cond c a b=>split at h<;>simp at h
 case rangeFunc=>split at h<;>simp at h
 case exit=>exact h
theorem EW.exit {id:Nat} (h:Q (.exit id) s):EW P n k0 (.exit id) s Q:=by
 intro rd c E0 J base w0 a w b7 hc hk hr
 rw [GY hc]
 exact wpIn_exit ⟨.exit id,s,h,rfl,hr⟩
theorem GZ {x:AC} (h:cCode P c=some (.seq x y)):∃a b,c= .seq a b/\cCode P a=some x/\cCode P b=some y:=by
 cases c with
 |seq a b=>
  simp only [cCode] at h
  split at h
  ·rename_i h1 h2
   simp only [N6,AC.seq.injEq] at h
   obtain ⟨rfl,rfl⟩:=h
   exact ⟨a,b,rfl,h1,h2⟩
  ·simp at h
 |_=>
  exfalso
  simp only [cCode] at h
  repeat' (first|(simp at h;done)|split at h)
def Ex.then (next:S3->Prop) (Q:Ex->S3->Prop):Ex->S3->Prop
 | .normal,s=>next s
 |e,s=>Q e s
theorem EW.seq {x y:AC} (h:EW P n k0 x s (Ex.then (fun s'=>EW P n k0 y s' Q) Q)):EW P n k0 (.seq x y) s Q:=by
 intro rd c E0 J base w0 a w b7 hc hk hr
 obtain ⟨ca,cb,rfl,h1,h2⟩:=GZ hc
 refine wpIn_seq (wpIn_mono (h rd ca E0 J base w0 a w (fun hh=>b7 (by simp [AC.gZ,hh])) h1 hk hr) ?_)
 rintro e a' w' ⟨x,s',hq,rfl,hr'⟩
 cases x with
 |normal=>exact hq rd cb E0 J base w0 a' w' (fun hh=>b7 (by simp [AC.gZ,hh])) h2 hk hr'
 |exit id=>exact ⟨.exit id,s',hq,rfl,hr'⟩
 |ret=>exact ⟨.ret,s',hq,rfl,hr'⟩
theorem G0 {b:Arg} {x:AC} (h:cCode P c=some (.cond b x y)):∃o p q,c= .cond o p q/\cArg o=some b/\cCode P p=some x/\cCode P q=some y:=by
 cases c with
 |cond c p q=>
  simp only [cCode] at h
  split at h
  ·rename_i h1 h2 h3
   simp only [N6,AC.cond.injEq] at h
   obtain ⟨rfl,rfl,rfl⟩:=h
   exact ⟨c,p,q,rfl,h1,h2,h3⟩
  ·simp at h
 |_=>
  exfalso
  simp only [cCode] at h
  repeat' (first|(simp at h;done)|split at h)
theorem EW.cond {b:Arg} {x y:AC} {t:Bool} (hb:aG s.σ b= .v (.bool t)) (h:EW P n k0 (if t=true then x else y) s Q):EW P n k0 (.cond b x y) s Q:=by
 intro rd c E0 J base w0 a w b7 hc hk hr
 obtain ⟨o,p,q,rfl,h1,h2,h3⟩:=G0 hc
 obtain ⟨E,rfl,hle,hs,hm,aX,hmk⟩:=hr.ex
 have:=dx.of (hr.gl.step hle) hs o b h1
 rw [hb] at this
 refine wpIn_cond this.iw ?_
 cases t with
 |true=>exact h rd p E0 J base w0 a _ (fun hh=>b7 (by simp only [Oa] at hh;simp [AC.gZ,hh])) h2 hk hr
 |false=>exact h rd q E0 J base w0 a _ (fun hh=>b7 (by simp only [O0,OH] at hh;simp [AC.gZ,hh])) h3 hk hr
theorem G1 {id:Nat} {x:AC} (h:cCode P c=some (.block id x)):∃b,c= .block id b/\cCode P b=some x:=by
 cases c with
 |block i b=>
  simp only [cCode] at h
  cases hb:cCode P b with
  |none=>simp [hb] at h
  |some y=>
   simp only [hb,Oh,N6,AC.block.injEq] at h
   obtain ⟨rfl,rfl⟩:=h
   exact ⟨b,rfl,hb⟩
 |_=>
  exfalso
  simp only [cCode] at h
  repeat' (first|(simp at h;done)|split at h)
def Ex.inBlock (id:Nat) (Q:Ex->S3->Prop):Ex->S3->Prop
 | .exit i,s=>if i=id then Q .normal s else Q (.exit i) s
 |e,s=>Q e s
theorem EW.block {id:Nat} {x:AC} (h:EW P n k0 x s (Ex.inBlock id Q)):EW P n k0 (.block id x) s Q:=by
 intro rd c E0 J base w0 a w b7 hc hk hr
 obtain ⟨b,rfl,h1⟩:=G1 hc
 refine wpIn_block (wpIn_mono (h rd b E0 J base w0 a w (fun hh=>b7 (by simp only [AC.gZ];exact hh)) h1 hk hr) ?_)
 rintro e a' w' ⟨x,s',hq,rfl,hr'⟩
 cases x with
 |normal=>exact ⟨.normal,s',hq,rfl,hr'⟩
 |exit i=>
  simp only [Ex.inBlock] at hq
  simp only [Ex.up,Exit.inBlock]
  split
  ·rename_i hi;rw [N8 hi] at hq;exact ⟨.normal,s',hq,rfl,hr'⟩
  ·rename_i hi;rw [N7 hi] at hq;exact ⟨.exit i,s',hq,rfl,hr'⟩
 |ret=>exact ⟨.ret,s',hq,rfl,hr'⟩
theorem G2 {x:AC} (h:cCode P c=some (.loop x)):∃b,c= .loop b/\cCode P b=some x:=by
 cases c with
 |loop b=>
  simp only [cCode] at h
  cases hb:cCode P b with
  |none=>simp [hb] at h
  |some y=>
   simp only [hb,Oh,N6,AC.loop.injEq] at h
   subst h
   exact ⟨b,rfl,hb⟩
 |_=>
  exfalso
  simp only [cCode] at h
  repeat' (first|(simp at h;done)|split at h)
theorem G3 {F:Fence} {nn:Nat} {Q:Exit->Act->World->Prop} {a:Act} (I:Nat->Act->World->Prop) {m:Nat} (G4:I m a w)
  (round:∀m a w,I m a w->c.wpIn F nn P (Exit.then (fun a' w'=>∃m',m'<m/\I m' a' w') Q) a w):(Code.loop c).wpIn F nn P Q a w:=by
 intro b k cs G5 hb hr
 have key:∀m a w,I m a w->∃e a' w',Q e a' w'/\ArrivesIn (Machine.fenced P F) P (lone (b.atR a (.code c:: .inLoop c::k)) cs w) b k cs e a' w':=by
  intro m
  induction m using Nat.strongRecOn with
  |_ m ih=>
   intro a w hI
   obtain ⟨e,oL,oM,hq,mi⟩:=round m a w hI b (.inLoop c::k) cs G5 hb hr
   cases e with
   |normal=>
    obtain ⟨m',hlt,G6⟩:=hq
    obtain ⟨G7,G8,G9,Ha,Hb⟩:=ih m' hlt oL oM G6
    exact ⟨G7,G8,G9,Ha, .of_steps (StepsIn.trans mi (.one (fenced_calm hb hr rfl) stepR_inLoop)) Hb⟩
   |exit id=>exact ⟨_,oL,oM,hq, .pass (x:= .inLoop c) rfl (fun _ _=> .inl (by simp)) mi⟩
   |goto l=>exact ⟨_,oL,oM,hq, .pass (x:= .inLoop c) rfl (fun _ _=> .inl (by simp)) mi⟩
   |ret=>exact ⟨_,oL,oM,hq, .pass (x:= .inLoop c) rfl (fun _ _=> .inl (by simp)) mi⟩
   |panic ch=>exact ⟨_,oL,oM,hq, .pass (x:= .inLoop c) rfl (fun _ _=> .inl (by simp)) mi⟩
   |outgrown=>exact ⟨_,oL,oM,hq, .pass (x:= .inLoop c) rfl (fun _ _=> .inl (by simp)) mi⟩
 obtain ⟨e,a',w',hq,mi⟩:=key m a w G4
 exact ⟨e,a',w',hq, .of_steps (.one (fenced_calm hb hr rfl) stepR_loop) mi⟩
theorem EW.loop {x:AC} (I:Nat->S3->Prop) {m:Nat} (h0:I m s) (round:∀m s,I m s->EW P n k0 x s (Ex.then (fun s'=>∃m',m'<m/\I m' s') Q)):EW P n k0 (.loop x) s Q:=by
 intro rd c E0 J base w0 a w b7 hc hk hr
 obtain ⟨b,rfl,h1⟩:=G2 hc
 refine G3 (fun m a w=>∃s,I m s/\eE E0 J base w0 n s.σ s.g s.k a w) (m:=m) ⟨s,h0,hr⟩ ?_
 rintro m a w ⟨s,hI,hr⟩
 refine wpIn_mono (round m s hI rd b E0 J base w0 a w (fun hh=>b7 (by simp only [AC.gZ];exact hh)) h1 hk hr) ?_
 rintro e a' w' ⟨x,s',hq,rfl,hr'⟩
 cases x with
 |normal=>
  obtain ⟨m',hm,iz⟩:=hq
  exact ⟨m',hm,s',iz,hr'⟩
 |exit id=>exact ⟨.exit id,s',hq,rfl,hr'⟩
 |ret=>exact ⟨.ret,s',hq,rfl,hr'⟩
theorem qv {ops:Array Oper}:∀{l:List Oper} {os:List az},oK P ops l=some os->l.length=os.length/\∀(j:Nat) op,l[j]? =some op->∃o,os[j]? =some o/\fo P ops op=some o
 |[],os,h=>by simp only [oK,N6] at h;subst h;exact ⟨rfl,fun j op hj=>by simp at hj⟩
 |o::r,os,h=>by
  simp only [oK] at h
  split at h
  ·rename_i x l h1 h2
   simp only [N6] at h;subst h
   obtain ⟨k1,k2⟩:=qv h2
   refine ⟨by simp [k1],fun j op hj=> ?_⟩
   cases j with
   |zero=>simp at hj;subst hj;exact ⟨x,rfl,h1⟩
   |succ j=>simp at hj ⊢; exact k2 j op hj
  ·simp at h
theorem sK {dep:Option (List (List Nat))} (h:cCode P c=some (.bG os dep)):∃id ops draw,c= .region id ops draw/\oK P ops ops.toList=some os/\
  ((draw=false/\dep=none)\/(draw=true/\∃d,dep=some d/\iy ops.toList d=true/\fq os d=true/\P.follows .mixedOrders=true)):=by
 cases c with
 |region id ops draw=>
  simp only [cCode] at h
  split at h
  ·rename_i NA h1
   split at h
   ·rename_i hd
    split at h
    ·rename_i hc
     simp only [N6,AC.bG.injEq] at h
     obtain ⟨rfl,rfl⟩:=h
     exact ⟨id,ops,draw,rfl,h1, .inr ⟨hd,_,rfl,hc.1,hc.2.1,hc.2.2⟩⟩
    ·simp at h
   ·rename_i hd
    simp only [N6,AC.bG.injEq] at h
    obtain ⟨rfl,rfl⟩:=h
    exact ⟨id,ops,draw,rfl,h1, .inl ⟨by simpa using hd,rfl⟩⟩
  ·simp at h
 |_=>
  exfalso
  simp only [cCode] at h
  repeat' (first|(simp at h;done)|split at h)
theorem EW.bG {os:List az} {s':S3} (h:gv P n k0 os s.σ s.g s.k s'.σ s'.g s'.k) (hq:Q .normal s'):EW P n k0 (.bG os none) s Q:=by
 intro rd c E0 J base w0 a w b7 hc hk hr
 obtain ⟨id,ops,draw,rfl,h1,h2⟩:=sK hc
 rcases h2 with ⟨rfl,_⟩|⟨_,d,hd,_⟩
 ·obtain ⟨k1,k2⟩:=qv h1
  refine wpIn_region ?_
  have hsz:ops.size=os.length:=by rw [<-k1];simp
  rw [List.range_eq_range',hsz]
  refine Au (ops:=ops) hk h 0 a w (fun j hj=> ?_) hr fun a' w' hr'=>⟨.normal,s',hq,rfl,hr'⟩
  have hjs:j<ops.size:=by omega
  obtain ⟨o,m1,m2⟩:=k2 j ops[j] (by simp [hjs])
  exact ⟨ops[j],by rw [On];exact Oo hjs,o,m1,m2⟩
 ·simp at hd
theorem EW.draw {os:List az} {dep:List (List Nat)} {s':S3} (h:kR P n dep os s.σ s.g s.k [] s'.σ s'.g s'.k) (hq:Q .normal s'):EW P n k0 (.bG os (some dep)) s Q:=by
 intro rd c E0 J base w0 a w b7 hc hk hr
 obtain ⟨id,ops,draw,rfl,h1,h2⟩:=sK hc
 rcases h2 with ⟨rfl,hh⟩|⟨rfl,d,hd,h3,h4,h5⟩
 ·simp at hh
 ·simp only [N6] at hd
  subst hd
  obtain ⟨k1,k2⟩:=qv h1
  refine GV h5 h (by rw [<-k1];simp) (fun j op hj=>k2 j op (by simpa using hj)) h3 h4 (fun a' w' hr'=>⟨.normal,s',hq,rfl,hr'⟩) hr
end
open Go.RowKit
inductive ka where
 |tmp (t:Nat)
 |cell (t:Nat) (m:Option Nat)
structure cP where
 n:Nat
 res:List ka
 code:AC
variable {F:cP}
def cRes (P:Program):List ResultVar->Option (List ka)
 |[]=>some []
 | .tmp t::r=>(cRes P r).map (.tmp t:: ·)
 | .cell a t::r=>match iL P t,cRes P r with
  |some m,some l=>some (.cell a m::l)
  |_,_=>none
def cFunc (P:Program) (f:FuncId):Option cP:=
 match P.funcs[f]? with
 |some fn=>match fn.body with
  |some c=>match cRes P fn.results.toList,cCode P c with
   |some res,some code=>some ⟨fn.ntmps,res,code⟩
   |_,_=>none
  |none=>none
 |none=>none
def qw (m:Option Nat):AV->RM AV
 | .pim cs o=> .opt (getCells cs o m)
 | .ref id sz i o=> .rd id fun B=>if B.sz=sz then .opt (B.els[i]?.bind fun cs=>getCells cs o m) else .fail
 |_=> .fail
def ke (σ:Nat->AV):List ka->RM (List AV)
 |[]=> .ret []
 | .tmp t::r=>(ke σ r).bind fun l=> .ret (σ t::l)
 | .cell t m::r=>(qw m (σ t)).bind fun a=>(ke σ r).bind fun l=> .ret (a::l)
def kS:List AV->AV
 |[a]=>a
 |l=> .aK l
def resR (σ:Nat->AV) (rs:List ka):RM AV:=(ke σ rs).bind fun l=> .ret (kS l)
def gC:AV->RM AV
 | .aK vs=>(cO vs).bind fun l=> .ret (.aK l)
 |a=>du a
section
variable {P:Program} {E:Env} {J:Nat->Prop} {base:Nat} {g:Nat->Option Bk} {σ:Nat->AV}
theorem Hc (hm:aE E J base g) {m:Option Nat} (ht:iL P t=some m) {x:AV} (hv:aj E v x) (h:(qw m x).run g=some a):∃v',(do loadVar t (<-asAddr v):Sem Value).run P E.w= .ok v' E.w/\aj E v' a:=by
 unfold qw at h
 split at h
 ·rename_i cs o
  cases hg:getCells cs o m with
  |none=>simp [hg,RM.opt,RM.run] at h
  |some a'=>
   simp [hg,RM.opt,RM.run] at h
   subst h
   cases hv with
   |pim u hb hq hu eD hr=>
    obtain ⟨v',hl,hr'⟩:=sn (P:=P) ht hq u hu hr hg
    exact ⟨v',by simp [asAddr,hl],hr'⟩
 ·rename_i id sz i o
  simp only [RM.run] at h
  cases hgi:g id with
  |none=>simp [hgi] at h
  |some B=>
   simp only [hgi] at h
   split at h
   ·rename_i hsz
    cases hei:B.els[i]? with
    |none=>simp [hei,RM.opt,RM.run] at h
    |some cs=>
     cases hg:getCells cs o m with
     |none=>simp [hei,hg,RM.opt,RM.run] at h
     |some a'=>
      simp [hei,hg,RM.opt,RM.run] at h
      subst h
      cases hv with
      | @ref _ _ _ _ b q hi hd hb hq=>
       have bW:=hm.at_ id B hgi
       rw [hb] at bW
       have fE:∀(j:Nat) (x:AV),cs[j]? =some x->∃u,E.w.cell? ⟨b,i*B.sz+j,none⟩=some u/\u.oneCell'=true/\aj E u x:=fun j x hj=>bW.cell hei hj
       obtain ⟨v',hl,hr'⟩:=sn (P:=P) (E:=E) (cs:=cs) ht (b:=b) (off:=i*sz) hq (fun j=>(E.w.cell? ⟨b,i*sz+j,none⟩).getD undef)
        (fun j x hj=>by obtain ⟨u,k1,_,_⟩:=fE j x hj;rw [hsz] at k1;simp [k1])
        (fun j x hj=>by obtain ⟨u,k1,_,k3⟩:=fE j x hj;rw [hsz] at k1;simpa [k1] using k3) hg
       exact ⟨v',by simp [asAddr,hl],hr'⟩
      |dL hi hd=>exact absurd hd ((hm.live id).2 ⟨B,hgi⟩).2
   ·simp [RM.run] at h
 ·simp [RM.run] at h
def sL (tmps:Array Value):ResultVar->Sem Value
 | .tmp t=>pure (tmps.getD t undef)
 | .cell a t=>do loadVar t (<-asAddr (tmps.getD a undef))
theorem Hd (fn:Func) (tmps:Array Value):results fn tmps=(do
  let vs<-fn.results.mapM (sL tmps)
  pure (if h:vs.size=1 then vs[0] else .tuple vs)):=by
 unfold results
 congr 1
theorem wM (hm:aE E J base g) {tmps:Array Value} (hs:∀t,aj E (tmps.getD t undef) (σ t)):∀{rs:List ResultVar} {mj:List ka} {l:List AV},cRes P rs=some mj->(ke σ mj).run g=some l->
  ∃vs:List Value,(rs.mapM (sL tmps)).run P E.w= .ok vs E.w/\vs.length=l.length/\∀(i:Nat) v c,vs[i]? =some v->l[i]? =some c->aj E v c
 |[],mj,l,hc,h=>by
  simp only [cRes,N6] at hc;subst hc
  simp only [ke,RM.run,N6] at h;subst h
  exact ⟨[],by simp,rfl,fun i v c hv=>by simp at hv⟩
 | .tmp t::r,mj,l,hc,h=>by
  simp only [cRes] at hc
  cases hr:cRes P r with
  |none=>simp [hr] at hc
  |some ar=>
   simp only [hr,Oh,N6] at hc;subst hc
   simp only [ke] at h
   obtain ⟨l',h1,h2⟩:=cA h
   simp only [RM.run,N6] at h2;subst h2
   obtain ⟨vs,k1,k2,k3⟩:=wM hm hs hr h1
   refine ⟨tmps.getD t undef::vs,by rw [List.mapM_cons,OS,sL,Sem.run_pure,PF,OS,k1];rfl,by simp [k2],fun i v c hv hc=> ?_⟩
   cases i with
   |zero=>simp at hv hc;subst hv;subst hc;simpa using hs t
   |succ i=>simp at hv hc;exact k3 i v c hv hc
 | .cell a t::r,mj,l,hc,h=>by
  simp only [cRes] at hc
  split at hc
  ·rename_i m ar di hr
   simp only [N6] at hc;subst hc
   simp only [ke] at h
   obtain ⟨x,h1,h⟩:=cA h
   obtain ⟨l',h2,h3⟩:=cA h
   simp only [RM.run,N6] at h3;subst h3
   obtain ⟨vs,k1,k2,k3⟩:=wM hm hs hr h2
   obtain ⟨v',e1,e2⟩:=Hc (P:=P) hm di (hs a) h1
   refine ⟨v'::vs, ?_,by simp [k2],fun i v c hv hc=> ?_⟩
   ·rw [List.mapM_cons,OS,sL,e1,PF,OS,k1]
    rfl
   ·cases i with
    |zero=>simp at hv hc;subst hv;subst hc;exact e2
    |succ i=>simp at hv hc;exact k3 i v c hv hc
  ·simp at hc
theorem qx (hm:aE E J base g) {tmps:Array Value} (hs:∀t,aj E (tmps.getD t undef) (σ t)) {mj:List ka} (hc:cRes P fn.results.toList=some mj) (h:(resR σ mj).run g=some r):∃v,(results fn tmps).run P E.w= .ok v E.w/\aj E v r:=by
 obtain ⟨l,h1,h2⟩:=cA h
 simp only [RM.run,N6] at h2
 obtain ⟨vs,k1,k2,k3⟩:=wM hm hs hc h1
 refine ⟨if h:vs.toArray.size=1 then vs.toArray[0] else .tuple vs.toArray, ?_, ?_⟩
 ·rw [Hd,Array.mapM_eq_mapM_toList,OS,Sem.run_map,k1]
  rfl
 ·subst h2
  cases vs with
  |nil=>
   have:l=[]:=Pj (by simpa using k2.symm)
   subst this
   exact .aK rfl (fun i v c hv=>by simp at hv)
  |cons v vs=>
   cases vs with
   |nil=>
    obtain ⟨a,rfl⟩:∃a,l=[a]:=by
     cases l with
     |nil=>simp at k2
     |cons a l=>cases l with
      |nil=>exact ⟨a,rfl⟩
      |cons=>simp at k2
    simpa [kS] using k3 0 v a rfl rfl
   |cons v' vs=>
    rw [dif_neg (by simp)]
    have e:kS l= .aK l:=by
     cases l with
     |nil=>rfl
     |cons a l=>cases l with
      |nil=>simp at k2
      |cons=>rfl
    rw [e]
    exact .aK (by simpa using k2) (fun i v c hv hc=>k3 i v c (by simpa using hv) hc)
end
theorem qy (h:cFunc P f=some F):∃fn c,P.funcs[f]? =some fn/\fn.body=some c/\cRes P fn.results.toList=some F.res/\cCode P c=some F.code/\fn.ntmps=F.n:=by
 unfold cFunc at h
 split at h
 ·rename_i fn h1
  split at h
  ·rename_i c h2
   split at h
   ·rename_i res code h3 h4
    simp only [N6] at h;subst h
    exact ⟨fn,c,h1,h2,h3,h4,rfl⟩
   ·simp at h
  ·simp at h
 ·simp at h
def b8 (as_:List AV) (t:Nat):AV:=(as_[t]?).getD (.v undef)
theorem oN (h:RC E vs as_) (m:Nat):∀t,aj E ((vs++Array.replicate m undef).getD t undef) (b8 as_ t):=by
 intro t
 unfold b8
 by_cases ht:t<vs.size
 ·have AI:t<as_.length:=by rw [<-h.1];exact ht
  rw [Oq AI]
  simp only [O8,Pz]
  rw [PZ ht,Oo ht]
  exact h.2 t _ _ (Oo ht) (Oq AI)
 ·rw [PI (by rw [<-h.1];omega)]
  simp only [Py,Pz]
  rw [P7 (by omega)]
  have:(Array.replicate m undef)[t - vs.size]?.getD undef=undef:=by
   rcases OT (t - vs.size) m with h|h
   ·simp [h]
   ·simp [h]
  rw [this]
  exact .v rfl
theorem aj.wN (hc:∀b o,w'.cell? ⟨b,o,none⟩=E.w.cell? ⟨b,o,none⟩) (hs:∀b,w'.shape? b=E.w.shape? b) (hl:∀(b:Nat) r,E.w.heap[b]? =some (.loop r)->w'.heap[b]? =some (.loop r)) (h:aj E v a):aj { E with w:=w' } v a:=by
 induction h with
 |v h=>exact .v h
 |agg hl h ih=>exact .agg hl ih
 |aK hl h ih=>exact .aK hl ih
 |dD hc=>exact .dD hc
 |eg u hn hl hcc hb hz hu h1 h ih=>exact .eg u hn hl hcc hb hz (fun i cs j x hi hj=>(hc _ _).trans (hu i cs j x hi hj)) h1 ih
 |ck h ih=>exact .ck ih
 |emp=>exact .emp
 |pim u hb hq hu h1 h ih=>exact .pim u hb hq (fun j x hj=>(hc _ _).trans (hu j x hj)) h1 ih
 |ref hi hd hb hq=>exact .ref hi hd hb hq
 |own hi hd hb hq nz hm hl hcc bh=>exact .own hi hd hb hq ((hs _).trans nz) hm hl hcc bh
 |bQ hi hd hb bh=>exact .bQ hi hd hb bh
 |dL hi hd ho=>exact .dL hi hd ho
 |cg hi hd ho=>exact .cg hi hd ho
 |mp hi hd hb=>exact .mp hi hd hb
 |gj hi hd ho=>exact .gj hi hd ho
 |fn hl h ih=>exact .fn hl ih
 |bf hl h ih=>exact .bf hl ih
 |af hg hI hh dj h ih=>exact .af hg hI (hl _ _ hh) dj ih
 |cZ=>exact .cZ
 |dead=>exact .dead
theorem aE.wN (hm:aE E J base g) (hR:∀{v a},aj E v a->aj { E with w:=w' } v a) (fE:∀(b:Nat) arr t x,E.w.heap[b]? =some (.cells arr t x)->w'.heap[b]? =some (.cells arr t x)) (wO:∀(b:Nat) es c,E.w.heap[b]? =some (.map es c)->w'.heap[b]? =some (.map es c)) (hsz:w'.heap.size=E.w.heap.size):aE { E with w:=w' } J base g:=by
 refine ⟨hm.live,fun id B hg=> ?_,hm.apart,hm.out,fun b hb=>⟨by show b<w'.heap.size;rw [hsz];exact (hm.low b hb).1,(hm.low b hb).2⟩,by show base<=w'.heap.size;rw [hsz];exact hm.size,hm.len,hm.fb,fun b hb=>⟨by show b<w'.heap.size;rw [hsz];exact (hm.xo b hb).1,(hm.xo b hb).2⟩⟩
 have:=hm.at_ id B hg
 show cD { E with w:=w' } base B (E.loc id)
 cases hl:E.loc id with
 |none=>rw [hl] at this;exact this
 |some b=>
  rw [hl] at this
  obtain ⟨h1,⟨hz,arr,t,h2,h3,h4⟩|⟨hz,es,c,h2,h3,h4⟩⟩:=this
  ·refine .iK ⟨h1,arr,t,fE _ _ _ _ h2,h3,fun i cs hi=>⟨(h4 i cs hi).1,fun j x hj=> ?_⟩⟩ hz
   obtain ⟨u,k1,k2,k3⟩:=(h4 i cs hi).2 j x hj
   exact ⟨u,k1,k2,hR k3⟩
  ·refine .ofMap ⟨h1,es,c,wO _ _ _ h2,h3,fun i e cs he hi=> ?_⟩ hz
   obtain ⟨x,k1,k2,k3⟩:=h4 i e cs he hi
   exact ⟨x,k1,k2,hR k3⟩
structure iA (lo:Nat) (E E':Env):Prop where
 rep:∀{v a},aj E v a->aj E' v a
 mem:∀{J base g},aE E J base g->aE E' J base g
 heap:∀b,b<lo->E'.w.heap[b]? =E.w.heap[b]?
 size:E'.w.heap.size=E.w.heap.size
 shape:∀b,E'.w.shape? b=E.w.shape? b
 eqs:E'.kn=E.kn/\E'.dead=E.dead/\E'.loc=E.loc/\E'.ln=E.ln/\E'.I=E.I/\E'.rg=E.rg/\E'.X=E.X
 below:∀{base w0},base<=lo->Below base w0 E.w->Below base w0 E'.w
theorem iA.refl (lo:Nat) (E:Env):iA lo E E:=⟨fun h=>h,fun h=>h,fun _ _=>rfl,rfl,fun _=>rfl,⟨rfl,rfl,rfl,rfl,rfl,rfl,rfl⟩,fun _ h=>h⟩
theorem iA.le {E0:Env} (h:iA lo E E') (hle:E0.Le E) (hI:∀b,E0.I b->b<lo) (hX:∀b,E0.X b->b<lo):E0.Le E':=by
 obtain ⟨q1,q2,q3,q4,q5,q6,q7⟩:=h.eqs
 refine ⟨fun id hi=>by rw [q1];exact hle.kn id hi,fun b hb=>⟨by rw [q5];exact (hle.cz b hb).1,(h.heap b (hI b hb)).trans (hle.cz b hb).2⟩,fun id hi hd=>by rw [q2];exact hle.dead id hi hd,fun id hi hd=>by rw [q2,q3];exact hle.loc id hi hd,fun id b hi hd hb=>by rw [q2,h.shape];exact hle.shape id b hi hd hb,fun id hi hd=>by rw [q2,q4];exact hle.ln id hi hd,fun l hg=>by rw [q6];exact hle.rg l hg,fun b hb=>⟨by rw [q7];exact (hle.fx b hb).1,(h.heap b (hX b hb)).trans (hle.fx b hb).2⟩⟩
theorem qz {o:Obj} (o':Obj) (hh:w.heap[D]? =some o) (ho:o.isCells=false) (im:o'.isCells=false):
  (∀b k,(w.putObj D o').cell? ⟨b,k,none⟩=w.cell? ⟨b,k,none⟩)/\(∀b,(w.putObj D o').shape? b=w.shape? b)/\∀(b:Nat) arr t x,w.heap[b]? =some (.cells arr t x)->(w.putObj D o').heap[b]? =some (.cells arr t x):=by
 have hlt:=(OJ.1 hh).1
 have hs:=World.putObj_heap_same (w:=w) (o:=o') hlt
 refine ⟨fun b k=> ?_,fun b=> ?_,fun b arr t x hb=> ?_⟩
 ·by_cases hb:b=D
  ·subst hb
   unfold World.cell?
   simp only [hs,hh]
   cases o<;>cases o'<;>simp_all [Obj.isCells]
  ·exact World.cell?_of_block (w:=w) (w':=w.putObj D o') (a:=⟨b,k,none⟩) (Pn hb)
 ·by_cases hb:b=D
  ·subst hb
   unfold World.shape?
   simp only [hs,hh]
   cases o<;>cases o'<;>simp_all [Obj.isCells]
  ·unfold World.shape?
   rw [Pn hb]
 ·by_cases mn:b=D
  ·subst mn
   rw [hh] at hb
   simp only [N6] at hb
   subst hb
   simp [Obj.isCells] at ho
  ·rw [Pn mn];exact hb
theorem iA.one (hD:lo<=D) (hh:E.w.heap[D]? =some (.deferred (some []))):iA lo E { E with w:=E.w.putObj D (.deferred none) }:=by
 obtain ⟨c1,c2,c3⟩:=qz (.deferred none) hh rfl rfl
 have hR:∀{v a},aj E v a->aj { E with w:=E.w.putObj D (.deferred none) } v a:=fun h=>aj.wN c1 c2 (fun b r hb=>by
  by_cases mn:b=D
  ·subst mn;rw [hh] at hb;simp at hb
  ·rw [Pn mn];exact hb) h
 have wO:∀(b:Nat) es c,E.w.heap[b]? =some (.map es c)->(E.w.putObj D (.deferred none)).heap[b]? =some (.map es c):=fun b es c hb=>by
  by_cases mn:b=D
  ·subst mn;rw [hh] at hb;simp at hb
  ·rw [Pn mn];exact hb
 refine ⟨hR,fun hm=>hm.wN hR c3 wO (by simp),fun b hb=>Pn (by omega),by simp,c2,⟨rfl,rfl,rfl,rfl,rfl,rfl,rfl⟩,fun gx hb=>hb.trans ⟨rfl,rfl,rfl,by simp,fun k hk=>Pn (by omega)⟩⟩
theorem iA.trans {lo:Nat} {E E' lY:Env} (h:iA lo E E') (k:iA lo E' lY):iA lo E lY:=by
 obtain ⟨q1,q2,q3,q4,q5,q6,q7⟩:=h.eqs
 obtain ⟨p1,p2,p3,p4,p5,p6,p7⟩:=k.eqs
 exact ⟨fun hr=>k.rep (h.rep hr),fun hm=>k.mem (h.mem hm),fun b hb=>(k.heap b hb).trans (h.heap b hb),k.size.trans h.size,fun b=>(k.shape b).trans (h.shape b),⟨p1.trans q1,p2.trans q2,p3.trans q3,p4.trans q4,p5.trans q5,p6.trans q6,p7.trans q7⟩,fun gx hb=>k.below gx (h.below gx hb)⟩
theorem oO {P:Program} {fn:Func} {tmps:Array Value} {R:Ending->World->Prop} {lo:Nat}:∀(ds:List Deferred) (E:Env),Mk E lo ds->
  (∀E',iA lo E E'->∃v,(results fn tmps).run P E'.w= .ok v E'.w/\R (.returned v) E'.w)->LeavesInM Fence.wide 0 P fn tmps R ds .returning E.w
 |[],E,_,h=>h E (iA.refl lo E)
 |d::ds,E,hmk,h=>by
  cases hmk with
  | @cons D _ hI hD hh hne t=>
   have h1:=iA.one hD hh
   refine ⟨by simp, .inl ⟨D,_,rfl,run_takeDeferred hh, ?_⟩⟩
   refine oO ds { E with w:=E.w.putObj D (.deferred none) } ?_ fun E' hS=>h E' (h1.trans hS)
   clear h h1 hh
   induction t with
   |nil=>exact .nil
   | @cons D' NB iz qm qA He t' ih=>
    have Hf:D'≠D:=fun e=>hne _ (O6 ..) (by rw [e])
    exact .cons iz qm ((Pn Hf).trans qA) He (ih fun d hd=>hne d (OV _ hd))
theorem qB {c:Code} (hf:P.funcs[f]? =some fn) (hb:fn.body=some c)
  (h:c.wpIn (cx none) 0 P (fun e a' w'=>(e= .normal\/e= .ret)/\LeavesInM Fence.wide 0 P fn a'.tmps R a'.defers .returning w') { tmps:=args++Array.replicate (fn.ntmps - args.size) undef,defers:=[] } w):Calls P f args w R:=
 (callsIn_wide (n:=0)).1 (callsIn_of_wp_marks (F:=Fence.wide) (n:=0) hf hb trivial (wpIn_mono h fun e a' w' ⟨he,hl⟩=>by
  rcases he with rfl|rfl
  ·exact hl
  ·exact hl) rfl)
theorem Hg (hF:cFunc P f=some F) (hl:as_.length<=F.n)
  (h:EW P F.n k F.code ⟨b8 as_,g,k⟩ fun x s'=>(x= .normal\/x= .ret)/\(resR s'.σ F.res).run s'.g=some r/\s'.g=g'/\s'.k=k'):Fi P f as_ g k r g' k':=by
 intro E J base vs hG hm aX bF
 obtain ⟨fn,c,h1,h2,h3,h4,h5⟩:=qy hF
 refine qB h1 h2 (wpIn_mono (h none c E J base E.w _ E.w (fun _=>rfl) h4 aX ⟨⟨E,rfl,Env.Le.refl E,oN bF _,hm,aX, .nil⟩, ?_,OK _ _,hG⟩) ?_)
 ·simp only [PY,P5,bF.1];omega
 ·rintro e a' w' ⟨x,s',⟨hx,hr,rfl,rfl⟩,rfl,hrel⟩
  obtain ⟨E',rfl,hle,hs,hM,hk,hmk⟩:=hrel.ex
  refine ⟨by rcases hx with rfl|rfl<;>simp [Ex.up],oO _ E' hmk fun E2 hS=> ?_⟩
  have kf:=hS.mem hM
  obtain ⟨v,e1,e2⟩:=qx kf (fun t=>hS.rep (hs t)) h3 hr
  exact ⟨v,e1,v,E2,rfl,rfl,hS.le hle (fun b hb=>(hm.low b hb).1) (fun b hb=>(hm.xo b hb).1),e2,kf,hS.below hm.size hrel.below,fun id hid=>hk id (by rw [<-hS.eqs.1];exact hid)⟩
theorem Hh (hF:cFunc P f=some F) (hl:as_.length<=F.n)
  (h:EW P F.n 0 F.code ⟨b8 as_,fun _=>none,0⟩ fun x s'=>(x= .normal\/x= .ret)/\((resR s'.σ F.res).bind gC).run s'.g=some r):Fn P f as_ r:=by
 intro w J vs hJ hG bF
 obtain ⟨fn,c,h1,h2,h3,h4,h5⟩:=qy hF
 have hm:aE (E0 w J) J w.heap.size (fun _=>none):=⟨fun id=>by simp [E0],fun id B hg=>by simp at hg,fun id b5 b B B' hg=>by simp at hg,fun id b B hg=>by simp at hg,fun b hb=>⟨hJ b hb, .inl hb⟩,Og _,fun id B hg=>by simp at hg,fun _ h=>h.elim,fun _ h=>h.elim⟩
 refine qB h1 h2 (wpIn_mono (h none c (E0 w J) J w.heap.size w _ w (fun _=>rfl) h4 (fun id hid=>hid.elim) ⟨⟨E0 w J,rfl,Env.Le.refl _,oN bF _,hm,fun id hid=>hid.elim, .nil⟩, ?_,OK _ _,hG⟩) ?_)
 ·simp only [PY,P5,bF.1];omega
 ·rintro e a' w' ⟨x,s',⟨hx,hr⟩,rfl,hrel⟩
  obtain ⟨E1,rfl,hle,hs1,iu,hk,hmk⟩:=hrel.ex
  refine ⟨by rcases hx with rfl|rfl<;>simp [Ex.up],oO _ E1 hmk fun E' hS=> ?_⟩
  have hM:=hS.mem iu
  have hs:=fun t=>hS.rep (hs1 t)
  obtain ⟨r0,eD,cT⟩:=cA hr
  obtain ⟨v,e1,e2⟩:=qx hM hs h3 eD
  have hI:∀ids b,Handed E' s'.g ids b->J b\/(w.heap.size<=b/\b<E'.w.heap.size):=by
   intro ids b hb
   rcases hb with hb|⟨id,B,_,hg,hl⟩
   ·have:=hM.low b hb
    rcases this.2 with h|h
    ·exact .inl h
    ·exact .inr ⟨h,this.1⟩
   ·have:=hM.at_ id B hg
    rw [hl] at this
    exact .inr this.lt
  have cv:aj (Proofs.Ytimomnfobfjggaa.E0 E'.w fun b=>J b\/(w.heap.size<=b/\b<E'.w.heap.size)) v r:=by
   cases r0 with
   |aK us=>
    simp only [gC] at cT
    obtain ⟨l,m1,m2⟩:=cA cT
    simp only [RM.run,N6] at m2;subst m2
    obtain ⟨k1,k2⟩:=ql hM _ m1 (hI _)
    cases e2 with
    |aK hl h=>
     refine .aK (by rw [k1];exact hl) fun i v c hv hc=> ?_
     have hi:i<us.length:=by rw [<-k1];exact (Oe.1 hc).1
     exact k2 i v us[i] c (h i v _ hv (Oq hi)) (Oq hi) hc
   |_=>exact wu hM _ e2 cT (hI _)
  exact ⟨v,e1,v,rfl,cv,hS.below (Og _) hrel.below⟩
open Go.RowKit
structure L3 where
 t:List (Nat×AV)
 m:List (Option Bk)
def slot:List (Nat×AV)->Nat->AV
 |[],_=> .dead
 |(j,v)::r,i=>bif Nat.beq i j then v else slot r i
def qC (d:Nat):List (Nat×AV)->List (Nat×AV)
 |[]=>[]
 |(j,v)::r=>bif Nat.beq j d then qC d r else (j,v)::qC d r
def eu (t:List (Nat×AV)):Option Nat->AV->List (Nat×AV)
 |none,_=>t
 |some d,v=>(d,v)::qC d t
def dstOK (n:Nat):Option Nat->Bool
 |none=>true
 |some d=>Nat.blt d n
def look (m:List (Option Bk)) (id:Nat):Option Bk:=(m[id]?).join
def L3.s (x:L3):S3:=⟨slot x.t,look x.m,x.m.length⟩
def dB (m:List (Option Bk)):List (Nat×Option Bk)->List (Option Bk)
 |[]=>m
 |(id,x)::r=>dB (if id<m.length then m.set id x else m++[x]) r
def upsOK (k:Nat):List (Nat×Option Bk)->Bool
 |[]=>true
 |(id,_)::r=>decide (id<=k)&&upsOK (if id<k then k else k+1) r
theorem Hi {t:List (Nat×AV)} {d:Nat} (h:i≠d):slot (qC d t) i=slot t i:=by
 induction t with
 |nil=>rfl
 |cons p r ih=>
  obtain ⟨j,v⟩:=p
  simp only [qC,slot]
  cases hj:Nat.beq j d with
  |true=>
   have:=Ol hj
   subst this
   have hi:Nat.beq i j=false:=by
    cases hb:Nat.beq i j with
    |false=>rfl
    |true=>exact absurd (Ol hb) h
   simp [hi,ih]
  |false=>simp only [Ot,slot,ih]
theorem nA (t:List (Nat×AV)) (d:Option Nat) (hd:dstOK n d=true) (v:AV):slot (eu t d v)=bD n d v (slot t):=by
 funext i
 unfold bD
 cases d with
 |none=>simp [eu]
 |some d=>
  simp only [dstOK] at hd
  have wP:=ON hd
  simp only [eu,slot,N6]
  by_cases h:d=i
  ·subst h
   have:Nat.beq d d=true:=Nat.beq_refl d
   rw [this,N8 ⟨rfl,wP⟩];rfl
  ·have hb:Nat.beq i d=false:=by
    cases hb:Nat.beq i d with
    |false=>rfl
    |true=>exact absurd (Ol hb).symm h
   rw [hb,N7 (fun hh=>h hh.1)]
   exact Hi (fun e=>h e.symm)
theorem wQ (m:List (Option Bk)) (id:Nat) (x:Option Bk) (h:id<=m.length):look (if id<m.length then m.set id x else m++[x])=fun k=>if k=id then x else look m k:=by
 funext k
 unfold look
 by_cases hl:id<m.length
 ·rw [N8 hl,List.getElem?_set]
  by_cases hk:id=k
  ·subst hk;simp [hl]
  ·simp [hk,Ne.symm hk]
 ·rw [N7 hl]
  have:id=m.length:=by omega
  subst this
  by_cases hk:k=m.length
  ·subst hk;simp
  ·rw [N7 hk]
   rcases OT k m.length with h1|h1
   ·rw [O4 h1]
   ·rw [PI (by simp;omega),PI (by omega)]
theorem qD:∀(ups:List (Nat×Option Bk)) (m:List (Option Bk)),upsOK m.length ups=true->look (dB m ups)=aA (look m) ups/\m.length<=(dB m ups).length/\∀id,id∈ups.map Prod.fst->id<(dB m ups).length
 |[],m,_=>⟨rfl,Og _,fun id h=>by simp at h⟩
 |(i,x)::r,m,h=>by
  simp only [upsOK,N9,Pb] at h
  have hlen:(if i<m.length then m.set i x else m++[x]).length=if i<m.length then m.length else m.length+1:=by split<;>simp
  obtain ⟨h1,h2,h3⟩:=qD r (if i<m.length then m.set i x else m++[x]) (by rw [hlen];exact h.2)
  rw [hlen] at h2
  have e1:m.length<=(if i<m.length then m.length else m.length+1):=by split<;>omega
  have e2:i<(if i<m.length then m.length else m.length+1):=by have:=h.1;split<;>omega
  refine ⟨?_, ?_,fun id hid=> ?_⟩
  ·simp only [dB,aA]
   rw [h1,wQ m i x h.1]
  ·simp only [dB];omega
  ·simp only [dB]
   simp only [Om,Oj] at hid
   rcases hid with rfl|hid
   ·omega
   ·exact h3 id hid
inductive sM where
 |done (val:AV) (ups:List (Nat×Option Bk)) (acc:List Nat)
 |call (f:FuncId) (as_:List AV)
 |stuck
def wR (ao:AO) (x:L3):List Nat:=(ao.au x.m.length (aG (slot x.t))).acc (look x.m)++(ao.au x.m.length (aG (slot x.t))).see (look x.m)
def dh (o:az) (x:L3):sM:=
 match bO (slot x.t) o.guard with
 |some false=> .done (.v undef) [] []
 |some true=>match (o.ao.au x.m.length (aG (slot x.t))).run (look x.m) with
  |some (.done val ups)=> .done val ups (wR o.ao x)
  |some (.call f as_)=> .call f as_
  |none=> .stuck
 |none=> .stuck
theorem AJ {x:L3} (h:dh o x= .done val ups acc):dk P (slot x.t) (look x.m) x.m.length o val ups acc:=by
 unfold dh at h
 split at h
 ·rename_i hg
  simp only [sM.done.injEq] at h
  obtain ⟨rfl,rfl,rfl⟩:=h
  exact .skip hg
 ·rename_i hg
  split at h
  ·rename_i h1
   simp only [sM.done.injEq] at h
   obtain ⟨rfl,rfl,rfl⟩:=h
   exact .done hg h1
  ·simp at h
  ·simp at h
 ·simp at h
theorem wS {x:L3} (h:dh o x= .call f as_):bO (slot x.t) o.guard=some true/\(o.ao.au x.m.length (aG (slot x.t))).run (look x.m)=some (.call f as_):=by
 unfold dh at h
 split at h
 ·simp at h
 ·rename_i hg
  split at h
  ·simp at h
  ·rename_i h1
   simp only [sM.call.injEq] at h
   obtain ⟨rfl,rfl⟩:=h
   exact ⟨hg,h1⟩
  ·simp at h
 ·simp at h
def OW (P:Program) (n k0:Nat) (os:List az) (x:L3) (K:L3->Prop):Prop:=∃x':L3,gv P n k0 os (slot x.t) (look x.m) x.m.length (slot x'.t) (look x'.m) x'.m.length/\K x'
def DW (P:Program) (n:Nat) (dep:List (List Nat)) (os:List az) (x:L3) (rs:List Rec) (K:L3->Prop):Prop:=
 ∃x':L3,kR P n dep os (slot x.t) (look x.m) x.m.length rs (slot x'.t) (look x'.m) x'.m.length/\K x'
section
variable {P:Program} {n k0:Nat} {x:L3} {K:L3->Prop}
theorem OW.nil (h:K x):OW P n k0 [] x K:=⟨x, .nil,h⟩
theorem OW.cons {o:az} {os:List az} {val:AV} {ups:List (Nat×Option Bk)} {acc:List Nat} (hd:dstOK n o.dst=true) (h:dh o x= .done val ups acc) (hu:upsOK x.m.length ups=true) (hr:OW P n k0 os ⟨eu x.t o.dst val,dB x.m ups⟩ K):OW P n k0 (o::os) x K:=by
 obtain ⟨x',h1,h3⟩:=hr
 simp only [nA _ _ hd] at h1
 obtain ⟨m1,m2,m3⟩:=qD ups x.m hu
 rw [m1] at h1
 exact ⟨x', .cons (AJ h) m2 m3 h1,h3⟩
theorem OW.call {o:az} {os:List az} {f:FuncId} {as_ bq:List AV} {r:AV} (hd:dstOK n o.dst=true) (h:dh o x= .call f as_) (hc:bH P f=true) (hs:(cO as_).run (look x.m)=some bq) (hf:Fn P f bq r) (hu:upsOK x.m.length (callUps as_ r)=true)
  (hr:OW P n k0 os ⟨eu x.t o.dst r,dB x.m (callUps as_ r)⟩ K):OW P n k0 (o::os) x K:=by
 obtain ⟨x',h1,h3⟩:=hr
 simp only [nA _ _ hd] at h1
 obtain ⟨m1,m2,m3⟩:=qD _ x.m hu
 rw [m1] at h1
 obtain ⟨g1,g2⟩:=wS h
 exact ⟨x', .cons (.call g1 g2 hc hs hf) m2 m3 h1,h3⟩
theorem OW.inl {o:az} {os:List az} {f:FuncId} {as_:List AV} {r:AV} {m':List (Option Bk)} (hd:dstOK n o.dst=true) (h:dh o x= .call f as_) (hc:bH P f=true) (hf:Fi P f as_ (look x.m) x.m.length r (look m') m'.length)
  (hr:OW P n k0 os ⟨eu x.t o.dst r,m'⟩ K):OW P n k0 (o::os) x K:=by
 obtain ⟨x',h1,h3⟩:=hr
 simp only [nA _ _ hd] at h1
 obtain ⟨g1,g2⟩:=wS h
 exact ⟨x', .inl g1 g2 hc hf h1,h3⟩
theorem DW.nil {dep:List (List Nat)} {rs:List Rec} (hid:dX rs dep=true) (h:K x):DW P n dep [] x rs K:=⟨x, .nil hid,h⟩
theorem DW.cons {dep:List (List Nat)} {rs:List Rec} {o:az} {os:List az} {val:AV} {ups:List (Nat×Option Bk)} {acc:List Nat} (hd:dstOK n o.dst=true) (h:dh o x= .done val ups acc) (hu:upsOK x.m.length ups=true)
  (hr:DW P n dep os ⟨eu x.t o.dst val,dB x.m ups⟩ (rs++[⟨o.dst,val,ups,acc,x.m.length⟩]) K):DW P n dep (o::os) x rs K:=by
 obtain ⟨x',h1,h4⟩:=hr
 simp only [nA _ _ hd] at h1
 obtain ⟨m1,m2,m3⟩:=qD ups x.m hu
 rw [m1] at h1
 exact ⟨x', .cons (AJ h) m2 m3 h1,h4⟩
def AK (ao:AO) (as_:List AV) (x:L3):List Nat:=wR ao x++((cO as_).acc (look x.m)++(cO as_).see (look x.m))
theorem DW.call {dep:List (List Nat)} {rs:List Rec} {o:az} {os:List az} {f:FuncId} {as_ bq:List AV} {r:AV} (hd:dstOK n o.dst=true) (h:dh o x= .call f as_) (hc:bH P f=true) (hs:(cO as_).run (look x.m)=some bq) (hf:Fn P f bq r) (hu:upsOK x.m.length (callUps as_ r)=true)
  (hr:DW P n dep os ⟨eu x.t o.dst r,dB x.m (callUps as_ r)⟩ (rs++[⟨o.dst,r,callUps as_ r,AK o.ao as_ x,x.m.length⟩]) K):DW P n dep (o::os) x rs K:=by
 obtain ⟨x',h1,h4⟩:=hr
 simp only [nA _ _ hd] at h1
 obtain ⟨m1,m2,m3⟩:=qD _ x.m hu
 rw [m1] at h1
 obtain ⟨g1,g2⟩:=wS h
 exact ⟨x', .cons (.call g1 g2 hc hs hf) m2 m3 h1,h4⟩
end
def EL (P:Program) (n k0:Nat) (ac:AC) (x:L3) (Q:Ex->L3->Prop):Prop:=EW P n k0 ac x.s fun e s'=>∃x':L3,s'=x'.s/\Q e x'
section
variable {P:Program} {n k0:Nat} {x:L3} {Q:Ex->L3->Prop}
def Ex.nB (next:L3->Prop) (Q:Ex->L3->Prop):Ex->L3->Prop
 | .normal,s=>next s
 |e,s=>Q e s
def Ex.nC (id:Nat) (Q:Ex->L3->Prop):Ex->L3->Prop
 | .exit i,s=>if i=id then Q .normal s else Q (.exit i) s
 |e,s=>Q e s
theorem EL.cL {ac:AC} {Q':Ex->L3->Prop} (h:EL P n k0 ac x Q) (hq:∀e x,Q e x->Q' e x):EL P n k0 ac x Q':=EW.cL h fun e s ⟨x',h1,h3⟩=>⟨x',h1,hq e x' h3⟩
theorem EL.fJ {ac:AC} {y:L3} (hs:x.s.Le k0 n y.s) (h:EL P n k0 ac y Q):EL P n k0 ac x Q:=EW.fJ hs h
theorem EL.skip (h:Q .normal x):EL P n k0 .skip x Q:=EW.skip ⟨x,rfl,h⟩
theorem EL.ret (h:Q .ret x):EL P n k0 .ret x Q:=EW.ret ⟨x,rfl,h⟩
theorem EL.exit {id:Nat} (h:Q (.exit id) x):EL P n k0 (.exit id) x Q:=EW.exit ⟨x,rfl,h⟩
theorem EL.seq {a b:AC} (h:EL P n k0 a x (Ex.nB (fun x'=>EL P n k0 b x' Q) Q)):EL P n k0 (.seq a b) x Q:=
 EW.seq (EW.cL h fun e s ⟨x',h1,h3⟩=>by
  cases e with
  |normal=>subst h1;exact h3
  |exit id=>exact ⟨x',h1,h3⟩
  |ret=>exact ⟨x',h1,h3⟩)
theorem EL.cond {b:Arg} {y z:AC} {t:Bool} (hb:aG (slot x.t) b= .v (.bool t)) (h1:t=true->EL P n k0 y x Q) (h2:t=false->EL P n k0 z x Q):EL P n k0 (.cond b y z) x Q:=
 EW.cond hb (by
  cases t with
  |true=>exact h1 rfl
  |false=>exact h2 rfl)
theorem EL.block {id:Nat} {a:AC} (h:EL P n k0 a x (Ex.nC id Q)):EL P n k0 (.block id a) x Q:=
 EW.block (EW.cL h fun e s ⟨x',h1,h3⟩=>by
  cases e with
  |normal=>exact ⟨x',h1,h3⟩
  |exit i=>
   simp only [Ex.nC] at h3
   simp only [Ex.inBlock]
   split
   ·rename_i hi;rw [N8 hi] at h3;exact ⟨x',h1,h3⟩
   ·rename_i hi;rw [N7 hi] at h3;exact ⟨x',h1,h3⟩
  |ret=>exact ⟨x',h1,h3⟩)
theorem EL.loop {a:AC} (I:Nat->L3->Prop) {m:Nat} (h0:I m x) (round:∀m x,I m x->EL P n k0 a x (Ex.nB (fun x'=>∃m',m'<m/\I m' x') Q)):EL P n k0 (.loop a) x Q:=
 EW.loop (fun m s=>∃x:L3,s=x.s/\I m x) (m:=m) ⟨x,rfl,h0⟩ fun m s ⟨x,h1,h3⟩=>by
  subst h1
  refine EW.cL (round m x h3) fun e s ⟨x',q1,q3⟩=> ?_
  cases e with
  |normal=>
   obtain ⟨m',hm,hI⟩:=q3
   exact ⟨m',hm,x',q1,hI⟩
  |exit id=>exact ⟨x',q1,q3⟩
  |ret=>exact ⟨x',q1,q3⟩
theorem EL.bG {os:List az} (h:OW P n k0 os x (Q .normal)):EL P n k0 (.bG os none) x Q:=by
 obtain ⟨x',h1,h3⟩:=h
 exact EW.bG (s':=x'.s) h1 ⟨x',rfl,h3⟩
theorem EL.draw {os:List az} {dep:List (List Nat)} (h:DW P n dep os x [] (Q .normal)):EL P n k0 (.bG os (some dep)) x Q:=by
 obtain ⟨x',h1,h4⟩:=h
 exact EW.draw (s':=x'.s) h1 ⟨x',rfl,h4⟩
theorem S3.wT {s:S3} (hσ:∀t,s'.σ t=s.σ t\/s'.σ t= .dead\/s.σ t= .v undef/\False) (hg:s'.g=s.g) (hk:s'.k=s.k):s.Le k0 n s':=by
 intro E0 J base w0 a w _ hr
 obtain ⟨E,h1,h2,h3,h4,h5,h6⟩:=hr.ex
 refine ⟨⟨E,h1,h2,fun t=> ?_,by rw [hg];exact h4,by rw [hk];exact h5,h6⟩,hr.size,hr.below,hr.gl⟩
 rcases hσ t with h|h|h
 ·rw [h];exact h3 t
 ·rw [h];exact .dead
 ·exact h.2.elim
end
def gD:Nat->List AV->List (Nat×AV)
 |_,[]=>[]
 |i,a::r=>(i,a)::gD (i+1) r
def start (as_:List AV):L3:=⟨gD 0 as_,[]⟩
theorem sN:∀(as_:List AV) (i t:Nat),slot (gD i as_) t=if i<=t then (as_[t - i]?).getD .dead else .dead
 |[],i,t=>by simp [gD,slot]
 |a::r,i,t=>by
  simp only [gD,slot]
  by_cases h:t=i
  ·subst h
   rw [Nat.beq_refl];simp
  ·have hb:Nat.beq t i=false:=by
    cases hb:Nat.beq t i with
    |false=>rfl
    |true=>exact absurd (Ol hb) h
   rw [hb,Ot,sN r (i+1) t]
   by_cases h1:i<=t
   ·rw [N8 h1,N8 (by omega),show t - i=(t - (i+1))+1 by omega,OX]
   ·rw [N7 h1,N7 (by omega)]
theorem qE (as_:List AV) (g:Nat->Option Bk) (k:Nat):(⟨b8 as_,g,k⟩:S3).Le k0 n ⟨slot (gD 0 as_),g,k⟩:=by
 refine S3.wT (fun t=> ?_) rfl rfl
 show slot (gD 0 as_) t=b8 as_ t\/_
 rw [sN,N8 (Nat.zero_le _),Nat.sub_zero]
 unfold b8
 cases h:as_[t]? with
 |none=>exact .inr (.inl (by simp [sN,h]))
 |some a=>exact .inl rfl
theorem fn_walk (hF:cFunc P f=some F) (hl:as_.length<=F.n)
  (h:EL P F.n 0 F.code (start as_) fun e x=>(e= .normal\/e= .ret)/\((resR (slot x.t) F.res).bind gC).run (look x.m)=some r):Fn P f as_ r:=by
 refine Hh hF hl (EW.fJ (qE as_ _ _) (EW.cL h ?_))
 rintro e s ⟨x',rfl,h1,h2⟩
 exact ⟨h1,h2⟩
theorem fi_walk (hF:cFunc P f=some F) (hl:as_.length<=F.n) {m m':List (Option Bk)}
  (h:EL P F.n m.length F.code ⟨gD 0 as_,m⟩ fun e x=>(e= .normal\/e= .ret)/\(resR (slot x.t) F.res).run (look x.m)=some r/\x.m=m'):Fi P f as_ (look m) m.length r (look m') m'.length:=by
 refine Hg hF hl (EW.fJ (qE as_ _ _) (EW.cL h ?_))
 rintro e s ⟨x',rfl,h1,h2,rfl⟩
 exact ⟨h1,h2,rfl,rfl⟩
open Go.RowKit
abbrev ow (a:AO):az:=⟨none,a,none⟩
abbrev on (d:Nat) (a:AO) (g:Nat):az:=⟨some d,a,some (g,false)⟩
abbrev Callee:=FuncId->List AV->List (Option Bk)->Option (AV×List (Option Bk))
def AL (pureC:FuncId->List AV->Option AV) (inC:Callee) (f:FuncId) (as_:List AV) (m:List (Option Bk)):Option (AV×List (Option Bk)):=
 match (cO as_).run (look m) with
 |some bq=>match pureC f bq with
  |some r=>if upsOK m.length (callUps as_ r)=true then some (r,dB m (callUps as_ r)) else none
  |none=>none
 |none=>inC f as_ m
def runOps (n:Nat) (pureC:FuncId->List AV->Option AV) (inC:Callee):List az->L3->Option L3
 |[],x=>some x
 |o::os,x=>if dstOK n o.dst=true then match dh o x with
  | .done val ups _=>if upsOK x.m.length ups=true then runOps n pureC inC os ⟨eu x.t o.dst val,dB x.m ups⟩ else none
  | .call f as_=>match AL pureC inC f as_ x.m with
   |some (r,m')=>runOps n pureC inC os ⟨eu x.t o.dst r,m'⟩
   |none=>none
  | .stuck=>none
  else none
def oP (n:Nat) (pureC:FuncId->List AV->Option AV):List az->L3->List Rec->Option (L3×List Rec)
 |[],x,rs=>some (x,rs)
 |o::os,x,rs=>if dstOK n o.dst=true then match dh o x with
  | .done val ups acc=>if upsOK x.m.length ups=true then oP n pureC os ⟨eu x.t o.dst val,dB x.m ups⟩ (rs++[⟨o.dst,val,ups,acc,x.m.length⟩]) else none
  | .call f as_=>match (cO as_).run (look x.m) with
   |some bq=>match pureC f bq with
    |some r=>if upsOK x.m.length (callUps as_ r)=true then oP n pureC os ⟨eu x.t o.dst r,dB x.m (callUps as_ r)⟩ (rs++[⟨o.dst,r,callUps as_ r,AK o.ao as_ x,x.m.length⟩]) else none
    |none=>none
   |none=>none
  | .stuck=>none
  else none
def eS (T:FuncId->Option cP):Nat->Nat->AC->L3->Option (Ex×L3)
 |0,_,_,_=>none
 |k+1,n,ac,x=>
  let pureC:FuncId->List AV->Option AV:=fun f as_=>match T f with
   |some F=>if as_.length<=F.n then match eS T k F.n F.code (start as_) with
    |some (.normal,x)=>((resR (slot x.t) F.res).bind gC).run (look x.m)
    |some (.ret,x)=>((resR (slot x.t) F.res).bind gC).run (look x.m)
    |_=>none
    else none
   |none=>none
  let inC:Callee:=fun f as_ m=>match T f with
   |some F=>if as_.length<=F.n then match eS T k F.n F.code ⟨gD 0 as_,m⟩ with
    |some (.normal,x)=>((resR (slot x.t) F.res).run (look x.m)).map fun r=>(r,x.m)
    |some (.ret,x)=>((resR (slot x.t) F.res).run (look x.m)).map fun r=>(r,x.m)
    |_=>none
    else none
   |none=>none
  match ac with
  | .skip=>some (.normal,x)
  | .bG os none=>(runOps n pureC inC os x).map fun x=>(.normal,x)
  | .bG os (some dep)=>match oP n pureC os x [] with
   |some (x,rs)=>if dX rs dep=true then some (.normal,x) else none
   |none=>none
  | .seq a b=>match eS T k n a x with
   |some (.normal,x)=>eS T k n b x
   |r=>r
  | .cond c a b=>match aG (slot x.t) c with
   | .v (.bool true)=>eS T k n a x
   | .v (.bool false)=>eS T k n b x
   |_=>none
  | .block id a=>match eS T k n a x with
   |some (.exit i,x)=>if i=id then some (.normal,x) else some (.exit i,x)
   |r=>r
  | .loop a=>match eS T k n a x with
   |some (.normal,x)=>eS T k n (.loop a) x
   |r=>r
  | .exit id=>some (.exit id,x)
  | .ret=>some (.ret,x)
  | .gB _ _ _ _=>none
def AM (T:FuncId->Option cP) (k:Nat) (f:FuncId) (as_:List AV):Option AV:=
 match T f with
 |some F=>if as_.length<=F.n then match eS T k F.n F.code (start as_) with
  |some (.normal,x)=>((resR (slot x.t) F.res).bind gC).run (look x.m)
  |some (.ret,x)=>((resR (slot x.t) F.res).bind gC).run (look x.m)
  |_=>none
  else none
 |none=>none
section
variable {P:Program} {T:FuncId->Option cP}
def Table (P:Program) (T:FuncId->Option cP):Prop:=∀f F,T f=some F->cFunc P f=some F/\bH P f=true
def nD:List (Nat×cP)->FuncId->Option cP
 |[],_=>none
 |(k,F)::r,f=>bif Nat.beq f k then some F else nD r f
theorem Hj:Table P (nD []):=fun f F h=>by simp [nD] at h
theorem hH {r:List (Nat×cP)} (h1:cFunc P k=some F) (h2:bH P k=true) (t:Table P (nD r)):Table P (nD ((k,F)::r)):=fun f G h=>by
 simp only [nD] at h
 cases hb:Nat.beq f k with
 |true=>
  rw [hb,Ob,N6] at h
  have:=Ol hb
  subst this;subst h;exact ⟨h1,h2⟩
 |false=>rw [hb,Ot] at h;exact t f G h
theorem sO {n k0:Nat} {pureC:FuncId->List AV->Option AV} {inC:Callee} (hp:∀f as_ r,pureC f as_=some r->Fn P f as_ r/\bH P f=true) (hi:∀f as_ m r m',inC f as_ m=some (r,m')->Fi P f as_ (look m) m.length r (look m') m'.length/\bH P f=true):
  ∀(os:List az) (x x':L3),runOps n pureC inC os x=some x'->OW P n k0 os x (· =x')
 |[],x,x',h=>by simp only [runOps,N6] at h;exact OW.nil h
 |o::os,x,x',h=>by
  simp only [runOps] at h
  split at h
  case isFalse=>simp at h
  rename_i hd
  split at h
  ·rename_i val ups acc he
   split at h
   ·rename_i hu;exact OW.cons hd he hu (sO hp hi os _ _ h)
   ·simp at h
  ·rename_i f as_ he
   split at h
   ·rename_i r m' hs
    unfold AL at hs
    split at hs
    ·rename_i bq fH
     split at hs
     ·rename_i r' hr
      split at hs
      ·rename_i hu
       simp only [N6,Oi] at hs
       obtain ⟨rfl,rfl⟩:=hs
       obtain ⟨h1,h2⟩:=hp f bq _ hr
       exact OW.call hd he h2 fH h1 hu (sO hp hi os _ _ h)
      ·simp at hs
     ·simp at hs
    ·obtain ⟨h1,h2⟩:=hi f as_ x.m r m' hs
     exact OW.inl hd he h2 h1 (sO hp hi os _ _ h)
   ·simp at h
  ·simp at h
theorem wU {n:Nat} {pureC:FuncId->List AV->Option AV} (hp:∀f as_ r,pureC f as_=some r->Fn P f as_ r/\bH P f=true) {dep:List (List Nat)}:
  ∀(os:List az) (x x':L3) (rs kT:List Rec),oP n pureC os x rs=some (x',kT)->dX kT dep=true->DW P n dep os x rs (· =x')
 |[],x,x',rs,kT,h,hid=>by
  simp only [oP,N6,Oi] at h
  obtain ⟨rfl,rfl⟩:=h
  exact DW.nil hid rfl
 |o::os,x,x',rs,kT,h,hid=>by
  simp only [oP] at h
  split at h
  case isFalse=>simp at h
  rename_i hd
  split at h
  ·rename_i val ups acc he
   split at h
   ·rename_i hu;exact DW.cons hd he hu (wU hp os _ _ _ _ h hid)
   ·simp at h
  ·rename_i f as_ he
   split at h
   ·rename_i bq fH
    split at h
    ·rename_i r hr
     split at h
     ·rename_i hu
      obtain ⟨h1,h2⟩:=hp f bq _ hr
      exact DW.call hd he h2 fH h1 hu (wU hp os _ _ _ _ h hid)
     ·simp at h
    ·simp at h
   ·simp at h
  ·simp at h
theorem AN (hT:Table P T):∀(k:Nat) (n k0:Nat) (ac:AC) (x:L3) (e:Ex) (x':L3),eS T k n ac x=some (e,x')->EL P n k0 ac x fun e' y=>e'=e/\y=x':=by
 intro k
 induction k using Nat.strongRecOn with
 |_ k AP=>
 cases k with
 |zero=>intro n k0 ac x e x' h;simp [eS] at h
 |succ k=>
  have ih:=AP k (by omega)
  intro n k0 ac x e x' h
  have jF:=h
  simp only [eS] at h
  generalize Hk:(fun (f:FuncId) (as_:List AV)=>match T f with
   |some F=>if as_.length<=F.n then match eS T k F.n F.code (start as_) with
    |some (.normal,x)=>((resR (slot x.t) F.res).bind gC).run (look x.m)
    |some (.ret,x)=>((resR (slot x.t) F.res).bind gC).run (look x.m)
    |_=>none
    else none
   |none=>none)=pureC at h
  generalize Hl:(fun (f:FuncId) (as_:List AV) (m:List (Option Bk))=>match T f with
   |some F=>if as_.length<=F.n then match eS T k F.n F.code ⟨gD 0 as_,m⟩ with
    |some (.normal,x)=>((resR (slot x.t) F.res).run (look x.m)).map fun r=>(r,x.m)
    |some (.ret,x)=>((resR (slot x.t) F.res).run (look x.m)).map fun r=>(r,x.m)
    |_=>none
    else none
   |none=>none)=inC at h
  have hp:∀f as_ r,pureC f as_=some r->Fn P f as_ r/\bH P f=true:=by
   intro f as_ r hr
   rw [<-Hk] at hr
   simp only at hr
   split at hr
   ·rename_i F hF
    obtain ⟨c1,c2⟩:=hT f F hF
    split at hr
    ·rename_i hl
     split at hr
     ·rename_i y hy
      exact ⟨fn_walk c1 hl ((ih F.n 0 F.code _ _ _ hy).cL fun e' z ⟨h1,h2⟩=>by subst h1;subst h2;exact ⟨.inl rfl,hr⟩),c2⟩
     ·rename_i y hy
      exact ⟨fn_walk c1 hl ((ih F.n 0 F.code _ _ _ hy).cL fun e' z ⟨h1,h2⟩=>by subst h1;subst h2;exact ⟨.inr rfl,hr⟩),c2⟩
     ·simp at hr
    ·simp at hr
   ·simp at hr
  have hi:∀f as_ m r m',inC f as_ m=some (r,m')->Fi P f as_ (look m) m.length r (look m') m'.length/\bH P f=true:=by
   intro f as_ m r m' hr
   rw [<-Hl] at hr
   simp only at hr
   split at hr
   ·rename_i F hF
    obtain ⟨c1,c2⟩:=hT f F hF
    split at hr
    ·rename_i hl
     split at hr
     ·rename_i y hy
      cases hres:(resR (slot y.t) F.res).run (look y.m) with
      |none=>simp [hres] at hr
      |some r'=>
       simp only [hres,Oh,N6,Oi] at hr
       obtain ⟨rfl,rfl⟩:=hr
       exact ⟨fi_walk c1 hl ((ih F.n m.length F.code _ _ _ hy).cL fun e' z ⟨h1,h2⟩=>by subst h1;subst h2;exact ⟨.inl rfl,hres,rfl⟩),c2⟩
     ·rename_i y hy
      cases hres:(resR (slot y.t) F.res).run (look y.m) with
      |none=>simp [hres] at hr
      |some r'=>
       simp only [hres,Oh,N6,Oi] at hr
       obtain ⟨rfl,rfl⟩:=hr
       exact ⟨fi_walk c1 hl ((ih F.n m.length F.code _ _ _ hy).cL fun e' z ⟨h1,h2⟩=>by subst h1;subst h2;exact ⟨.inr rfl,hres,rfl⟩),c2⟩
     ·simp at hr
    ·simp at hr
   ·simp at hr
  cases ac with
  |skip=>
   simp only [N6,Oi] at h
   obtain ⟨rfl,rfl⟩:=h
   exact EL.skip ⟨rfl,rfl⟩
  |ret=>
   simp only [N6,Oi] at h
   obtain ⟨rfl,rfl⟩:=h
   exact EL.ret ⟨rfl,rfl⟩
  |exit id=>
   simp only [N6,Oi] at h
   obtain ⟨rfl,rfl⟩:=h
   exact EL.exit ⟨rfl,rfl⟩
  |gB gg ps a b=>simp at h
  |bG os dep=>
   cases dep with
   |none=>
    simp only at h
    cases hr:runOps n pureC inC os x with
    |none=>simp [hr] at h
    |some y=>
     simp only [hr,Oh,N6,Oi] at h
     obtain ⟨rfl,rfl⟩:=h
     refine EL.bG ?_
     obtain ⟨z,h1,h3⟩:=sO hp hi os x y hr
     exact ⟨z,h1,rfl,h3⟩
   |some dep=>
    simp only at h
    split at h
    ·rename_i y rs hr
     split at h
     ·rename_i hid
      simp only [N6,Oi] at h
      obtain ⟨rfl,rfl⟩:=h
      refine EL.draw ?_
      obtain ⟨z,h1,h4⟩:=wU hp os x y [] rs hr hid
      exact ⟨z,h1,rfl,h4⟩
     ·simp at h
    ·simp at h
  |seq a b=>
   simp only at h
   refine EL.seq ?_
   split at h
   ·rename_i y hy
    refine (ih n k0 a x _ _ hy).cL ?_
    rintro e' z ⟨rfl,rfl⟩
    exact ih n k0 b z _ _ h
   ·rename_i hne
    refine (ih n k0 a x _ _ h).cL ?_
    rintro e' z ⟨rfl,rfl⟩
    cases e' with
    |normal=>exact absurd h (hne _)
    |exit id=>exact ⟨rfl,rfl⟩
    |ret=>exact ⟨rfl,rfl⟩
  |cond c a b=>
   simp only at h
   split at h
   ·rename_i hb
    exact EL.cond hb (fun _=>ih n k0 a x _ _ h) (fun hh=>by simp at hh)
   ·rename_i hb
    exact EL.cond hb (fun hh=>by simp at hh) (fun _=>ih n k0 b x _ _ h)
   ·simp at h
  |block id a=>
   simp only at h
   refine EL.block ?_
   split at h
   ·rename_i i y hy
    refine (ih n k0 a x _ _ hy).cL ?_
    rintro e' z ⟨rfl,rfl⟩
    simp only [Ex.nC]
    split at h
    ·rename_i aN
     simp only [N6,Oi] at h
     obtain ⟨rfl,rfl⟩:=h
     rw [N8 aN];exact ⟨rfl,rfl⟩
    ·rename_i aN
     simp only [N6,Oi] at h
     obtain ⟨rfl,rfl⟩:=h
     rw [N7 aN];exact ⟨rfl,rfl⟩
   ·rename_i hne
    refine (ih n k0 a x _ _ h).cL ?_
    rintro e' z ⟨rfl,rfl⟩
    cases e' with
    |normal=>exact ⟨rfl,rfl⟩
    |exit id=>exact absurd h (hne _ _)
    |ret=>exact ⟨rfl,rfl⟩
  |loop a=>
   refine EL.loop (fun j y=>j<=k+1/\eS T j n (.loop a) y=some (e,x')) (m:=k+1) ⟨Og _,jF⟩ ?_
   rintro j y ⟨hj,hy⟩
   cases j with
   |zero=>simp [eS] at hy
   |succ j=>
    have AQ:=AP j (by omega)
    simp only [eS] at hy
    split at hy
    ·rename_i z hz
     refine (AQ n k0 a y _ _ hz).cL ?_
     rintro e' z' ⟨rfl,rfl⟩
     exact ⟨j,by omega,by omega,hy⟩
    ·rename_i hne
     refine (AQ n k0 a y _ _ hy).cL ?_
     rintro e' z' ⟨rfl,rfl⟩
     cases e' with
     |normal=>exact absurd hy (hne _)
     |exit id=>exact ⟨rfl,rfl⟩
     |ret=>exact ⟨rfl,rfl⟩
theorem iB (hT:Table P T) (h:AM T k f as_=some r):Fn P f as_ r:=by
 unfold AM at h
 split at h
 ·rename_i F hF
  obtain ⟨c1,c2⟩:=hT f F hF
  split at h
  ·rename_i hl
   split at h
   ·rename_i y hy
    exact fn_walk c1 hl ((AN hT k F.n 0 F.code _ _ _ hy).cL fun e' z ⟨h1,h2⟩=>by subst h1;subst h2;exact ⟨.inl rfl,h⟩)
   ·rename_i y hy
    exact fn_walk c1 hl ((AN hT k F.n 0 F.code _ _ _ hy).cL fun e' z ⟨h1,h2⟩=>by subst h1;subst h2;exact ⟨.inr rfl,h⟩)
   ·simp at h
  ·simp at h
 ·simp at h
end
end Go.Proofs.Ytimomnfobfjggaa
