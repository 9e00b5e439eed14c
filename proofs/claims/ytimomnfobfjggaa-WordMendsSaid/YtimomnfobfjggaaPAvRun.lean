/- A function that is handed values without letters is run. No condition. -/
import Derived.Test.YtimomnfobfjggaaPAvStr
import Derived.OrdersIn
import Derived.OwnWalkIn
import Derived.RangeFuncOwn
import Derived.RangeFuncLeaves
set_option linter.unusedSimpArgs false
set_option linter.unusedVariables false
namespace Go.Proofs.Ytimomnfobfjggaa
variable {ao:AO} {val a r a':AV} {x:Arg} {ops:Array Oper} {vs args:Array Value} {c:Code} {R:Ending->World->Prop} {E E':Env} {Q:Exit->Act->World->Prop} {fn:Func} {f:FuncId} {ups:List (Nat×Option Bk)} {as_ bu:List AV} {ds:List Deferred} {acc:List Nat} {n k lo k' fresh kb i k0 base i0 D:Nat} {σ σ':Nat->AV} {g g':Nat->Option Bk} {J:Nat->Prop} {op:Oper} {xo:Operand} {ρ:Option Nat} {P:Program} {t ty e:TypeId} {v:Value} {w w':World}
open Go.RowKit
abbrev On:=@Bool.and_eq_true
abbrev Oq:=@cond_true
abbrev Ow:=@List.mem_singleton
abbrev Oy:=@Nat.eq_of_beq_eq_true
abbrev OC:=@List.mem_cons
abbrev OH:=@cond_false
abbrev OJ:=@Bool.not_eq_true'
abbrev ON:=@Nat.lt_of_lt_of_le
abbrev OO:=@Bool.or_eq_true
abbrev OZ:=@List.mem_range
abbrev O0:=@List.mem_append
abbrev O3:=@Nat.le_of_ble_eq_true
abbrev O4:=@List.mem_append_right
abbrev O5:=@List.contains_eq_mem
abbrev O6:=@decide_eq_false_iff_not
abbrev O7:=@List.mem_append_left
abbrev Ph:=@List.flatMap_cons
abbrev Pj:=@List.mem_cons_self
abbrev Pn:=@decide_eq_true_eq
abbrev PA:=@Nat.lt_irrefl
abbrev PB:=@List.contains_iff_mem
abbrev PC:=@World.putObj_heap_other
abbrev PJ:=@List.cons_append
abbrev PN:=@Array.getD_eq_getD_getElem?
abbrev PV:=@List.getElem?_eq_none
abbrev P5:=@Array.toList_inj
abbrev P6:=@List.any_eq_true
abbrev Qb:=@Oper.semAt_plain
abbrev Qg:=@List.map_congr_left
abbrev Qh:=@Array.size_replicate
abbrev Qj:=@Array.getElem?_append_right
section
variable {P:Program} {E:Env} {J:Nat->Prop} {base:Nat} {g:Nat->Option Bk} {aD:Operand->Value} {ρ:Arg->AV} {fresh:Nat}
theorem Am {cs ds:List AV}:∀{L M:List (Nat×LK)} {b:Bool},eqA cs ds (L++M)=some b->∃x y,eqA cs ds L=some x/\eqA cs ds M=some y/\b=(x&&y)
 |[],M,b,h=>⟨true,b,rfl,h,by simp⟩
 |(o,k)::L,M,b,h=>by
  simp only [PJ,eqA] at h ⊢
  split at h
  ·rename_i a c h1 h2
   split at h
   ·rename_i x y h3 h4
    obtain ⟨x',y',k1,k2,k3⟩:=Am h4
    simp only [Oj] at h
    refine ⟨x&&x',y', ?_,k2,by rw [<-h,k3,Bool.and_assoc]⟩
    simp [h1,h2,h3,k1]
   ·simp at h
  ·simp at h
def partOf (P:Program) (t:TypeId) (vs:Array Value) (off:Nat):Value->Prop:=fun x=>
 match P.underlying t with
 |some (.struct _)=>∃n,szOf P t=some n/\off+n<=vs.size/\x= .agg (vs.extract off (off+n))
 |_=>vs[off]? =some x
theorem Gk {ws:Array Value} {cs ds:List AV} (h1:RC E vs cs) (h2:RC E ws ds):∀(d:Nat) (t:TypeId) (off:Nat) (L:List (Nat×LK)) (b:Bool),j3 P d t off=some L->eqA cs ds L=some b->∀D,d<=D->∀x y,partOf P t vs off x->partOf P t ws off y->
  (Op.equalIn D t x y).run P E.w= .ok b E.w:=by
 intro d
 induction d with
 |zero=>intro t off L b hL;simp [j3] at hL
 |succ d ih=>
  intro t off L b hL hb D hD x y hx hy
  obtain ⟨D,rfl⟩:∃D',D=D'+1:=⟨D - 1,by omega⟩
  simp only [j3] at hL
  have leaf:∀k,L=[(off,k)]->vs[off]? =some x->ws[off]? =some y->∃a c,cs[off]? =some a/\ds[off]? =some c/\j2 k a c=some b/\aj E x a/\aj E y c:=by
   intro k hk hx hy
   subst hk
   simp only [eqA] at hb
   split at hb
   ·rename_i a c e1 e2
    split at hb
    ·rename_i u v e3 e4
     simp only [Oj] at hb e4
     subst e4
     rw [Bool.and_true] at hb
     subst hb
     exact ⟨a,c,e1,e2,e3,h1.2 _ _ _ hx e1,h2.2 _ _ _ hy e2⟩
    ·simp at hb
   ·simp at hb
  split at hL
  ·rename_i k hu
   simp only [Oj] at hL
   simp only [partOf,hu] at hx hy
   obtain ⟨a,c,e1,e2,e3,e4,e5⟩:=leaf .int hL.symm hx hy
   unfold j2 at e3
   split at e3<;>try (simp at e3;done)
   ·rename_i k1 m1 k2 m2 _
    split at e3
    ·rename_i hk;subst hk
     simp only [Oj] at e3;subst e3
     cases e4;cases e5
     exact run_equalIn_int _ D t k1 k m1 m2 hu
    ·simp at e3
   all_goals (rename_i hk;simp at hk)
  ·rename_i hu
   simp only [Oj] at hL
   simp only [partOf,hu] at hx hy
   obtain ⟨a,c,e1,e2,e3,e4,e5⟩:=leaf .str hL.symm hx hy
   unfold j2 at e3
   split at e3<;>try (simp at e3;done)
   all_goals try (rename_i hk;simp at hk;done)
   simp only [Oj] at e3;subst e3
   cases e4;cases e5
   rw [zQ]
   exact run_equalIn_string _ D t _ _ hu
  ·rename_i hu
   simp only [Oj] at hL
   simp only [partOf,hu] at hx hy
   obtain ⟨a,c,e1,e2,e3,e4,e5⟩:=leaf .bool hL.symm hx hy
   unfold j2 at e3
   split at e3<;>try (simp at e3;done)
   all_goals try (rename_i hk;simp at hk;done)
   simp only [Oj] at e3;subst e3
   cases e4;cases e5
   exact run_equalIn_bool' _ D t _ _ hu
  ·rename_i fs hu
   split at hL
   ·simp at hL
   ·rename_i de
    split at hL
    ·rename_i n hn
     simp only [partOf,hu] at hx hy
     obtain ⟨nx,qd,Gl,rfl⟩:=hx
     obtain ⟨ny,oD,Gm,rfl⟩:=hy
     obtain rfl:n=nx:=by rw [hn] at qd;simpa using qd
     obtain rfl:n=ny:=by rw [hn] at oD;simpa using oD
     have oE:P.fieldsOf t=fs:=by simp [Program.fieldsOf,hu]
     rw [run_equalIn_struct E.w D t _ _ (by rw [oE];exact hu) (by simpa using de),oE]
     clear oE de leaf hu
     generalize fs.toList=l at hL
     induction l generalizing L b with
     |nil=>
      simp only [si,Oj] at hL
      subst hL
      simp only [eqA,Oj] at hb
      subst hb
      rfl
     |cons f l Gn=>
      simp only [si] at hL
      split at hL
      ·simp at hL
      ·rename_i qe
       split at hL
       ·rename_i k hk
        split at hL
        ·rename_i hfit
         split at hL
         ·rename_i La Lb ea eb
          simp only [Oj] at hL
          subst hL
          obtain ⟨xa,xb,m1,m2,rfl⟩:=Am hb
          have hp:∀(us:Array Value),off+n<=us.size->∃p,(part f.type (us.extract off (off+n)) f.offset).run P E.w= .ok p E.w/\partOf P f.type us (off+f.offset) p:=by
           intro us NA
           have hsz:=l8 hk E.w
           cases hd:P.underlying f.type with
           |none=>
            exfalso
            cases d with
            |zero=>simp [j3] at ea
            |succ d=>simp [j3,hd] at ea
           |some desc=>
            have wa:(isAgg f.type).run P E.w= .ok false E.w->(∀qf,desc≠ .struct qf)->0<k\/True->f.offset<n->∃p,(part f.type (us.extract off (off+n)) f.offset).run P E.w= .ok p E.w/\partOf P f.type us (off+f.offset) p:=by
             intro dK hne _ hlt
             have hg:(us.extract off (off+n))[f.offset]? =us[off+f.offset]? :=by
              rw [Array.getElem?_extract]
              simp;omega
             have sE:off+f.offset<us.size:=by omega
             refine ⟨us[off+f.offset], ?_, ?_⟩
             ·simp [part,dK,hg,OE sE]
             ·simp only [partOf,hd]
              cases desc<;>first|exact OE sE|exact absurd rfl (hne _)
            cases desc with
            |struct qf=>
             refine ⟨_,by simp [part,isAgg,run_underlying hd,hsz];rfl, ?_⟩
             simp only [partOf,hd]
             refine ⟨k,hk,by omega, ?_⟩
             congr 1
             apply Array.ext_getElem?
             intro i
             simp only [Array.getElem?_extract]
             by_cases hi:i<k
             ·rw [Om (by omega),Om (by omega)]
              try rw [Om (by omega)]
              try (congr 1;omega)
             ·rw [Ol (by omega),Ol (by omega)]
            |int _=>exact wa (by simp [isAgg,run_underlying hd]) (fun qf h=>by cases h) (.inr trivial) hfit.2
            |string=>exact wa (by simp [isAgg,run_underlying hd]) (fun qf h=>by cases h) (.inr trivial) hfit.2
            |bool=>exact wa (by simp [isAgg,run_underlying hd]) (fun qf h=>by cases h) (.inr trivial) hfit.2
            |_=>
             exfalso
             cases d with
             |zero=>simp [j3] at ea
             |succ d=>simp [j3,hd] at ea
          obtain ⟨p1,r1,q1⟩:=hp vs Gl
          obtain ⟨p2,r2,q2⟩:=hp ws Gm
          have cr:=ih f.type (off+f.offset) La xa ea m1 D (by omega) p1 p2 q1 q2
          have Gp:=Gn Lb xb m2 eb
          simp only [Op.eqFields]
          rw [Om qe]
          simp only [O9,r1,r2,cr,PT,Sem.run_ite]
          cases xa
          ·simp
          ·simp [Gp]
         ·simp at hL
        ·simp at hL
       ·simp at hL
    ·simp at hL
  ·simp at hL
theorem An (hm:aE E J base g) {neg:Bool} {op:BinOp} (bW:op=if neg then .neq else .eql) {L:List (Nat×LK)} {fs:Array Field} (hu:P.underlying t=some (.struct fs)) (hn:szOf P t=some n) (hg:P.eqGuardType P.depth t=false) (hL:j3 P 8 t 0=some L) {vx vy:Value} {yo:Operand} {y:Arg} (hvx:aj E vx (ρ x)) (hvy:aj E vy (ρ y))
 (h:((AO.eqs neg n L x y).au fresh ρ).run g=some (.done val ups)):
  bN E J base g ((do pure (Next.value (<-(do eqGuard op t xo yo vx vy;binOp op t vx vy:Sem Value))):Sem Next).run P E.w) val ups:=by
 simp only [AO.au] at h
 split at h
 ·rename_i cs ds h1 h2
  split at h
  case isFalse=>simp [RM.run] at h
  rename_i hlen
  cases hb:eqA cs ds L with
  |none=>simp [hb,RM.opt,RM.run] at h
  |some b=>
   simp [hb,RM.opt,RM.run] at h
   obtain ⟨rfl,rfl⟩:=h
   have s1:szOf P t=some cs.length:=by rw [hlen.1];exact hn
   have s2:szOf P t=some ds.length:=by rw [hlen.2];exact hn
   rw [h1] at hvx;rw [h2] at hvy
   cases hvx with
   | @agg xs _ l1 r1=>cases hvy with
    | @agg ys _ l2 r2=>
     have hrun:=Gk (P:=P) (E:=E) ⟨l1,r1⟩ ⟨l2,r2⟩ 8 t 0 L b hL hb 10000 (by omega) (.agg xs) (.agg ys) (by
      simp only [partOf,hu];refine ⟨_,s1,by omega, ?_⟩;congr 1;rw [OF, <-l1];simp) (by
      simp only [partOf,hu];refine ⟨_,s2,by omega, ?_⟩;congr 1;rw [OF, <-l2];simp)
     cases neg with
     |false=>
      simp only [Pf,OU] at bW ⊢
      subst bW
      refine br hm (v:= .bool b) ?_ (.v rfl)
      simp [run_eqGuard_agg E.w _ t xo yo xs ys hg,run_eql_struct,hrun]
     |true=>
      simp only [Oo] at bW ⊢
      subst bW
      refine br hm (v:= .bool (!b)) ?_ (.v rfl)
      simp [run_eqGuard_agg E.w _ t xo yo xs ys hg,run_neq_struct,hrun]
 ·simp [RM.run] at h
theorem Gq (ha:dz E aD ρ) (hm:aE E J base g) (hu:P.underlying t=some .string) {x:Operand} {ax:Arg} (hx:cArg x=some ax) {lo hi:Option Operand} {j0 j1:Option Arg} (h1:eP lo=some j0) (h2:eP hi=some j1)
 (h:((AO.sls ax j0 j1).au fresh ρ).run g=some (.done val ups)):
  bN E J base g ((do pure (Next.value (<-Instr.sliceAt t (aD x) (lo.map aD) (hi.map aD) none)):Sem Next).run P E.w) val ups:=by
 have hv:=ha x ax hx
 simp only [AO.au] at h
 split at h
 ·rename_i nlo nhi s k1 k2 cH
  cases hb:bounds s.size nlo nhi with
  |none=>simp [hb,RM.opt,RM.run] at h
  |some b=>
   simp [hb,RM.opt,RM.run] at h
   obtain ⟨rfl,rfl⟩:=h
   rw [cH] at hv
   have hvx:aD x= .string s:=by
    obtain ⟨vv,b8⟩:∃vv,vv=aD x:=⟨_,rfl⟩
    rw [<-b8] at hv ⊢
    cases hv with|v=>rfl
   have fH:=m5 (P:=P) (E:=E) (isS:=false) (mx:=none) (amx:=none) (nmx:=none) ha (Ox s.size) h1 h2 rfl k1 k2 rfl (by simp) hb (fun m hm=>by simp at hm)
   simp only [Option.map_none,PM] at fH
   refine br hm (v:= .string (s.extract b.1 b.2)) ?_ (.v rfl)
   simp [hvx,Instr.sliceAt,Instr.slice,run_underlying hu,fH]
 ·simp [RM.run] at h
theorem Gr (hm:aE E J base g) (hu:P.underlying t=some .string) {vi:Value} {i:Arg} (hv:aj E v (ρ x)) (hvi:aj E vi (ρ i))
 (h:((AO.six x i).au fresh ρ).run g=some (.done val ups)):
  bN E J base g ((do pure (Next.value (<-Instr.index t v vi)):Sem Next).run P E.w) val ups:=by
 simp only [AO.au] at h
 split at h
 ·rename_i s n hx hn
  cases hb:s[n]? with
  |none=>simp [hb,RM.opt,RM.run] at h
  |some b=>
   simp [hb,RM.opt,RM.run] at h
   obtain ⟨rfl,rfl⟩:=h
   obtain ⟨k,rfl⟩:=sr hvi hn
   rw [hx] at hv
   cases hv with
   |v hp=>
    refine br hm (v:= .int .u8 b.toNat) ?_ (.v rfl)
    simp [Instr.index,asIntOf,run_underlying hu,hb]
 ·simp [RM.run] at h
theorem Gs {caps:Array Value} {c:Call} {x:Operand} (hc:c.callee= .value x) (hx:aD x= .func (.func f) #[] caps) (w:World):
  (do let d<-resolve aD c ty;invoke d.target d.args:Sem Next).run P w=(callFunc f (c.args.map aD++caps)).run P w:=by
 simp [resolve,hc,hx,Deferred.ofValue,invoke]
theorem Gt {first:Array Value} {c:Call} {x:Operand} (hc:c.callee= .value x) (hx:aD x= .func (.func f) first #[]) (w:World):
  (do let d<-resolve aD c ty;invoke d.target d.args:Sem Next).run P w=(callFunc f (first++c.args.map aD)).run P w:=by
 simp [resolve,hc,hx,Deferred.ofValue,invoke]
def bI (P:Program) (f:FuncId):Bool:=
 match P.funcs[f]? with
 |some fn=>fn.body.isSome&&fn.name != "runtime.NumGoroutine"
 |none=>false
theorem wc (h:bI P f=true) (args:Array Value) (w:World):(callFunc f args).run P w= .ok (.enter f args) w:=by
 unfold bI at h
 cases hf:P.funcs[f]? with
 |none=>simp [hf] at h
 |some fn=>
  simp only [hf,On,bne_iff_ne,ne_eq] at h
  have hb:fn.body.isNone=false:=by cases hbb:fn.body<;>simp [hbb] at h ⊢
  simp only [callFunc,O9,run_program,PT,hf,hb,Pf,OU]
  rw [Ol (by simpa using h.2)]
  rfl
theorem aj.iw {a:Value} (h:aj E v (.v a)):v=a:=by cases h;rfl
theorem Ao {x:Option Operand} {ax:Option Arg} (h:eP x=some ax):ax.isSome=x.isSome:=by
 cases x with
 |none=>simp [eP] at h;subst h;rfl
 |some o=>
  simp only [eP] at h
  cases hc:cArg o<;>simp [hc] at h
  subst h;rfl
theorem we (hn:∀x args,ao≠ .call x args):(ao.au fresh ρ).run g≠some (.call f as_):=by
 intro h
 have mh:∀{α:Type} (m:Option α) (k:α->Out),(∀a,∀f as_,k a≠ .call f as_)->∀f as_,RM.run g (RM.opt (m.map k))=some (.call f as_)->False:=by
  intro α m k hk f as_ hh
  cases m with
  |none=>simp [RM.opt,RM.run] at hh
  |some a=>simp [RM.opt,RM.run] at hh;exact hk a _ _ hh
 have Ap:∀{α β:Type} (m:Option α) (k:α->Option β) (k2:β->Out),(∀a,∀f as_,k2 a≠ .call f as_)->∀f as_,RM.run g (RM.opt (m.bind fun x=>(k x).map k2))=some (.call f as_)->False:=by
  intro α β m k k2 hk f as_ hh
  cases m with
  |none=>simp [RM.opt,RM.run] at hh
  |some a=>simp only [Pw] at hh;exact mh _ _ hk _ _ hh
 cases ao with
 |call x args=>exact hn x args rfl
 |app sz bytes s x=>
  simp only [AO.au] at h
  obtain ⟨ys,_,h⟩:=cC h
  split at h
  ·split at h<;>simp [RM.run] at h
  ·split at h<;>simp [RM.run] at h
  ·simp only [RM.run] at h
   split at h
   ·split at h
    ·simp [RM.run] at h
    ·split at h<;>simp [RM.run] at h
   ·simp at h
  ·simp [RM.run] at h
 |clr zs x=>
  simp only [AO.au] at h
  split at h
  ·simp [RM.run] at h
  ·simp only [RM.run] at h
   split at h
   ·split at h<;>simp [RM.run] at h
   ·simp at h
  ·simp [RM.run] at h
 |cpy sz x y=>
  simp only [AO.au] at h
  obtain ⟨ys,_,h⟩:=cC h
  split at h
  ·simp only [RM.run] at h
   split at h
   ·split at h<;>simp [RM.run] at h
   ·simp at h
  ·simp [RM.run] at h
 |slc sz x lo hi mx=>
  simp only [AO.au] at h
  split at h
  ·split at h
   ·split at h
    ·exact Ap _ _ _ (by simp) _ _ h
    ·simp [RM.run] at h
   ·split at h
    ·exact Ap _ _ _ (by simp) _ _ h
    ·simp [RM.run] at h
   ·generalize bounds 0 _ _=bb at h
    cases bb with
    |none=>simp [RM.opt,RM.run] at h
    |some b=>
     simp only [Pw] at h
     split at h<;>simp [RM.opt,RM.run] at h
   ·obtain ⟨B,_,h⟩:=iq h
    split at h
    ·split at h
     ·split at h
      ·simp [RM.run] at h
      ·simp only [RM.run] at h
       split at h
       ·split at h
        ·exact mh _ _ (by simp) _ _ h
        ·simp [RM.run] at h
       ·simp at h
      ·simp [RM.run] at h
     ·simp [RM.run] at h
    ·simp only [RM.run] at h
     split at h
     ·split at h
      ·generalize bounds _ _ _=bb at h
       cases bb with
       |none=>simp [RM.opt,RM.run] at h
       |some b=>
        simp only [Pw] at h
        split at h<;>simp [RM.opt,RM.run] at h
      ·simp [RM.run] at h
     ·simp at h
   ·simp [RM.run] at h
  ·simp [RM.run] at h
 |mup kd x k y=>
  simp only [AO.au] at h
  split at h
  ·simp only [RM.run] at h
   split at h
   ·split at h
    ·split at h<;>simp [RM.run] at h
    ·simp [RM.run] at h
   ·simp at h
  ·simp [RM.run] at h
 |mlk kd z x k=>
  simp only [AO.au] at h
  split at h
  ·simp only [RM.run] at h
   split at h
   ·split at h
    ·exact mh _ _ (by simp) _ _ h
    ·simp [RM.run] at h
   ·simp at h
  ·simp [RM.run] at h
 |b2s x=>
  simp only [AO.au] at h
  obtain ⟨ys,_,h⟩:=cC h
  exact mh _ _ (by simp) _ _ h
 |isn kd b x=>cases kd<;>simp only [AO.au] at h<;>split at h<;>first|(simp [RM.run] at h;done)|(obtain ⟨B,_,h⟩:=iq h;simp [RM.run] at h)
 |len b x=>cases b<;>simp only [AO.au] at h<;>split at h<;>first|(simp [RM.run] at h;done)|(obtain ⟨B,_,h⟩:=iq h;simp [RM.run] at h)
 |_=>
  simp only [AO.au] at h
  first
  |(simp [RM.run] at h;done)
  |exact mh _ _ (by simp) _ _ h
  |(split at h<;>first
    |(simp [RM.run] at h;done)
    |exact mh _ _ (by simp) _ _ h
    |(obtain ⟨B,_,h⟩:=iq h;simp [RM.run] at h;done)
    |(split at h<;>first
      |(simp [RM.run] at h;done)
      |exact mh _ _ (by simp) _ _ h
      |(obtain ⟨B,_,h⟩:=iq h;simp [RM.run] at h;done))
    |(simp only [RM.run] at h;split at h<;>first
      |(simp at h;done)
      |(split at h<;>first
        |(simp [RM.run] at h;done)
        |exact mh _ _ (by simp) _ _ h
        |(split at h<;>simp [RM.run] at h))))
theorem Aq {o:Oper} {args:List Arg} (hc:bM P o=some (.call x args)):∃c y,o.op= .call c/\c.callee= .value y/\cArg y=some x/\l6 c.args.toList=some args:=by
 obtain ⟨dst,op,type,pos,after,guard⟩:=o
 cases op with
 |call c=>
  simp only [bM] at hc
  split at hc
  ·rename_i y hy
   split at hc
   ·rename_i ax al h1 h2
    simp only [Oj,AO.call.injEq] at hc
    obtain ⟨rfl,rfl⟩:=hc
    exact ⟨c,y,rfl,hy,h1,h2⟩
   ·simp at hc
  all_goals exfalso
  all_goals (repeat' (first|(simp at hc;done)|split at hc))
 |makeFunc fn first caps=>
  exfalso
  cases fn<;>simp only [bM] at hc
  all_goals (repeat' (first|(simp at hc;done)|split at hc))
 |mapUpdate t m k y=>
  exfalso
  simp only [bM] at hc
  split at hc
  ·cases hk:keyT P _ with
   |none=>rw [hk] at hc;simp at hc
   |some kd=>rw [hk] at hc;simp at hc
  ·simp at hc
 |insert t m k y=>
  exfalso
  simp only [bM] at hc
  split at hc
  ·cases hk:keyT P _ with
   |none=>rw [hk] at hc;simp at hc
   |some kd=>rw [hk] at hc;simp at hc
  ·simp at hc
 |_=>
  exfalso
  simp only [bM] at hc
  all_goals (repeat' (first|(simp at hc;done)|split at hc))
theorem qg (ha:dz E aD ρ) {o:Oper} (hc:bM P o=some ao) (h:(ao.au fresh ρ).run g=some (.call f as_)) (hf:bI P f=true):
  ∃vs,(execOp aD o).run P E.w= .ok (.enter f vs) E.w/\RC E vs as_:=by
 by_cases hn:∀x args,ao≠ .call x args
 ·exact absurd h (we hn)
 ·obtain ⟨x,args,rfl⟩:∃x args,ao= .call x args:=by
   simp only [ne_eq] at hn
   cases ao<;>first|exact ⟨_,_,rfl⟩|(exfalso;exact hn (by simp))
  obtain ⟨c,y,h1,h2,h3,h4⟩:=Aq hc
  simp only [AO.au] at h
  split at h
  ·rename_i f' caps hx
   simp only [RM.run,Oj,Out.call.injEq] at h
   obtain ⟨rfl,rfl⟩:=h
   have hv:=ha y x h3
   rw [hx] at hv
   obtain ⟨vv,b8⟩:∃vv,vv=aD y:=⟨_,rfl⟩
   rw [<-b8] at hv
   cases hv with
   | @fn _ us _ hl hr=>
    obtain ⟨al,ar⟩:=ha.list h4
    refine ⟨c.args.map aD++us, ?_, ?_⟩
    ·unfold execOp
     simp only [h1]
     exact (Gs (caps:=us) h2 b8.symm E.w).trans (wc hf _ _)
    ·refine ⟨by simp [hl];rw [<-al];simp,fun j u a hu dA=> ?_⟩
     have bZ:(c.args.map aD).size=args.length:=by rw [<-al];simp
     by_cases hj:j<args.length
     ·rw [Qa (by omega)] at hu
      rw [Pg (by simpa using hj)] at dA
      exact ar j u a (by simpa using hu) dA
     ·rw [Qj (by omega),bZ] at hu
      rw [Px (by simpa using hj)] at dA
      simp only [OL] at dA
      exact hr _ u a hu dA
  ·rename_i f' caps hx
   simp only [RM.run,Oj,Out.call.injEq] at h
   obtain ⟨rfl,rfl⟩:=h
   have hv:=ha y x h3
   rw [hx] at hv
   obtain ⟨vv,b8⟩:∃vv,vv=aD y:=⟨_,rfl⟩
   rw [<-b8] at hv
   cases hv with
   | @bf _ us _ hl hr=>
    obtain ⟨al,ar⟩:=ha.list h4
    refine ⟨us++c.args.map aD, ?_, ?_⟩
    ·unfold execOp
     simp only [h1]
     exact (Gt (first:=us) h2 b8.symm E.w).trans (wc hf _ _)
    ·refine ⟨by simp [hl];rw [<-al];simp,fun j u a hu dA=> ?_⟩
     by_cases hj:j<us.size
     ·rw [Qa hj] at hu
      rw [Pg (by omega)] at dA
      exact hr _ u a hu dA
     ·rw [Qj (by omega)] at hu
      rw [Px (by omega), <-hl] at dA
      exact ar _ u a (by simpa using hu) dA
  ·simp [RM.run] at h
theorem wh {op:BinOp} {n:Bool} (h:negOf op=some n):op=if n then .neq else .eql:=by
 cases op<;>cases h<;>rfl
theorem Gu (hu:P.underlying t=some (.slice e)) (A:Option Addr) (n c:Nat) (w:World):(Op.equal t (.slice A n c) (.slice none 0 0)).run P w= .ok A.isNone w:=by
 show (Op.equalIn (9999+1) t _ _).run P w=_
 unfold Op.equalIn
 cases A<;>simp [run_underlying hu]
theorem Gv (hu:P.underlying t=some (.pointer e)) (A:Option Addr) (w:World):(Op.equal t (.pointer A) (.pointer none)).run P w= .ok A.isNone w:=by
 show (Op.equalIn (9999+1) t _ _).run P w=_
 unfold Op.equalIn
 cases A<;>simp [run_underlying hu]
theorem wj {a1 a2 a3} (hu:P.underlying t=some (.func a1 a2 a3)) (f:Go.Fn) (x y:Array Value) (w:World):(Op.equal t (.func f x y) .nilFunc).run P w= .ok false w:=by
 show (Op.equalIn (9999+1) t _ _).run P w=_
 unfold Op.equalIn
 simp [run_underlying hu]
theorem wm {a1 a2 a3} (hu:P.underlying t=some (.func a1 a2 a3)) (w:World):(Op.equal t .nilFunc .nilFunc).run P w= .ok true w:=by
 show (Op.equalIn (9999+1) t _ _).run P w=_
 unfold Op.equalIn
 simp [run_underlying hu]
theorem Gw (hm:aE E J base g) (oF:∀v,aD (.const v)=v) {op:BinOp} {y:Operand} {q:NK×Bool} (hn:vK P t op y=some q) (hv:aj E (aD xo) (ρ x))
  (h:((AO.isn q.1 q.2 x).au fresh ρ).run g=some (.done val ups)):bN E J base g ((do pure (Next.value (<-(do eqGuard op t xo y (aD xo) (aD y);binOp op t (aD xo) (aD y)))):Sem Next).run P E.w) val ups:=by
 obtain ⟨vx,hvx⟩:∃vx,vx=aD xo:=⟨_,rfl⟩
 rw [<-hvx] at hv ⊢
 unfold vK at hn
 split at hn
 ·-- NB
  rename_i e hu
  rw [oF]
  cases hng:negOf op with
  |none=>simp [hng] at hn
  |some neg=>
   simp only [hng,Oz,Oj] at hn
   subst hn
   have bW:=wh hng
   have run:∀A n c,vx= .slice A n c->(do pure (Next.value (<-(do eqGuard op t xo (.const (.slice none 0 0)) vx (.slice none 0 0);binOp op t vx (.slice none 0 0)))):Sem Next).run P E.w= .ok (.value (.bool (A.isNone !=neg))) E.w:=by
    rintro A n c rfl
    cases neg<;>simp only [Oo,Pf,OU] at bW<;>subst bW<;>cases A<;>simp [eqGuard,binOp,Gu hu]
   have As:∀A n c,vx= .slice (some A) n c->∀{v},v=AV.v (.bool neg)->bN E J base g ((do pure (Next.value (<-(do eqGuard op t xo (.const (.slice none 0 0)) vx (.slice none 0 0);binOp op t vx (.slice none 0 0)))):Sem Next).run P E.w) v []:=by
    intro A n c hA v hv
    subst hv
    refine br hm (v:= .bool neg) ?_ (.v rfl)
    rw [run _ _ _ hA];cases neg<;>rfl
   have qh:∀A n c,vx= .slice A n c->bN E J base g ((do pure (Next.value (<-(do eqGuard op t xo (.const (.slice none 0 0)) vx (.slice none 0 0);binOp op t vx (.slice none 0 0)))):Sem Next).run P E.w) .c8 []:=by
    intro A n c hA
    exact br hm (v:= .bool (A.isNone !=neg)) (run _ _ _ hA) .c8
   have aU:∀sz els,aj E vx (.aU sz els)->val=(if els.isEmpty=true then .c8 else .v (.bool neg))->ups=[]->bN E J base g ((do pure (Next.value (<-(do eqGuard op t xo (.const (.slice none 0 0)) vx (.slice none 0 0);binOp op t vx (.slice none 0 0)))):Sem Next).run P E.w) val ups:=by
    rintro sz els hr rfl rfl
    cases hr with
    |dG hc=>exact qh _ _ _ rfl
    |ep u hn hl hc=>
     by_cases he:els.isEmpty=true
     ·rw [Om he];exact qh _ _ _ rfl
     ·rw [Ol he];exact As _ _ _ rfl rfl
   simp only [AO.au] at h
   split at h
   ·rename_i sz els hx
    simp only [RM.run,Oj,Out.done.injEq] at h
    rw [hx] at hv
    exact aU sz els hv h.1.symm h.2.symm
   ·rename_i sz els hx
    simp only [RM.run,Oj,Out.done.injEq] at h
    rw [hx] at hv
    cases hv with
    |cp hv=>exact aU sz els hv h.1.symm h.2.symm
   ·rename_i hx
    simp only [RM.run,Oj,Out.done.injEq] at h
    obtain ⟨rfl,rfl⟩:=h
    rw [hx] at hv
    cases hv with
    |emp=>exact qh _ _ _ rfl
   ·rename_i id sz off n hx
    obtain ⟨B,hB,h⟩:=iq h
    simp only [RM.run,Oj,Out.done.injEq] at h
    obtain ⟨rfl,rfl⟩:=h
    rw [hx] at hv
    cases hv with
    |own hi hd hb hq hs da hl hc=>
     by_cases h0:n=0
     ·rw [Om h0];exact qh _ _ _ rfl
     ·rw [Ol h0];exact As _ _ _ rfl rfl
    |bQ hi hd hb=>rw [Om rfl];exact qh _ _ _ rfl
    |ck hi hd=>exact absurd hd (alive hm hB)
   ·simp [RM.run] at h
 ·-- NC
  rename_i a1 a2 a3 hu
  rw [oF]
  cases hng:negOf op with
  |none=>simp [hng] at hn
  |some neg=>
   simp only [hng,Oz,Oj] at hn
   subst hn
   have bW:=wh hng
   simp only [AO.au] at h
   split at h
   ·rename_i f cs hx
    simp only [RM.run,Oj,Out.done.injEq] at h
    obtain ⟨rfl,rfl⟩:=h
    rw [hx] at hv
    cases hv with
    |fn hl hh=>
     refine br hm (v:= .bool neg) ?_ (.v rfl)
     cases neg<;>simp only [Oo,Pf,OU] at bW<;>subst bW<;>simp [eqGuard,binOp,wj hu,wm hu]
   ·rename_i f cs hx
    simp only [RM.run,Oj,Out.done.injEq] at h
    obtain ⟨rfl,rfl⟩:=h
    rw [hx] at hv
    cases hv with
    |bf hl hh=>
     refine br hm (v:= .bool neg) ?_ (.v rfl)
     cases neg<;>simp only [Oo,Pf,OU] at bW<;>subst bW<;>simp [eqGuard,binOp,wj hu,wm hu]
   ·rename_i hx
    simp only [RM.run,Oj,Out.done.injEq] at h
    obtain ⟨rfl,rfl⟩:=h
    rw [hx] at hv
    have:=hv.iw
    subst this
    refine br hm (v:= .bool !neg) ?_ (.v rfl)
    cases neg<;>simp only [Oo,Pf,OU] at bW<;>subst bW<;>simp [eqGuard,binOp,wj hu,wm hu]
   ·simp [RM.run] at h
 ·-- ND
  rename_i e hu
  rw [oF]
  cases hng:negOf op with
  |none=>simp [hng] at hn
  |some neg=>
   simp only [hng,Oz,Oj] at hn
   subst hn
   have bW:=wh hng
   have run:∀A,vx= .pointer A->(do pure (Next.value (<-(do eqGuard op t xo (.const (.pointer none)) vx (.pointer none);binOp op t vx (.pointer none)))):Sem Next).run P E.w= .ok (.value (.bool (A.isNone !=neg))) E.w:=by
    rintro A rfl
    cases neg<;>simp only [Oo,Pf,OU] at bW<;>subst bW<;>cases A<;>simp [eqGuard,binOp,Gv hu]
   simp only [AO.au] at h
   split at h
   ·rename_i id sz i o hx
    obtain ⟨B,hB,h⟩:=iq h
    simp only [RM.run,Oj,Out.done.injEq] at h
    obtain ⟨rfl,rfl⟩:=h
    rw [hx] at hv
    cases hv with
    |ref hi hd hb hq=>
     refine br hm (v:= .bool neg) ?_ (.v rfl)
     rw [run _ rfl];cases neg<;>rfl
    |dP hi hd=>exact absurd hd (alive hm hB)
   ·rename_i cs o hx
    simp only [RM.run,Oj,Out.done.injEq] at h
    obtain ⟨rfl,rfl⟩:=h
    rw [hx] at hv
    cases hv with
    |pim u hb hq NF eF hr=>
     refine br hm (v:= .bool neg) ?_ (.v rfl)
     rw [run _ rfl];cases neg<;>rfl
   ·rename_i hx
    simp only [RM.run,Oj,Out.done.injEq] at h
    obtain ⟨rfl,rfl⟩:=h
    rw [hx] at hv
    have:=hv.iw
    refine br hm (v:= .bool !neg) ?_ (.v rfl)
    rw [run _ this];cases neg<;>rfl
   ·simp [RM.run] at h
 ·simp at hn
theorem Gx (ha:dz E aD ρ) (oF:∀v,aD (.const v)=v) (hm:aE E J base g) (hf:¬E.kn fresh) {o:Oper} (hc:bM P o=some ao) (h:(ao.au fresh ρ).run g=some (.done val ups)):
  bN E J base g ((execOp aD o).run P E.w) val ups:=by
 obtain ⟨dst,op,type,pos,after,guard⟩:=o
 have omap:∀{α β:Type} {m:Option α} {k:α->β} {y:β},m.map k=some y->∃x,m=some x/\k x=y:=by
  intro α β m k y h
  cases m with
  |none=>simp at h
  |some a=>exact ⟨a,rfl,by simpa using h⟩
 have mov:∀x ax,cArg x=some ax->((AO.mov ax).au fresh ρ).run g=some (.done val ups)->∀r,r= .ok (.value (aD x)) E.w->bN E J base g r val ups:=by
  intro x ax h1 h2 r hr
  simp only [AO.au,RM.run,Oj,Out.done.injEq] at h2
  obtain ⟨rfl,rfl⟩:=h2
  exact br hm hr (ha x ax h1)
 cases op with
 |move x=>simp only [bM] at hc;obtain ⟨ax,h1,rfl⟩:=omap hc;exact mov x ax h1 h _ rfl
 |assign x=>simp only [bM] at hc;obtain ⟨ax,h1,rfl⟩:=omap hc;exact mov x ax h1 h _ rfl
 |pick c a b=>
  simp only [bM] at hc
  split at hc
  ·rename_i ac aa ab h1 h2 h3
   simp only [Oj] at hc;subst hc
   simp only [AO.au] at h
   split at h
   ·rename_i t ht
    simp only [RM.run,Oj,Out.done.injEq] at h
    obtain ⟨rfl,rfl⟩:=h
    have hv:=ha c ac h1
    rw [ht] at hv
    obtain ⟨vv,b8⟩:∃vv,vv=aD c:=⟨_,rfl⟩
    rw [<-b8] at hv
    cases hv with
    |v hp=>
     refine br hm (v:=if t then aD a else aD b) ?_ ?_
     ·unfold execOp
      simp only [<-b8]
      cases t<;>simp [asBool]
     ·cases t
      ·exact ha b ab h3
      ·exact ha a aa h2
   ·simp [RM.run] at h
  ·simp at hc
 |alloc t=>
  simp only [bM] at hc
  split at hc
  ·rename_i zs h1
   split at hc
   ·rename_i hz0
    simp only [Oj] at hc;subst hc
    simp only [AO.au,RM.run,Oj,Out.done.injEq] at h
    obtain ⟨rfl,rfl⟩:=h
    exact E8 hm hf h1 hz0
   ·simp at hc
  ·simp at hc
 |panic x=>
  simp only [bM,Oj] at hc
  subst hc
  simp [AO.au,RM.run] at h
 |makeInterface t x=>
  simp only [bM,Oj] at hc
  subst hc
  simp [AO.au,RM.run] at h
 |makeMap t r=>
  simp only [bM] at hc
  split at hc
  ·rename_i kt et h1
   simp only [Oj] at hc;subst hc
   simp only [AO.au,RM.run,Oj,Out.done.injEq] at h
   obtain ⟨rfl,rfl⟩:=h
   exact Af hm hf h1 (.inl rfl)
  ·rename_i kt et k n h1
   simp only [Oj] at hc;subst hc
   simp only [AO.au,RM.run,Oj,Out.done.injEq] at h
   obtain ⟨rfl,rfl⟩:=h
   have:=Af (P:=P) (r:=some (aD (.const (.int k n)))) hm hf h1 (.inr ⟨k,n,by rw [oF]⟩)
   exact this
  ·simp at hc
 |mapUpdate t x k y=>
  simp only [bM] at hc
  split at hc
  ·rename_i kt et ax ak ay h1 h2 h3 h4
   obtain ⟨kd,h5,rfl⟩:=omap hc
   exact Ah hm h1 h5 (ha x ax h2) (ha k ak h3) (ha y ay h4) h
  ·simp at hc
 |insert t x k y=>
  simp only [bM] at hc
  split at hc
  ·rename_i kt et ax ak ay h1 h2 h3 h4
   obtain ⟨kd,h5,rfl⟩:=omap hc
   exact Ah hm h1 h5 (ha x ax h2) (ha k ak h3) (ha y ay h4) h
  ·simp at hc
 |lookup t x k ok=>
  simp only [bM] at hc
  split at hc
  ·rename_i kt et ax ak h1 h2 h3
   split at hc
   ·rename_i hok
    subst hok
    split at hc
    ·rename_i z kd h4 h5
     simp only [Oj] at hc;subst hc
     exact F5 hm h1 h5 h4 (ha x ax h2) (ha k ak h3) h
    ·simp at hc
   ·simp at hc
  ·simp at hc
 |box t x=>
  simp only [bM] at hc
  split at hc
  ·rename_i n ax h1 h2
   split at hc
   ·rename_i hz0
    simp only [Oj] at hc;subst hc
    simp only [AO.au] at h
    split at h
    ·rename_i bY
     simp only [RM.run,Oj,Out.done.injEq] at h
     obtain ⟨rfl,rfl⟩:=h
     exact E9 hm hf (ha x ax h2) bY.1 bY.2 hz0
    ·simp [RM.run] at h
   ·simp at hc
  ·simp at hc
 |build t parts=>
  simp only [bM] at hc
  split at hc
  ·rename_i zs fields h1 h2
   split at hc
   ·rename_i places h3
    obtain ⟨as_,h4,rfl⟩:=omap hc
    refine zS ha hm h1 h4 (fun z i hi hz ps=> ?_) h
    unfold placesOf at h3
    simp only [Program.built,hi,h2,hz,h3]
   ·simp at hc
  ·rename_i zs k e h1 h2
   split at hc
   ·rename_i sz h3
    obtain ⟨as_,h4,rfl⟩:=omap hc
    refine zS ha hm h1 h4 (fun z i hi hz ps=> ?_) h
    unfold szOf at h3
    obtain ⟨ie,Gy,hs⟩:=omap h3
    simp only [Program.built,hi,h2,hz,Gy,hs]
   ·simp at hc
  ·simp at hc
 |buildSlice t len parts=>
  simp only [bM] at hc
  split at hc
  ·rename_i e h1
   split at hc
   ·rename_i zs h2
    split at hc
    ·rename_i bY
     obtain ⟨as_,h3,rfl⟩:=omap hc
     exact Fm ha hm hf h1 h2 bY.1 bY.2 h3 h
    ·simp at hc
   ·simp at hc
  ·simp at hc
 |load t x=>
  simp only [bM] at hc
  split at hc
  ·rename_i m ax h1 h2
   simp only [Oj] at hc;subst hc
   exact Fa hm h1 (ha x ax h2) h
  ·simp at hc
 |store t x y=>
  simp only [bM] at hc
  split at hc
  ·rename_i n ax ay h1 h2 h3
   simp only [Oj] at hc;subst hc
   exact Fb hm h1 (ha x ax h2) (ha y ay h3) h
  ·simp at hc
 |nilCheck x=>simp only [bM] at hc;obtain ⟨ax,h1,rfl⟩:=omap hc;exact Fq hm (ha x ax h1) rfl rfl h
 |binOp op t x y yt=>
  simp only [bM] at hc
  split at hc
  ·rename_i q fj
   obtain ⟨ax,h1,rfl⟩:=omap hc
   exact Gw hm oF fj (ha x ax h1) h
  rename_i fj
  clear fj
  split at hc
  ·rename_i ax ay h1 h2
   split at hc
   ·simp only [Oj] at hc;subst hc
    simp only [AO.au] at h
    split at h
    ·rename_i a b hx hy
     cases hb:binA (boolT P t) op a b with
     |none=>simp [hb,RM.opt,RM.run] at h
     |some v=>
      simp [hb,RM.opt,RM.run] at h
      obtain ⟨rfl,rfl⟩:=h
      have hvx:=ha x ax h1
      have hvy:=ha y ay h2
      rw [hx] at hvx;rw [hy] at hvy
      have ex:aD x=a:=hvx.iw
      have ey:aD y=b:=hvy.iw
      obtain ⟨r1,r2⟩:=Fh (P:=P) (x:=x) (y:=y) hb E.w
      refine br hm (v:=v) ?_ (.v r2)
      show (do pure (Next.value (<-(do eqGuard op t x y (aD x) (aD y);binOp op t (aD x) (aD y)))):Sem Next).run P E.w=_
      rw [ex,ey,O9,r1]
      rfl
    ·simp [RM.run] at h
   ·split at hc
    ·simp at hc
    ·rename_i hg
     split at hc
     ·rename_i fs L n hu hL hn
      simp only [Oj] at hc;subst hc
      exact An hm (by simp) hu hn (by simpa using hg) hL (ha x ax h1) (ha y ay h2) h
     ·rename_i fs L n hu hL hn
      simp only [Oj] at hc;subst hc
      exact An hm (by simp) hu hn (by simpa using hg) hL (ha x ax h1) (ha y ay h2) h
     ·simp at hc
  ·simp at hc
 |unOp op t x=>
  simp only [bM] at hc;obtain ⟨ax,h1,rfl⟩:=omap hc
  simp only [AO.au] at h
  split at h
  ·rename_i a hx
   cases hb:unA op a with
   |none=>simp [hb,RM.opt,RM.run] at h
   |some v=>
    simp [hb,RM.opt,RM.run] at h
    obtain ⟨rfl,rfl⟩:=h
    have hvx:=ha x ax h1
    rw [hx] at hvx
    have ex:aD x=a:=hvx.iw
    obtain ⟨r1,r2⟩:=Fj (P:=P) hb E.w
    refine br hm (v:=v) ?_ (.v r2)
    show (do pure (Next.value (<-Op.unary op (aD x))):Sem Next).run P E.w=_
    rw [ex,O9,r1]
    rfl
  ·simp [RM.run] at h
 |convert s d x=>
  simp only [bM] at hc
  split at hc
  ·rename_i k1 k ax h1 h2 h3
   simp only [Oj] at hc;subst hc
   simp only [AO.au] at h
   split at h
   ·rename_i k0 n hx
    simp only [RM.run,Oj,Out.done.injEq] at h
    obtain ⟨rfl,rfl⟩:=h
    have hvx:=ha x ax h3
    rw [hx] at hvx
    have ex:aD x= .int k0 n:=hvx.iw
    refine br hm (v:= .int k (k.wrap n)) ?_ (.v rfl)
    show (do pure (Next.value (<-convert s d (aD x))):Sem Next).run P E.w=_
    rw [ex]
    simp [convert,run_underlying h1,run_underlying h2,Conv.intToInt]
   ·simp [RM.run] at h
  ·rename_i e ax h1 h2 h3
   split at hc
   ·rename_i h4
    simp only [Oj] at hc;subst hc
    exact Gi hm h1 h2 h4 (ha x ax h3) h
   ·simp at hc
  ·rename_i e ax h1 h2 h3
   split at hc
   ·rename_i h4
    simp only [Oj] at hc;subst hc
    exact Gj hm hf h1 h2 h4 (ha x ax h3) h
   ·simp at hc
  ·simp at hc
 |fieldAddr s x f=>
  simp only [bM] at hc
  split at hc
  ·rename_i fields ax h1 h2
   split at hc
   ·rename_i fd h3
    split at hc
    ·simp at hc
    ·rename_i bY
     simp only [Oj] at hc;subst hc
     cases hz:szOf P fd.type with
     |none=>simp [hz] at bY
     |some n=>exact Fs hm (ha x ax h2) h1 h3 hz (by rw [hz] at bY;simpa using bY) h
   ·simp at hc
  ·simp at hc
 |field s x f=>
  simp only [bM] at hc
  split at hc
  ·rename_i fields ax h1 h2
   split at hc
   ·rename_i fd h3
    obtain ⟨m,h4,rfl⟩:=omap hc
    exact Ft hm (ha x ax h2) h1 h3 h4 h
   ·simp at hc
  ·simp at hc
 |indexAddr t x i=>
  simp only [bM] at hc
  split at hc
  ·rename_i e ax ai h1 h2 h3
   split at hc
   ·rename_i sz h4
    split at hc
    ·rename_i c9
     simp only [Oj] at hc;subst hc
     exact Fx hm (ha x ax h2) (ha i ai h3) h1 h4 c9 h
    ·simp at hc
   ·simp at hc
  ·rename_i len e ax ai h1 h2 h3
   split at hc
   ·rename_i sz h4
    split at hc
    ·rename_i c9
     simp only [Oj] at hc;subst hc
     exact Fu hm (ha x ax h2) (ha i ai h3) h1 h4 h
    ·simp at hc
   ·simp at hc
  ·simp at hc
 |index t x i=>
  simp only [bM] at hc
  split at hc
  ·rename_i ax ai h1 h2 h3
   simp only [Oj] at hc;subst hc
   exact Gr hm h1 (ha x ax h2) (ha i ai h3) h
  ·rename_i len e ax ai h1 h2 h3
   split at hc
   ·rename_i sz m h4 h5
    simp only [Oj] at hc;subst hc
    exact Fw hm (ha x ax h2) (ha i ai h3) h1 h4 h5 h
   ·simp at hc
  ·simp at hc
 |extract x i=>simp only [bM] at hc;obtain ⟨ax,h1,rfl⟩:=omap hc;exact Fy hm (ha x ax h1) h
 |makeSlice t l c=>
  simp only [bM] at hc
  split at hc
  ·rename_i e al ac h1 h2 h3
   split at hc
   ·rename_i zs i h4 h5
    split at hc
    ·rename_i bY
     simp only [Oj] at hc;subst hc
     exact FA hm hf h1 h4 h5 bY.1 bY.2 (ha l al h2) (ha c ac h3) h
    ·simp at hc
   ·simp at hc
  ·simp at hc
 |slice t x lo hi mx=>
  simp only [bM] at hc
  split at hc
  ·rename_i e ax j0 j1 amx h1 h2 h3 h4 h5
   split at hc
   ·rename_i sz h6
    split at hc
    ·rename_i bY
     simp only [Oj] at hc;subst hc
     exact FD ha hm h1 h6 h2 h3 h4 h5 (fun hh=>by rw [<-Ao h4];exact bY.2 (by rw [Ao h5];exact hh)) h
    ·simp at hc
   ·simp at hc
  ·rename_i ax j0 j1 h1 h2 h3 h4 h5
   simp only [Oj] at hc;subst hc
   have gS:mx=none:=by cases mx<;>simp [eP] at h5 ⊢
   subst gS
   exact Gq ha hm h1 h2 h3 h4 h
  ·simp at hc
 |makeFunc fn first caps=>
  cases fn with
  |func f=>
   simp only [bM] at hc
   split at hc
   ·rename_i Gz
    obtain ⟨l,h1,rfl⟩:=omap hc
    simp only [AO.au,RM.run,Oj,Out.done.injEq] at h
    obtain ⟨rfl,rfl⟩:=h
    obtain ⟨e1,e2⟩:=ha.list h1
    have oC:first= #[]:=by simpa using Gz
    subst oC
    refine br hm (v:= .func (.func f) #[] (caps.map aD)) (by simp [execOp,Instr.makeFunc]) (.fn (by simp;rw [<-e1];simp) (fun i v c hv hc=>e2 i v c (by simpa using hv) hc))
   ·split at hc
    ·rename_i _ sF
     obtain ⟨l,h1,rfl⟩:=omap hc
     simp only [AO.au,RM.run,Oj,Out.done.injEq] at h
     obtain ⟨rfl,rfl⟩:=h
     obtain ⟨e1,e2⟩:=ha.list h1
     have oC:caps= #[]:=by simpa using sF
     subst oC
     refine br hm (v:= .func (.func f) (first.map aD) #[]) (by simp [execOp,Instr.makeFunc]) (.bf (by simp;rw [<-e1];simp) (fun i v c hv hc=>e2 i v c (by simpa using hv) hc))
    ·simp at hc
  |_=>simp [bM] at hc
 |call c=>
  by_cases sG:∃x args,ao= .call x args
  ·obtain ⟨x,args,rfl⟩:=sG
   simp only [AO.au] at h
   split at h<;>simp [RM.run] at h
  ·simp only [bM] at hc
   split at hc
   ·split at hc
    ·simp only [Oj] at hc;exact absurd ⟨_,_,hc.symm⟩ sG
    ·simp at hc
   all_goals rename_i eA
   all_goals try (simp at hc;done)
   ·split at hc
    ·rename_i x t gv na
     have j9:c.args= #[x]:=by apply P5.1;rw [gv]
     have nc:∀b,c.callee= .builtin b->b= .len->(execOp aD ⟨dst, .call c,type,pos,after,guard⟩).run P E.w=(do pure (Next.value (<-Builtin.len_ c.argTypes type #[aD x])):Sem Next).run P E.w:=by
      intro b hb hl;subst hl
      simp [execOp,resolve,hb,invoke,builtin,j9]
     have GA:∀v ty,(Builtin.len_ c.argTypes ty #[v])=Builtin.len_ #[t] ty #[v]:=by
      intro v ty
      simp [Builtin.len_,na]
     rw [nc _ eA rfl,GA]
     split at hc
     ·rename_i e hu
      obtain ⟨ax,h1,rfl⟩:=omap hc
      exact zV hm (by simp;exact ⟨e,hu⟩) (ha x ax h1) type h
     ·rename_i hu
      obtain ⟨ax,h1,rfl⟩:=omap hc
      exact zV hm (by simp;exact hu) (ha x ax h1) type h
     ·simp at hc
    ·simp at hc
   ·split at hc
    ·rename_i s x t u gv na
     split at hc
     ·rename_i GB
      subst GB
      split at hc
      ·rename_i e as_ ax h1 h2 h3
       split at hc
       ·rename_i zs i h4 h5
        split at hc
        ·rename_i bY
         simp only [Oj] at hc;subst hc
         have j9:c.args= #[s,x]:=by apply P5.1;rw [gv]
         have GC:c.argTypes= #[t,t]:=by apply P5.1;rw [na]
         have:=FW (P:=P) (ty:=type) hm hf h1 h4 h5 bY.1 bY.2 (ha s as_ h2) (ha x ax h3) h
         have nc:(execOp aD ⟨dst, .call c,type,pos,after,guard⟩).run P E.w=(do pure (Next.value (<-Builtin.append_ #[t,t] type #[aD s,aD x])):Sem Next).run P E.w:=by
          simp [execOp,resolve,eA,invoke,builtin,j9,GC]
         rw [nc];exact this
        ·simp at hc
       ·simp at hc
      ·simp at hc
     ·simp at hc
    ·simp at hc
   ·split at hc
    ·rename_i x t gv na
     split at hc
     ·rename_i e ax h1 h2
      split at hc
      ·rename_i zs h4
       split at hc
       ·rename_i bY
        simp only [Oj] at hc;subst hc
        have j9:c.args= #[x]:=by apply P5.1;rw [gv]
        have:=FT (P:=P) (ty:=type) hm h1 h4 bY (ha x ax h2) h
        have nc:(execOp aD ⟨dst, .call c,type,pos,after,guard⟩).run P E.w=(do pure (Next.value (<-Builtin.clear_ #[t] type #[aD x])):Sem Next).run P E.w:=by
         simp [execOp,resolve,eA,invoke,builtin,j9,Builtin.clear_,na]
        rw [nc];exact this
       ·simp at hc
      ·simp at hc
     ·simp at hc
    ·simp at hc
   ·split at hc
    ·rename_i x y t gv na
     split at hc
     ·rename_i e ax ay h1 h2 h3
      split at hc
      ·rename_i sz h4
       split at hc
       ·rename_i bY
        simp only [Oj] at hc;subst hc
        have j9:c.args= #[x,y]:=by apply P5.1;rw [gv]
        have:=FU (P:=P) (ty:=type) (u:=t) hm h1 h4 bY (ha x ax h2) (ha y ay h3) h c.argTypes na
        have nc:(execOp aD ⟨dst, .call c,type,pos,after,guard⟩).run P E.w=(do pure (Next.value (<-Builtin.copy_ c.argTypes type #[aD x,aD y])):Sem Next).run P E.w:=by
         simp [execOp,resolve,eA,invoke,builtin,j9]
        rw [nc];exact this
       ·simp at hc
      ·simp at hc
     ·simp at hc
    ·simp at hc
   all_goals
    split at hc
    ·rename_i x y gv
     split at hc
     ·rename_i ax ay h1 h2
      simp only [Oj] at hc;subst hc
      have j9:c.args= #[x,y]:=by apply P5.1;rw [gv]
      simp only [AO.au] at h
      split at h
      ·rename_i a b hx hy
       obtain ⟨mx,mb,gS,zW,h⟩:∃mx mb,(mx=false/\c.callee= .builtin .min\/mx=true/\c.callee= .builtin .max)/\pO mx a b=mb/\RM.run g (RM.opt (Option.map (fun v=>Out.done (AV.v v) []) mb))=some (Out.done val ups):=by
        first
        |exact ⟨false,_, .inl ⟨rfl,eA⟩,rfl,h⟩
        |exact ⟨true,_, .inr ⟨rfl,eA⟩,rfl,h⟩
       cases mb with
       |none=>simp [RM.opt,RM.run] at h
       |some v=>
        simp [RM.opt,RM.run] at h
        obtain ⟨rfl,rfl⟩:=h
        have hvx:=ha x ax h1
        have hvy:=ha y ay h2
        rw [hx] at hvx;rw [hy] at hvy
        have ex:aD x=a:=hvx.iw
        have ey:aD y=b:=hvy.iw
        obtain ⟨r1,r2,r3⟩:=Fk (P:=P) zW E.w
        refine br hm (v:=v) ?_ (.v r1)
        rcases gS with ⟨gS,eA⟩|⟨gS,eA⟩
        ·simp [execOp,resolve,eA,invoke,builtin,j9,ex,ey,r2 gS]
        ·simp [execOp,resolve,eA,invoke,builtin,j9,ex,ey,r3 gS]
      ·simp [RM.run] at h
     ·simp at hc
    ·simp at hc
 |_=>simp [bM] at hc
end
open Go.RowKit
def AV.pu1:AV->Bool
 | .v _| .emp| .aU _ _| .cp _ _| .pim _ _| .dead=>true
 | .fn _ caps=>caps.isEmpty
 |_=>false
theorem AV.qi (h:a.pu1=true):Pu a:=by
 cases a<;>simp [AV.pu1] at h<;>try constructor
 subst h;intro c hc;simp at hc
def snap1:AV->RM AV
 | .own id sz off n=>(content sz (.own id sz off n)).bind fun els=>if (els.all fun cs=>cs.all AV.pu1)=true then .ret (.aU sz els) else .fail
 | .ref id sz i o=> .rd id fun B=>if B.sz=sz then (match B.els[i]? with
  |some cs=>if cs.all AV.pu1=true then .ret (.pim cs o) else .fail
  |none=> .fail) else .fail
 |a=>if a.pu1=true then .ret a else .fail
def gw:List AV->RM (List AV)
 |[]=> .ret []
 |a::r=>(snap1 a).bind fun x=>(gw r).bind fun l=> .ret (x::l)
def dw:AV->RM AV
 | .agg cs=>(gw cs).bind fun l=> .ret (.agg l)
 | .fn f cs=>(gw cs).bind fun l=> .ret (.fn f l)
 | .bf f cs=>(gw cs).bind fun l=> .ret (.bf f l)
 |a=>snap1 a
def cP:List AV->RM (List AV)
 |[]=> .ret []
 |a::r=>(dw a).bind fun x=>(cP r).bind fun l=> .ret (x::l)
def AV.bS:AV->List Nat
 | .own id _ _ _=>[id]
 | .ref id _ _ _=>[id]
 |_=>[]
def AV.ids:AV->List Nat
 | .agg cs=>cs.flatMap AV.bS
 | .fn _ cs=>cs.flatMap AV.bS
 | .bf _ cs=>cs.flatMap AV.bS
 |a=>a.bS
def AV.dg:AV->Bool
 | .v _| .emp| .dead=>true
 | .fn _ caps=>caps.isEmpty
 |_=>false
def AV.dC:AV->Bool
 | .agg cs=>cs.all AV.dg
 |a=>a.dg
def AV.nob:AV->Bool
 | .aK vs=>vs.all AV.dC
 |a=>a.dC
def E0 (w:World) (I:Nat->Prop):Env:=⟨w,fun _=>False,fun _=>none,fun _=>False,I,fun _=>0,fun _=>False,fun _=>False⟩
theorem ec.sub {I:Nat->Prop} (h:ec E) (hw:E.w=w) (hI:∀b,E.I b->I b):ec (E0 w I):=trivial
def Fn (P:Program) (f:FuncId) (as_:List AV) (r:AV):Prop:=
 ∀(w:World) (J:Nat->Prop) (vs:Array Value),(∀b,J b->b<w.heap.size)->ec (E0 w J)->RC (E0 w J) vs as_->
  Calls P f vs w fun e w'=>∃v,e= .returned v/\aj (E0 w' fun b=>J b\/(w.heap.size<=b/\b<w'.heap.size)) v r/\Below w.heap.size w w'
section
variable {P:Program} {E:Env} {J:Nat->Prop} {base:Nat} {g:Nat->Option Bk}
theorem aj.dg {E':Env} {v:Value} {a:AV} (h:aj E v a) (hn:a.dg=true):aj E' v a:=by
 cases h<;>simp [AV.dg] at hn
 ·exact .v (by assumption)
 ·exact .emp
 ·rename_i f vs cs hl h
  subst hn
  exact .fn hl (fun i v c hv hc=>by simp at hc)
 ·exact .dead
theorem aj.dC {E':Env} {v:Value} {a:AV} (h:aj E v a) (hn:a.dC=true):aj E' v a:=by
 cases a with
 |agg cs=>cases h with
  |agg hl h=>
   simp only [AV.dC,Ot] at hn
   exact .agg hl fun i v c hv hc=>(h i v c hv hc).dg (hn c (OT hc))
 |_=>exact h.dg (by simpa [AV.dC] using hn)
theorem aj.nob {E':Env} {v:Value} {a:AV} (h:aj E v a) (hn:a.nob=true):aj E' v a:=by
 cases a with
 |aK cs=>cases h with
  |aK hl h=>
   simp only [AV.nob,Ot] at hn
   exact .aK hl fun i v c hv hc=>(h i v c hv hc).dC (hn c (OT hc))
 |_=>exact h.dC (by simpa [AV.nob] using hn)
def Handed (E:Env) (g:Nat->Option Bk) (ids:List Nat) (b:Nat):Prop:=E.I b\/∃id B,id∈ids/\g id=some B/\E.loc id=some b
theorem wq (hm:aE E J base g) (I:Nat->Prop) (h:aj E v a) (hs:(snap1 a).run g=some a') (hI:∀b,Handed E g a.bS b->I b):aj (E0 E.w I) v a':=by
 have pure:∀{v:Value} {a:AV},(∀b,E.I b->I b)->aj E v a->Pu a->aj (E0 E.w I) v a:=fun hI h hp=>h.pure (E':=E0 E.w I) (fun b hb=>⟨hI b hb,fun _=>rfl⟩) hp
 have qj:∀b,E.I b->I b:=fun b hb=>hI b (.inl hb)
 have other:(if a.pu1=true then RM.ret a else RM.fail).run g=some a'->aj (E0 E.w I) v a':=by
  intro hs
  split at hs
  ·rename_i hp
   simp only [RM.run,Oj] at hs;subst hs
   exact pure qj h (AV.qi hp)
  ·simp [RM.run] at hs
 cases a with
 |own id sz off n=>
  simp only [snap1] at hs
  obtain ⟨els,h1,h2⟩:=cC hs
  split at h2
  ·rename_i bJ
   simp only [RM.run,Oj] at h2;subst h2
   simp only [content,RM.run] at h1
   cases hB:g id with
   |none=>simp [hB] at h1
   |some B=>
    simp only [hB] at h1
    split at h1
    ·rename_i hc
     obtain ⟨-, gW,hfit⟩:=hc
     simp only [RM.run,Oj] at h1;subst h1
     have hlen:((B.els.drop off).take n).length=n:=by simp;omega
     cases h with
     |ck hi hd=>exact absurd hd (alive hm hB)
     |bQ hi hd hb=>
      have:(B.els.drop 0).take 0=[]:=by simp
      rw [this]
      exact .dG (by omega)
     | @own _ _ _ _ c b q mm t' hi hd hb hq iO da hl hcc=>
      rcases P3 n with h0|h0
      ·subst h0
       rw [List.take_zero]
       exact .dG hcc
      ·have ir:q=off*sz:=by
        rcases hq with hq|hq
        ·exact hq
        ·omega
       subst ir
       have bX:=hm.at_ id B hB
       rw [hb] at bX
       obtain ⟨kM,arr,t,ha,kP,dB⟩:=bX.cells (by first|assumption|omega)
       rw [gW] at dB
       have get:∀(i:Nat) cs (j:Nat) x,((B.els.drop off).take n)[i]? =some cs->cs[j]? =some x->∃u,E.w.cell? ⟨b,off*sz+i*sz+j,none⟩=some u/\u.oneCell'=true/\aj E u x:=by
        intro i cs j x hi hj
        rw [Ps] at hi
        split at hi
        ·rw [Pv] at hi
         obtain ⟨u,k1,k2,k3⟩:=(dB _ cs hi).2 j x hj
         refine ⟨u, ?_,k2,k3⟩
         rw [cell_of_row _ _ _ _ _ _ ha]
         rw [OQ] at k1
         exact k1
        ·simp at hi
       refine .ep (fun i j=>(E.w.cell? ⟨b,off*sz+i*sz+j,none⟩).getD undef) hlen.symm hl hcc (hI b (.inr ⟨id,B,by simp [AV.bS],hB,hb⟩)) (fun i cs hi=> ?_) (fun i cs j x hi hj=> ?_) (fun i cs j x hi hj=> ?_) (fun i cs j x hi hj=> ?_)
       ·rw [Ps] at hi
        split at hi
        ·rw [Pv] at hi
         exact (dB _ cs hi).1
        ·simp at hi
       ·obtain ⟨u,k1,_,_⟩:=get i cs j x hi hj
        show E.w.cell? _=_
        rw [k1];rfl
       all_goals
        obtain ⟨u,k1,k2,k3⟩:=get i cs j x hi hj
        have hp:Pu x:=by
         simp only [Ot] at bJ
         exact AV.qi (bJ cs (OT hi) x (OT hj))
        simp only [k1,Pm]
        first
        |exact ⟨k2,hp⟩
        |exact pure qj k3 hp
    ·simp [RM.run] at h1
  ·simp [RM.run] at h2
 |ref id sz i o=>
  simp only [snap1,RM.run] at hs
  cases hB:g id with
  |none=>simp [hB] at hs
  |some B=>
   simp only [hB] at hs
   split at hs
   ·rename_i hsz
    split at hs
    ·rename_i cs hcs
     split at hs
     ·rename_i bJ
      simp only [RM.run,Oj] at hs;subst hs
      cases h with
      |dP hi hd=>exact absurd hd (alive hm hB)
      | @ref _ _ _ _ b q hi hd hb hq=>
       have bX:=hm.at_ id B hB
       rw [hb] at bX
       obtain ⟨kM,arr,t,ha,kP,dB⟩:=bX.cells (by first|assumption|omega)
       rw [hsz] at dB
       have get:∀(j:Nat) x,cs[j]? =some x->∃u,E.w.cell? ⟨b,i*sz+j,none⟩=some u/\aj E u x:=by
        intro j x hj
        obtain ⟨u,k1,k2,k3⟩:=(dB i cs hcs).2 j x hj
        exact ⟨u,by rw [cell_of_row _ _ _ _ _ _ ha];exact k1,k3⟩
       have hp:∀(j:Nat) x,cs[j]? =some x->Pu x:=fun j x hj=>by
        simp only [Ot] at bJ
        exact AV.qi (bJ x (OT hj))
       refine .pim (off:=i*sz) (fun j=>(E.w.cell? ⟨b,i*sz+j,none⟩).getD undef) (hI b (.inr ⟨id,B,by simp [AV.bS],hB,hb⟩)) hq (fun j x hj=> ?_) hp (fun j x hj=> ?_)
       ·obtain ⟨u,k1,_⟩:=get j x hj
        show E.w.cell? _=_
        rw [k1];rfl
       ·obtain ⟨u,k1,k3⟩:=get j x hj
        simp only [k1,Pm]
        exact pure qj k3 (hp j x hj)
     ·simp [RM.run] at hs
    ·simp [RM.run] at hs
   ·simp [RM.run] at hs
 |_=>exact other hs
theorem sH (hm:aE E J base g) (I:Nat->Prop):∀{as_ bu:List AV},(gw as_).run g=some bu->(∀b,Handed E g (as_.flatMap AV.bS) b->I b)->bu.length=as_.length/\∀(i:Nat) v c c',aj E v c->as_[i]? =some c->bu[i]? =some c'->aj (E0 E.w I) v c'
 |[],bu,h,_=>by
  simp only [gw,RM.run,Oj] at h;subst h
  exact ⟨rfl,fun i v c c' _ hc=>by simp at hc⟩
 |a::r,bu,h,hI=>by
  simp only [gw] at h
  obtain ⟨x,h1,h⟩:=cC h
  obtain ⟨l,h2,h⟩:=cC h
  simp only [RM.run,Oj] at h;subst h
  have nd:∀b,Handed E g a.bS b->I b:=fun b hb=>hI b (hb.imp id fun ⟨id,B,hi,hh⟩=>⟨id,B,by simp [hi],hh⟩)
  have ka:∀b,Handed E g (r.flatMap AV.bS) b->I b:=fun b hb=>hI b (hb.imp id fun ⟨id,B,hi,hh⟩=>⟨id,B,by simp only [Ph,O0];exact .inr hi,hh⟩)
  have ih:=sH hm I h2 ka
  refine ⟨by simp [ih.1],fun i v c c' hr hc dA=> ?_⟩
  cases i with
  |zero=>simp at hc dA;subst hc;subst dA;exact wq hm I hr h1 nd
  |succ i=>simp at hc dA;exact ih.2 i v c c' hr hc dA
theorem wu (hm:aE E J base g) (I:Nat->Prop) (h:aj E v a) (hs:(dw a).run g=some a') (hI:∀b,Handed E g a.ids b->I b):aj (E0 E.w I) v a':=by
 cases a with
 |agg cs=>
  simp only [dw] at hs
  obtain ⟨l,h1,h2⟩:=cC hs
  simp only [RM.run,Oj] at h2;subst h2
  obtain ⟨k1,k2⟩:=sH hm I h1 hI
  cases h with
  |agg hl h=>
   refine .agg (by rw [k1];exact hl) fun i v c hv hc=> ?_
   have hi:i<cs.length:=by rw [<-k1];exact (Ov.1 hc).1
   exact k2 i v cs[i] c (h i v _ hv (OG hi)) (OG hi) hc
 |fn f cs=>
  simp only [dw] at hs
  obtain ⟨l,h1,h2⟩:=cC hs
  simp only [RM.run,Oj] at h2;subst h2
  obtain ⟨k1,k2⟩:=sH hm I h1 hI
  cases h with
  |fn hl h=>
   refine .fn (by rw [k1];exact hl) fun i v c hv hc=> ?_
   have hi:i<cs.length:=by rw [<-k1];exact (Ov.1 hc).1
   exact k2 i v cs[i] c (h i v _ hv (OG hi)) (OG hi) hc
 |bf f cs=>
  simp only [dw] at hs
  obtain ⟨l,h1,h2⟩:=cC hs
  simp only [RM.run,Oj] at h2;subst h2
  obtain ⟨k1,k2⟩:=sH hm I h1 hI
  cases h with
  |bf hl h=>
   refine .bf (by rw [k1];exact hl) fun i v c hv hc=> ?_
   have hi:i<cs.length:=by rw [<-k1];exact (Ov.1 hc).1
   exact k2 i v cs[i] c (h i v _ hv (OG hi)) (OG hi) hc
 |_=>exact wq hm I h hs hI
theorem ql (hm:aE E J base g) (I:Nat->Prop):∀{as_ bu:List AV},(cP as_).run g=some bu->(∀b,Handed E g (as_.flatMap AV.ids) b->I b)->bu.length=as_.length/\∀(i:Nat) v c c',aj E v c->as_[i]? =some c->bu[i]? =some c'->aj (E0 E.w I) v c'
 |[],bu,h,_=>by
  simp only [cP,RM.run,Oj] at h;subst h
  exact ⟨rfl,fun i v c c' _ hc=>by simp at hc⟩
 |a::r,bu,h,hI=>by
  simp only [cP] at h
  obtain ⟨x,h1,h⟩:=cC h
  obtain ⟨l,h2,h⟩:=cC h
  simp only [RM.run,Oj] at h;subst h
  have nd:∀b,Handed E g a.ids b->I b:=fun b hb=>hI b (hb.imp id fun ⟨id,B,hi,hh⟩=>⟨id,B,by simp [hi],hh⟩)
  have ka:∀b,Handed E g (r.flatMap AV.ids) b->I b:=fun b hb=>hI b (hb.imp id fun ⟨id,B,hi,hh⟩=>⟨id,B,by simp only [Ph,O0];exact .inr hi,hh⟩)
  have ih:=ql hm I h2 ka
  refine ⟨by simp [ih.1],fun i v c c' hr hc dA=> ?_⟩
  cases i with
  |zero=>simp at hc dA;subst hc;subst dA;exact wu hm I hr h1 nd
  |succ i=>simp at hc dA;exact ih.2 i v c c' hr hc dA
theorem aE.grow (hm:aE E J base g) (hb:Below E.w.heap.size E.w w'):
  ∃E':Env,E'.w=w'/\E.Le E'/\aE E' J base g/\(∀k,E'.kn k->E.kn k)/\(∀b,E.I b\/(E.w.heap.size<=b/\b<w'.heap.size)->E'.I b):=by
 have hlt:∀id b B,g id=some B->E.loc id=some b->b<E.w.heap.size:=fun id b B hg hb=>by
  have:=hm.at_ id B hg;rw [hb] at this;exact this.lt.2
 let E':Env:={ E with w:=w',I:=fun b=>E.I b\/(E.w.heap.size<=b/\b<w'.heap.size) }
 have hE:E.Le E':=by
  refine ⟨fun _ h=>h,fun b bn=>⟨.inl bn,hb.block b (hm.low b bn).1⟩,fun _ _ h=>h,fun _ _ _=> .inr rfl,fun id b hi hd hl=> .inr ?_,fun _ _ _=> .inr rfl,fun _ h=>h,fun b bn=>⟨bn,hb.block b (hm.xo b bn).1⟩⟩
  obtain ⟨B,hB⟩:=(hm.live id).1 ⟨hi,hd⟩
  show w'.shape? b=_
  simp only [World.shape?,hb.block b (hlt id b B hB hl)]
 refine ⟨E',rfl,hE,⟨hm.live,fun id B hg=>(hm.at_ id B hg).bL hE fun b hl=>hb.block b (hlt id b B hg hl),hm.apart,fun id b B hg hl hI=> ?_,fun b hI=> ?_,OS hm.size hb.size,hm.len,hm.fc,fun b hX=>⟨ON (hm.xo b hX).1 hb.size,fun hI=>hI.elim (hm.xo b hX).2.1 fun h=>by have:=(hm.xo b hX).1;omega,(hm.xo b hX).2.2⟩⟩,fun _ h=>h,fun b h=>h⟩
 ·rcases hI with hI|hI
  ·exact hm.out id b B hg hl hI
  ·have:=hlt id b B hg hl;omega
 ·rcases hI with hI|hI
  ·exact ⟨ON (hm.low b hI).1 hb.size,(hm.low b hI).2⟩
  ·exact ⟨hI.2, .inr (OS hm.size hI.1)⟩
def callUps (as_:List AV) (r:AV):List (Nat×Option Bk):=if r.nob=true then [] else (as_.flatMap AV.ids).map fun id=>(id,none)
theorem GD (hG:ec E) (hm:aE E J base g) (hvs:RC E vs as_) (hs:(cP as_).run g=some bu) (hf:Fn P f bu r) (GF:∀id,id∈as_.flatMap AV.ids->E.kn id):
  Calls P f vs E.w fun e w'=>∃v E',e= .returned v/\E'.w=w'/\E.Le E'/\aj E' v r/\aE E' J base (aA g (callUps as_ r))/\Below base E.w w'/\∀id,E'.kn id->E.kn id:=by
 let I:=Handed E g (as_.flatMap AV.ids)
 have wv:∀b,I b->b<E.w.heap.size:=fun b hb=>by
  rcases hb with hb|⟨id,B,_,hg,hl⟩
  ·exact (hm.low b hb).1
  ·have:=hm.at_ id B hg;rw [hl] at this;exact this.lt.2
 have bG:RC (E0 E.w I) vs bu:=by
  obtain ⟨k1,k2⟩:=ql hm I hs (fun b hb=>hb)
  refine ⟨by rw [k1];exact hvs.1,fun j u c hu hc=> ?_⟩
  have hj:j<as_.length:=by rw [<-k1];exact (Ov.1 hc).1
  exact k2 j u as_[j] c (hvs.2 j u _ hu (OG hj)) (OG hj) hc
 refine (hf E.w I vs wv (hG.sub rfl fun b hb=> .inl hb) bG).mono ?_
 rintro e w' ⟨v,he,hr,hb⟩
 unfold callUps
 by_cases hn:r.nob=true
 ·rw [Om hn]
  obtain ⟨E',hw,hE,hM,hk,_⟩:=hm.grow hb
  exact ⟨v,E',he,hw,hE,hr.nob hn,hM,hb.mono hm.size,hk⟩
 ·rw [Ol hn]
  obtain ⟨E1,gV,fo,iu,bV,nd,ka⟩:=hm.kill (as_.flatMap AV.ids) GF
  have ma:Below E1.w.heap.size E1.w w':=by rw [gV];exact hb
  obtain ⟨E',hw,hE,hM,hk,hI⟩:=iu.grow ma
  refine ⟨v,E',he,hw,fo.trans hE, ?_,hM,hb.mono hm.size,fun id h=>bV _ (hk _ h)⟩
  refine hr.pure (E':=E') (fun b bn=> ?_) ?_
  ·refine ⟨hI b ?_,fun o=>by rw [hw];rfl⟩
   rcases bn with bn|bn
   ·left
    rcases bn with bn|⟨id,B,hid,hg,hl⟩
    ·exact ka b bn
    ·exact nd id b B hid hg hl
   ·right;rw [gV];exact bn
  ·clear hn hI hM hk hE hw nd ka ma bV iu fo gV hb he
   generalize (fun b=>I b\/E.w.heap.size<=b/\b<w'.heap.size)=I' at hr
   have:∀{E:Env} {v:Value} {a:AV},aj E v a->(∀id,¬E.kn id)->(∀l,¬E.rg l)->Pu a:=by
    intro E v a h hk hy
    induction h with
    |v h=>exact .v
    |agg hl h ih=>
     refine .agg fun c hc=> ?_
     obtain ⟨i,hi,rfl⟩:=P1 hc
     exact ih i _ _ (OE (by omega)) (OG hi)
    |aK hl h ih=>
     refine .aK fun c hc=> ?_
     obtain ⟨i,hi,rfl⟩:=P1 hc
     exact ih i _ _ (OE (by omega)) (OG hi)
    |dG hc=>exact .aU
    |ep=>exact .aU
    |cp h ih=>exact .cp
    |emp=>exact .emp
    |pim=>exact .pim
    |ref hi=>exact absurd hi (hk _)
    |own hi=>exact absurd hi (hk _)
    |bQ hi=>exact absurd hi (hk _)
    |dP hi=>exact absurd hi (hk _)
    |ck hi=>exact absurd hi (hk _)
    |mp hi=>exact absurd hi (hk _)
    |gn hi=>exact absurd hi (hk _)
    |fn hl h ih=>
     refine .fn fun c hc=> ?_
     obtain ⟨i,hi,rfl⟩:=P1 hc
     exact ih i _ _ (OE (by omega)) (OG hi)
    |bf hl h ih=>
     refine .bf fun c hc=> ?_
     obtain ⟨i,hi,rfl⟩:=P1 hc
     exact ih i _ _ (OE (by omega)) (OG hi)
    |af hg=>exact absurd hg (hy _)
    |c8=>exact .c8
    |dead=>exact .dead
   exact this hr (fun id h=>h) (fun _ h=>h)
def Fo (P:Program) (f:FuncId) (as_:List AV) (sz:Nat) (els:List (List AV)):Prop:=
 ∀(w:World) (J:Nat->Prop) (vs:Array Value),(∀b,J b->b<w.heap.size)->ec (E0 w J)->RC (E0 w J) vs as_->
  Calls P f vs w fun e w'=>∃v E1,e= .returned v/\E1.w=w'/\Below w.heap.size w w'/\aj E1 v (.own 0 sz 0 els.length)/\E1.kn 0/\¬E1.dead 0/\cF E1 w.heap.size ⟨sz,els⟩ (E1.loc 0)/\E1.ln 0=els.length
theorem GG (hG:ec E) (hm:aE E J base g) {sz:Nat} {els:List (List AV)} (hvs:RC E vs as_) (hs:(cP as_).run g=some bu) (hf:Fo P f bu sz els) (wx:∀cs,cs∈els->∀c,c∈cs->c.dg=true) (ew:¬E.kn fresh):
  Calls P f vs E.w fun e w'=>∃v E',e= .returned v/\E'.w=w'/\E.Le E'/\aj E' v (.own fresh sz 0 els.length)/\aE E' J base (aA g [(fresh,some ⟨sz,els⟩)])/\Below base E.w w'/\∀id,E'.kn id->E.kn id\/id=fresh:=by
 let I:=Handed E g (as_.flatMap AV.ids)
 have wv:∀b,I b->b<E.w.heap.size:=fun b hb=>by
  rcases hb with hb|⟨id,B,_,hg,hl⟩
  ·exact (hm.low b hb).1
  ·have:=hm.at_ id B hg;rw [hl] at this;exact this.lt.2
 have bG:RC (E0 E.w I) vs bu:=by
  obtain ⟨k1,k2⟩:=ql hm I hs (fun b hb=>hb)
  refine ⟨by rw [k1];exact hvs.1,fun j u c hu hc=> ?_⟩
  have hj:j<as_.length:=by rw [<-k1];exact (Ov.1 hc).1
  exact k2 j u as_[j] c (hvs.2 j u _ hu (OG hj)) (OG hj) hc
 refine (hf E.w I vs wv (hG.sub rfl fun b hb=> .inl hb) bG).mono ?_
 rintro e w' ⟨v,E1,he,rfl,hb,hr,nh,sv,bX,At⟩
 have hlt:∀id b B,g id=some B->E.loc id=some b->b<E.w.heap.size:=fun id b B hg hb=>by
  have:=hm.at_ id B hg;rw [hb] at this;exact this.lt.2
 let E':Env:={ w:=E1.w,kn:=fun id=>E.kn id\/id=fresh,loc:=fun id=>if id=fresh then E1.loc 0 else E.loc id,dead:=fun id=>E.dead id/\id≠fresh,I:=E.I,ln:=fun id=>if id=fresh then els.length else E.ln id,rg:=E.rg,X:=E.X }
 have hne:∀id,E.kn id->id≠fresh:=fun id hi he=>ew (he▸hi)
 have hE:E.Le E':=by
  refine ⟨fun id hi=> .inl hi,fun b bn=>⟨bn,hb.block b (hm.low b bn).1⟩,fun id hi hd=>⟨hd,hne id hi⟩,fun id hi hd=> .inr (Ol (hne id hi)),fun id b hi hd hl=> .inr ?_,fun id hi hd=> .inr (Ol (hne id hi)),fun _ h=>h,fun b bn=>⟨bn,hb.block b (hm.xo b bn).1⟩⟩
  obtain ⟨B',aN⟩:=(hm.live id).1 ⟨hi,hd⟩
  show E1.w.shape? b=_
  simp only [World.shape?,hb.block b (hlt id b B' aN hl)]
 have Au:E'.kn fresh:= .inr rfl
 have ff:¬E'.dead fresh:=fun hd=>hd.2 rfl
 have dk:E'.loc fresh=E1.loc 0:=Om rfl
 have Av:sz≠0:=hr.sf sv
 have j4:∀b,E1.loc 0=some b->E.w.heap.size<=b/\b<E1.w.heap.size:=fun b hl=>by rw [hl] at bX;exact bX.lt
 refine ⟨v,E',he,rfl,hE, ?_,⟨fun id=> ?_,fun id B' hg=> ?_,fun id b7 b B1 B2 h1 h2 h3 h4=> ?_,fun id b B' hg bn hI=> ?_,fun b bn=>⟨ON (hm.low b bn).1 hb.size,(hm.low b bn).2⟩,OS hm.size hb.size,fun id B' hg cG=> ?_,hm.fc,fun b hX=>⟨ON (hm.xo b hX).1 hb.size,(hm.xo b hX).2.1,fun k B1 hk he=> ?_⟩⟩,hb.mono hm.size,fun id hi=>hi⟩
 ·obtain ⟨n,hn⟩:∃n,n=els.length:=⟨_,rfl⟩
  rw [<-hn] at hr ⊢
  cases hr with
  |own hi hd hl hq hs da vP hcc wy=>exact .own Au ff (dk.trans hl) hq hs da vP hcc (by rw [show E'.ln fresh=els.length from Om rfl, <-At];exact wy)
  |bQ hi hd hl wy=>exact .bQ Au ff (dk.trans hl) ((show E'.ln fresh=els.length from Om rfl).trans (At.symm.trans wy))
  |ck hi hd=>exact absurd hd sv
 ·simp only [aA]
  by_cases hid:id=fresh
  ·subst hid;simp [E']
  ·simp only [hid,OU]
   rw [<-hm.live id]
   simp [E',hid]
 ·simp only [aA] at hg
  by_cases hid:id=fresh
  ·subst hid
   simp only [Oo,Oj] at hg
   subst hg
   rw [dk]
   cases hl:E1.loc 0 with
   |none=>rw [hl] at bX;exact bX
   |some b=>
    rw [hl] at bX
    obtain ⟨q1,arr,t,q2,q3,q4⟩:=bX.cells Av
    refine .iL ⟨OS hm.size q1,arr,t,q2,q3,fun i cs hi=>⟨(q4 i cs hi).1,fun j x hj=> ?_⟩⟩ Av
    obtain ⟨u,u1,u2,u3⟩:=(q4 i cs hi).2 j x hj
    exact ⟨u,u1,u2,u3.dg (wx cs (OT hi) x (OT hj))⟩
  ·simp only [hid,OU] at hg
   show cF E' base B' (if id=fresh then _ else _)
   rw [Ol hid]
   exact (hm.at_ id B' hg).bL hE fun b hl=>hb.block b (hlt id b B' hg hl)
 ·simp only [aA] at h1 h2
  have e3:(if id=fresh then E1.loc 0 else E.loc id)=some b:=h3
  have e4:(if b7=fresh then E1.loc 0 else E.loc b7)=some b:=h4
  by_cases hid:id=fresh<;>by_cases jy:b7=fresh
  ·rw [hid,jy]
  ·rw [Om hid] at e3;rw [Ol jy] at e4 h2
   have:=hlt _ _ _ h2 e4
   have:=j4 b e3
   omega
  ·rw [Ol hid] at e3 h1;rw [Om jy] at e4
   have:=hlt _ _ _ h1 e3
   have:=j4 b e4
   omega
  ·rw [Ol hid] at e3 h1;rw [Ol jy] at e4 h2
   exact hm.apart id b7 b B1 B2 h1 h2 e3 e4
 ·simp only [aA] at hg
  have e3:(if id=fresh then E1.loc 0 else E.loc id)=some b:=bn
  have:=(hm.low b hI).1
  by_cases hid:id=fresh
  ·rw [Om hid] at e3
   have:=j4 b e3
   omega
  ·rw [Ol hid] at e3 hg
   exact hm.out id b B' hg e3 hI
 ·simp only [aA] at hg
  show _=if id=fresh then _ else _
  by_cases hid:id=fresh
  ·rw [Om hid] at hg ⊢
   simp only [Oj] at hg;rw [<-hg]
  ·rw [Ol hid] at hg ⊢
   exact hm.len id B' hg cG
 ·simp only [aA] at hk
  have e3:(if k=fresh then E1.loc 0 else E.loc k)=some b:=he
  by_cases hid:k=fresh
  ·rw [Om hid] at e3
   have:=j4 b e3
   have:=(hm.xo b hX).1
   omega
  ·rw [Ol hid] at e3 hk
   exact (hm.xo b hX).2.2 k B1 hk e3
end
open Go.RowKit
def cz (ρ:Option Nat):Fence:={ Fence.wide with round:=ρ }
theorem ni:(cz ρ).depth.isSome=true->1<=n:=fun h=>by simp [cz,Fence.wide] at h
theorem ke {o:Oper} {e:Operand->Value}:∀f,o.about P w e=some f->(cz ρ).fn f:=fun _ _=>trivial
theorem oG (h:Calls P f args w R):CallsIn (cz ρ) n P f args w R:=(callsIn_wide (n:=n)).2 h
theorem oH {o:Oper} (h:bM P o=some ao):∀c,o.op≠ .defer c:=by
 intro c hc
 obtain ⟨dst,op,type,pos,after,guard⟩:=o
 simp only at hc
 subst hc
 simp [bM] at h
inductive Mk (E:Env) (lo:Nat):List Deferred->Prop
 |nil:Mk E lo []
 |cons {D:Nat} {ds:List Deferred} (hI:E.I D) (hD:lo<=D) (hh:E.w.heap[D]? =some (.deferred (some []))) (hne:∀d,d∈ds->d.target≠ .collected D) (t:Mk E lo ds):Mk E lo ({ target:= .collected D,args:= #[] }::ds)
theorem Mk.step {E E':Env} (hE:E.Le E') {lo:Nat} {ds:List Deferred} (h:Mk E lo ds):Mk E' lo ds:=by
 induction h with
 |nil=>exact .nil
 |cons hI hD hh hne t ih=>exact .cons (hE.cB _ hI).1 hD ((hE.cB _ hI).2.trans hh) hne ih
theorem Mk.wz (hE:∀b,E.I b->E'.I b/\E'.w.heap[b]? =E.w.heap[b]?) (h:Mk E lo ds):Mk E' lo ds:=by
 induction h with
 |nil=>exact .nil
 |cons hI hD hh hne t ih=>exact .cons (hE _ hI).1 hD ((hE _ hI).2.trans hh) hne ih
theorem Mk.lt (h:Mk E lo ds):∀d,d∈ds->∀D,d.target= .collected D->D<E.w.heap.size:=by
 induction h with
 |nil=>intro d hd;simp at hd
 | @cons D ds hI hD hh hne t ih=>
  intro d hd D' qm
  rcases OC.1 hd with rfl|hd
  ·simp only [Target.collected.injEq] at qm;subst qm
   exact (OX.1 hh).1
  ·exact ih d hd D' qm
def Env.lt (E:Env) (kb:Nat):Env:={ E with kn:=fun id=>E.kn id/\id<kb }
theorem Env.Aw (E:Env) (kb:Nat):(E.lt kb).Le E:=⟨fun _ h=>h.1,fun _ h=>⟨h,rfl⟩,fun _ _ h=>h,fun _ _ _=> .inr rfl,fun _ _ _ _ _=> .inr rfl,fun _ _ _=> .inr rfl,fun _ h=>h,fun _ h=>⟨h,rfl⟩⟩
theorem Env.Le.cut {E0:Env} (h:E0.Le E) (hk:∀id,E0.kn id->id<kb) (k:(E.lt kb).Le E'):E0.Le E':=
 Env.Le.trans (E':=E.lt kb) ⟨fun id hi=>⟨h.kn id hi,hk id hi⟩,h.cB,h.dead,h.loc,h.shape,h.ln,h.rg,h.fx⟩ k
def nb (kb:Nat):Nat->AV->Bool
 |0,_=>false
 |d+1, .agg cs=>cs.all (nb kb d)
 |d+1, .aK cs=>cs.all (nb kb d)
 |d+1, .fn _ cs=>cs.all (nb kb d)
 |d+1, .bf _ cs=>cs.all (nb kb d)
 |d+1, .af _ cs=>cs.all (nb kb d)
 |_+1, .ref id _ _ _=>Nat.blt id kb
 |_+1, .own id _ _ _=>Nat.blt id kb
 |_+1, .mp id=>Nat.blt id kb
 |_+1,_=>true
theorem aj.Ax (hE:(E.lt kb).Le E'):∀(d:Nat) {v:Value} {a:AV},aj E v a->nb kb d a=true->aj E' v a:=by
 have hI:∀b,E.I b->E'.I b/\∀o,E'.w.cell? ⟨b,o,none⟩=E.w.cell? ⟨b,o,none⟩:=fun b hb=>⟨(hE.cB b hb).1,fun o=>hE.cell (E:=E.lt kb) hb o⟩
 intro d
 induction d with
 |zero=>intro v a _ h;simp [nb] at h
 |succ d ih=>
  have fI:∀{vs:Array Value} {cs:List AV},(∀(i:Nat) v c,vs[i]? =some v->cs[i]? =some c->aj E v c)->cs.all (nb kb d)=true->∀(i:Nat) v c,vs[i]? =some v->cs[i]? =some c->aj E' v c:=by
   intro vs cs h hn i v c hv hc
   simp only [Ot] at hn
   exact ih (h i v c hv hc) (hn c (OT hc))
  intro v a h hn
  cases a with
  |v x=>exact h.pure hI .v
  |agg cs=>cases h with|agg hl hh=>exact .agg hl (fI hh hn)
  |aK cs=>cases h with|aK hl hh=>exact .aK hl (fI hh hn)
  |fn f cs=>cases h with|fn hl hh=>exact .fn hl (fI hh hn)
  |bf f cs=>cases h with|bf hl hh=>exact .bf hl (fI hh hn)
  |af r cs=>cases h with|af h1 h2 h3 hl hh=>exact .af (hE.rg _ h1) (hE.cB _ h2).1 ((hE.cB _ h2).2.trans h3) hl (fI hh hn)
  |aU sz els=>exact h.pure hI .aU
  |cp sz els=>exact h.pure hI .cp
  |emp=>exact h.pure hI .emp
  |pim cs o=>exact h.pure hI .pim
  |c8=>exact h.pure hI .c8
  |dead=>exact .dead
  |ref id sz i o=>
   have hlt:id<kb:=O3 hn
   have:aj (E.lt kb) v (.ref id sz i o):=by
    cases h with
    |ref hi hd hb hq=>exact .ref (E:=E.lt kb) ⟨hi,hlt⟩ hd hb hq
    |dP hi hd ho=>exact .dP (E:=E.lt kb) ⟨hi,hlt⟩ hd ho
   exact this.step hE
  |mp id=>
   have hlt:id<kb:=O3 hn
   have:aj (E.lt kb) v (.mp id):=by
    cases h with
    |mp hi hd hb=>exact .mp (E:=E.lt kb) ⟨hi,hlt⟩ hd hb
    |gn hi hd ho=>exact .gn (E:=E.lt kb) ⟨hi,hlt⟩ hd ho
   exact this.step hE
  |own id sz off n=>
   have hlt:id<kb:=O3 hn
   have:aj (E.lt kb) v (.own id sz off n):=by
    cases h with
    |own hi hd hb hq hs hm hl hc bj=>exact .own (E:=E.lt kb) ⟨hi,hlt⟩ hd hb hq hs hm hl hc bj
    |bQ hi hd hb bj=>exact .bQ (E:=E.lt kb) ⟨hi,hlt⟩ hd hb bj
    |ck hi hd ho=>exact .ck (E:=E.lt kb) ⟨hi,hlt⟩ hd ho
   exact this.step hE
structure az where
 dst:Option Nat
 ao:AO
 guard:Option (Nat×Bool)
variable {o:az} {os full:List az}
def fp (P:Program) (ops:Array Oper) (o:Oper):Option az:=
 match bM P o with
 |some ao=>match o.guard with
  |none=>some ⟨o.dst,ao,none⟩
  |some (j,w)=>match (ops[j]?).bind (·.dst) with
   |some t=>some ⟨o.dst,ao,some (t,w)⟩
   |none=>none
 |none=>none
def aG (σ:Nat->AV):Arg->AV
 | .s t=>σ t
 | .c a=>a
def bE (n:Nat) (d:Option Nat) (v:AV) (σ:Nat->AV):Nat->AV:=fun t=>if d=some t/\t<n then v else σ t
def bO (σ:Nat->AV):Option (Nat×Bool)->Option Bool
 |none=>some true
 |some (t,w)=>match σ t with
  | .v (.bool b)=>some (b==w)
  | .v (.tuple _)=>some false
  |_=>none
inductive dm (P:Program) (σ:Nat->AV) (g:Nat->Option Bk) (fresh:Nat) (o:az):AV->List (Nat×Option Bk)->List Nat->Prop
 |skip (hg:bO σ o.guard=some false):dm P σ g fresh o (.v undef) [] []
 |done {val:AV} {ups:List (Nat×Option Bk)} (hg:bO σ o.guard=some true) (h:(o.ao.au fresh (aG σ)).run g=some (.done val ups)):
   dm P σ g fresh o val ups ((o.ao.au fresh (aG σ)).acc g++(o.ao.au fresh (aG σ)).see g)
 |call {f:FuncId} {as_ bu:List AV} {r:AV} (hg:bO σ o.guard=some true) (h:(o.ao.au fresh (aG σ)).run g=some (.call f as_)) (hc:bI P f=true)
   (hs:(cP as_).run g=some bu) (hf:Fn P f bu r):dm P σ g fresh o r (callUps as_ r) (((o.ao.au fresh (aG σ)).acc g++(o.ao.au fresh (aG σ)).see g)++((cP as_).acc g++(cP as_).see g))
 |nj {f:FuncId} {as_ bu:List AV} {sz:Nat} {els:List (List AV)} (hg:bO σ o.guard=some true) (h:(o.ao.au fresh (aG σ)).run g=some (.call f as_)) (hc:bI P f=true)
   (hs:(cP as_).run g=some bu) (hf:Fo P f bu sz els) (hn:∀cs,cs∈els->∀c,c∈cs->c.dg=true):dm P σ g fresh o (.own fresh sz 0 els.length) [(fresh,some ⟨sz,els⟩)] (((o.ao.au fresh (aG σ)).acc g++(o.ao.au fresh (aG σ)).see g)++((cP as_).acc g++(cP as_).see g))
theorem dz.of (hG:ec E) {a:Act} (h:∀t,aj E (a.tmps.getD t undef) (σ t)):dz E a.eval (aG σ):=by
 intro x ax hx
 cases x with
 |tmp t=>simp [cArg] at hx;subst hx;exact h t
 |const v=>
  simp only [cArg] at hx
  cases hc:ofConst v with
  |none=>simp [hc] at hx
  |some c=>simp [hc] at hx;subst hx;exact E6 hc
 |func f=>simp [cArg] at hx;subst hx;exact E7 f
 |global g=>
  simp only [cArg] at hx
  cases hc:glArg g with
  |none=>simp [hc] at hx
  |some c=>simp [hc] at hx;subst hx;exact hG.arg hc
theorem Ay (h:(snap1 a).run g=some a'):∀id,id∈a.bS->∃B,g id=some B:=by
 intro id hid
 cases a with
 |own b7 sz off n=>
  simp only [AV.bS,Ow] at hid
  subst hid
  simp only [snap1] at h
  obtain ⟨els,h1,_⟩:=cC h
  simp only [content,RM.run] at h1
  cases hB:g id with
  |none=>simp [hB] at h1
  |some B=>exact ⟨B,rfl⟩
 |ref b7 sz i o=>
  simp only [AV.bS,Ow] at hid
  subst hid
  simp only [snap1,RM.run] at h
  cases hB:g id with
  |none=>simp [hB] at h
  |some B=>exact ⟨B,rfl⟩
 |_=>simp [AV.bS] at hid
theorem sI {g:Nat->Option Bk}:∀{as_ bu:List AV},(gw as_).run g=some bu->∀id,id∈as_.flatMap AV.bS->∃B,g id=some B
 |[],_,_,id,hid=>by simp at hid
 |a::r,bu,h,id,hid=>by
  simp only [gw] at h
  obtain ⟨x,h1,h⟩:=cC h
  obtain ⟨l,h2,h⟩:=cC h
  simp only [Ph,O0] at hid
  rcases hid with hid|hid
  ·exact Ay h1 id hid
  ·exact sI h2 id hid
theorem GH (h:(dw a).run g=some a'):∀id,id∈a.ids->∃B,g id=some B:=by
 intro id hid
 cases a with
 |agg cs=>
  simp only [dw] at h
  obtain ⟨l,h1,_⟩:=cC h
  exact sI h1 id hid
 |fn f cs=>
  simp only [dw] at h
  obtain ⟨l,h1,_⟩:=cC h
  exact sI h1 id hid
 |bf f cs=>
  simp only [dw] at h
  obtain ⟨l,h1,_⟩:=cC h
  exact sI h1 id hid
 |_=>simp only [dw] at h;simp only [AV.ids] at hid;exact Ay h id hid
theorem Az {g:Nat->Option Bk}:∀{as_ bu:List AV},(cP as_).run g=some bu->∀id,id∈as_.flatMap AV.ids->∃B,g id=some B
 |[],_,_,id,hid=>by simp at hid
 |a::r,bu,h,id,hid=>by
  simp only [cP] at h
  obtain ⟨x,h1,h⟩:=cC h
  obtain ⟨l,h2,h⟩:=cC h
  simp only [Ph,O0] at hid
  rcases hid with hid|hid
  ·exact GH h1 id hid
  ·exact Az h2 id hid
section
variable {P:Program} {E:Env} {J:Nat->Prop} {base:Nat} {g:Nat->Option Bk} {σ:Nat->AV} {fresh:Nat}
theorem kR {a:Act} (hs:∀t,aj E (a.tmps.getD t undef) (σ t)) (hc:fp P ops op=some o) {b:Bool} (hg:bO σ o.guard=some b):Region.wanted op (yielded ops a.tmps)=b:=by
 unfold fp at hc
 split at hc
 ·rename_i ao h1
  split at hc
  ·rename_i h2
   simp only [Oj] at hc;subst hc
   simp only [bO,Oj] at hg;subst hg
   simp [Region.wanted,h2]
  ·rename_i j w h2
   split at hc
   ·rename_i t h3
    simp only [Oj] at hc;subst hc
    simp only [bO] at hg
    have ht:=hs t
    simp only [Region.wanted,h2,yielded,h3,Pw]
    split at hg
    ·rename_i b' bn
     rw [bn] at ht
     have:=ht.iw
     simp only [Oj] at hg;subst hg
     have hlt:t<a.tmps.size:=by
      rcases O8 t a.tmps.size with h|h
      ·exact h
      ·simp [Array.getElem?_eq_none h,undef] at this
     have h5:a.tmps[t]? =some (.bool b'):=by
      rw [OE hlt]
      simpa [OE hlt] using this
     rw [h5]
     cases b'<;>cases w<;>rfl
    ·rename_i vs bn
     rw [bn] at ht
     have:=ht.iw
     simp only [Oj] at hg;subst hg
     have h5:a.tmps[t]? =none\/a.tmps[t]? =some (.tuple vs):=by
      rcases O8 t a.tmps.size with h|h
      ·right
       rw [OE h]
       simpa [OE h] using this
      ·left;exact Array.getElem?_eq_none h
     rcases h5 with h5|h5<;>rw [h5]<;>rfl
    ·simp at hg
   ·simp at hc
 ·simp at hc
theorem qn (hc:fp P ops op=some o):o.dst=op.dst/\bM P op=some o.ao:=by
 unfold fp at hc
 split at hc
 ·rename_i ao h1
  split at hc
  ·simp only [Oj] at hc;subst hc;exact ⟨rfl,h1⟩
  ·split at hc
   ·simp only [Oj] at hc;subst hc;exact ⟨rfl,h1⟩
   ·simp at hc
 ·simp at hc
theorem wA {a:Act} (hG:ec E) (hs:∀t,aj E (a.tmps.getD t undef) (σ t)) (hm:aE E J base g) (hf:¬E.kn fresh) (hi:ops[i]? =some op) (hc:fp P ops op=some o)
 {acc:List Nat} (hr:dm P σ g fresh o val ups acc) {K:Act->World->Prop}
  (hK:∀v E',E.Le E'->aj E' v val->aE E' J base (aA g ups)->Below base E.w E'.w->(∀id,E'.kn id->E.kn id\/id∈ups.map Prod.fst)->K (a.put o.dst v) E'.w) {rd:Option Nat}:wpOpIn (cz rd) 0 P ops Q i K a E.w:=by
 have hd:o.dst=op.dst/\bM P op=some o.ao:=by
  unfold fp at hc
  split at hc
  ·rename_i ao h1
   split at hc
   ·simp only [Oj] at hc;subst hc;exact ⟨rfl,h1⟩
   ·split at hc
    ·simp only [Oj] at hc;subst hc;exact ⟨rfl,h1⟩
    ·simp at hc
  ·simp at hc
 have db:∀e,op.semAt (cz rd).round e=execOp e op:=fun e=>Qb (cz rd) _ _ (oH hd.2)
 unfold wpOpIn
 simp only [hi]
 cases hr with
 |skip hg=>
  rw [kR hs hc hg]
  simp only [Pf,OU]
  rw [<-hd.1]
  exact ⟨ke,hK undef E (Env.Le.refl E) (.v rfl) hm (OY _ _) fun _ h=> .inl h⟩
 |done hg h=>
  rw [kR hs hc hg,Om rfl]
  obtain ⟨n,v,E',h1,h2,h3,h4,h5,h6,h7⟩:=Gx (dz.of hG hs) (fun _=>rfl) hm hf hd.2 h
  have:=hK v E' h3 h4 h5 h6 h7
  unfold Oper.wpIn
  rw [db,h1]
  rw [hd.1] at this
  rcases h2 with rfl|⟨rfl,rfl⟩
  ·exact ⟨ke,this⟩
  ·exact ⟨ke,this⟩
 | @call f as_ bu r hg h bZ fJ eS=>
  rw [kR hs hc hg,Om rfl]
  obtain ⟨vs,h1,h2⟩:=qg (dz.of hG hs) hd.2 h bZ
  unfold Oper.wpIn
  rw [db,h1,Oper.uponIn_enter]
  refine ⟨ke,ni,oG ((GD hG hm h2 fJ eS fun id hid=> ?_).mono ?_)⟩
  ·obtain ⟨B,hB⟩:=Az fJ id hid
   exact ((hm.live id).2 ⟨B,hB⟩).1
  ·rintro e w' ⟨v,E',rfl,rfl,k1,k2,k3,k4,k5⟩
   have:=hK v E' k1 k2 k3 k4 fun id h=> .inl (k5 id h)
   rw [hd.1] at this
   exact this
 | @nj f as_ bu sz els hg h bZ fJ eS kf=>
  rw [kR hs hc hg,Om rfl]
  obtain ⟨vs,h1,h2⟩:=qg (dz.of hG hs) hd.2 h bZ
  unfold Oper.wpIn
  rw [db,h1,Oper.uponIn_enter]
  refine ⟨ke,ni,oG ((GG hG hm h2 fJ eS kf hf).mono ?_)⟩
  ·rintro e w' ⟨v,E',rfl,rfl,k1,k2,k3,k4,k5⟩
   have:=hK v E' k1 k2 k3 k4 fun id h=>(k5 id h).imp (fun h=>h) fun h=>by simp [h]
   rw [hd.1] at this
   exact this
theorem oI (hE:E.Le E') {a:Act} (hs:∀t,aj E (a.tmps.getD t undef) (σ t)) (hv:aj E' v val) (d:Option Nat):∀t,aj E' ((a.put d v).tmps.getD t undef) (bE a.tmps.size d val σ t):=by
 intro t
 unfold bE
 cases d with
 |none=>simp only [Act.put,reduceCtorEq,false_and,OU];exact (hs t).step hE
 |some d=>
  simp only [Act.put,Oj]
  by_cases h:d=t/\t<a.tmps.size
  ·rw [Om h]
   obtain ⟨rfl,hlt⟩:=h
   simpa [hlt] using hv
  ·rw [Ol h]
   have:(a.tmps.setIfInBounds d v).getD t undef=a.tmps.getD t undef:=by
    simp only [PN,P8]
    by_cases dh:d=t
    ·subst dh
     have:¬d<a.tmps.size:=fun hl=>h ⟨rfl,hl⟩
     simp [this]
    ·simp [dh]
   rw [this];exact (hs t).step hE
theorem gX (a:Act) (d:Option Nat) (v:Value):(a.put d v).tmps.size=a.tmps.size/\(a.put d v).defers=a.defers:=by
 cases d<;>simp [Act.put]
end
def Fi (P:Program) (f:FuncId) (as_:List AV) (g:Nat->Option Bk) (k:Nat) (r:AV) (g':Nat->Option Bk) (k':Nat):Prop:=
 ∀(E:Env) (J:Nat->Prop) (base:Nat) (vs:Array Value),ec E->aE E J base g->(∀id,E.kn id->id<k)->RC E vs as_->
  Calls P f vs E.w fun e w'=>∃v E',e= .returned v/\E'.w=w'/\E.Le E'/\aj E' v r/\aE E' J base g'/\Below base E.w w'/\∀id,E'.kn id->id<k'
def Yd (P:Program) (kb:Nat) (r:Loop) (caps as_:List AV) (g:Nat->Option Bk) (k:Nat) (g':Nat->Option Bk) (k':Nat):Prop:=
 r.params.size=as_.length/\∀(E:Env) (J:Nat->Prop) (base l:Nat) (vs:Array Value),ec E->aE E J base g->(∀id,E.kn id->id<k)->E.rg l->RC E vs as_->RC E r.tmps caps->E.I l->E.w.heap[l]? =some (.loop r)->
  RoundIn Fence.wide 0 P l r.fn ((r.params.zip vs).foldl (fun t (p,v)=>t.setIfInBounds p v) r.tmps) r.assign r.body E.w fun e w'=>e= .returned (.bool true)/\∃E',E'.w=w'/\(E.lt kb).Le E'/\aE E' J base g'/\Below base E.w w'/\∀id,E'.kn id->id<k'
theorem GI {aD:Operand->Value} {l:Nat} {c:Call} {x:Operand} (hc:c.callee= .value x) (hx:aD x= .func (.yield l) #[] #[]) (w:World):
  (do let d<-resolve aD c ty;invoke d.target d.args:Sem Next).run P w=(Instr.yield l (c.args.map aD)).run P w:=by
 simp [resolve,hc,hx,Deferred.ofValue,invoke]
inductive gx (P:Program) (n k0:Nat):List az->(Nat->AV)->(Nat->Option Bk)->Nat->(Nat->AV)->(Nat->Option Bk)->Nat->Prop
 |nil {σ:Nat->AV} {g:Nat->Option Bk} {k:Nat}:gx P n k0 [] σ g k σ g k
 |cons {o:az} {os:List az} {σ σ':Nat->AV} {g g':Nat->Option Bk} {k k1 k':Nat} {val:AV} {ups:List (Nat×Option Bk)} {acc:List Nat} (h:dm P σ g k o val ups acc) (hk:k<=k1) (hu:∀id,id∈ups.map Prod.fst->id<k1)
   (hr:gx P n k0 os (bE n o.dst val σ) (aA g ups) k1 σ' g' k'):gx P n k0 (o::os) σ g k σ' g' k'
 |inl {o:az} {os:List az} {σ σ':Nat->AV} {g g1 g':Nat->Option Bk} {k k1 k':Nat} {f:FuncId} {as_:List AV} {r:AV} (hg:bO σ o.guard=some true) (h:(o.ao.au k (aG σ)).run g=some (.call f as_)) (hc:bI P f=true)
   (hf:Fi P f as_ g k r g1 k1) (hr:gx P n k0 os (bE n o.dst r σ) g1 k1 σ' g' k'):gx P n k0 (o::os) σ g k σ' g' k'
 |af {o:az} {os:List az} {σ σ':Nat->AV} {g g1 g':Nat->Option Bk} {k k1 k':Nat} {x:Arg} {args:List Arg} {r:Loop} {caps:List AV} (hg:bO σ o.guard=some true) (h:o.ao= .call x args) (hx:aG σ x= .af r caps)
   {kb:Nat} (oy:k0<=kb) (kf:∀t,nb kb 6 (σ t)=true) (hy:Yd P kb r caps (args.map (aG σ)) g k g1 k1) (hr:gx P n k0 os (bE n o.dst (.v (.bool true)) σ) g1 k1 σ' g' k'):gx P n k0 (o::os) σ g k σ' g' k'
structure eG (E0:Env) (J:Nat->Prop) (base:Nat) (w0:World) (n:Nat) (σ:Nat->AV) (g:Nat->Option Bk) (k:Nat) (a:Act) (w:World):Prop where
 ex:∃E:Env,E.w=w/\E0.Le E/\(∀t,aj E (a.tmps.getD t undef) (σ t))/\aE E J base g/\(∀id,E.kn id->id<k)/\Mk E w0.heap.size a.defers
 size:a.tmps.size=n
 below:Below base w0 w
 gl:ec E0
theorem AA {rd:Option Nat} {E0:Env} (nh:∀id,E0.kn id->id<k0) {w0:World} (h:gx P n k0 os σ g k σ' g' k'):
  ∀(i:Nat) (a:Act) (w:World),(∀j,j<os.length->∃op,ops[i+j]? =some op/\∃o,os[j]? =some o/\fp P ops op=some o)->eG E0 J base w0 n σ g k a w->(∀a w,eG E0 J base w0 n σ' g' k' a w->Q .normal a w)->wpOpsIn (cz rd) 0 P ops Q (List.range' i os.length) a w:=by
 induction h with
 |nil=>intro i a w _ hr hQ;exact hQ a w hr
 | @cons o os σ σ' g g' k k1 k' val ups acc h hk hu hr ih=>
  intro i a w dL hrel hQ
  rw [List.length_cons,List.range'_succ,wpOpsIn_cons]
  obtain ⟨op,h1,o',h2,h3⟩:=dL 0 (by simp)
  simp only [OV,Oj] at h2
  subst h2
  rw [Pd] at h1
  obtain ⟨E,rfl,hle,hs,hm,aY,hmk⟩:=hrel.ex
  refine wA (hrel.gl.step hle) hs hm (fun hh=>PA _ (aY k hh)) h1 h3 h fun v E' hE hv hM hB GJ=> ?_
  refine ih (i+1) _ _ (fun j hj=> ?_) ⟨⟨E',rfl,hle.trans hE, ?_,hM,fun id hid=> ?_, ?_⟩, ?_, ?_,hrel.gl⟩ hQ
  ·obtain ⟨qo,m1,o',m2,m3⟩:=dL (j+1) (by simp;omega)
   exact ⟨qo,by rw [show i+1+j=i+(j+1) by omega];exact m1,o',by simpa using m2,m3⟩
  ·have:=oI hE hs hv o.dst
   rw [hrel.size] at this
   exact this
  ·rcases GJ id hid with h|h
   ·exact ON (aY id h) hk
   ·exact hu id h
  ·rw [(gX a o.dst v).2];exact hmk.step hE
  ·rw [(gX a o.dst v).1];exact hrel.size
  ·exact hrel.below.trans hB
 | @inl o os σ σ' g g1 g' k k1 k' f as_ r hg h bZ hf hr ih=>
  intro i a w dL hrel hQ
  rw [List.length_cons,List.range'_succ,wpOpsIn_cons]
  obtain ⟨op,h1,o',h2,h3⟩:=dL 0 (by simp)
  simp only [OV,Oj] at h2
  subst h2
  rw [Pd] at h1
  obtain ⟨E,rfl,hle,hs,hm,aY,hmk⟩:=hrel.ex
  have hd:=qn h3
  have db:∀e,op.semAt (cz rd).round e=execOp e op:=fun e=>Qb (cz rd) _ _ (oH hd.2)
  unfold wpOpIn
  simp only [h1]
  rw [kR hs h3 hg,Om rfl]
  obtain ⟨vs,e1,e2⟩:=qg (dz.of (hrel.gl.step hle) hs) hd.2 h bZ
  unfold Oper.wpIn
  rw [db,e1,Oper.uponIn_enter]
  refine ⟨ke,ni,oG ((hf E J base vs (hrel.gl.step hle) hm aY e2).mono ?_)⟩
  rintro e w' ⟨v,E',rfl,rfl,q1,q2,q3,q4,q5⟩
  refine ih (i+1) _ _ (fun j hj=> ?_) ⟨⟨E',rfl,hle.trans q1, ?_,q3,q5, ?_⟩, ?_, ?_,hrel.gl⟩ hQ
  ·obtain ⟨qo,m1,o',m2,m3⟩:=dL (j+1) (by simp;omega)
   exact ⟨qo,by rw [show i+1+j=i+(j+1) by omega];exact m1,o',by simpa using m2,m3⟩
  ·have:=oI q1 hs q2 op.dst
   rw [hrel.size] at this
   rw [hd.1]
   exact this
  ·rw [(gX a op.dst v).2];exact hmk.step q1
  ·rw [(gX a op.dst v).1];exact hrel.size
  ·exact hrel.below.trans q4
 | @af o os σ σ' g g1 g' k k1 k' x args r caps hg h hx kb oy kf hy hr ih=>
  intro i a w dL hrel hQ
  rw [List.length_cons,List.range'_succ,wpOpsIn_cons]
  obtain ⟨op,h1,o',h2,h3⟩:=dL 0 (by simp)
  simp only [OV,Oj] at h2
  subst h2
  rw [Pd] at h1
  obtain ⟨E,rfl,hle,hs,hm,aY,hmk⟩:=hrel.ex
  have hd:=qn h3
  have db:∀e,op.semAt (cz rd).round e=execOp e op:=fun e=>Qb (cz rd) _ _ (oH hd.2)
  have AB:=hd.2
  rw [h] at AB
  obtain ⟨c,y,c1,c2,c3,c4⟩:=Aq AB
  have hv:=dz.of (hrel.gl.step hle) hs y x c3
  rw [hx] at hv
  obtain ⟨vv,b8⟩:∃vv,vv=a.eval y:=⟨_,rfl⟩
  rw [<-b8] at hv
  cases hv with
  | @af l _ _ qp hI hh hl hr'=>
   obtain ⟨al,ar⟩:=(dz.of (hrel.gl.step hle) hs).list c4
   have AD:=run_yield (P:=P) (args:=c.args.map a.eval) hh (by rw [hy.1];simpa using al)
   have e1:(execOp a.eval op).run P E.w= .ok (.round l r.fn ((r.params.zip (c.args.map a.eval)).foldl (fun t (p,v)=>t.setIfInBounds p v) r.tmps) r.assign r.body) E.w:=by
    unfold execOp
    simp only [c1]
    exact (GI c2 b8.symm E.w).trans AD
   unfold wpOpIn
   simp only [h1]
   rw [kR hs h3 hg,Om rfl]
   unfold Oper.wpIn
   rw [db,e1,Oper.uponIn_round]
   refine ⟨ke,ni,RoundIn.mono (hy.2 E J base l (c.args.map a.eval) (hrel.gl.step hle) hm aY qp ⟨by simpa using al,fun j u c hu hc=>ar j u c (by simpa using hu) hc⟩ ⟨hl,hr'⟩ hI hh) ?_⟩
   rintro e w' ⟨rfl,E',rfl,q1,q3,q4,q5⟩
   refine ih (i+1) _ _ (fun j hj=> ?_) ⟨⟨E',rfl,hle.cut (fun id hi=>ON (nh id hi) oy) q1, ?_,q3,q5, ?_⟩, ?_, ?_,hrel.gl⟩ hQ
   ·obtain ⟨qo,m1,o',m2,m3⟩:=dL (j+1) (by simp;omega)
    exact ⟨qo,by rw [show i+1+j=i+(j+1) by omega];exact m1,o',by simpa using m2,m3⟩
   ·have:=oI (E:=E') (E':=E') (Env.Le.refl E') (fun t=>(hs t).Ax q1 6 (kf t)) (v:= .bool true) (.v rfl) op.dst
    rw [hrel.size] at this
    rw [hd.1]
    exact this
   ·rw [(gX a op.dst _).2];exact Mk.wz (E:=E) q1.cB hmk
   ·rw [(gX a op.dst _).1];exact hrel.size
   ·exact hrel.below.trans q4
open Go.RowKit
def Arg.slot:Arg->List Nat
 | .s t=>[t]
 | .c _=>[]
def oJ:Option Arg->List Nat
 |none=>[]
 |some x=>x.slot
def AO.qq:AO->List Nat
 | .mov x| .box _ x| .load _ x| .nilc x| .un _ x| .conv _ x| .fad _ x| .fld _ _ x| .ext _ x| .len _ x| .isn _ _ x=>x.slot
 | .pick a b c=>a.slot++b.slot++c.slot
 | .new _=>[]
 | .agg _ ps=>ps.flatMap fun p=>p.2.2.slot
 | .bsl _ _ _ ps=>ps.flatMap fun p=>p.2.slot
 | .store _ x y| .bin _ _ x y| .iad _ x y| .iap _ _ x y| .ixa _ _ _ x y| .mnx _ x y| .eqs _ _ _ x y| .msl _ _ _ x y| .six x y| .app _ _ x y=>x.slot++y.slot
 | .slc _ x l h m=>x.slot++oJ l++oJ h++oJ m
 | .sls x l h=>x.slot++oJ l++oJ h
 | .mkf _ cs| .mkb _ cs=>cs.flatMap Arg.slot
 | .call x l=>x.slot++l.flatMap Arg.slot
 | .clr _ x| .b2s x| .s2b x=>x.slot
 | .cpy _ x y=>x.slot++y.slot
 | .mkm| .bad=>[]
 | .mup _ x k y=>x.slot++k.slot++y.slot
 | .mlk _ _ x k=>x.slot++k.slot
def AO.allocs:AO->Bool
 | .new _| .box _ _| .bsl _ _ _ _| .msl _ _ _ _ _| .app _ _ _ _| .s2b _| .mkm=>true
 |_=>false
def az.iQ (o:az):List Nat:=o.ao.qq++(match o.guard with|some (t,_)=>[t]|none=>[])
theorem bB (h:∀t,t∈x.slot->σ' t=σ t):aG σ' x=aG σ x:=by
 cases x with
 |s t=>exact h t (by simp [Arg.slot])
 |c a=>rfl
theorem qs {x:Option Arg} (h:∀t,t∈oJ x->σ' t=σ t):cO (aG σ') x=cO (aG σ) x:=by
 cases x with
 |none=>rfl
 |some a=>simp only [cO,bB h]
theorem map_congr {l:List Arg} (h:∀t,t∈l.flatMap Arg.slot->σ' t=σ t):l.map (aG σ')=l.map (aG σ):=by
 apply Qg
 intro x hx
 exact bB fun t ht=>h t (List.mem_flatMap.2 ⟨x,hx,ht⟩)
theorem AE {σ σ':Nat->AV}:∀{ps:List (Nat×Nat×Arg)} {cs:List AV},(∀t,t∈ps.flatMap (fun p=>p.2.2.slot)->σ' t=σ t)->fillA (aG σ') cs ps=fillA (aG σ) cs ps
 |[],cs,_=>rfl
 |(off,n,x)::r,cs,h=>by
  have h1:=bB (x:=x) (σ:=σ) (σ':=σ') fun t ht=>h t (by simp [ht])
  simp only [fillA,h1]
  split
  ·exact AE fun t ht=>h t (by rw [Ph];exact O4 _ ht)
  ·rfl
theorem AF {σ σ':Nat->AV} {sz:Nat}:∀{ps:List (Nat×Arg)} {els:List (List AV)},(∀t,t∈ps.flatMap (fun p=>p.2.slot)->σ' t=σ t)->fillE (aG σ') sz els ps=fillE (aG σ) sz els ps
 |[],cs,_=>rfl
 |(i,x)::r,cs,h=>by
  have h1:=bB (x:=x) (σ:=σ) (σ':=σ') fun t ht=>h t (by simp [ht])
  simp only [fillE,h1]
  split
  ·exact AF fun t ht=>h t (by rw [Ph];exact O4 _ ht)
  ·rfl
theorem AG (fresh:Nat) (h:∀t,t∈ao.qq->σ' t=σ t):ao.au fresh (aG σ')=ao.au fresh (aG σ):=by
 cases ao<;>simp only [AO.qq,O0] at h<;>simp only [AO.au]
 case mov x=>rw [bB h]
 case pick a b c=>rw [bB (x:=a) fun t ht=>h t (.inl (.inl ht)),bB (x:=b) fun t ht=>h t (.inl (.inr ht)),bB (x:=c) fun t ht=>h t (.inr ht)]
 case box n x=>rw [bB h]
 case agg zs ps=>rw [AE h]
 case bsl sz ln zs ps=>rw [AF h]
 case load m x=>rw [bB h]
 case store n x y=>rw [bB (x:=x) fun t ht=>h t (.inl ht),bB (x:=y) fun t ht=>h t (.inr ht)]
 case nilc x=>rw [bB h]
 case bin bt op x y=>rw [bB (x:=x) fun t ht=>h t (.inl ht),bB (x:=y) fun t ht=>h t (.inr ht)]
 case un op x=>rw [bB h]
 case conv k x=>rw [bB h]
 case fad off x=>rw [bB h]
 case fld off m x=>rw [bB h]
 case iad sz x y=>rw [bB (x:=x) fun t ht=>h t (.inl ht),bB (x:=y) fun t ht=>h t (.inr ht)]
 case ext i x=>rw [bB h]
 case len b x=>cases b<;>simp only [AO.au]<;>rw [bB h]
 case isn kd m x=>cases kd<;>simp only [AO.au]<;>rw [bB h]
 case mnx m x y=>rw [bB (x:=x) fun t ht=>h t (.inl ht),bB (x:=y) fun t ht=>h t (.inr ht)]
 case eqs ng n L x y=>rw [bB (x:=x) fun t ht=>h t (.inl ht),bB (x:=y) fun t ht=>h t (.inr ht)]
 case msl sz by_ zs x y=>rw [bB (x:=x) fun t ht=>h t (.inl ht),bB (x:=y) fun t ht=>h t (.inr ht)]
 case slc sz x lo hi mx=>rw [bB (x:=x) fun t ht=>h t (.inl (.inl (.inl ht))),qs (x:=lo) fun t ht=>h t (.inl (.inl (.inr ht))),qs (x:=hi) fun t ht=>h t (.inl (.inr ht)),qs (x:=mx) fun t ht=>h t (.inr ht)]
 case sls x lo hi=>rw [bB (x:=x) fun t ht=>h t (.inl (.inl ht)),qs (x:=lo) fun t ht=>h t (.inl (.inr ht)),qs (x:=hi) fun t ht=>h t (.inr ht)]
 case six x y=>rw [bB (x:=x) fun t ht=>h t (.inl ht),bB (x:=y) fun t ht=>h t (.inr ht)]
 case app sz by_ x y=>rw [bB (x:=x) fun t ht=>h t (.inl ht),bB (x:=y) fun t ht=>h t (.inr ht)]
 case mkf f cs=>rw [map_congr h]
 case mkb f cs=>rw [map_congr h]
 case clr zs x=>rw [bB h]
 case b2s x=>rw [bB h]
 case s2b x=>rw [bB h]
 case cpy sz x y=>rw [bB (x:=x) fun t ht=>h t (.inl ht),bB (x:=y) fun t ht=>h t (.inr ht)]
 case mup kd x k y=>rw [bB (x:=x) fun t ht=>h t (.inl (.inl ht)),bB (x:=k) fun t ht=>h t (.inl (.inr ht)),bB (x:=y) fun t ht=>h t (.inr ht)]
 case mlk kd z x k=>rw [bB (x:=x) fun t ht=>h t (.inl ht),bB (x:=k) fun t ht=>h t (.inr ht)]
 case ixa sz ln m x y=>rw [bB (x:=x) fun t ht=>h t (.inl ht),bB (x:=y) fun t ht=>h t (.inr ht)]
 case iap sz ln x y=>rw [bB (x:=x) fun t ht=>h t (.inl ht),bB (x:=y) fun t ht=>h t (.inr ht)]
 case call x l=>rw [bB (x:=x) fun t ht=>h t (.inl ht),map_congr fun t ht=>h t (.inr ht)]
theorem GK (h:ao.allocs=false) (fresh GL:Nat) (ρ:Arg->AV):ao.au GL ρ=ao.au fresh ρ:=by
 cases ao<;>simp [AO.allocs] at h<;>first|rfl|skip
 case len b x=>cases b<;>rfl
 case isn kd b x=>cases kd<;>rfl
theorem GM (h:ao.allocs=true) {ρ:Arg->AV} (hr:(ao.au fresh ρ).run g=some (.done val ups)):fresh∈ups.map Prod.fst:=by
 cases ao<;>simp [AO.allocs] at h<;>simp only [AO.au] at hr
 case new zs=>simp [RM.run] at hr;rw [<-hr.2];simp
 case mkm=>simp [RM.run] at hr;rw [<-hr.2];simp
 case box n x=>split at hr<;>simp [RM.run] at hr;rw [<-hr.2];simp
 case bsl sz ln zs ps=>
  cases hf:fillE ρ sz (List.replicate ln zs) ps with
  |none=>simp [hf,RM.opt,RM.run] at hr
  |some els=>simp [hf,RM.opt,RM.run] at hr;rw [<-hr.2];simp
 case msl sz b zs l c=>
  split at hr
  ·split at hr<;>simp [RM.run] at hr;rw [<-hr.2];simp
  ·simp [RM.run] at hr
 case s2b x=>
  split at hr
  ·split at hr<;>simp [RM.run] at hr;rw [<-hr.2];simp
  ·simp [RM.run] at hr
 case app sz b s x=>
  obtain ⟨ys,_,hr⟩:=cC hr
  split at hr
  ·split at hr<;>simp [RM.run] at hr;rw [<-hr.2];simp
  ·split at hr<;>simp [RM.run] at hr;rw [<-hr.2];simp
  ·simp only [RM.run] at hr
   split at hr
   ·split at hr
    ·simp [RM.run] at hr;rw [<-hr.2];simp
    ·split at hr<;>simp [RM.run] at hr;rw [<-hr.2];simp
   ·simp at hr
  ·simp [RM.run] at hr
theorem dm.local {P:Program} {σ σ':Nat->AV} {g g':Nat->Option Bk} {fr gy:Nat} {o:az} {val:AV} {ups:List (Nat×Option Bk)} {acc:List Nat} (h:dm P σ g fr o val ups acc)
  (hσ:∀t,t∈o.iQ->σ' t=σ t) (hg:∀id,id∈acc->g' id=g id) (ew:fr∈ups.map Prod.fst->gy=fr):∃wB,dm P σ' g' gy o val ups wB:=by
 have ct:bO σ' o.guard=bO σ o.guard:=by
  cases hg0:o.guard with
  |none=>rfl
  |some p=>
   obtain ⟨t,w⟩:=p
   simp only [bO,hσ t (by simp [az.iQ,hg0])]
 have db:∀out,(o.ao.au fr (aG σ)).run g=some out->(∀id,id∈(o.ao.au fr (aG σ)).acc g++(o.ao.au fr (aG σ)).see g->g' id=g id)->(o.ao.allocs=true->gy=fr)->(o.ao.au gy (aG σ')).run g'=some out:=by
  intro out h1 h2 h3
  have e1:o.ao.au gy (aG σ')=o.ao.au fr (aG σ):=by
   rw [AG gy fun t ht=>hσ t (by simp [az.iQ,ht])]
   cases hal:o.ao.allocs with
   |false=>exact GK hal _ _ _
   |true=>rw [h3 hal]
  rw [e1,RM.local _ (fun id hid=>h2 id (O7 _ hid)) (fun id hid=>by rw [h2 id (O4 _ hid)])]
  exact h1
 cases h with
 |skip hg0=>exact ⟨_, .skip (ct.trans hg0)⟩
 |done hg0 h1=>exact ⟨_, .done (ct.trans hg0) (db _ h1 hg fun hal=>ew (GM hal h1))⟩
 | @call f as_ bu r hg0 h1 hc hs hf=>
  have hal:o.ao.allocs=false:=by
   cases hx:o.ao with
   |call x l=>rfl
   |_=>exact absurd h1 (we (by rw [hx];simp))
  refine ⟨_, .call (ct.trans hg0) (db _ h1 (fun id hid=>hg id (O7 _ hid)) fun h=>by rw [hal] at h;simp at h) hc ?_ hf⟩
  rw [RM.local _ (fun id hid=>hg id (O4 _ (O7 _ hid))) (fun id hid=>by rw [hg id (O4 _ (O4 _ hid))])]
  exact hs
 | @nj f as_ bu sz els hg0 h1 hc hs hf hn=>
  have hal:o.ao.allocs=false:=by
   cases hx:o.ao with
   |call x l=>rfl
   |_=>exact absurd h1 (we (by rw [hx];simp))
  have hfe:gy=fr:=ew (by simp)
  subst hfe
  refine ⟨_, .nj (ct.trans hg0) (db _ h1 (fun id hid=>hg id (O7 _ hid)) fun _=>rfl) hc ?_ hf hn⟩
  rw [RM.local _ (fun id hid=>hg id (O4 _ (O7 _ hid))) (fun id hid=>by rw [hg id (O4 _ (O4 _ hid))])]
  exact hs
structure Rec where
 dst:Option Nat
 val:AV
 ups:List (Nat×Option Bk)
 acc:List Nat
 fr:Nat
def Rec.keys (r:Rec):List Nat:=r.ups.map Prod.fst
inductive gY (P:Program) (n:Nat):List az->(Nat->AV)->(Nat->Option Bk)->Nat->List Rec->(Nat->AV)->(Nat->Option Bk)->Nat->Prop
 |nil {σ:Nat->AV} {g:Nat->Option Bk} {k:Nat}:gY P n [] σ g k [] σ g k
 |cons {o:az} {os:List az} {σ σ':Nat->AV} {g g':Nat->Option Bk} {k k1 k':Nat} {val:AV} {ups:List (Nat×Option Bk)} {acc:List Nat} {rs:List Rec} (h:dm P σ g k o val ups acc) (hk:k<=k1) (hu:∀id,id∈ups.map Prod.fst->id<k1)
   (hr:gY P n os (bE n o.dst val σ) (aA g ups) k1 rs σ' g' k'):gY P n (o::os) σ g k (⟨o.dst,val,ups,acc,k⟩::rs) σ' g' k'
def dc {β:Type} (L:Nat->Bool) (w:Rec->Option β):Nat->List Rec->β->β
 |_,[],x=>x
 |k,r::rs,x=>dc L w (k+1) rs (if L k=true then (w r).getD x else x)
theorem jE {β:Type} {L L':Nat->Bool} {w:Rec->Option β}:∀(rs:List Rec) (k:Nat) (x:β),(∀(j:Nat) r,rs[j]? =some r->L (k+j)≠L' (k+j)->w r=none)->dc L w k rs x=dc L' w k rs x
 |[],k,x,_=>rfl
 |r::rs,k,x,h=>by
  simp only [dc]
  have h0:=h 0 r rfl
  rw [Pd] at h0
  have e:(if L k=true then (w r).getD x else x)=if L' k=true then (w r).getD x else x:=by
   by_cases hl:L k=L' k
   ·rw [hl]
   ·rw [h0 hl];simp
  rw [e]
  exact jE rs (k+1) _ fun j r' hr hl=>h (j+1) r' (by simpa using hr) (by rw [show k+(j+1)=k+1+j by omega];exact hl)
theorem jF {β:Type} {L:Nat->Bool} {w:Rec->Option β}:∀(rs:List Rec) (k:Nat) (x:β),(∀(j:Nat) r,rs[j]? =some r->L (k+j)=true->w r=none)->dc L w k rs x=x
 |[],k,x,_=>rfl
 |r::rs,k,x,h=>by
  simp only [dc]
  have e:(if L k=true then (w r).getD x else x)=x:=by
   split
   ·rename_i hl;rw [h 0 r rfl (by simpa using hl)];rfl
   ·rfl
  rw [e]
  exact jF rs (k+1) _ fun j r' hr hl=>h (j+1) r' (by simpa using hr) (by rw [show k+(j+1)=k+1+j by omega];exact hl)
theorem np {β:Type} {L L':Nat->Bool} {w:Rec->Option β}:∀(rs:List Rec) (k i:Nat) (x:β) (r:Rec),rs[i]? =some r->L (k+i)=false->(∀j,L' j=if j=k+i then true else L j)->(∀(j:Nat) r',i<j->rs[j]? =some r'->L (k+j)=true->w r'=none\/w r=none)->
  dc L' w k rs x=(w r).getD (dc L w k rs x)
 |[],k,i,x,r,hr,_,_,_=>by simp at hr
 |r0::rs,k,0,x,r,hr,hf,hL,hn=>by
  simp only [OV,Oj] at hr
  subst hr
  simp only [dc,hL k,Pd,Oo]
  rw [Pd] at hf
  rw [hf]
  simp only [Pf,OU]
  cases hw:w r0 with
  |none=>
   simp only [PM]
   refine jE rs (k+1) x fun j r' hr' hl=> ?_
   rw [hL,Ol (by omega)] at hl
   exact absurd rfl hl
  |some y=>
   simp only [Pm]
   refine jF rs (k+1) y fun j r' hr' hl=> ?_
   rw [hL,Ol (by omega)] at hl
   exact (hn (j+1) r' (by omega) (by simpa using hr') (by rw [show k+(j+1)=k+1+j by omega];exact hl)).resolve_right (by rw [hw];simp)
 |r0::rs,k,i+1,x,r,hr,hf,hL,hn=>by
  simp only [dc]
  have e:L' k=L k:=by rw [hL k,Ol (by omega)]
  rw [e]
  exact np rs (k+1) i _ r (by simpa using hr) (by rw [show k+1+i=k+(i+1) by omega];exact hf) (fun j=>by rw [hL j,show k+1+i=k+(i+1) by omega]) fun j r' hj hr' hl=>hn (j+1) r' (by omega) (by simpa using hr') (by rw [show k+(j+1)=k+1+j by omega];exact hl)
theorem ix {β:Type} {L:Nat->Bool} {w:Rec->Option β}:∀(rs:List Rec) (k:Nat) (x:β),dc L w (k+1) rs x=dc (fun j=>L (j+1)) w k rs x
 |[],_,_=>rfl
 |r::rs,k,x=>by
  simp only [dc]
  exact ix rs (k+1) _
def iS (n t:Nat) (r:Rec):Option AV:=if r.dst=some t/\t<n then some r.val else none
def kv:List (Nat×Option Bk)->Nat->Option (Option Bk)
 |[],_=>none
 |(k,x)::r,id=>match kv r id with
  |some y=>some y
  |none=>if id=k then some x else none
theorem kg:∀(ups:List (Nat×Option Bk)) (g:Nat->Option Bk) (id:Nat),aA g ups id=(kv ups id).getD (g id)
 |[],g,id=>rfl
 |(k,x)::r,g,id=>by
  simp only [aA,kv,kg r]
  cases kv r id with
  |some y=>rfl
  |none=>
   simp only [PM]
   by_cases h:id=k
   ·simp [h]
   ·simp [h]
theorem kS:∀{ups:List (Nat×Option Bk)} {id:Nat},kv ups id≠none->id∈ups.map Prod.fst
 |[],id,h=>by simp [kv] at h
 |(k,x)::r,id,h=>by
  simp only [kv] at h
  cases hr:kv r id with
  |some y=>simp only [OD,OC];exact .inr (kS (by rw [hr];simp))
  |none=>
   rw [hr] at h
   by_cases hk:id=k
   ·simp [hk]
   ·simp [hk] at h
def wg (id:Nat) (r:Rec):Option (Option Bk):=kv r.ups id
theorem kT (n t:Nat) (r:Rec) (σ:Nat->AV):bE n r.dst r.val σ t=(iS n t r).getD (σ t):=by
 unfold bE iS
 split<;>rfl
def upto (i j:Nat):Bool:=decide (j<i)
def bF (n:Nat) (L:Nat->Bool) (rs:List Rec) (σ:Nat->AV) (t:Nat):AV:=dc L (iS n t) 0 rs (σ t)
def bC (L:Nat->Bool) (rs:List Rec) (g:Nat->Option Bk) (id:Nat):Option Bk:=dc L (wg id) 0 rs (g id)
theorem wC {rs:List Rec} (h:gY P n os σ g k rs σ' g' k'):
  rs.length=os.length/\k<=k'/\(∀(i:Nat) o,os[i]? =some o->∃r,rs[i]? =some r/\r.dst=o.dst/\dm P (bF n (upto i) rs σ) (bC (upto i) rs g) r.fr o r.val r.ups r.acc/\k<=r.fr)/\
   (∀(i j:Nat) ri rj,i<j->rs[i]? =some ri->rs[j]? =some rj->∀id,id∈ri.keys->id<rj.fr)/\(∀(i:Nat) r,rs[i]? =some r->∀id,id∈r.keys->id<k')/\σ'=bF n (fun _=>true) rs σ/\g'=bC (fun _=>true) rs g:=by
 induction h with
 |nil=>exact ⟨rfl,Ox _,fun i o ho=>by simp at ho,fun i j ri rj _ h=>by simp at h,fun i r h=>by simp at h,rfl,rfl⟩
 | @cons o os σ σ' g g' k k1 k' val ups acc rs h hk hu hr ih=>
  obtain ⟨i1,i2,i3,i4,i5,i6,i7⟩:=ih
  have e1:∀i,bF n (upto (i+1)) (⟨o.dst,val,ups,acc,k⟩::rs) σ=bF n (upto i) rs (bE n o.dst val σ):=by
   intro i;funext t
   show dc _ _ 1 rs _=_
   rw [ix]
   unfold bF
   congr 1
   ·funext j;simp [upto]
   ·rw [Om (by simp [upto])];exact (kT n t ⟨o.dst,val,ups,acc,k⟩ σ).symm
  have e2:∀i,bC (upto (i+1)) (⟨o.dst,val,ups,acc,k⟩::rs) g=bC (upto i) rs (aA g ups):=by
   intro i;funext id
   show dc _ _ 1 rs _=_
   rw [ix]
   unfold bC
   congr 1
   ·funext j;simp [upto]
   ·rw [Om (by simp [upto]),kg];rfl
  refine ⟨by simp [i1],OS hk i2,fun i o' ho=> ?_,fun i j ri rj aX hi hj id hid=> ?_,fun i r hr' id hid=> ?_, ?_, ?_⟩
  ·cases i with
   |zero=>
    simp only [OV,Oj] at ho
    subst ho
    refine ⟨_,rfl,rfl, ?_,Ox _⟩
    have s0:bF n (upto 0) (⟨o.dst,val,ups,acc,k⟩::rs) σ=σ:=by funext t;exact jF _ 0 _ fun j r _ hl=>by simp [upto] at hl
    have g0:bC (upto 0) (⟨o.dst,val,ups,acc,k⟩::rs) g=g:=by funext t;exact jF _ 0 _ fun j r _ hl=>by simp [upto] at hl
    rw [s0,g0]
    exact h
   |succ i=>
    obtain ⟨r,r1,r2,r3,r4⟩:=i3 i o' (by simpa using ho)
    exact ⟨r,by simpa using r1,r2,by rw [e1,e2];exact r3,OS hk r4⟩
  ·cases j with
   |zero=>omega
   |succ j=>
    simp only [Pc] at hj
    cases i with
    |zero=>
     simp only [OV,Oj] at hi
     subst hi
     have bk:j<os.length:=by rw [<-i1];exact (Ov.1 hj).1
     obtain ⟨r,r1,_,_,r4⟩:=i3 j _ (OG bk)
     rw [hj] at r1
     simp only [Oj] at r1
     subst r1
     exact ON (hu id hid) r4
    |succ i=>exact i4 i j ri rj (by omega) (by simpa using hi) hj id hid
  ·cases i with
   |zero=>
    simp only [OV,Oj] at hr'
    subst hr'
    exact ON (hu id hid) i2
   |succ i=>exact i5 i r (by simpa using hr') id hid
  ·rw [i6]
   funext t
   unfold bF
   simp only [dc]
   rw [ix,Oo,kT n t ⟨o.dst,val,ups,acc,k⟩ σ]
  ·rw [i7]
   funext id
   unfold bC
   simp only [dc]
   rw [ix,Oo,kg]
   rfl
def iT (x y:az):Bool:=
 (match x.dst with|some d=> !y.iQ.contains d&&y.dst !=some d|none=>true)&&(match y.dst with|some d=> !x.iQ.contains d|none=>true)
def fq (x y:Rec):Bool:=(x.keys.all fun id=> !y.acc.contains id&& !y.keys.contains id)&&(y.keys.all fun id=> !x.acc.contains id)
def dp (o:Oper):List Nat:=o.after.toList.filterMap fun e=>if Region.binds .any e=true then some e.on else none
def iy (ops:List Oper) (dep:List (List Nat)):Bool:=
 dep.length==ops.length&&(List.range ops.length).all fun j=>((ops[j]?.map dp).getD []).all (· <j)&&
  ((dep[j]?).getD []).all fun i=>i<j&&(((ops[j]?.map dp).getD []).contains i||((ops[j]?.map dp).getD []).any fun e=>((dep[e]?).getD []).contains i)
def fu (os:List az) (dep:List (List Nat)):Bool:=
 (List.range os.length).all fun j=>(List.range j).all fun i=>((dep[j]?).getD []).contains i||(match os[i]?,os[j]? with|some x,some y=>iT x y|_,_=>false)
def ed (rs:List Rec) (dep:List (List Nat)):Bool:=
 (List.range rs.length).all fun j=>(List.range j).all fun i=>((dep[j]?).getD []).contains i||(match rs[i]?,rs[j]? with|some x,some y=>fq x y|_,_=>false)
theorem wD:∀(N:Nat) (m:List Nat),m.Nodup->(∀j,j∈m->j<N)->m.length<=N
 |0,m,_,h=>by
  cases m with
  |nil=>simp
  |cons a l=>have:=h a (by simp);omega
 |N+1,m,hn,h=>by
  have ih:=wD N (m.erase N) (hn.erase N) fun j hj=>by
   have GN:=List.mem_of_mem_erase hj
   have:=h j GN
   have hne:j≠N:=fun e=>by
    subst e
    exact (List.Nodup.mem_erase_iff hn).1 hj|>.1 rfl
   omega
  rw [List.length_erase] at ih
  split at ih<;>omega
section
variable {P:Program} {E0:Env} {n:Nat} {ops:Array Oper} {J:Nat->Prop} {base:Nat} {w0:World} {Q:Exit->Act->World->Prop} {os:List az} {dep:List (List Nat)} {σ σ':Nat->AV} {g g':Nat->Option Bk} {k k':Nat} {rs:List Rec}
structure AH (E0:Env) (n:Nat) (ops:Array Oper) (J:Nat->Prop) (base:Nat) (w0:World) (σ:Nat->AV) (g:Nat->Option Bk) (k:Nat) (rs:List Rec) (listed:Array Bool) (a:Act) (w:World):Prop where
 ex:∃E:Env,E.w=w/\E0.Le E/\(∀t,aj E (a.tmps.getD t undef) (bF n (fun j=>listed.getD j false) rs σ t))/\aE E J base (bC (fun j=>listed.getD j false) rs g)/\
  (∀id,E.kn id->id<k\/∃j r,listed.getD j false=true/\rs[j]? =some r/\id∈r.keys)/\Mk E w0.heap.size a.defers
 size:a.tmps.size=n
 below:Below base w0 w
 gl:ec E0
 fK:listed.size=ops.size
 closed:∀(j:Nat) op,ops[j]? =some op->listed.getD j false=true->∀e,e∈dp op->listed.getD e false=true
theorem oK {e:Nat}:e∈dp op↔∃x,x∈op.after/\Region.binds .any x=true/\x.on=e:=by
 unfold dp
 rw [List.mem_filterMap]
 constructor
 ·rintro ⟨x,hx,h⟩
  split at h
  ·rename_i hb;simp only [Oj] at h;exact ⟨x,by simpa using hx,hb,h⟩
  ·simp at h
 ·rintro ⟨x,hx,hb,he⟩
  exact ⟨x,by simpa using hx,by simp [hb,he]⟩
theorem nq (hd:iy ops.toList dep=true) {listed:Array Bool} (hc:∀(j:Nat) op,ops[j]? =some op->listed.getD j false=true->∀e,e∈dp op->listed.getD e false=true):
  ∀(j:Nat) op,ops[j]? =some op->(∀e,e∈dp op->listed.getD e false=true)->∀i,i∈(dep[j]?).getD []->listed.getD i false=true:=by
 intro j
 induction j using Nat.strongRecOn with
 |_ j ih=>
  intro op bW dx i hi
  have bk:j<ops.toList.length:=by simpa using (OX.1 bW).1
  unfold iy at hd
  simp only [On,Ot,OZ,Pn,OO,P6,PB] at hd
  have hj:=hd.2 j bk
  have nt:ops.toList[j]? =some op:=by simpa using bW
  simp only [nt,Oz,Pm] at hj
  obtain ⟨h1,h2⟩:=hj.2 i hi
  rcases h2 with h2|⟨e,he,h2⟩
  ·exact dx i h2
  ·have GO:e<j:=hj.1 e he
   have fk:e<ops.size:=by simp at bk;omega
   exact ih e GO ops[e] (OE fk) (hc e _ (OE fk) (dx e he)) i h2
end
open Go.RowKit
def mi:az:=⟨none, .mov (.c (.v undef)),none⟩
def nu (k:Nat):Rec:=⟨none, .v undef,[],[],k⟩
def AI (dep:List (List Nat)) (b N:Nat):Bool:=
 ((List.range b).all fun i=>((dep[b]?).getD []).contains i)&&(List.range N).all fun j=>decide (j<=b)||((dep[j]?).getD []).contains b
section
variable {P:Program} {E0:Env} {n:Nat} {ops:Array Oper} {J:Nat->Prop} {base:Nat} {w0:World} {Q:Exit->Act->World->Prop} {os:List az} {dep:List (List Nat)} {σ σ':Nat->AV} {g g':Nat->Option Bk} {k k':Nat} {rs:List Rec}
theorem GP {rd:Option Nat} {i1:Nat} (cr:gY P n os σ g k rs σ' g' k') (hlen:os.length=i1) (NG:i1<=ops.size) (dL:∀(j:Nat) op,i0<=j->j<i1->ops[j]? =some op->∃o,os[j]? =some o/\fp P ops op=some o)
  (hd:iy ops.toList dep=true) (cq:fu os dep=true) (hid:ed rs dep=true)
  (wE:∀listed:Array Bool,(∀(j:Nat) op,ops[j]? =some op->listed.getD j false=true->∀e,e∈dp op->listed.getD e false=true)->(∀j,listed.getD j false=true->j<i1)->(¬∀j,j<i1->listed.getD j false=true)->∀i op,ops[i]? =some op->(∀e,e∈dp op->listed.getD e false=true)->i<i1)
  (hK:∀fuel listed a w,eG E0 J base w0 n σ' g' k' a w->listed.size=ops.size->(∀j,listed.getD j false=decide (j<i1))->(∀m:List Nat,(∀j,j∈m->j<ops.size/\listed.getD j true=false)->m.Nodup->m.length<=fuel)->wpAnyIn (cz rd) 0 P .any ops Q fuel listed a w):
  ∀(fuel:Nat) (listed:Array Bool) (a:Act) (w:World),AH E0 n ops J base w0 σ g k rs listed a w->(∀j,j<i0->listed.getD j false=true)->(∀j,listed.getD j false=true->j<i1)->(∀m:List Nat,(∀j,j∈m->j<ops.size/\listed.getD j true=false)->m.Nodup->m.length<=fuel)->wpAnyIn (cz rd) 0 P .any ops Q fuel listed a w:=by
 obtain ⟨c1,c2,c3,c4,c5,c6,c7⟩:=wC cr
 have done:∀(fuel:Nat) (listed:Array Bool) (a:Act) (w:World),AH E0 n ops J base w0 σ g k rs listed a w->(∀j,listed.getD j false=true->j<i1)->(∀m:List Nat,(∀j,j∈m->j<ops.size/\listed.getD j true=false)->m.Nodup->m.length<=fuel)->(∀j,j<i1->listed.getD j false=true)->wpAnyIn (cz rd) 0 P .any ops Q fuel listed a w:=by
  intro fuel listed a w hI er fv bJ
  obtain ⟨E,rfl,hle,h1,h2,h3,hmk⟩:=hI.ex
  have e6:bF n (fun j=>listed.getD j false) rs σ=σ':=by
   rw [c6];funext t
   refine jE _ 0 _ fun j r hr hl=>absurd ?_ hl
   rw [OF,bJ j (by rw [<-hlen, <-c1];exact (Ov.1 hr).1)]
  have e7:bC (fun j=>listed.getD j false) rs g=g':=by
   rw [c7];funext t
   refine jE _ 0 _ fun j r hr hl=>absurd ?_ hl
   rw [OF,bJ j (by rw [<-hlen, <-c1];exact (Ov.1 hr).1)]
  rw [e6] at h1;rw [e7] at h2
  refine hK fuel listed a E.w ⟨⟨E,rfl,hle,h1,h2,fun id hh=> ?_,hmk⟩,hI.size,hI.below,hI.gl⟩ hI.fK (fun j=> ?_) fv
  ·rcases h3 id hh with h|⟨j,r,_,hr,hk⟩
   ·exact ON h c2
   ·exact c5 j r hr id hk
  ·by_cases hj:j<i1
   ·rw [bJ j hj];simp [hj]
   ·cases hl:listed.getD j false with
    |true=>exact absurd (er j hl) hj
    |false=>simp [hj]
 have first:∀(listed:Array Bool),listed.size=ops.size->(∀(j:Nat) op,ops[j]? =some op->listed.getD j false=true->∀e,e∈dp op->listed.getD e false=true)->(¬∀j,j<i1->listed.getD j false=true)->Region.ready .any ops listed≠[]:=by
  intro listed cV bZ bJ hr
  refine bJ fun j=> ?_
  induction j using Nat.strongRecOn with
  |_ j ih=>
   intro hj
   cases hl:listed.getD j false with
   |true=>rfl
   |false=>
    exfalso
    have hjs:j<listed.size:=by rw [cV];omega
    have iU:j<ops.size:=by omega
    have:j∈Region.ready .any ops listed:=by
     rw [mem_ready]
     refine ⟨by simp [hjs] at hl ⊢; exact hl,ops[j],OE iU,fun e he hb=> ?_⟩
     have cK:=hd
     unfold iy at cK
     simp only [On,Ot,OZ,Pn] at cK
     have iV:=(cK.2 j (by simpa using iU)).1
     have nt:ops.toList[j]? =some ops[j]:=by simp [iU]
     simp only [nt,Oz,Pm] at iV
     have hlt:=iV e.on (oK.2 ⟨e,he,hb,rfl⟩)
     exact ih e.on hlt (by omega)
    rw [hr] at this
    simp at this
 intro fuel
 induction fuel with
 |zero=>
  intro listed a w hI gz er fv
  by_cases bJ:∀j,j<i1->listed.getD j false=true
  ·exact done 0 listed a w hI er fv bJ
  ·exfalso
   cases hr:Region.ready .any ops listed with
   |nil=>exact first listed hI.fK hI.closed bJ hr
   |cons x xs=>
    have hx:x∈Region.ready .any ops listed:=by rw [hr];simp
    obtain ⟨m1,o,m2,_⟩:=mem_ready.1 hx
    have:=fv [x] (fun j hj=>by simp at hj;subst hj;exact ⟨(OX.1 m2).1,m1⟩) (by simp)
    simp at this
 |succ fuel ih=>
  intro listed a w hI gz er fv
  by_cases bJ:∀j,j<i1->listed.getD j false=true
  ·exact done _ listed a w hI er fv bJ
  refine ⟨fun hr=>absurd hr (first listed hI.fK hI.closed bJ),fun i hi=> ?_⟩
  obtain ⟨m1,op,m2,m3⟩:=mem_ready.1 hi
  have cy:i<ops.size:=(OX.1 m2).1
  have cL:listed.getD i false=false:=by
   have:i<listed.size:=by rw [hI.fK];exact cy
   simp [this] at m1 ⊢; exact m1
  have dx:∀e,e∈dp op->listed.getD e false=true:=fun e he=>by
   obtain ⟨x,hx,hb,rfl⟩:=oK.1 he
   exact m3 x hx hb
  have gU:i<i1:=wE listed hI.closed er bJ i op m2 dx
  have GQ:i0<=i:=by
   rcases O8 i i0 with h|h
   ·have:=gz i h;rw [cL] at this;simp at this
   ·exact h
  obtain ⟨o,ho,iW⟩:=dL i op GQ gU m2
  obtain ⟨r,cu,b9,hrun,ew⟩:=c3 i o ho
  obtain ⟨E,rfl,hle,h1,h2,h3,hmk⟩:=hI.ex
  -- GR is listed out of turn is free of this one
  have free:∀j rj oj,j≠i->rs[j]? =some rj->os[j]? =some oj->listed.getD j false≠upto i j->(iT (if i<j then o else oj) (if i<j then oj else o)=true/\fq (if i<j then r else rj) (if i<j then rj else r)=true):=by
   intro j rj oj hne aP bq hl
   have bk:j<os.length:=(Ov.1 bq).1
   unfold fu at cq
   unfold ed at hid
   simp only [Ot,OZ,OO,PB] at cq hid
   by_cases aX:i<j
   ·rw [Om aX,Om aX,Om aX,Om aX]
    have aR:listed.getD j false=true:=by
     have hu:upto i j=false:=by simp [upto];omega
     rw [hu] at hl
     simpa using hl
    have cI:i∉(dep[j]?).getD []:=by
     intro cT
     have iU:j<ops.size:=by omega
     have:=nq hd hI.closed j ops[j] (OE iU) (hI.closed j _ (OE iU) aR) i cT
     rw [cL] at this;simp at this
    have s1:=(cq j bk i aX).resolve_left cI
    have s2:=(hid j (by rw [c1];exact bk) i aX).resolve_left cI
    rw [ho,bq] at s1;rw [cu,aP] at s2
    exact ⟨s1,s2⟩
   ·rw [Ol aX,Ol aX,Ol aX,Ol aX]
    have bD:j<i:=by omega
    have aR:listed.getD j false=false:=by
     have hu:upto i j=true:=by simp [upto];omega
     rw [hu] at hl
     simpa using hl
    have cI:j∉(dep[i]?).getD []:=by
     intro cT
     have:=nq hd hI.closed i op m2 dx j cT
     rw [aR] at this;simp at this
    have s1:=(cq i (by omega) j bD).resolve_left cI
    have s2:=(hid i (by omega) j bD).resolve_left cI
    rw [ho,bq] at s1;rw [cu,aP] at s2
    exact ⟨s1,s2⟩
  have gB:∀(j:Nat) rj,rs[j]? =some rj->∃oj,os[j]? =some oj/\rj.dst=oj.dst:=fun j rj aP=>by
   have bk:j<os.length:=by rw [<-c1];exact (Ov.1 aP).1
   obtain ⟨r',q1,q2,_,_⟩:=c3 j _ (OG bk)
   rw [aP] at q1;simp only [Oj] at q1;subst q1
   exact ⟨_,OG bk,q2⟩
  -- a slot qt it looks at is as it comes one behind jC other
  have hσ:∀t,t∈o.iQ->bF n (fun j=>listed.getD j false) rs σ t=bF n (upto i) rs σ t:=by
   intro t ht
   refine jE _ 0 _ fun j rj aP hl=> ?_
   rw [OF] at hl
   by_cases hne:j=i
   ·subst hne;rw [cL] at hl;simp [upto] at hl
   ·obtain ⟨oj,bq,cK⟩:=gB j rj aP
    have hf:=(free j rj oj hne aP bq hl).1
    unfold iS
    rw [Ol]
    rintro ⟨dh,_⟩
    rw [cK] at dh
    unfold iT at hf
    by_cases aX:i<j
    ·simp only [Om aX,dh,On,OJ,O5,O6] at hf
     exact hf.2 ht
    ·simp only [Ol aX,dh,On,OJ,O5,O6] at hf
     exact hf.1.1 ht
  have hg:∀id,id∈r.acc->bC (fun j=>listed.getD j false) rs g id=bC (upto i) rs g id:=by
   intro id qu
   refine jE _ 0 _ fun j rj aP hl=> ?_
   rw [OF] at hl
   by_cases hne:j=i
   ·subst hne;rw [cL] at hl;simp [upto] at hl
   ·obtain ⟨oj,bq,cK⟩:=gB j rj aP
    have hf:=(free j rj oj hne aP bq hl).2
    cases hw:wg id rj with
    |none=>rfl
    |some y=>
     exfalso
     have hk:id∈rj.keys:=kS (by unfold wg at hw;rw [hw];simp)
     unfold fq at hf
     by_cases aX:i<j
     ·simp only [Om aX,On,Ot,OJ,O5,O6] at hf
      exact hf.2 id hk qu
     ·simp only [Ol aX,On,Ot,OJ,O5,O6] at hf
      exact (hf.1 id hk).1 qu
  -- a name qt GS has
  have qe:∃gy,¬E.kn gy/\(r.fr∈r.ups.map Prod.fst->gy=r.fr):=by
   by_cases gU:r.fr∈r.ups.map Prod.fst
   ·refine ⟨r.fr,fun hk=> ?_,fun _=>rfl⟩
    rcases h3 _ hk with h|⟨j,rj,aR,aP,cJ⟩
    ·omega
    ·by_cases hne:j=i
     ·subst hne;rw [cL] at aR;simp at aR
     ·by_cases aX:i<j
      ·obtain ⟨oj,bq,_⟩:=gB j rj aP
       have hf:=(free j rj oj hne aP bq (by rw [aR];simp [upto];omega)).2
       unfold fq at hf
       simp only [Om aX,On,Ot,OJ,O5,O6] at hf
       exact (hf.1 _ gU).2 cJ
      ·have:=c4 j i rj r (by omega) aP cu _ cJ
       exact PA _ this
   ·refine ⟨k',fun hk=> ?_,fun h=>absurd h gU⟩
    rcases h3 _ hk with h|⟨j,rj,aR,aP,cJ⟩
    ·omega
    ·exact PA _ (c5 j rj aP _ cJ)
  obtain ⟨gy,wF,wG⟩:=qe
  obtain ⟨wB,wH⟩:=hrun.local hσ hg wG
  refine wA (hI.gl.step hle) h1 h2 wF m2 iW wH fun v E' hE hv hM hB aY=> ?_
  -- it is listed now
  have cX:∀j,(listed.setIfInBounds i true).getD j false=if j=0+i then true else listed.getD j false:=by
   intro j
   rw [OF]
   have gZ:i<listed.size:=by rw [hI.fK];exact cy
   by_cases bD:j=i
   ·subst bD;simp [gZ]
   ·rw [Ol bD,getD_set_ne false (Ne.symm bD)]
  have nv:∀t,bF n (fun j=>(listed.setIfInBounds i true).getD j false) rs σ t=bE n o.dst r.val (bF n (fun j=>listed.getD j false) rs σ) t:=by
   intro t
   rw [<-b9,kT]
   refine np rs 0 i _ r cu (by rw [OF];exact cL) cX fun j rj aX aP aR=> ?_
   rw [OF] at aR
   obtain ⟨oj,bq,cK⟩:=gB j rj aP
   have hf:=(free j rj oj (by omega) aP bq (by rw [aR];simp [upto];omega)).1
   unfold iT at hf
   simp only [Om aX] at hf
   by_cases iv:r.dst=some t
   ·left
    unfold iS
    rw [Ol]
    rintro ⟨dh,_⟩
    rw [b9] at iv
    rw [cK] at dh
    simp only [iv,dh,On,bne_iff_ne,ne_eq] at hf
    exact hf.1.2 trivial
   ·right
    unfold iS
    rw [Ol]
    rintro ⟨dh,_⟩
    exact iv dh
  have ng:∀id,bC (fun j=>(listed.setIfInBounds i true).getD j false) rs g id=aA (bC (fun j=>listed.getD j false) rs g) r.ups id:=by
   intro id
   rw [kg]
   refine np rs 0 i _ r cu (by rw [OF];exact cL) cX fun j rj aX aP aR=> ?_
   rw [OF] at aR
   obtain ⟨oj,bq,cK⟩:=gB j rj aP
   have hf:=(free j rj oj (by omega) aP bq (by rw [aR];simp [upto];omega)).2
   unfold fq at hf
   simp only [Om aX,On,Ot,OJ,O5,O6] at hf
   cases hw:wg id r with
   |none=>exact .inr rfl
   |some y=>
    left
    cases hw2:wg id rj with
    |none=>rfl
    |some y2=>
     exfalso
     have k1:id∈r.keys:=kS (by unfold wg at hw;rw [hw];simp)
     have k2:id∈rj.keys:=kS (by unfold wg at hw2;rw [hw2];simp)
     exact (hf.1 id k1).2 k2
  refine ih _ _ _ ⟨⟨E',rfl,hle.trans hE,fun t=> ?_, ?_,fun id hh=> ?_, ?_⟩, ?_,hI.below.trans hB,hI.gl,by simpa using hI.fK,fun j oj bq aR e he=> ?_⟩ (fun j hj=>getD_set_true (gz j hj)) (fun j hj=> ?_) fun m hm cI=> ?_
  ·rw [nv t]
   have:=oI hE h1 hv o.dst t
   rw [hI.size] at this
   exact this
  ·rw [show bC (fun j=>(listed.setIfInBounds i true).getD j false) rs g=aA (bC (fun j=>listed.getD j false) rs g) r.ups from funext ng]
   exact hM
  ·rcases aY id hh with h|h
   ·rcases h3 id h with h|⟨j,rj,q1,q2,q3⟩
    ·exact .inl h
    ·exact .inr ⟨j,rj,getD_set_true q1,q2,q3⟩
   ·refine .inr ⟨i,r, ?_,cu,h⟩
    rw [cX i,OF,Om rfl]
  ·rw [(gX a o.dst v).2];exact hmk.step hE
  ·rw [(gX a o.dst v).1];exact hI.size
  ·rw [cX j,OF] at aR
   by_cases bD:j=i
   ·subst bD
    rw [m2] at bq;simp only [Oj] at bq;subst bq
    exact getD_set_true (dx e he)
   ·rw [Ol bD] at aR
    exact getD_set_true (hI.closed j oj bq aR e he)
  ·rw [cX j,OF] at hj
   by_cases bD:j=i
   ·rw [bD];exact gU
   ·rw [Ol bD] at hj;exact er j hj
  ·have mj:i∉m:=fun cT=>by
    have:=(hm i cT).2
    have gZ:i<listed.size:=by rw [hI.fK];exact cy
    simp [gZ] at this
   have:=fv (i::m) (fun j hj=>by
    rcases OC.1 hj with rfl|hj
    ·exact ⟨cy,m1⟩
    ·refine ⟨(hm j hj).1, ?_⟩
     have h5:=(hm j hj).2
     have bD:i≠j:=fun e=>mj (e▸hj)
     rwa [getD_set_ne true bD] at h5) (List.nodup_cons.2 ⟨mj,cI⟩)
   simpa using this
inductive kU (P:Program) (n:Nat) (dep:List (List Nat)):List az->(Nat->AV)->(Nat->Option Bk)->Nat->List Rec->(Nat->AV)->(Nat->Option Bk)->Nat->Prop
 |nil {σ:Nat->AV} {g:Nat->Option Bk} {k:Nat} {rs:List Rec} (hid:ed rs dep=true):kU P n dep [] σ g k rs σ g k
 |cons {o:az} {os:List az} {σ σ':Nat->AV} {g g':Nat->Option Bk} {k k1 k':Nat} {val:AV} {ups:List (Nat×Option Bk)} {acc:List Nat} {rs:List Rec} (h:dm P σ g k o val ups acc) (hk:k<=k1) (hu:∀id,id∈ups.map Prod.fst->id<k1)
   (hr:kU P n dep os (bE n o.dst val σ) (aA g ups) k1 (rs++[⟨o.dst,val,ups,acc,k⟩]) σ' g' k'):kU P n dep (o::os) σ g k rs σ' g' k'
 |GU {o:az} {os:List az} {σ σ':Nat->AV} {g g1 g':Nat->Option Bk} {k k1 k':Nat} {f:FuncId} {as_:List AV} {r:AV} {rs:List Rec} (hid:ed rs dep=true) (hb:AI dep rs.length (rs.length+1+os.length)=true) (hg:bO σ o.guard=some true)
   (h:(o.ao.au k (aG σ)).run g=some (.call f as_)) (hc:bI P f=true) (hf:Fi P f as_ g k r g1 k1) (hr:kU P n dep os (bE n o.dst r σ) g1 k1 (List.replicate (rs.length+1) (nu k1)) σ' g' k'):kU P n dep (o::os) σ g k rs σ' g' k'
theorem GV:dm P σ g k mi (.v undef) [] []:= .done (val:= .v undef) (ups:=[]) rfl rfl
theorem gY.AJ:∀i,gY P n (List.replicate i mi) σ g k (List.replicate i (nu k)) σ g k
 |0=> .nil
 |i+1=>by
  rw [List.replicate_succ,List.replicate_succ]
  exact .cons (o:=mi) (k1:=k) GV (Ox _) (by simp) (gY.AJ i)
theorem gY.snoc {k1:Nat} (h0:gY P n os σ g k rs σ' g' k') (h:dm P σ' g' k' o val ups acc) (hk:k'<=k1) (hu:∀id,id∈ups.map Prod.fst->id<k1):gY P n (os++[o]) σ g k (rs++[⟨o.dst,val,ups,acc,k'⟩]) (bE n o.dst val σ') (aA g' ups) k1:=by
 induction h0 with
 |nil=>exact .cons h hk hu .nil
 |cons h1 h2 h3 h4 ih=>exact .cons h1 h2 h3 (ih h hk)
theorem GW {pre:List az} (h:fu full dep=true) (hl:pre.length<=full.length) (h1:∀j,i0<=j->j<pre.length->pre[j]? =full[j]?) (h2:∀j,j<i0->j<pre.length->pre[j]? =some mi):fu pre dep=true:=by
 unfold fu at h ⊢
 simp only [Ot,OZ,OO] at h ⊢
 intro j hj i hi
 rcases h j (by omega) i hi with h|h
 ·exact .inl h
 ·right
  by_cases nz:i0<=i
  ·rw [h1 i nz (by omega),h1 j (by omega) hj];exact h
  ·rw [h2 i (by omega) (by omega)]
   cases hp:pre[j]? with
   |none=>simp [List.getElem?_eq_none_iff] at hp;omega
   |some y=>
    simp only [iT,mi,az.iQ,AO.qq,Arg.slot,Bool.true_and]
    split<;>simp
theorem GX {rd:Option Nat} (jG:full.length=ops.size) (dL:∀(j:Nat) op,ops[j]? =some op->∃o,full[j]? =some o/\fp P ops op=some o) (hd:iy ops.toList dep=true) (cq:fu full dep=true)
  (hQ:∀a w,eG E0 J base w0 n σ' g' k' a w->Q .normal a w) (h:kU P n dep os σ g k rs σ' g' k'):
  ∀(i0:Nat) (pre:List az) (cd:Nat->AV) (g0:Nat->Option Bk) (kk:Nat),gY P n pre cd g0 kk rs σ g k->i0<=pre.length->pre.length+os.length=full.length->(∀j,i0<=j->(pre++os)[j]? =full[j]?)->(∀j,j<i0->pre[j]? =some mi/\∃q,rs[j]? =some (nu q))->
   ∀(fuel:Nat) (listed:Array Bool) (a:Act) (w:World),eG E0 J base w0 n cd g0 kk a w->listed.size=ops.size->(∀j,listed.getD j false=decide (j<i0))->(∀m:List Nat,(∀j,j∈m->j<ops.size/\listed.getD j true=false)->m.Nodup->m.length<=fuel)->wpAnyIn (cz rd) 0 P .any ops Q fuel listed a w:=by
 have wI:∀(j:Nat) op,ops[j]? =some op->∀e,e∈dp op->e<j:=by
  intro j op bW e he
  have iU:j<ops.size:=(OX.1 bW).1
  have cK:=hd
  unfold iy at cK
  simp only [On,Ot,OZ,Pn] at cK
  have iV:=(cK.2 j (by simpa using iU)).1
  have nt:ops.toList[j]? =some op:=by simpa using bW
  simp only [nt,Oz,Pm] at iV
  exact iV e he
 -- a phase, given NH comes behind it
 have phase:∀{os:List az} {σ:Nat->AV} {g:Nat->Option Bk} {k:Nat} {rs:List Rec} (i0:Nat) (pre:List az) (cd:Nat->AV) (g0:Nat->Option Bk) (kk:Nat),gY P n pre cd g0 kk rs σ g k->i0<=pre.length->pre.length+os.length=full.length->(∀j,i0<=j->(pre++os)[j]? =full[j]?)->(∀j,j<i0->pre[j]? =some mi/\∃q,rs[j]? =some (nu q))->ed rs dep=true->
   (∀listed:Array Bool,(∀(j:Nat) op,ops[j]? =some op->listed.getD j false=true->∀e,e∈dp op->listed.getD e false=true)->(∀j,listed.getD j false=true->j<pre.length)->(¬∀j,j<pre.length->listed.getD j false=true)->∀i op,ops[i]? =some op->(∀e,e∈dp op->listed.getD e false=true)->i<pre.length)->
   (∀fuel listed a w,eG E0 J base w0 n σ g k a w->listed.size=ops.size->(∀j,listed.getD j false=decide (j<pre.length))->(∀m:List Nat,(∀j,j∈m->j<ops.size/\listed.getD j true=false)->m.Nodup->m.length<=fuel)->wpAnyIn (cz rd) 0 P .any ops Q fuel listed a w)->
   ∀(fuel:Nat) (listed:Array Bool) (a:Act) (w:World),eG E0 J base w0 n cd g0 kk a w->listed.size=ops.size->(∀j,listed.getD j false=decide (j<i0))->(∀m:List Nat,(∀j,j∈m->j<ops.size/\listed.getD j true=false)->m.Nodup->m.length<=fuel)->wpAnyIn (cz rd) 0 P .any ops Q fuel listed a w:=by
  intro os σ g k rs i0 pre cd g0 kk cr nz bj jH mn hid wE hK fuel listed a w hrel cV cX fv
  have AK:∀j,i0<=j->j<pre.length->pre[j]? =full[j]? :=fun j h1 h2=>by
   have:=jH j h1
   rwa [Pg h2] at this
  refine GP (i0:=i0) cr rfl (by omega) (fun j op h1 h2 bW=> ?_) hd (GW cq (by omega) AK fun j h1 _=>(mn j h1).1) hid wE hK fuel listed a w ?_ (fun j hj=>by rw [cX];simpa using hj) (fun j hj=>by rw [cX] at hj;simp at hj;omega) fv
  ·rw [AK j h1 h2];exact dL j op bW
  ·obtain ⟨E,rfl,hle,h1,h2,h3,hmk⟩:=hrel.ex
   have z:∀{β:Type} (wt:Rec->Option β) (x:β),(∀q,wt (nu q)=none)->dc (fun j=>listed.getD j false) wt 0 rs x=x:=by
    intro β wt x hw
    refine jF rs 0 x fun j r hr hl=> ?_
    rw [OF,cX] at hl
    obtain ⟨q,hq⟩:=(mn j (by simpa using hl)).2
    rw [hq] at hr;simp only [Oj] at hr;subst hr
    exact hw q
   have e1:bF n (fun j=>listed.getD j false) rs cd=cd:=by funext t;exact z _ _ fun q=>by simp [iS,nu]
   have e2:bC (fun j=>listed.getD j false) rs g0=g0:=by funext t;exact z _ _ fun q=>by simp [wg,nu,kv]
   refine ⟨⟨E,rfl,hle, ?_, ?_,fun id hh=> .inl (h3 id hh),hmk⟩,hrel.size,hrel.below,hrel.gl,cV,fun j op bW hl e he=> ?_⟩
   ·rw [e1];exact h1
   ·rw [e2];exact h2
   ·rw [cX] at hl ⊢
    have:=wI j op bW e he
    simp at hl ⊢; omega
 induction h with
 | @nil σ g k rs hid=>
  intro i0 pre cd g0 kk cr nz bj jH mn
  have sD:pre.length=ops.size:=by simp at bj;omega
  refine phase i0 pre cd g0 kk cr nz bj jH mn hid (fun listed _ _ _ i op bW _=> ?_) fun fuel listed a w hrel cV cX fv=> ?_
  ·rw [sD];exact (OX.1 bW).1
  ·have hr:Region.ready .any ops listed=[]:=by
    cases hr:Region.ready .any ops listed with
    |nil=>rfl
    |cons x xs=>
     have hx:x∈Region.ready .any ops listed:=by rw [hr];simp
     obtain ⟨m1,o,m2,_⟩:=mem_ready.1 hx
     have AL:x<ops.size:=(OX.1 m2).1
     have GY:x<listed.size:=by rw [cV];exact AL
     have h5:=cX x
     rw [sD] at h5
     simp [GY,AL] at h5 m1
     rw [h5] at m1;simp at m1
   cases fuel with
   |zero=>exact ⟨hr,hQ a w hrel⟩
   |succ fuel=>exact ⟨fun _=>hQ a w hrel,fun i hi=>by rw [hr] at hi;simp at hi⟩
 | @cons o os σ σ' g g' k k1 k' val ups acc rs h hk hu hr ih=>
  intro i0 pre cd g0 kk cr nz bj jH mn
  obtain ⟨c1,_⟩:=wC cr
  refine ih hQ i0 (pre++[o]) cd g0 kk (cr.snoc h hk hu) (by simp;omega) (by simp at bj ⊢; omega) (fun j hj=>by rw [PF];exact jH j hj) fun j hj=> ?_
  obtain ⟨d1,q,d2⟩:=mn j hj
  exact ⟨by rw [Pg (by omega)];exact d1,q,by rw [Pg (by omega)];exact d2⟩
 | @GU o os σ σ' g g1 g' k k1 k' f as_ r rs hid hb hg h bZ hf hr ih=>
  intro i0 pre cd g0 kk cr nz bj jH mn
  obtain ⟨c1,_⟩:=wC cr
  obtain ⟨b,gC⟩:∃b,pre.length=b:=⟨_,rfl⟩
  rw [c1,gC] at hb
  have bm:b<ops.size:=by simp at bj;omega
  have GZ:full[b]? =some o:=by
   have:=jH b (by omega)
   rw [<-this,Px (by omega),gC,Nat.sub_self];rfl
  unfold AI at hb
  simp only [On,Ot,OZ,OO,Pn,PB] at hb
  have AM:∀listed:Array Bool,(∀(j:Nat) op,ops[j]? =some op->listed.getD j false=true->∀e,e∈dp op->listed.getD e false=true)->(∀j,listed.getD j false=true->j<b)->∀i op,ops[i]? =some op->(∀e,e∈dp op->listed.getD e false=true)->i<=b:=by
   intro listed bZ er i op bW dx
   rcases O8 b i with hlt|G0
   ·exfalso
    have hi:i<ops.size:=(OX.1 bW).1
    have hm:=(hb.2 i (by simp at bj;omega)).resolve_left (by omega)
    exact PA _ (er b (nq hd bZ i op bW dx b hm))
   ·exact G0
  refine phase i0 pre cd g0 kk cr nz bj jH mn hid (fun listed bZ er bJ i op bW dx=> ?_) fun fuel listed a w hrel cV cX fv=> ?_
  ·rw [gC] at er bJ ⊢
   have h1:=AM listed bZ er i op bW dx
   rcases O8 i b with h2|h2
   ·exact h2
   ·exfalso
    have e:i=b:=by omega
    subst e
    exact bJ fun j hj=>nq hd bZ i op bW dx j (hb.1 j hj)
  ·rw [gC] at cX
   have wJ:b<listed.size:=by rw [cV];exact bm
   have hcd:∀(j:Nat) op,ops[j]? =some op->listed.getD j false=true->∀e,e∈dp op->listed.getD e false=true:=fun j op bW hl e he=>by
    rw [cX] at hl ⊢
    have:=wI j op bW e he
    simp at hl ⊢; omega
   have AN:listed.getD b true=false:=by
    have:=cX b
    simp [wJ] at this ⊢; exact this
   cases fuel with
   |zero=>
    have:=fv [b] (fun j hj=>by simp at hj;subst hj;exact ⟨bm,AN⟩) (by simp)
    simp at this
   |succ fuel=>
    refine ⟨fun hr=> ?_,fun i hi=> ?_⟩
    ·have:b∈Region.ready .any ops listed:=by
      rw [mem_ready]
      refine ⟨AN,ops[b],OE bm,fun e he hb=> ?_⟩
      have:=wI b _ (OE bm) e.on (oK.2 ⟨e,he,hb,rfl⟩)
      rw [cX];simpa using this
     rw [hr] at this;simp at this
    ·obtain ⟨m1,op,m2,m3⟩:=mem_ready.1 hi
     have cy:i<ops.size:=(OX.1 m2).1
     have dx:∀e,e∈dp op->listed.getD e false=true:=fun e he=>by
      obtain ⟨x,hx,hb,rfl⟩:=oK.1 he
      exact m3 x hx hb
     have G1:i=b:=by
      have h1:=AM listed hcd (fun j hj=>by rw [cX] at hj;simpa using hj) i op m2 dx
      rcases O8 i b with h2|h2
      ·exfalso
       have G2:i<listed.size:=by rw [cV];exact cy
       have h5:=cX i
       simp [G2,h2] at h5 m1
       rw [h5] at m1;simp at m1
      ·omega
     subst G1
     obtain ⟨o',im,h3⟩:=dL i op m2
     rw [GZ] at im;simp only [Oj] at im;subst im
     obtain ⟨E,rfl,hle,hs,hm,aY,hmk⟩:=hrel.ex
     have hdd:=qn h3
     have db:∀e,op.semAt (cz rd).round e=execOp e op:=fun e=>Qb (cz rd) _ _ (oH hdd.2)
     unfold wpOpIn
     simp only [m2]
     rw [kR hs h3 hg,Om rfl]
     obtain ⟨vs,e1,e2⟩:=qg (dz.of (hrel.gl.step hle) hs) hdd.2 h bZ
     unfold Oper.wpIn
     rw [db,e1,Oper.uponIn_enter]
     refine ⟨ke,ni,oG ((hf E J base vs (hrel.gl.step hle) hm aY e2).mono ?_)⟩
     rintro e w' ⟨v,E',rfl,rfl,q1,q2,q3,q4,q5⟩
     refine ih hQ (i+1) (List.replicate (i+1) mi) _ _ _ (by rw [c1,gC];exact gY.AJ (i+1)) (by simp) (by simp at bj ⊢; omega) (fun j hj=> ?_) (fun j hj=>⟨by simp [hj],k1,by rw [c1,gC];simp [hj]⟩) fuel _ _ _ ⟨⟨E',rfl,hle.trans q1, ?_,q3,q5, ?_⟩, ?_, ?_,hrel.gl⟩ (by simpa using cV) (fun j=> ?_) fun m gr cI=> ?_
     ·have h7:=jH j (by omega)
      rw [<-h7,Px (by simp;omega),Px (by omega),gC]
      simp only [Qf]
      rw [show j - i=(j - (i+1))+1 by omega,Pc]
     ·have:=oI q1 hs q2 op.dst
      rw [hrel.size] at this
      rw [hdd.1]
      exact this
     ·rw [(gX a op.dst v).2];exact hmk.step q1
     ·rw [(gX a op.dst v).1];exact hrel.size
     ·exact hrel.below.trans q4
     ·by_cases bD:j=i
      ·subst bD;simp [wJ]
      ·rw [getD_set_ne false (Ne.symm bD),cX j,decide_eq_decide];omega
     ·have mj:i∉m:=fun cT=>by
       have:=(gr i cT).2
       simp [wJ] at this
      have:=fv (i::m) (fun j hj=>by
       rcases OC.1 hj with rfl|hj
       ·exact ⟨cy,m1⟩
       ·refine ⟨(gr j hj).1, ?_⟩
        have h5:=(gr j hj).2
        have bD:i≠j:=fun e=>mj (e▸hj)
        rwa [getD_set_ne true bD] at h5) (List.nodup_cons.2 ⟨mj,cI⟩)
      simpa using this
theorem G3 {id:Nat} (wK:P.follows .mixedOrders=true) (h:kU P n dep os σ g k [] σ' g' k') (hlen:os.length=ops.size) (dL:∀(j:Nat) op,ops[j]? =some op->∃o,os[j]? =some o/\fp P ops op=some o)
  (hd:iy ops.toList dep=true) (cq:fu os dep=true) (hQ:∀a w,eG E0 J base w0 n σ' g' k' a w->Q .normal a w) {a:Act} (hrel:eG E0 J base w0 n σ g k a w) {rd:Option Nat}:(Code.region id ops true).wpIn (cz rd) 0 P Q a w:=by
 refine wpIn_region_any wK ?_
 obtain ⟨E,rfl,hle,h1,h2,h3,hmk⟩:=hrel.ex
 obtain ⟨E',hw,hE,hM,_,hk,_,_⟩:=h2.drew
 have cx:∀(j:Nat),(Array.replicate ops.size false).getD j false=false:=by
  intro j
  rcases O8 j ops.size with h|h
  ·simp [h]
  ·simp [h]
 refine GX hlen dL hd cq hQ h 0 [] σ g k .nil (by simp) (by simp) (fun j _=>by simp) (fun j hj=>by omega) ops.size _ a _ ⟨⟨E',hw,hle.trans hE,fun t=>(h1 t).step hE,hM,fun id hh=>h3 id ((hk id).1 hh),hmk.step hE⟩,hrel.size,hrel.below.drew,hrel.gl⟩ (by simp) (fun j=>by rw [cx];simp) fun m hm cI=> ?_
 exact wD _ _ cI fun j hj=>(hm j hj).1
end
open Go.RowKit
inductive AC where
 |skip
 |bH (os:List az) (dep:Option (List (List Nat)))
 |seq (a b:AC)
 |cond (c:Arg) (a b:AC)
 |block (id:Nat) (a:AC)
 |loop (a:AC)
 |exit (id:Nat)
 |ret
 |gD (g:Arg) (ps:List Nat) (a b:AC)
variable {ac y:AC}
def AC.hH:AC->Bool
 | .seq a b| .cond _ a b=>a.hH||b.hH
 | .block _ a| .loop a=>a.hH
 | .gD _ _ _ _=>true
 |_=>false
def oL (P:Program) (ops:Array Oper):List Oper->Option (List az)
 |[]=>some []
 |o::r=>match fp P ops o,oL P ops r with
  |some x,some l=>some (x::l)
  |_,_=>none
def wL (ops:List Oper):List (List Nat):=
 ops.foldl (fun acc o=>acc++[(dp o++(dp o).flatMap fun e=>(acc[e]?).getD []).eraseDups]) []
def cCode (P:Program):Code->Option AC
 | .skip=>some .skip
 | .region _ ops draw=>match oL P ops ops.toList with
  |some os=>if draw=true then
    (if iy ops.toList (wL ops.toList)=true/\fu os (wL ops.toList)=true/\P.follows .mixedOrders=true then some (.bH os (some (wL ops.toList))) else none)
   else some (.bH os none)
  |none=>none
 | .seq a b=>match cCode P a,cCode P b with
  |some x,some y=>some (.seq x y)
  |_,_=>none
 | .cond c a b=>match cArg c,cCode P a,cCode P b with
  |some c,some x,some y=>some (.cond c x y)
  |_,_,_=>none
 | .block id a=>(cCode P a).map (.block id)
 | .loop a=>(cCode P a).map .loop
 | .exit id=>some (.exit id)
 | .ret=>some .ret
 | .rangeFunc g ps a b=>match cArg g,cCode P a,cCode P b with
  |some g,some x,some y=>some (.gD g ps.toList x y)
  |_,_,_=>none
 |_=>none
structure S3 where
 σ:Nat->AV
 g:Nat->Option Bk
 k:Nat
variable {s':S3}
inductive Ex where
 |normal
 |exit (id:Nat)
 |ret
def Ex.up:Ex->Exit
 | .normal=> .normal
 | .exit id=> .exit id
 | .ret=> .ret
def EW (P:Program) (n k0:Nat) (ac:AC) (s:S3) (Q:Ex->S3->Prop):Prop:=
 ∀(rd:Option Nat) (c:Code) (E0:Env) (J:Nat->Prop) (base:Nat) (w0:World) (a:Act) (w:World),(ac.hH=true->rd=none)->cCode P c=some ac->(∀id,E0.kn id->id<k0)->eG E0 J base w0 n s.σ s.g s.k a w->
  c.wpIn (cz rd) 0 P (fun e a' w'=>∃x s',Q x s'/\e=x.up/\eG E0 J base w0 n s'.σ s'.g s'.k a' w') a w
section
variable {P:Program} {n k0:Nat} {s:S3} {Q:Ex->S3->Prop}
theorem EW.cM {Q':Ex->S3->Prop} (h:EW P n k0 ac s Q) (hq:∀x s,Q x s->Q' x s):EW P n k0 ac s Q':=by
 intro rd c E0 J base w0 a w b9 hc hk hr
 exact wpIn_mono (h rd c E0 J base w0 a w b9 hc hk hr) fun e a' w' ⟨x,s',h1,h2,h3⟩=>⟨x,s',hq x s' h1,h2,h3⟩
def S3.Le (k0 n:Nat) (s s':S3):Prop:=∀(E0:Env) (J:Nat->Prop) (base:Nat) (w0:World) (a:Act) (w:World),(∀id,E0.kn id->id<k0)->eG E0 J base w0 n s.σ s.g s.k a w->eG E0 J base w0 n s'.σ s'.g s'.k a w
theorem EW.fL (hs:s.Le k0 n s') (h:EW P n k0 ac s' Q):EW P n k0 ac s Q:=by
 intro rd c E0 J base w0 a w b9 hc hk hr
 exact h rd c E0 J base w0 a w b9 hc hk (hs E0 J base w0 a w hk hr)
theorem G4 (h:cCode P c=some .skip):c= .skip:=by
 cases c<;>simp [cCode] at h ⊢
 case region id ops draw=>
  split at h
  ·split at h
   ·split at h<;>simp at h
   ·simp at h
  ·simp at h
 case seq a b=>split at h<;>simp at h
 case cond c a b=>split at h<;>simp at h
 case rangeFunc=>split at h<;>simp at h
theorem EW.skip (h:Q .normal s):EW P n k0 .skip s Q:=by
 intro rd c E0 J base w0 a w b9 hc hk hr
 rw [G4 hc]
 exact wpIn_skip ⟨.normal,s,h,rfl,hr⟩
theorem G5 (h:cCode P c=some .ret):c= .ret:=by
 cases c<;>simp [cCode] at h ⊢
 case region id ops draw=>
  split at h
  ·split at h
   ·split at h<;>simp at h
   ·simp at h
  ·simp at h
 case seq a b=>split at h<;>simp at h
 case cond c a b=>split at h<;>simp at h
 case rangeFunc=>split at h<;>simp at h
theorem EW.ret (h:Q .ret s):EW P n k0 .ret s Q:=by
 intro rd c E0 J base w0 a w b9 hc hk hr
 rw [G5 hc]
 exact wpIn_ret ⟨.ret,s,h,rfl,hr⟩
theorem G6 {id:Nat} (h:cCode P c=some (.exit id)):c= .exit id:=by
 cases c<;>simp [cCode] at h ⊢
 case region id ops draw=>
  split at h
  ·split at h
   ·split at h<;>simp at h
   ·simp at h
  ·simp at h
 case seq a b=>split at h<;>simp at h
 case cond c a b=>split at h<;>simp at h
 case rangeFunc=>split at h<;>simp at h
 case exit=>exact h
theorem EW.exit {id:Nat} (h:Q (.exit id) s):EW P n k0 (.exit id) s Q:=by
 intro rd c E0 J base w0 a w b9 hc hk hr
 rw [G6 hc]
 exact wpIn_exit ⟨.exit id,s,h,rfl,hr⟩
theorem G7 {x:AC} (h:cCode P c=some (.seq x y)):∃a b,c= .seq a b/\cCode P a=some x/\cCode P b=some y:=by
 cases c with
 |seq a b=>
  simp only [cCode] at h
  split at h
  ·rename_i h1 h2
   simp only [Oj,AC.seq.injEq] at h
   obtain ⟨rfl,rfl⟩:=h
   exact ⟨a,b,rfl,h1,h2⟩
  ·simp at h
 |_=>
  exfalso
  simp only [cCode] at h
  repeat' (first|(simp at h;done)|split at h)
def Ex.then (next:S3->Prop) (Q:Ex->S3->Prop):Ex->S3->Prop
 | .normal,s=>next s
 |e,s=>Q e s
theorem EW.seq {x y:AC} (h:EW P n k0 x s (Ex.then (fun s'=>EW P n k0 y s' Q) Q)):EW P n k0 (.seq x y) s Q:=by
 intro rd c E0 J base w0 a w b9 hc hk hr
 obtain ⟨ca,cb,rfl,h1,h2⟩:=G7 hc
 refine wpIn_seq (wpIn_mono (h rd ca E0 J base w0 a w (fun hh=>b9 (by simp [AC.hH,hh])) h1 hk hr) ?_)
 rintro e a' w' ⟨x,s',hq,rfl,hr'⟩
 cases x with
 |normal=>exact hq rd cb E0 J base w0 a' w' (fun hh=>b9 (by simp [AC.hH,hh])) h2 hk hr'
 |exit id=>exact ⟨.exit id,s',hq,rfl,hr'⟩
 |ret=>exact ⟨.ret,s',hq,rfl,hr'⟩
theorem G8 {b:Arg} {x:AC} (h:cCode P c=some (.cond b x y)):∃o p q,c= .cond o p q/\cArg o=some b/\cCode P p=some x/\cCode P q=some y:=by
 cases c with
 |cond c p q=>
  simp only [cCode] at h
  split at h
  ·rename_i h1 h2 h3
   simp only [Oj,AC.cond.injEq] at h
   obtain ⟨rfl,rfl,rfl⟩:=h
   exact ⟨c,p,q,rfl,h1,h2,h3⟩
  ·simp at h
 |_=>
  exfalso
  simp only [cCode] at h
  repeat' (first|(simp at h;done)|split at h)
theorem EW.cond {b:Arg} {x y:AC} {t:Bool} (hb:aG s.σ b= .v (.bool t)) (h:EW P n k0 (if t=true then x else y) s Q):EW P n k0 (.cond b x y) s Q:=by
 intro rd c E0 J base w0 a w b9 hc hk hr
 obtain ⟨o,p,q,rfl,h1,h2,h3⟩:=G8 hc
 obtain ⟨E,rfl,hle,hs,hm,aY,hmk⟩:=hr.ex
 have:=dz.of (hr.gl.step hle) hs o b h1
 rw [hb] at this
 refine wpIn_cond this.iw ?_
 cases t with
 |true=>exact h rd p E0 J base w0 a _ (fun hh=>b9 (by simp only [Oo] at hh;simp [AC.hH,hh])) h2 hk hr
 |false=>exact h rd q E0 J base w0 a _ (fun hh=>b9 (by simp only [Pf,OU] at hh;simp [AC.hH,hh])) h3 hk hr
theorem G9 {id:Nat} {x:AC} (h:cCode P c=some (.block id x)):∃b,c= .block id b/\cCode P b=some x:=by
 cases c with
 |block i b=>
  simp only [cCode] at h
  cases hb:cCode P b with
  |none=>simp [hb] at h
  |some y=>
   simp only [hb,Oz,Oj,AC.block.injEq] at h
   obtain ⟨rfl,rfl⟩:=h
   exact ⟨b,rfl,hb⟩
 |_=>
  exfalso
  simp only [cCode] at h
  repeat' (first|(simp at h;done)|split at h)
def Ex.inBlock (id:Nat) (Q:Ex->S3->Prop):Ex->S3->Prop
 | .exit i,s=>if i=id then Q .normal s else Q (.exit i) s
 |e,s=>Q e s
theorem EW.block {id:Nat} {x:AC} (h:EW P n k0 x s (Ex.inBlock id Q)):EW P n k0 (.block id x) s Q:=by
 intro rd c E0 J base w0 a w b9 hc hk hr
 obtain ⟨b,rfl,h1⟩:=G9 hc
 refine wpIn_block (wpIn_mono (h rd b E0 J base w0 a w (fun hh=>b9 (by simp only [AC.hH];exact hh)) h1 hk hr) ?_)
 rintro e a' w' ⟨x,s',hq,rfl,hr'⟩
 cases x with
 |normal=>exact ⟨.normal,s',hq,rfl,hr'⟩
 |exit i=>
  simp only [Ex.inBlock] at hq
  simp only [Ex.up,Exit.inBlock]
  split
  ·rename_i hi;rw [Om hi] at hq;exact ⟨.normal,s',hq,rfl,hr'⟩
  ·rename_i hi;rw [Ol hi] at hq;exact ⟨.exit i,s',hq,rfl,hr'⟩
 |ret=>exact ⟨.ret,s',hq,rfl,hr'⟩
theorem Ha {x:AC} (h:cCode P c=some (.loop x)):∃b,c= .loop b/\cCode P b=some x:=by
 cases c with
 |loop b=>
  simp only [cCode] at h
  cases hb:cCode P b with
  |none=>simp [hb] at h
  |some y=>
   simp only [hb,Oz,Oj,AC.loop.injEq] at h
   subst h
   exact ⟨b,rfl,hb⟩
 |_=>
  exfalso
  simp only [cCode] at h
  repeat' (first|(simp at h;done)|split at h)
theorem Hb {F:Fence} {nn:Nat} {Q:Exit->Act->World->Prop} {a:Act} (I:Nat->Act->World->Prop) {m:Nat} (Hc:I m a w)
  (round:∀m a w,I m a w->c.wpIn F nn P (Exit.then (fun a' w'=>∃m',m'<m/\I m' a' w') Q) a w):(Code.loop c).wpIn F nn P Q a w:=by
 intro b k cs Hd hb hr
 have key:∀m a w,I m a w->∃e a' w',Q e a' w'/\ArrivesIn (Machine.fenced P F) P (lone (b.atR a (.code c:: .inLoop c::k)) cs w) b k cs e a' w':=by
  intro m
  induction m using Nat.strongRecOn with
  |_ m ih=>
   intro a w hI
   obtain ⟨e,oM,oN,hq,mo⟩:=round m a w hI b (.inLoop c::k) cs Hd hb hr
   cases e with
   |normal=>
    obtain ⟨m',hlt,He⟩:=hq
    obtain ⟨Hf,Hg,Hh,Hi,Hj⟩:=ih m' hlt oM oN He
    exact ⟨Hf,Hg,Hh,Hi, .of_steps (StepsIn.trans mo (.one (fenced_calm hb hr rfl) stepR_inLoop)) Hj⟩
   |exit id=>exact ⟨_,oM,oN,hq, .pass (x:= .inLoop c) rfl (fun _ _=> .inl (by simp)) mo⟩
   |goto l=>exact ⟨_,oM,oN,hq, .pass (x:= .inLoop c) rfl (fun _ _=> .inl (by simp)) mo⟩
   |ret=>exact ⟨_,oM,oN,hq, .pass (x:= .inLoop c) rfl (fun _ _=> .inl (by simp)) mo⟩
   |panic ch=>exact ⟨_,oM,oN,hq, .pass (x:= .inLoop c) rfl (fun _ _=> .inl (by simp)) mo⟩
   |outgrown=>exact ⟨_,oM,oN,hq, .pass (x:= .inLoop c) rfl (fun _ _=> .inl (by simp)) mo⟩
 obtain ⟨e,a',w',hq,mo⟩:=key m a w Hc
 exact ⟨e,a',w',hq, .of_steps (.one (fenced_calm hb hr rfl) stepR_loop) mo⟩
theorem EW.loop {x:AC} (I:Nat->S3->Prop) {m:Nat} (h0:I m s) (round:∀m s,I m s->EW P n k0 x s (Ex.then (fun s'=>∃m',m'<m/\I m' s') Q)):EW P n k0 (.loop x) s Q:=by
 intro rd c E0 J base w0 a w b9 hc hk hr
 obtain ⟨b,rfl,h1⟩:=Ha hc
 refine Hb (fun m a w=>∃s,I m s/\eG E0 J base w0 n s.σ s.g s.k a w) (m:=m) ⟨s,h0,hr⟩ ?_
 rintro m a w ⟨s,hI,hr⟩
 refine wpIn_mono (round m s hI rd b E0 J base w0 a w (fun hh=>b9 (by simp only [AC.hH];exact hh)) h1 hk hr) ?_
 rintro e a' w' ⟨x,s',hq,rfl,hr'⟩
 cases x with
 |normal=>
  obtain ⟨m',hm,iz⟩:=hq
  exact ⟨m',hm,s',iz,hr'⟩
 |exit id=>exact ⟨.exit id,s',hq,rfl,hr'⟩
 |ret=>exact ⟨.ret,s',hq,rfl,hr'⟩
theorem qv {ops:Array Oper}:∀{l:List Oper} {os:List az},oL P ops l=some os->l.length=os.length/\∀(j:Nat) op,l[j]? =some op->∃o,os[j]? =some o/\fp P ops op=some o
 |[],os,h=>by simp only [oL,Oj] at h;subst h;exact ⟨rfl,fun j op hj=>by simp at hj⟩
 |o::r,os,h=>by
  simp only [oL] at h
  split at h
  ·rename_i x l h1 h2
   simp only [Oj] at h;subst h
   obtain ⟨k1,k2⟩:=qv h2
   refine ⟨by simp [k1],fun j op hj=> ?_⟩
   cases j with
   |zero=>simp at hj;subst hj;exact ⟨x,rfl,h1⟩
   |succ j=>simp at hj ⊢; exact k2 j op hj
  ·simp at h
theorem sJ {dep:Option (List (List Nat))} (h:cCode P c=some (.bH os dep)):∃id ops draw,c= .region id ops draw/\oL P ops ops.toList=some os/\
  ((draw=false/\dep=none)\/(draw=true/\∃d,dep=some d/\iy ops.toList d=true/\fu os d=true/\P.follows .mixedOrders=true)):=by
 cases c with
 |region id ops draw=>
  simp only [cCode] at h
  split at h
  ·rename_i NI h1
   split at h
   ·rename_i hd
    split at h
    ·rename_i hc
     simp only [Oj,AC.bH.injEq] at h
     obtain ⟨rfl,rfl⟩:=h
     exact ⟨id,ops,draw,rfl,h1, .inr ⟨hd,_,rfl,hc.1,hc.2.1,hc.2.2⟩⟩
    ·simp at h
   ·rename_i hd
    simp only [Oj,AC.bH.injEq] at h
    obtain ⟨rfl,rfl⟩:=h
    exact ⟨id,ops,draw,rfl,h1, .inl ⟨by simpa using hd,rfl⟩⟩
  ·simp at h
 |_=>
  exfalso
  simp only [cCode] at h
  repeat' (first|(simp at h;done)|split at h)
theorem EW.bH {os:List az} {s':S3} (h:gx P n k0 os s.σ s.g s.k s'.σ s'.g s'.k) (hq:Q .normal s'):EW P n k0 (.bH os none) s Q:=by
 intro rd c E0 J base w0 a w b9 hc hk hr
 obtain ⟨id,ops,draw,rfl,h1,h2⟩:=sJ hc
 rcases h2 with ⟨rfl,_⟩|⟨_,d,hd,_⟩
 ·obtain ⟨k1,k2⟩:=qv h1
  refine wpIn_region ?_
  have hsz:ops.size=os.length:=by rw [<-k1];simp
  rw [List.range_eq_range',hsz]
  refine AA (ops:=ops) hk h 0 a w (fun j hj=> ?_) hr fun a' w' hr'=>⟨.normal,s',hq,rfl,hr'⟩
  have hjs:j<ops.size:=by omega
  obtain ⟨o,m1,m2⟩:=k2 j ops[j] (by simp [hjs])
  exact ⟨ops[j],by rw [OF];exact OE hjs,o,m1,m2⟩
 ·simp at hd
theorem EW.draw {os:List az} {dep:List (List Nat)} {s':S3} (h:kU P n dep os s.σ s.g s.k [] s'.σ s'.g s'.k) (hq:Q .normal s'):EW P n k0 (.bH os (some dep)) s Q:=by
 intro rd c E0 J base w0 a w b9 hc hk hr
 obtain ⟨id,ops,draw,rfl,h1,h2⟩:=sJ hc
 rcases h2 with ⟨rfl,hh⟩|⟨rfl,d,hd,h3,h4,h5⟩
 ·simp at hh
 ·simp only [Oj] at hd
  subst hd
  obtain ⟨k1,k2⟩:=qv h1
  refine G3 h5 h (by rw [<-k1];simp) (fun j op hj=>k2 j op (by simpa using hj)) h3 h4 (fun a' w' hr'=>⟨.normal,s',hq,rfl,hr'⟩) hr
end
open Go.RowKit
inductive ki where
 |tmp (t:Nat)
 |cell (t:Nat) (m:Option Nat)
structure cQ where
 n:Nat
 res:List ki
 code:AC
variable {F:cQ}
def cRes (P:Program):List ResultVar->Option (List ki)
 |[]=>some []
 | .tmp t::r=>(cRes P r).map (.tmp t:: ·)
 | .cell a t::r=>match iM P t,cRes P r with
  |some m,some l=>some (.cell a m::l)
  |_,_=>none
def cFunc (P:Program) (f:FuncId):Option cQ:=
 match P.funcs[f]? with
 |some fn=>match fn.body with
  |some c=>match cRes P fn.results.toList,cCode P c with
   |some res,some code=>some ⟨fn.ntmps,res,code⟩
   |_,_=>none
  |none=>none
 |none=>none
def qw (m:Option Nat):AV->RM AV
 | .pim cs o=> .opt (getCells cs o m)
 | .ref id sz i o=> .rd id fun B=>if B.sz=sz then .opt (B.els[i]?.bind fun cs=>getCells cs o m) else .fail
 |_=> .fail
def kj (σ:Nat->AV):List ki->RM (List AV)
 |[]=> .ret []
 | .tmp t::r=>(kj σ r).bind fun l=> .ret (σ t::l)
 | .cell t m::r=>(qw m (σ t)).bind fun a=>(kj σ r).bind fun l=> .ret (a::l)
def kV:List AV->AV
 |[a]=>a
 |l=> .aK l
def resR (σ:Nat->AV) (rs:List ki):RM AV:=(kj σ rs).bind fun l=> .ret (kV l)
def gE:AV->RM AV
 | .aK vs=>(cP vs).bind fun l=> .ret (.aK l)
 |a=>dw a
section
variable {P:Program} {E:Env} {J:Nat->Prop} {base:Nat} {g:Nat->Option Bk} {σ:Nat->AV}
theorem Hk (hm:aE E J base g) {m:Option Nat} (ht:iM P t=some m) {x:AV} (hv:aj E v x) (h:(qw m x).run g=some a):∃v',(do loadVar t (<-asAddr v):Sem Value).run P E.w= .ok v' E.w/\aj E v' a:=by
 unfold qw at h
 split at h
 ·rename_i cs o
  cases hg:getCells cs o m with
  |none=>simp [hg,RM.opt,RM.run] at h
  |some a'=>
   simp [hg,RM.opt,RM.run] at h
   subst h
   cases hv with
   |pim u hb hq hu eF hr=>
    obtain ⟨v',hl,hr'⟩:=sm (P:=P) ht hq u hu hr hg
    exact ⟨v',by simp [asAddr,hl],hr'⟩
 ·rename_i id sz i o
  simp only [RM.run] at h
  cases hgi:g id with
  |none=>simp [hgi] at h
  |some B=>
   simp only [hgi] at h
   split at h
   ·rename_i hsz
    cases hei:B.els[i]? with
    |none=>simp [hei,RM.opt,RM.run] at h
    |some cs=>
     cases hg:getCells cs o m with
     |none=>simp [hei,hg,RM.opt,RM.run] at h
     |some a'=>
      simp [hei,hg,RM.opt,RM.run] at h
      subst h
      cases hv with
      | @ref _ _ _ _ b q hi hd hb hq=>
       have bX:=hm.at_ id B hgi
       rw [hb] at bX
       have fG:∀(j:Nat) (x:AV),cs[j]? =some x->∃u,E.w.cell? ⟨b,i*B.sz+j,none⟩=some u/\u.oneCell'=true/\aj E u x:=fun j x hj=>bX.cell hei hj
       obtain ⟨v',hl,hr'⟩:=sm (P:=P) (E:=E) (cs:=cs) ht (b:=b) (off:=i*sz) hq (fun j=>(E.w.cell? ⟨b,i*sz+j,none⟩).getD undef)
        (fun j x hj=>by obtain ⟨u,k1,_,_⟩:=fG j x hj;rw [hsz] at k1;simp [k1])
        (fun j x hj=>by obtain ⟨u,k1,_,k3⟩:=fG j x hj;rw [hsz] at k1;simpa [k1] using k3) hg
       exact ⟨v',by simp [asAddr,hl],hr'⟩
      |dP hi hd=>exact absurd hd ((hm.live id).2 ⟨B,hgi⟩).2
   ·simp [RM.run] at h
 ·simp [RM.run] at h
def sK (tmps:Array Value):ResultVar->Sem Value
 | .tmp t=>pure (tmps.getD t undef)
 | .cell a t=>do loadVar t (<-asAddr (tmps.getD a undef))
theorem Hl (fn:Func) (tmps:Array Value):results fn tmps=(do
  let vs<-fn.results.mapM (sK tmps)
  pure (if h:vs.size=1 then vs[0] else .tuple vs)):=by
 unfold results
 congr 1
theorem wM (hm:aE E J base g) {tmps:Array Value} (hs:∀t,aj E (tmps.getD t undef) (σ t)):∀{rs:List ResultVar} {mq:List ki} {l:List AV},cRes P rs=some mq->(kj σ mq).run g=some l->
  ∃vs:List Value,(rs.mapM (sK tmps)).run P E.w= .ok vs E.w/\vs.length=l.length/\∀(i:Nat) v c,vs[i]? =some v->l[i]? =some c->aj E v c
 |[],mq,l,hc,h=>by
  simp only [cRes,Oj] at hc;subst hc
  simp only [kj,RM.run,Oj] at h;subst h
  exact ⟨[],by simp,rfl,fun i v c hv=>by simp at hv⟩
 | .tmp t::r,mq,l,hc,h=>by
  simp only [cRes] at hc
  cases hr:cRes P r with
  |none=>simp [hr] at hc
  |some ar=>
   simp only [hr,Oz,Oj] at hc;subst hc
   simp only [kj] at h
   obtain ⟨l',h1,h2⟩:=cC h
   simp only [RM.run,Oj] at h2;subst h2
   obtain ⟨vs,k1,k2,k3⟩:=wM hm hs hr h1
   refine ⟨tmps.getD t undef::vs,by rw [List.mapM_cons,O9,sK,Sem.run_pure,PT,O9,k1];rfl,by simp [k2],fun i v c hv hc=> ?_⟩
   cases i with
   |zero=>simp at hv hc;subst hv;subst hc;simpa using hs t
   |succ i=>simp at hv hc;exact k3 i v c hv hc
 | .cell a t::r,mq,l,hc,h=>by
  simp only [cRes] at hc
  split at hc
  ·rename_i m ar dj hr
   simp only [Oj] at hc;subst hc
   simp only [kj] at h
   obtain ⟨x,h1,h⟩:=cC h
   obtain ⟨l',h2,h3⟩:=cC h
   simp only [RM.run,Oj] at h3;subst h3
   obtain ⟨vs,k1,k2,k3⟩:=wM hm hs hr h2
   obtain ⟨v',e1,e2⟩:=Hk (P:=P) hm dj (hs a) h1
   refine ⟨v'::vs, ?_,by simp [k2],fun i v c hv hc=> ?_⟩
   ·rw [List.mapM_cons,O9,sK,e1,PT,O9,k1]
    rfl
   ·cases i with
    |zero=>simp at hv hc;subst hv;subst hc;exact e2
    |succ i=>simp at hv hc;exact k3 i v c hv hc
  ·simp at hc
theorem qx (hm:aE E J base g) {tmps:Array Value} (hs:∀t,aj E (tmps.getD t undef) (σ t)) {mq:List ki} (hc:cRes P fn.results.toList=some mq) (h:(resR σ mq).run g=some r):∃v,(results fn tmps).run P E.w= .ok v E.w/\aj E v r:=by
 obtain ⟨l,h1,h2⟩:=cC h
 simp only [RM.run,Oj] at h2
 obtain ⟨vs,k1,k2,k3⟩:=wM hm hs hc h1
 refine ⟨if h:vs.toArray.size=1 then vs.toArray[0] else .tuple vs.toArray, ?_, ?_⟩
 ·rw [Hl,Array.mapM_eq_mapM_toList,O9,Sem.run_map,k1]
  rfl
 ·subst h2
  cases vs with
  |nil=>
   have:l=[]:=Py (by simpa using k2.symm)
   subst this
   exact .aK rfl (fun i v c hv=>by simp at hv)
  |cons v vs=>
   cases vs with
   |nil=>
    obtain ⟨a,rfl⟩:∃a,l=[a]:=by
     cases l with
     |nil=>simp at k2
     |cons a l=>cases l with
      |nil=>exact ⟨a,rfl⟩
      |cons=>simp at k2
    simpa [kV] using k3 0 v a rfl rfl
   |cons v' vs=>
    rw [dif_neg (by simp)]
    have e:kV l= .aK l:=by
     cases l with
     |nil=>rfl
     |cons a l=>cases l with
      |nil=>simp at k2
      |cons=>rfl
    rw [e]
    exact .aK (by simpa using k2) (fun i v c hv hc=>k3 i v c (by simpa using hv) hc)
end
theorem qy (h:cFunc P f=some F):∃fn c,P.funcs[f]? =some fn/\fn.body=some c/\cRes P fn.results.toList=some F.res/\cCode P c=some F.code/\fn.ntmps=F.n:=by
 unfold cFunc at h
 split at h
 ·rename_i fn h1
  split at h
  ·rename_i c h2
   split at h
   ·rename_i res code h3 h4
    simp only [Oj] at h;subst h
    exact ⟨fn,c,h1,h2,h3,h4,rfl⟩
   ·simp at h
  ·simp at h
 ·simp at h
def cd (as_:List AV) (t:Nat):AV:=(as_[t]?).getD (.v undef)
theorem oO (h:RC E vs as_) (m:Nat):∀t,aj E ((vs++Array.replicate m undef).getD t undef) (cd as_ t):=by
 intro t
 unfold cd
 by_cases ht:t<vs.size
 ·have AP:t<as_.length:=by rw [<-h.1];exact ht
  rw [OG AP]
  simp only [Pm,PN]
  rw [Qa ht,OE ht]
  exact h.2 t _ _ (OE ht) (OG AP)
 ·rw [PV (by rw [<-h.1];omega)]
  simp only [PM,PN]
  rw [Qj (by omega)]
  have:(Array.replicate m undef)[t - vs.size]?.getD undef=undef:=by
   rcases O8 (t - vs.size) m with h|h
   ·simp [h]
   ·simp [h]
  rw [this]
  exact .v rfl
theorem aj.wN (hc:∀b o,w'.cell? ⟨b,o,none⟩=E.w.cell? ⟨b,o,none⟩) (hs:∀b,w'.shape? b=E.w.shape? b) (hl:∀(b:Nat) r,E.w.heap[b]? =some (.loop r)->w'.heap[b]? =some (.loop r)) (h:aj E v a):aj { E with w:=w' } v a:=by
 induction h with
 |v h=>exact .v h
 |agg hl h ih=>exact .agg hl ih
 |aK hl h ih=>exact .aK hl ih
 |dG hc=>exact .dG hc
 |ep u hn hl hcc hb hz hu h1 h ih=>exact .ep u hn hl hcc hb hz (fun i cs j x hi hj=>(hc _ _).trans (hu i cs j x hi hj)) h1 ih
 |cp h ih=>exact .cp ih
 |emp=>exact .emp
 |pim u hb hq hu h1 h ih=>exact .pim u hb hq (fun j x hj=>(hc _ _).trans (hu j x hj)) h1 ih
 |ref hi hd hb hq=>exact .ref hi hd hb hq
 |own hi hd hb hq nA hm hl hcc bj=>exact .own hi hd hb hq ((hs _).trans nA) hm hl hcc bj
 |bQ hi hd hb bj=>exact .bQ hi hd hb bj
 |dP hi hd ho=>exact .dP hi hd ho
 |ck hi hd ho=>exact .ck hi hd ho
 |mp hi hd hb=>exact .mp hi hd hb
 |gn hi hd ho=>exact .gn hi hd ho
 |fn hl h ih=>exact .fn hl ih
 |bf hl h ih=>exact .bf hl ih
 |af hg hI hh dk h ih=>exact .af hg hI (hl _ _ hh) dk ih
 |c8=>exact .c8
 |dead=>exact .dead
theorem aE.wN (hm:aE E J base g) (hR:∀{v a},aj E v a->aj { E with w:=w' } v a) (fG:∀(b:Nat) arr t x,E.w.heap[b]? =some (.cells arr t x)->w'.heap[b]? =some (.cells arr t x)) (wO:∀(b:Nat) es c,E.w.heap[b]? =some (.map es c)->w'.heap[b]? =some (.map es c)) (hsz:w'.heap.size=E.w.heap.size):aE { E with w:=w' } J base g:=by
 refine ⟨hm.live,fun id B hg=> ?_,hm.apart,hm.out,fun b hb=>⟨by show b<w'.heap.size;rw [hsz];exact (hm.low b hb).1,(hm.low b hb).2⟩,by show base<=w'.heap.size;rw [hsz];exact hm.size,hm.len,hm.fc,fun b hb=>⟨by show b<w'.heap.size;rw [hsz];exact (hm.xo b hb).1,(hm.xo b hb).2⟩⟩
 have:=hm.at_ id B hg
 show cF { E with w:=w' } base B (E.loc id)
 cases hl:E.loc id with
 |none=>rw [hl] at this;exact this
 |some b=>
  rw [hl] at this
  obtain ⟨h1,⟨hz,arr,t,h2,h3,h4⟩|⟨hz,es,c,h2,h3,h4⟩⟩:=this
  ·refine .iL ⟨h1,arr,t,fG _ _ _ _ h2,h3,fun i cs hi=>⟨(h4 i cs hi).1,fun j x hj=> ?_⟩⟩ hz
   obtain ⟨u,k1,k2,k3⟩:=(h4 i cs hi).2 j x hj
   exact ⟨u,k1,k2,hR k3⟩
  ·refine .ofMap ⟨h1,es,c,wO _ _ _ h2,h3,fun i e cs he hi=> ?_⟩ hz
   obtain ⟨x,k1,k2,k3⟩:=h4 i e cs he hi
   exact ⟨x,k1,k2,hR k3⟩
structure iA (lo:Nat) (E E':Env):Prop where
 rep:∀{v a},aj E v a->aj E' v a
 mem:∀{J base g},aE E J base g->aE E' J base g
 heap:∀b,b<lo->E'.w.heap[b]? =E.w.heap[b]?
 size:E'.w.heap.size=E.w.heap.size
 shape:∀b,E'.w.shape? b=E.w.shape? b
 eqs:E'.kn=E.kn/\E'.dead=E.dead/\E'.loc=E.loc/\E'.ln=E.ln/\E'.I=E.I/\E'.rg=E.rg/\E'.X=E.X
 below:∀{base w0},base<=lo->Below base w0 E.w->Below base w0 E'.w
theorem iA.refl (lo:Nat) (E:Env):iA lo E E:=⟨fun h=>h,fun h=>h,fun _ _=>rfl,rfl,fun _=>rfl,⟨rfl,rfl,rfl,rfl,rfl,rfl,rfl⟩,fun _ h=>h⟩
theorem iA.le {E0:Env} (h:iA lo E E') (hle:E0.Le E) (hI:∀b,E0.I b->b<lo) (hX:∀b,E0.X b->b<lo):E0.Le E':=by
 obtain ⟨q1,q2,q3,q4,q5,q6,q7⟩:=h.eqs
 refine ⟨fun id hi=>by rw [q1];exact hle.kn id hi,fun b hb=>⟨by rw [q5];exact (hle.cB b hb).1,(h.heap b (hI b hb)).trans (hle.cB b hb).2⟩,fun id hi hd=>by rw [q2];exact hle.dead id hi hd,fun id hi hd=>by rw [q2,q3];exact hle.loc id hi hd,fun id b hi hd hb=>by rw [q2,h.shape];exact hle.shape id b hi hd hb,fun id hi hd=>by rw [q2,q4];exact hle.ln id hi hd,fun l hg=>by rw [q6];exact hle.rg l hg,fun b hb=>⟨by rw [q7];exact (hle.fx b hb).1,(h.heap b (hX b hb)).trans (hle.fx b hb).2⟩⟩
theorem qz {o:Obj} (o':Obj) (hh:w.heap[D]? =some o) (ho:o.isCells=false) (im:o'.isCells=false):
  (∀b k,(w.putObj D o').cell? ⟨b,k,none⟩=w.cell? ⟨b,k,none⟩)/\(∀b,(w.putObj D o').shape? b=w.shape? b)/\∀(b:Nat) arr t x,w.heap[b]? =some (.cells arr t x)->(w.putObj D o').heap[b]? =some (.cells arr t x):=by
 have hlt:=(OX.1 hh).1
 have hs:=World.putObj_heap_same (w:=w) (o:=o') hlt
 refine ⟨fun b k=> ?_,fun b=> ?_,fun b arr t x hb=> ?_⟩
 ·by_cases hb:b=D
  ·subst hb
   unfold World.cell?
   simp only [hs,hh]
   cases o<;>cases o'<;>simp_all [Obj.isCells]
  ·exact World.cell?_of_block (w:=w) (w':=w.putObj D o') (a:=⟨b,k,none⟩) (PC hb)
 ·by_cases hb:b=D
  ·subst hb
   unfold World.shape?
   simp only [hs,hh]
   cases o<;>cases o'<;>simp_all [Obj.isCells]
  ·unfold World.shape?
   rw [PC hb]
 ·by_cases mr:b=D
  ·subst mr
   rw [hh] at hb
   simp only [Oj] at hb
   subst hb
   simp [Obj.isCells] at ho
  ·rw [PC mr];exact hb
theorem iA.one (hD:lo<=D) (hh:E.w.heap[D]? =some (.deferred (some []))):iA lo E { E with w:=E.w.putObj D (.deferred none) }:=by
 obtain ⟨c1,c2,c3⟩:=qz (.deferred none) hh rfl rfl
 have hR:∀{v a},aj E v a->aj { E with w:=E.w.putObj D (.deferred none) } v a:=fun h=>aj.wN c1 c2 (fun b r hb=>by
  by_cases mr:b=D
  ·subst mr;rw [hh] at hb;simp at hb
  ·rw [PC mr];exact hb) h
 have wO:∀(b:Nat) es c,E.w.heap[b]? =some (.map es c)->(E.w.putObj D (.deferred none)).heap[b]? =some (.map es c):=fun b es c hb=>by
  by_cases mr:b=D
  ·subst mr;rw [hh] at hb;simp at hb
  ·rw [PC mr];exact hb
 refine ⟨hR,fun hm=>hm.wN hR c3 wO (by simp),fun b hb=>PC (by omega),by simp,c2,⟨rfl,rfl,rfl,rfl,rfl,rfl,rfl⟩,fun gz hb=>hb.trans ⟨rfl,rfl,rfl,by simp,fun k hk=>PC (by omega)⟩⟩
theorem iA.trans {lo:Nat} {E E' l4:Env} (h:iA lo E E') (k:iA lo E' l4):iA lo E l4:=by
 obtain ⟨q1,q2,q3,q4,q5,q6,q7⟩:=h.eqs
 obtain ⟨p1,p2,p3,p4,p5,p6,p7⟩:=k.eqs
 exact ⟨fun hr=>k.rep (h.rep hr),fun hm=>k.mem (h.mem hm),fun b hb=>(k.heap b hb).trans (h.heap b hb),k.size.trans h.size,fun b=>(k.shape b).trans (h.shape b),⟨p1.trans q1,p2.trans q2,p3.trans q3,p4.trans q4,p5.trans q5,p6.trans q6,p7.trans q7⟩,fun gz hb=>k.below gz (h.below gz hb)⟩
theorem oP {P:Program} {fn:Func} {tmps:Array Value} {R:Ending->World->Prop} {lo:Nat}:∀(ds:List Deferred) (E:Env),Mk E lo ds->
  (∀E',iA lo E E'->∃v,(results fn tmps).run P E'.w= .ok v E'.w/\R (.returned v) E'.w)->LeavesInM Fence.wide 0 P fn tmps R ds .returning E.w
 |[],E,_,h=>h E (iA.refl lo E)
 |d::ds,E,hmk,h=>by
  cases hmk with
  | @cons D _ hI hD hh hne t=>
   have h1:=iA.one hD hh
   refine ⟨by simp, .inl ⟨D,_,rfl,run_takeDeferred hh, ?_⟩⟩
   refine oP ds { E with w:=E.w.putObj D (.deferred none) } ?_ fun E' hS=>h E' (h1.trans hS)
   clear h h1 hh
   induction t with
   |nil=>exact .nil
   | @cons D' NJ iz qm qA Hm t' ih=>
    have Hn:D'≠D:=fun e=>hne _ (Pj ..) (by rw [e])
    exact .cons iz qm ((PC Hn).trans qA) Hm (ih fun d hd=>hne d (Pb _ hd))
theorem qB {c:Code} (hf:P.funcs[f]? =some fn) (hb:fn.body=some c)
  (h:c.wpIn (cz none) 0 P (fun e a' w'=>(e= .normal\/e= .ret)/\LeavesInM Fence.wide 0 P fn a'.tmps R a'.defers .returning w') { tmps:=args++Array.replicate (fn.ntmps - args.size) undef,defers:=[] } w):Calls P f args w R:=
 (callsIn_wide (n:=0)).1 (callsIn_of_wp_marks (F:=Fence.wide) (n:=0) hf hb trivial (wpIn_mono h fun e a' w' ⟨he,hl⟩=>by
  rcases he with rfl|rfl
  ·exact hl
  ·exact hl) rfl)
theorem Ho (hF:cFunc P f=some F) (hl:as_.length<=F.n)
  (h:EW P F.n k F.code ⟨cd as_,g,k⟩ fun x s'=>(x= .normal\/x= .ret)/\(resR s'.σ F.res).run s'.g=some r/\s'.g=g'/\s'.k=k'):Fi P f as_ g k r g' k':=by
 intro E J base vs hG hm aY bG
 obtain ⟨fn,c,h1,h2,h3,h4,h5⟩:=qy hF
 refine qB h1 h2 (wpIn_mono (h none c E J base E.w _ E.w (fun _=>rfl) h4 aY ⟨⟨E,rfl,Env.Le.refl E,oO bG _,hm,aY, .nil⟩, ?_,OY _ _,hG⟩) ?_)
 ·simp only [P9,Qh,bG.1];omega
 ·rintro e a' w' ⟨x,s',⟨hx,hr,rfl,rfl⟩,rfl,hrel⟩
  obtain ⟨E',rfl,hle,hs,hM,hk,hmk⟩:=hrel.ex
  refine ⟨by rcases hx with rfl|rfl<;>simp [Ex.up],oP _ E' hmk fun E2 hS=> ?_⟩
  have ko:=hS.mem hM
  obtain ⟨v,e1,e2⟩:=qx ko (fun t=>hS.rep (hs t)) h3 hr
  exact ⟨v,e1,v,E2,rfl,rfl,hS.le hle (fun b hb=>(hm.low b hb).1) (fun b hb=>(hm.xo b hb).1),e2,ko,hS.below hm.size hrel.below,fun id hid=>hk id (by rw [<-hS.eqs.1];exact hid)⟩
theorem Hp (hF:cFunc P f=some F) (hl:as_.length<=F.n)
  (h:EW P F.n 0 F.code ⟨cd as_,fun _=>none,0⟩ fun x s'=>(x= .normal\/x= .ret)/\((resR s'.σ F.res).bind gE).run s'.g=some r):Fn P f as_ r:=by
 intro w J vs hJ hG bG
 obtain ⟨fn,c,h1,h2,h3,h4,h5⟩:=qy hF
 have hm:aE (E0 w J) J w.heap.size (fun _=>none):=⟨fun id=>by simp [E0],fun id B hg=>by simp at hg,fun id b7 b B B' hg=>by simp at hg,fun id b B hg=>by simp at hg,fun b hb=>⟨hJ b hb, .inl hb⟩,Ox _,fun id B hg=>by simp at hg,fun _ h=>h.elim,fun _ h=>h.elim⟩
 refine qB h1 h2 (wpIn_mono (h none c (E0 w J) J w.heap.size w _ w (fun _=>rfl) h4 (fun id hid=>hid.elim) ⟨⟨E0 w J,rfl,Env.Le.refl _,oO bG _,hm,fun id hid=>hid.elim, .nil⟩, ?_,OY _ _,hG⟩) ?_)
 ·simp only [P9,Qh,bG.1];omega
 ·rintro e a' w' ⟨x,s',⟨hx,hr⟩,rfl,hrel⟩
  obtain ⟨E1,rfl,hle,hs1,iu,hk,hmk⟩:=hrel.ex
  refine ⟨by rcases hx with rfl|rfl<;>simp [Ex.up],oP _ E1 hmk fun E' hS=> ?_⟩
  have hM:=hS.mem iu
  have hs:=fun t=>hS.rep (hs1 t)
  obtain ⟨r0,eF,cU⟩:=cC hr
  obtain ⟨v,e1,e2⟩:=qx hM hs h3 eF
  have hI:∀ids b,Handed E' s'.g ids b->J b\/(w.heap.size<=b/\b<E'.w.heap.size):=by
   intro ids b hb
   rcases hb with hb|⟨id,B,_,hg,hl⟩
   ·have:=hM.low b hb
    rcases this.2 with h|h
    ·exact .inl h
    ·exact .inr ⟨h,this.1⟩
   ·have:=hM.at_ id B hg
    rw [hl] at this
    exact .inr this.lt
  have cx:aj (Proofs.Ytimomnfobfjggaa.E0 E'.w fun b=>J b\/(w.heap.size<=b/\b<E'.w.heap.size)) v r:=by
   cases r0 with
   |aK us=>
    simp only [gE] at cU
    obtain ⟨l,m1,m2⟩:=cC cU
    simp only [RM.run,Oj] at m2;subst m2
    obtain ⟨k1,k2⟩:=ql hM _ m1 (hI _)
    cases e2 with
    |aK hl h=>
     refine .aK (by rw [k1];exact hl) fun i v c hv hc=> ?_
     have hi:i<us.length:=by rw [<-k1];exact (Ov.1 hc).1
     exact k2 i v us[i] c (h i v _ hv (OG hi)) (OG hi) hc
   |_=>exact wu hM _ e2 cU (hI _)
  exact ⟨v,e1,v,rfl,cx,hS.below (Ox _) hrel.below⟩
open Go.RowKit
structure L3 where
 t:List (Nat×AV)
 m:List (Option Bk)
def slot:List (Nat×AV)->Nat->AV
 |[],_=> .dead
 |(j,v)::r,i=>bif Nat.beq i j then v else slot r i
def qC (d:Nat):List (Nat×AV)->List (Nat×AV)
 |[]=>[]
 |(j,v)::r=>bif Nat.beq j d then qC d r else (j,v)::qC d r
def eB (t:List (Nat×AV)):Option Nat->AV->List (Nat×AV)
 |none,_=>t
 |some d,v=>(d,v)::qC d t
def dstOK (n:Nat):Option Nat->Bool
 |none=>true
 |some d=>Nat.blt d n
def look (m:List (Option Bk)) (id:Nat):Option Bk:=(m[id]?).join
def L3.s (x:L3):S3:=⟨slot x.t,look x.m,x.m.length⟩
def dD (m:List (Option Bk)):List (Nat×Option Bk)->List (Option Bk)
 |[]=>m
 |(id,x)::r=>dD (if id<m.length then m.set id x else m++[x]) r
def upsOK (k:Nat):List (Nat×Option Bk)->Bool
 |[]=>true
 |(id,_)::r=>decide (id<=k)&&upsOK (if id<k then k else k+1) r
theorem Hq {t:List (Nat×AV)} {d:Nat} (h:i≠d):slot (qC d t) i=slot t i:=by
 induction t with
 |nil=>rfl
 |cons p r ih=>
  obtain ⟨j,v⟩:=p
  simp only [qC,slot]
  cases hj:Nat.beq j d with
  |true=>
   have:=Oy hj
   subst this
   have hi:Nat.beq i j=false:=by
    cases hb:Nat.beq i j with
    |false=>rfl
    |true=>exact absurd (Oy hb) h
   simp [hi,ih]
  |false=>simp only [OH,slot,ih]
theorem nB (t:List (Nat×AV)) (d:Option Nat) (hd:dstOK n d=true) (v:AV):slot (eB t d v)=bE n d v (slot t):=by
 funext i
 unfold bE
 cases d with
 |none=>simp [eB]
 |some d=>
  simp only [dstOK] at hd
  have wP:=O3 hd
  simp only [eB,slot,Oj]
  by_cases h:d=i
  ·subst h
   have:Nat.beq d d=true:=Nat.beq_refl d
   rw [this,Om ⟨rfl,wP⟩];rfl
  ·have hb:Nat.beq i d=false:=by
    cases hb:Nat.beq i d with
    |false=>rfl
    |true=>exact absurd (Oy hb).symm h
   rw [hb,Ol (fun hh=>h hh.1)]
   exact Hq (fun e=>h e.symm)
theorem wQ (m:List (Option Bk)) (id:Nat) (x:Option Bk) (h:id<=m.length):look (if id<m.length then m.set id x else m++[x])=fun k=>if k=id then x else look m k:=by
 funext k
 unfold look
 by_cases hl:id<m.length
 ·rw [Om hl,List.getElem?_set]
  by_cases hk:id=k
  ·subst hk;simp [hl]
  ·simp [hk,Ne.symm hk]
 ·rw [Ol hl]
  have:id=m.length:=by omega
  subst this
  by_cases hk:k=m.length
  ·subst hk;simp
  ·rw [Ol hk]
   rcases O8 k m.length with h1|h1
   ·rw [Pg h1]
   ·rw [PV (by simp;omega),PV (by omega)]
theorem qD:∀(ups:List (Nat×Option Bk)) (m:List (Option Bk)),upsOK m.length ups=true->look (dD m ups)=aA (look m) ups/\m.length<=(dD m ups).length/\∀id,id∈ups.map Prod.fst->id<(dD m ups).length
 |[],m,_=>⟨rfl,Ox _,fun id h=>by simp at h⟩
 |(i,x)::r,m,h=>by
  simp only [upsOK,On,Pn] at h
  have hlen:(if i<m.length then m.set i x else m++[x]).length=if i<m.length then m.length else m.length+1:=by split<;>simp
  obtain ⟨h1,h2,h3⟩:=qD r (if i<m.length then m.set i x else m++[x]) (by rw [hlen];exact h.2)
  rw [hlen] at h2
  have e1:m.length<=(if i<m.length then m.length else m.length+1):=by split<;>omega
  have e2:i<(if i<m.length then m.length else m.length+1):=by have:=h.1;split<;>omega
  refine ⟨?_, ?_,fun id hid=> ?_⟩
  ·simp only [dD,aA]
   rw [h1,wQ m i x h.1]
  ·simp only [dD];omega
  ·simp only [dD]
   simp only [OD,OC] at hid
   rcases hid with rfl|hid
   ·omega
   ·exact h3 id hid
inductive sL where
 |done (val:AV) (ups:List (Nat×Option Bk)) (acc:List Nat)
 |call (f:FuncId) (as_:List AV)
 |stuck
def wR (ao:AO) (x:L3):List Nat:=(ao.au x.m.length (aG (slot x.t))).acc (look x.m)++(ao.au x.m.length (aG (slot x.t))).see (look x.m)
def di (o:az) (x:L3):sL:=
 match bO (slot x.t) o.guard with
 |some false=> .done (.v undef) [] []
 |some true=>match (o.ao.au x.m.length (aG (slot x.t))).run (look x.m) with
  |some (.done val ups)=> .done val ups (wR o.ao x)
  |some (.call f as_)=> .call f as_
  |none=> .stuck
 |none=> .stuck
theorem AQ {x:L3} (h:di o x= .done val ups acc):dm P (slot x.t) (look x.m) x.m.length o val ups acc:=by
 unfold di at h
 split at h
 ·rename_i hg
  simp only [sL.done.injEq] at h
  obtain ⟨rfl,rfl,rfl⟩:=h
  exact .skip hg
 ·rename_i hg
  split at h
  ·rename_i h1
   simp only [sL.done.injEq] at h
   obtain ⟨rfl,rfl,rfl⟩:=h
   exact .done hg h1
  ·simp at h
  ·simp at h
 ·simp at h
theorem wS {x:L3} (h:di o x= .call f as_):bO (slot x.t) o.guard=some true/\(o.ao.au x.m.length (aG (slot x.t))).run (look x.m)=some (.call f as_):=by
 unfold di at h
 split at h
 ·simp at h
 ·rename_i hg
  split at h
  ·simp at h
  ·rename_i h1
   simp only [sL.call.injEq] at h
   obtain ⟨rfl,rfl⟩:=h
   exact ⟨hg,h1⟩
  ·simp at h
 ·simp at h
def OW (P:Program) (n k0:Nat) (os:List az) (x:L3) (K:L3->Prop):Prop:=∃x':L3,gx P n k0 os (slot x.t) (look x.m) x.m.length (slot x'.t) (look x'.m) x'.m.length/\K x'
def DW (P:Program) (n:Nat) (dep:List (List Nat)) (os:List az) (x:L3) (rs:List Rec) (K:L3->Prop):Prop:=
 ∃x':L3,kU P n dep os (slot x.t) (look x.m) x.m.length rs (slot x'.t) (look x'.m) x'.m.length/\K x'
section
variable {P:Program} {n k0:Nat} {x:L3} {K:L3->Prop}
theorem OW.nil (h:K x):OW P n k0 [] x K:=⟨x, .nil,h⟩
theorem OW.cons {o:az} {os:List az} {val:AV} {ups:List (Nat×Option Bk)} {acc:List Nat} (hd:dstOK n o.dst=true) (h:di o x= .done val ups acc) (hu:upsOK x.m.length ups=true) (hr:OW P n k0 os ⟨eB x.t o.dst val,dD x.m ups⟩ K):OW P n k0 (o::os) x K:=by
 obtain ⟨x',h1,h3⟩:=hr
 simp only [nB _ _ hd] at h1
 obtain ⟨m1,m2,m3⟩:=qD ups x.m hu
 rw [m1] at h1
 exact ⟨x', .cons (AQ h) m2 m3 h1,h3⟩
theorem OW.call {o:az} {os:List az} {f:FuncId} {as_ bu:List AV} {r:AV} (hd:dstOK n o.dst=true) (h:di o x= .call f as_) (hc:bI P f=true) (hs:(cP as_).run (look x.m)=some bu) (hf:Fn P f bu r) (hu:upsOK x.m.length (callUps as_ r)=true)
  (hr:OW P n k0 os ⟨eB x.t o.dst r,dD x.m (callUps as_ r)⟩ K):OW P n k0 (o::os) x K:=by
 obtain ⟨x',h1,h3⟩:=hr
 simp only [nB _ _ hd] at h1
 obtain ⟨m1,m2,m3⟩:=qD _ x.m hu
 rw [m1] at h1
 obtain ⟨g1,g2⟩:=wS h
 exact ⟨x', .cons (.call g1 g2 hc hs hf) m2 m3 h1,h3⟩
theorem OW.inl {o:az} {os:List az} {f:FuncId} {as_:List AV} {r:AV} {m':List (Option Bk)} (hd:dstOK n o.dst=true) (h:di o x= .call f as_) (hc:bI P f=true) (hf:Fi P f as_ (look x.m) x.m.length r (look m') m'.length)
  (hr:OW P n k0 os ⟨eB x.t o.dst r,m'⟩ K):OW P n k0 (o::os) x K:=by
 obtain ⟨x',h1,h3⟩:=hr
 simp only [nB _ _ hd] at h1
 obtain ⟨g1,g2⟩:=wS h
 exact ⟨x', .inl g1 g2 hc hf h1,h3⟩
theorem DW.nil {dep:List (List Nat)} {rs:List Rec} (hid:ed rs dep=true) (h:K x):DW P n dep [] x rs K:=⟨x, .nil hid,h⟩
theorem DW.cons {dep:List (List Nat)} {rs:List Rec} {o:az} {os:List az} {val:AV} {ups:List (Nat×Option Bk)} {acc:List Nat} (hd:dstOK n o.dst=true) (h:di o x= .done val ups acc) (hu:upsOK x.m.length ups=true)
  (hr:DW P n dep os ⟨eB x.t o.dst val,dD x.m ups⟩ (rs++[⟨o.dst,val,ups,acc,x.m.length⟩]) K):DW P n dep (o::os) x rs K:=by
 obtain ⟨x',h1,h4⟩:=hr
 simp only [nB _ _ hd] at h1
 obtain ⟨m1,m2,m3⟩:=qD ups x.m hu
 rw [m1] at h1
 exact ⟨x', .cons (AQ h) m2 m3 h1,h4⟩
def AR (ao:AO) (as_:List AV) (x:L3):List Nat:=wR ao x++((cP as_).acc (look x.m)++(cP as_).see (look x.m))
theorem DW.call {dep:List (List Nat)} {rs:List Rec} {o:az} {os:List az} {f:FuncId} {as_ bu:List AV} {r:AV} (hd:dstOK n o.dst=true) (h:di o x= .call f as_) (hc:bI P f=true) (hs:(cP as_).run (look x.m)=some bu) (hf:Fn P f bu r) (hu:upsOK x.m.length (callUps as_ r)=true)
  (hr:DW P n dep os ⟨eB x.t o.dst r,dD x.m (callUps as_ r)⟩ (rs++[⟨o.dst,r,callUps as_ r,AR o.ao as_ x,x.m.length⟩]) K):DW P n dep (o::os) x rs K:=by
 obtain ⟨x',h1,h4⟩:=hr
 simp only [nB _ _ hd] at h1
 obtain ⟨m1,m2,m3⟩:=qD _ x.m hu
 rw [m1] at h1
 obtain ⟨g1,g2⟩:=wS h
 exact ⟨x', .cons (.call g1 g2 hc hs hf) m2 m3 h1,h4⟩
end
def EL (P:Program) (n k0:Nat) (ac:AC) (x:L3) (Q:Ex->L3->Prop):Prop:=EW P n k0 ac x.s fun e s'=>∃x':L3,s'=x'.s/\Q e x'
section
variable {P:Program} {n k0:Nat} {x:L3} {Q:Ex->L3->Prop}
def Ex.nC (next:L3->Prop) (Q:Ex->L3->Prop):Ex->L3->Prop
 | .normal,s=>next s
 |e,s=>Q e s
def Ex.nD (id:Nat) (Q:Ex->L3->Prop):Ex->L3->Prop
 | .exit i,s=>if i=id then Q .normal s else Q (.exit i) s
 |e,s=>Q e s
theorem EL.cM {ac:AC} {Q':Ex->L3->Prop} (h:EL P n k0 ac x Q) (hq:∀e x,Q e x->Q' e x):EL P n k0 ac x Q':=EW.cM h fun e s ⟨x',h1,h3⟩=>⟨x',h1,hq e x' h3⟩
theorem EL.fL {ac:AC} {y:L3} (hs:x.s.Le k0 n y.s) (h:EL P n k0 ac y Q):EL P n k0 ac x Q:=EW.fL hs h
theorem EL.skip (h:Q .normal x):EL P n k0 .skip x Q:=EW.skip ⟨x,rfl,h⟩
theorem EL.ret (h:Q .ret x):EL P n k0 .ret x Q:=EW.ret ⟨x,rfl,h⟩
theorem EL.exit {id:Nat} (h:Q (.exit id) x):EL P n k0 (.exit id) x Q:=EW.exit ⟨x,rfl,h⟩
theorem EL.seq {a b:AC} (h:EL P n k0 a x (Ex.nC (fun x'=>EL P n k0 b x' Q) Q)):EL P n k0 (.seq a b) x Q:=
 EW.seq (EW.cM h fun e s ⟨x',h1,h3⟩=>by
  cases e with
  |normal=>subst h1;exact h3
  |exit id=>exact ⟨x',h1,h3⟩
  |ret=>exact ⟨x',h1,h3⟩)
theorem EL.cond {b:Arg} {y z:AC} {t:Bool} (hb:aG (slot x.t) b= .v (.bool t)) (h1:t=true->EL P n k0 y x Q) (h2:t=false->EL P n k0 z x Q):EL P n k0 (.cond b y z) x Q:=
 EW.cond hb (by
  cases t with
  |true=>exact h1 rfl
  |false=>exact h2 rfl)
theorem EL.block {id:Nat} {a:AC} (h:EL P n k0 a x (Ex.nD id Q)):EL P n k0 (.block id a) x Q:=
 EW.block (EW.cM h fun e s ⟨x',h1,h3⟩=>by
  cases e with
  |normal=>exact ⟨x',h1,h3⟩
  |exit i=>
   simp only [Ex.nD] at h3
   simp only [Ex.inBlock]
   split
   ·rename_i hi;rw [Om hi] at h3;exact ⟨x',h1,h3⟩
   ·rename_i hi;rw [Ol hi] at h3;exact ⟨x',h1,h3⟩
  |ret=>exact ⟨x',h1,h3⟩)
theorem EL.loop {a:AC} (I:Nat->L3->Prop) {m:Nat} (h0:I m x) (round:∀m x,I m x->EL P n k0 a x (Ex.nC (fun x'=>∃m',m'<m/\I m' x') Q)):EL P n k0 (.loop a) x Q:=
 EW.loop (fun m s=>∃x:L3,s=x.s/\I m x) (m:=m) ⟨x,rfl,h0⟩ fun m s ⟨x,h1,h3⟩=>by
  subst h1
  refine EW.cM (round m x h3) fun e s ⟨x',q1,q3⟩=> ?_
  cases e with
  |normal=>
   obtain ⟨m',hm,hI⟩:=q3
   exact ⟨m',hm,x',q1,hI⟩
  |exit id=>exact ⟨x',q1,q3⟩
  |ret=>exact ⟨x',q1,q3⟩
theorem EL.bH {os:List az} (h:OW P n k0 os x (Q .normal)):EL P n k0 (.bH os none) x Q:=by
 obtain ⟨x',h1,h3⟩:=h
 exact EW.bH (s':=x'.s) h1 ⟨x',rfl,h3⟩
theorem EL.draw {os:List az} {dep:List (List Nat)} (h:DW P n dep os x [] (Q .normal)):EL P n k0 (.bH os (some dep)) x Q:=by
 obtain ⟨x',h1,h4⟩:=h
 exact EW.draw (s':=x'.s) h1 ⟨x',rfl,h4⟩
theorem S3.wT {s:S3} (hσ:∀t,s'.σ t=s.σ t\/s'.σ t= .dead\/s.σ t= .v undef/\False) (hg:s'.g=s.g) (hk:s'.k=s.k):s.Le k0 n s':=by
 intro E0 J base w0 a w _ hr
 obtain ⟨E,h1,h2,h3,h4,h5,h6⟩:=hr.ex
 refine ⟨⟨E,h1,h2,fun t=> ?_,by rw [hg];exact h4,by rw [hk];exact h5,h6⟩,hr.size,hr.below,hr.gl⟩
 rcases hσ t with h|h|h
 ·rw [h];exact h3 t
 ·rw [h];exact .dead
 ·exact h.2.elim
end
def gF:Nat->List AV->List (Nat×AV)
 |_,[]=>[]
 |i,a::r=>(i,a)::gF (i+1) r
def start (as_:List AV):L3:=⟨gF 0 as_,[]⟩
theorem sM:∀(as_:List AV) (i t:Nat),slot (gF i as_) t=if i<=t then (as_[t - i]?).getD .dead else .dead
 |[],i,t=>by simp [gF,slot]
 |a::r,i,t=>by
  simp only [gF,slot]
  by_cases h:t=i
  ·subst h
   rw [Nat.beq_refl];simp
  ·have hb:Nat.beq t i=false:=by
    cases hb:Nat.beq t i with
    |false=>rfl
    |true=>exact absurd (Oy hb) h
   rw [hb,OH,sM r (i+1) t]
   by_cases h1:i<=t
   ·rw [Om h1,Om (by omega),show t - i=(t - (i+1))+1 by omega,Pc]
   ·rw [Ol h1,Ol (by omega)]
theorem qE (as_:List AV) (g:Nat->Option Bk) (k:Nat):(⟨cd as_,g,k⟩:S3).Le k0 n ⟨slot (gF 0 as_),g,k⟩:=by
 refine S3.wT (fun t=> ?_) rfl rfl
 show slot (gF 0 as_) t=cd as_ t\/_
 rw [sM,Om (Nat.zero_le _),Nat.sub_zero]
 unfold cd
 cases h:as_[t]? with
 |none=>exact .inr (.inl (by simp [sM,h]))
 |some a=>exact .inl rfl
theorem fn_walk (hF:cFunc P f=some F) (hl:as_.length<=F.n)
  (h:EL P F.n 0 F.code (start as_) fun e x=>(e= .normal\/e= .ret)/\((resR (slot x.t) F.res).bind gE).run (look x.m)=some r):Fn P f as_ r:=by
 refine Hp hF hl (EW.fL (qE as_ _ _) (EW.cM h ?_))
 rintro e s ⟨x',rfl,h1,h2⟩
 exact ⟨h1,h2⟩
theorem fi_walk (hF:cFunc P f=some F) (hl:as_.length<=F.n) {m m':List (Option Bk)}
  (h:EL P F.n m.length F.code ⟨gF 0 as_,m⟩ fun e x=>(e= .normal\/e= .ret)/\(resR (slot x.t) F.res).run (look x.m)=some r/\x.m=m'):Fi P f as_ (look m) m.length r (look m') m'.length:=by
 refine Ho hF hl (EW.fL (qE as_ _ _) (EW.cM h ?_))
 rintro e s ⟨x',rfl,h1,h2,rfl⟩
 exact ⟨h1,h2,rfl,rfl⟩
open Go.RowKit
abbrev ow (a:AO):az:=⟨none,a,none⟩
abbrev on (d:Nat) (a:AO) (g:Nat):az:=⟨some d,a,some (g,false)⟩
abbrev Callee:=FuncId->List AV->List (Option Bk)->Option (AV×List (Option Bk))
def AS (pureC:FuncId->List AV->Option AV) (inC:Callee) (f:FuncId) (as_:List AV) (m:List (Option Bk)):Option (AV×List (Option Bk)):=
 match (cP as_).run (look m) with
 |some bu=>match pureC f bu with
  |some r=>if upsOK m.length (callUps as_ r)=true then some (r,dD m (callUps as_ r)) else none
  |none=>none
 |none=>inC f as_ m
def runOps (n:Nat) (pureC:FuncId->List AV->Option AV) (inC:Callee):List az->L3->Option L3
 |[],x=>some x
 |o::os,x=>if dstOK n o.dst=true then match di o x with
  | .done val ups _=>if upsOK x.m.length ups=true then runOps n pureC inC os ⟨eB x.t o.dst val,dD x.m ups⟩ else none
  | .call f as_=>match AS pureC inC f as_ x.m with
   |some (r,m')=>runOps n pureC inC os ⟨eB x.t o.dst r,m'⟩
   |none=>none
  | .stuck=>none
  else none
def oQ (n:Nat) (pureC:FuncId->List AV->Option AV):List az->L3->List Rec->Option (L3×List Rec)
 |[],x,rs=>some (x,rs)
 |o::os,x,rs=>if dstOK n o.dst=true then match di o x with
  | .done val ups acc=>if upsOK x.m.length ups=true then oQ n pureC os ⟨eB x.t o.dst val,dD x.m ups⟩ (rs++[⟨o.dst,val,ups,acc,x.m.length⟩]) else none
  | .call f as_=>match (cP as_).run (look x.m) with
   |some bu=>match pureC f bu with
    |some r=>if upsOK x.m.length (callUps as_ r)=true then oQ n pureC os ⟨eB x.t o.dst r,dD x.m (callUps as_ r)⟩ (rs++[⟨o.dst,r,callUps as_ r,AR o.ao as_ x,x.m.length⟩]) else none
    |none=>none
   |none=>none
  | .stuck=>none
  else none
def eT (T:FuncId->Option cQ):Nat->Nat->AC->L3->Option (Ex×L3)
 |0,_,_,_=>none
 |k+1,n,ac,x=>
  let pureC:FuncId->List AV->Option AV:=fun f as_=>match T f with
   |some F=>if as_.length<=F.n then match eT T k F.n F.code (start as_) with
    |some (.normal,x)=>((resR (slot x.t) F.res).bind gE).run (look x.m)
    |some (.ret,x)=>((resR (slot x.t) F.res).bind gE).run (look x.m)
    |_=>none
    else none
   |none=>none
  let inC:Callee:=fun f as_ m=>match T f with
   |some F=>if as_.length<=F.n then match eT T k F.n F.code ⟨gF 0 as_,m⟩ with
    |some (.normal,x)=>((resR (slot x.t) F.res).run (look x.m)).map fun r=>(r,x.m)
    |some (.ret,x)=>((resR (slot x.t) F.res).run (look x.m)).map fun r=>(r,x.m)
    |_=>none
    else none
   |none=>none
  match ac with
  | .skip=>some (.normal,x)
  | .bH os none=>(runOps n pureC inC os x).map fun x=>(.normal,x)
  | .bH os (some dep)=>match oQ n pureC os x [] with
   |some (x,rs)=>if ed rs dep=true then some (.normal,x) else none
   |none=>none
  | .seq a b=>match eT T k n a x with
   |some (.normal,x)=>eT T k n b x
   |r=>r
  | .cond c a b=>match aG (slot x.t) c with
   | .v (.bool true)=>eT T k n a x
   | .v (.bool false)=>eT T k n b x
   |_=>none
  | .block id a=>match eT T k n a x with
   |some (.exit i,x)=>if i=id then some (.normal,x) else some (.exit i,x)
   |r=>r
  | .loop a=>match eT T k n a x with
   |some (.normal,x)=>eT T k n (.loop a) x
   |r=>r
  | .exit id=>some (.exit id,x)
  | .ret=>some (.ret,x)
  | .gD _ _ _ _=>none
def AT (T:FuncId->Option cQ) (k:Nat) (f:FuncId) (as_:List AV):Option AV:=
 match T f with
 |some F=>if as_.length<=F.n then match eT T k F.n F.code (start as_) with
  |some (.normal,x)=>((resR (slot x.t) F.res).bind gE).run (look x.m)
  |some (.ret,x)=>((resR (slot x.t) F.res).bind gE).run (look x.m)
  |_=>none
  else none
 |none=>none
section
variable {P:Program} {T:FuncId->Option cQ}
def Table (P:Program) (T:FuncId->Option cQ):Prop:=∀f F,T f=some F->cFunc P f=some F/\bI P f=true
def nE:List (Nat×cQ)->FuncId->Option cQ
 |[],_=>none
 |(k,F)::r,f=>bif Nat.beq f k then some F else nE r f
theorem Hr:Table P (nE []):=fun f F h=>by simp [nE] at h
theorem hP {r:List (Nat×cQ)} (h1:cFunc P k=some F) (h2:bI P k=true) (t:Table P (nE r)):Table P (nE ((k,F)::r)):=fun f G h=>by
 simp only [nE] at h
 cases hb:Nat.beq f k with
 |true=>
  rw [hb,Oq,Oj] at h
  have:=Oy hb
  subst this;subst h;exact ⟨h1,h2⟩
 |false=>rw [hb,OH] at h;exact t f G h
theorem sN {n k0:Nat} {pureC:FuncId->List AV->Option AV} {inC:Callee} (hp:∀f as_ r,pureC f as_=some r->Fn P f as_ r/\bI P f=true) (hi:∀f as_ m r m',inC f as_ m=some (r,m')->Fi P f as_ (look m) m.length r (look m') m'.length/\bI P f=true):
  ∀(os:List az) (x x':L3),runOps n pureC inC os x=some x'->OW P n k0 os x (· =x')
 |[],x,x',h=>by simp only [runOps,Oj] at h;exact OW.nil h
 |o::os,x,x',h=>by
  simp only [runOps] at h
  split at h
  case isFalse=>simp at h
  rename_i hd
  split at h
  ·rename_i val ups acc he
   split at h
   ·rename_i hu;exact OW.cons hd he hu (sN hp hi os _ _ h)
   ·simp at h
  ·rename_i f as_ he
   split at h
   ·rename_i r m' hs
    unfold AS at hs
    split at hs
    ·rename_i bu fJ
     split at hs
     ·rename_i r' hr
      split at hs
      ·rename_i hu
       simp only [Oj,OA] at hs
       obtain ⟨rfl,rfl⟩:=hs
       obtain ⟨h1,h2⟩:=hp f bu _ hr
       exact OW.call hd he h2 fJ h1 hu (sN hp hi os _ _ h)
      ·simp at hs
     ·simp at hs
    ·obtain ⟨h1,h2⟩:=hi f as_ x.m r m' hs
     exact OW.inl hd he h2 h1 (sN hp hi os _ _ h)
   ·simp at h
  ·simp at h
theorem wU {n:Nat} {pureC:FuncId->List AV->Option AV} (hp:∀f as_ r,pureC f as_=some r->Fn P f as_ r/\bI P f=true) {dep:List (List Nat)}:
  ∀(os:List az) (x x':L3) (rs kW:List Rec),oQ n pureC os x rs=some (x',kW)->ed kW dep=true->DW P n dep os x rs (· =x')
 |[],x,x',rs,kW,h,hid=>by
  simp only [oQ,Oj,OA] at h
  obtain ⟨rfl,rfl⟩:=h
  exact DW.nil hid rfl
 |o::os,x,x',rs,kW,h,hid=>by
  simp only [oQ] at h
  split at h
  case isFalse=>simp at h
  rename_i hd
  split at h
  ·rename_i val ups acc he
   split at h
   ·rename_i hu;exact DW.cons hd he hu (wU hp os _ _ _ _ h hid)
   ·simp at h
  ·rename_i f as_ he
   split at h
   ·rename_i bu fJ
    split at h
    ·rename_i r hr
     split at h
     ·rename_i hu
      obtain ⟨h1,h2⟩:=hp f bu _ hr
      exact DW.call hd he h2 fJ h1 hu (wU hp os _ _ _ _ h hid)
     ·simp at h
    ·simp at h
   ·simp at h
  ·simp at h
theorem AU (hT:Table P T):∀(k:Nat) (n k0:Nat) (ac:AC) (x:L3) (e:Ex) (x':L3),eT T k n ac x=some (e,x')->EL P n k0 ac x fun e' y=>e'=e/\y=x':=by
 intro k
 induction k using Nat.strongRecOn with
 |_ k AW=>
 cases k with
 |zero=>intro n k0 ac x e x' h;simp [eT] at h
 |succ k=>
  have ih:=AW k (by omega)
  intro n k0 ac x e x' h
  have jH:=h
  simp only [eT] at h
  generalize Hs:(fun (f:FuncId) (as_:List AV)=>match T f with
   |some F=>if as_.length<=F.n then match eT T k F.n F.code (start as_) with
    |some (.normal,x)=>((resR (slot x.t) F.res).bind gE).run (look x.m)
    |some (.ret,x)=>((resR (slot x.t) F.res).bind gE).run (look x.m)
    |_=>none
    else none
   |none=>none)=pureC at h
  generalize Ht:(fun (f:FuncId) (as_:List AV) (m:List (Option Bk))=>match T f with
   |some F=>if as_.length<=F.n then match eT T k F.n F.code ⟨gF 0 as_,m⟩ with
    |some (.normal,x)=>((resR (slot x.t) F.res).run (look x.m)).map fun r=>(r,x.m)
    |some (.ret,x)=>((resR (slot x.t) F.res).run (look x.m)).map fun r=>(r,x.m)
    |_=>none
    else none
   |none=>none)=inC at h
  have hp:∀f as_ r,pureC f as_=some r->Fn P f as_ r/\bI P f=true:=by
   intro f as_ r hr
   rw [<-Hs] at hr
   simp only at hr
   split at hr
   ·rename_i F hF
    obtain ⟨c1,c2⟩:=hT f F hF
    split at hr
    ·rename_i hl
     split at hr
     ·rename_i y hy
      exact ⟨fn_walk c1 hl ((ih F.n 0 F.code _ _ _ hy).cM fun e' z ⟨h1,h2⟩=>by subst h1;subst h2;exact ⟨.inl rfl,hr⟩),c2⟩
     ·rename_i y hy
      exact ⟨fn_walk c1 hl ((ih F.n 0 F.code _ _ _ hy).cM fun e' z ⟨h1,h2⟩=>by subst h1;subst h2;exact ⟨.inr rfl,hr⟩),c2⟩
     ·simp at hr
    ·simp at hr
   ·simp at hr
  have hi:∀f as_ m r m',inC f as_ m=some (r,m')->Fi P f as_ (look m) m.length r (look m') m'.length/\bI P f=true:=by
   intro f as_ m r m' hr
   rw [<-Ht] at hr
   simp only at hr
   split at hr
   ·rename_i F hF
    obtain ⟨c1,c2⟩:=hT f F hF
    split at hr
    ·rename_i hl
     split at hr
     ·rename_i y hy
      cases hres:(resR (slot y.t) F.res).run (look y.m) with
      |none=>simp [hres] at hr
      |some r'=>
       simp only [hres,Oz,Oj,OA] at hr
       obtain ⟨rfl,rfl⟩:=hr
       exact ⟨fi_walk c1 hl ((ih F.n m.length F.code _ _ _ hy).cM fun e' z ⟨h1,h2⟩=>by subst h1;subst h2;exact ⟨.inl rfl,hres,rfl⟩),c2⟩
     ·rename_i y hy
      cases hres:(resR (slot y.t) F.res).run (look y.m) with
      |none=>simp [hres] at hr
      |some r'=>
       simp only [hres,Oz,Oj,OA] at hr
       obtain ⟨rfl,rfl⟩:=hr
       exact ⟨fi_walk c1 hl ((ih F.n m.length F.code _ _ _ hy).cM fun e' z ⟨h1,h2⟩=>by subst h1;subst h2;exact ⟨.inr rfl,hres,rfl⟩),c2⟩
     ·simp at hr
    ·simp at hr
   ·simp at hr
  cases ac with
  |skip=>
   simp only [Oj,OA] at h
   obtain ⟨rfl,rfl⟩:=h
   exact EL.skip ⟨rfl,rfl⟩
  |ret=>
   simp only [Oj,OA] at h
   obtain ⟨rfl,rfl⟩:=h
   exact EL.ret ⟨rfl,rfl⟩
  |exit id=>
   simp only [Oj,OA] at h
   obtain ⟨rfl,rfl⟩:=h
   exact EL.exit ⟨rfl,rfl⟩
  |gD gg ps a b=>simp at h
  |bH os dep=>
   cases dep with
   |none=>
    simp only at h
    cases hr:runOps n pureC inC os x with
    |none=>simp [hr] at h
    |some y=>
     simp only [hr,Oz,Oj,OA] at h
     obtain ⟨rfl,rfl⟩:=h
     refine EL.bH ?_
     obtain ⟨z,h1,h3⟩:=sN hp hi os x y hr
     exact ⟨z,h1,rfl,h3⟩
   |some dep=>
    simp only at h
    split at h
    ·rename_i y rs hr
     split at h
     ·rename_i hid
      simp only [Oj,OA] at h
      obtain ⟨rfl,rfl⟩:=h
      refine EL.draw ?_
      obtain ⟨z,h1,h4⟩:=wU hp os x y [] rs hr hid
      exact ⟨z,h1,rfl,h4⟩
     ·simp at h
    ·simp at h
  |seq a b=>
   simp only at h
   refine EL.seq ?_
   split at h
   ·rename_i y hy
    refine (ih n k0 a x _ _ hy).cM ?_
    rintro e' z ⟨rfl,rfl⟩
    exact ih n k0 b z _ _ h
   ·rename_i hne
    refine (ih n k0 a x _ _ h).cM ?_
    rintro e' z ⟨rfl,rfl⟩
    cases e' with
    |normal=>exact absurd h (hne _)
    |exit id=>exact ⟨rfl,rfl⟩
    |ret=>exact ⟨rfl,rfl⟩
  |cond c a b=>
   simp only at h
   split at h
   ·rename_i hb
    exact EL.cond hb (fun _=>ih n k0 a x _ _ h) (fun hh=>by simp at hh)
   ·rename_i hb
    exact EL.cond hb (fun hh=>by simp at hh) (fun _=>ih n k0 b x _ _ h)
   ·simp at h
  |block id a=>
   simp only at h
   refine EL.block ?_
   split at h
   ·rename_i i y hy
    refine (ih n k0 a x _ _ hy).cM ?_
    rintro e' z ⟨rfl,rfl⟩
    simp only [Ex.nD]
    split at h
    ·rename_i aO
     simp only [Oj,OA] at h
     obtain ⟨rfl,rfl⟩:=h
     rw [Om aO];exact ⟨rfl,rfl⟩
    ·rename_i aO
     simp only [Oj,OA] at h
     obtain ⟨rfl,rfl⟩:=h
     rw [Ol aO];exact ⟨rfl,rfl⟩
   ·rename_i hne
    refine (ih n k0 a x _ _ h).cM ?_
    rintro e' z ⟨rfl,rfl⟩
    cases e' with
    |normal=>exact ⟨rfl,rfl⟩
    |exit id=>exact absurd h (hne _ _)
    |ret=>exact ⟨rfl,rfl⟩
  |loop a=>
   refine EL.loop (fun j y=>j<=k+1/\eT T j n (.loop a) y=some (e,x')) (m:=k+1) ⟨Ox _,jH⟩ ?_
   rintro j y ⟨hj,hy⟩
   cases j with
   |zero=>simp [eT] at hy
   |succ j=>
    have AX:=AW j (by omega)
    simp only [eT] at hy
    split at hy
    ·rename_i z hz
     refine (AX n k0 a y _ _ hz).cM ?_
     rintro e' z' ⟨rfl,rfl⟩
     exact ⟨j,by omega,by omega,hy⟩
    ·rename_i hne
     refine (AX n k0 a y _ _ hy).cM ?_
     rintro e' z' ⟨rfl,rfl⟩
     cases e' with
     |normal=>exact absurd hy (hne _)
     |exit id=>exact ⟨rfl,rfl⟩
     |ret=>exact ⟨rfl,rfl⟩
theorem iB (hT:Table P T) (h:AT T k f as_=some r):Fn P f as_ r:=by
 unfold AT at h
 split at h
 ·rename_i F hF
  obtain ⟨c1,c2⟩:=hT f F hF
  split at h
  ·rename_i hl
   split at h
   ·rename_i y hy
    exact fn_walk c1 hl ((AU hT k F.n 0 F.code _ _ _ hy).cM fun e' z ⟨h1,h2⟩=>by subst h1;subst h2;exact ⟨.inl rfl,h⟩)
   ·rename_i y hy
    exact fn_walk c1 hl ((AU hT k F.n 0 F.code _ _ _ hy).cM fun e' z ⟨h1,h2⟩=>by subst h1;subst h2;exact ⟨.inr rfl,h⟩)
   ·simp at h
  ·simp at h
 ·simp at h
end
end Go.Proofs.Ytimomnfobfjggaa
