/- A function that is handed values without letters is run. No condition. -/
import Derived.Test.YtimomnfobfjggaaPAvStr
import Derived.OrdersIn
import Derived.OwnWalkIn
import Derived.RangeFuncOwn
import Derived.RangeFuncLeaves
set_option linter.unusedSimpArgs false
set_option linter.unusedVariables false
namespace Go.Proofs.Ytimomnfobfjggaa
variable {ao:AO} {val a r a':AV} {x:Arg} {ops:Array Oper} {vs args:Array Value} {c:Code} {R:Ending->World->Prop} {E E':Env} {Q:Exit->Act->World->Prop} {fn:Func} {f:FuncId} {ups:List (Nat×Option Bk)} {as_ bz:List AV} {ds:List Deferred} {acc:List Nat} {n k lo k' fresh kb i k0 base i0 D:Nat} {σ σ':Nat->AV} {g g':Nat->Option Bk} {J:Nat->Prop} {op:Oper} {xo:Operand} {ρ:Option Nat} {P:Program} {t ty e:TypeId} {v:Value} {w w':World}
open Go.RowKit
abbrev OJ:=@Bool.and_eq_true
abbrev OL:=@cond_true
abbrev OP:=@List.mem_singleton
abbrev OR:=@Nat.eq_of_beq_eq_true
abbrev OU:=@List.mem_cons
abbrev O0:=@cond_false
abbrev O4:=@Bool.not_eq_true'
abbrev O8:=@Nat.lt_of_lt_of_le
abbrev O9:=@Bool.or_eq_true
abbrev Pj:=@List.mem_range
abbrev Pm:=@List.mem_append
abbrev Pn:=@Nat.le_of_ble_eq_true
abbrev Po:=@List.mem_append_right
abbrev Pp:=@List.contains_eq_mem
abbrev Pq:=@decide_eq_false_iff_not
abbrev Pr:=@List.mem_append_left
abbrev PF:=@List.flatMap_cons
abbrev PG:=@decide_eq_true_eq
abbrev PH:=@List.mem_cons_self
abbrev PW:=@Nat.lt_irrefl
abbrev PX:=@List.contains_iff_mem
abbrev PY:=@World.putObj_heap_other
abbrev P3:=@List.cons_append
abbrev P8:=@Array.getD_eq_getD_getElem?
abbrev P9:=@List.getElem?_eq_none
abbrev Qq:=@Array.toList_inj
abbrev Qr:=@List.any_eq_true
abbrev Qx:=@Oper.semAt_plain
abbrev QC:=@List.map_congr_left
abbrev QD:=@Array.size_replicate
abbrev QF:=@Array.getElem?_append_right
section
variable {P:Program} {E:Env} {J:Nat->Prop} {base:Nat} {g:Nat->Option Bk} {aD:Operand->Value} {ρ:Arg->AV} {fresh:Nat}
theorem At {cs ds:List AV}:∀{L M:List (Nat×LK)} {b:Bool},eqA cs ds (L++M)=some b->∃x y,eqA cs ds L=some x/\eqA cs ds M=some y/\b=(x&&y)
 |[],M,b,h=>⟨true,b,rfl,h,by simp⟩
 |(o,k)::L,M,b,h=>by
  simp only [P3,eqA] at h ⊢
  split at h
  ·rename_i a c h1 h2
   split at h
   ·rename_i x y h3 h4
    obtain ⟨x',y',k1,k2,k3⟩:=At h4
    simp only [OG] at h
    refine ⟨x&&x',y', ?_,k2,by rw [<-h,k3,Bool.and_assoc]⟩
    simp [h1,h2,h3,k1]
   ·simp at h
  ·simp at h
def partOf (P:Program) (t:TypeId) (vs:Array Value) (off:Nat):Value->Prop:=fun x=>
 match P.underlying t with
 |some (.struct _)=>∃n,szOf P t=some n/\off+n<=vs.size/\x= .agg (vs.extract off (off+n))
 |_=>vs[off]? =some x
theorem Gw {ws:Array Value} {cs ds:List AV} (h1:RC E vs cs) (h2:RC E ws ds):∀(d:Nat) (t:TypeId) (off:Nat) (L:List (Nat×LK)) (b:Bool),ke P d t off=some L->eqA cs ds L=some b->∀D,d<=D->∀x y,partOf P t vs off x->partOf P t ws off y->
  (Op.equalIn D t x y).run P E.w= .ok b E.w:=by
 intro d
 induction d with
 |zero=>intro t off L b hL;simp [ke] at hL
 |succ d ih=>
  intro t off L b hL hb D hD x y hx hy
  obtain ⟨D,rfl⟩:∃D',D=D'+1:=⟨D - 1,by omega⟩
  simp only [ke] at hL
  have leaf:∀k,L=[(off,k)]->vs[off]? =some x->ws[off]? =some y->∃a c,cs[off]? =some a/\ds[off]? =some c/\ka k a c=some b/\aj E x a/\aj E y c:=by
   intro k hk hx hy
   subst hk
   simp only [eqA] at hb
   split at hb
   ·rename_i a c e1 e2
    split at hb
    ·rename_i u v e3 e4
     simp only [OG] at hb e4
     subst e4
     rw [Bool.and_true] at hb
     subst hb
     exact ⟨a,c,e1,e2,e3,h1.2 _ _ _ hx e1,h2.2 _ _ _ hy e2⟩
    ·simp at hb
   ·simp at hb
  split at hL
  ·rename_i k hu
   simp only [OG] at hL
   simp only [partOf,hu] at hx hy
   obtain ⟨a,c,e1,e2,e3,e4,e5⟩:=leaf .int hL.symm hx hy
   unfold ka at e3
   split at e3<;>try (simp at e3;done)
   ·rename_i k1 m1 k2 m2 _
    split at e3
    ·rename_i hk;subst hk
     simp only [OG] at e3;subst e3
     cases e4;cases e5
     exact run_equalIn_int _ D t k1 k m1 m2 hu
    ·simp at e3
   all_goals (rename_i hk;simp at hk)
  ·rename_i hu
   simp only [OG] at hL
   simp only [partOf,hu] at hx hy
   obtain ⟨a,c,e1,e2,e3,e4,e5⟩:=leaf .str hL.symm hx hy
   unfold ka at e3
   split at e3<;>try (simp at e3;done)
   all_goals try (rename_i hk;simp at hk;done)
   simp only [OG] at e3;subst e3
   cases e4;cases e5
   rw [zV]
   exact run_equalIn_string _ D t _ _ hu
  ·rename_i hu
   simp only [OG] at hL
   simp only [partOf,hu] at hx hy
   obtain ⟨a,c,e1,e2,e3,e4,e5⟩:=leaf .bool hL.symm hx hy
   unfold ka at e3
   split at e3<;>try (simp at e3;done)
   all_goals try (rename_i hk;simp at hk;done)
   simp only [OG] at e3;subst e3
   cases e4;cases e5
   exact run_equalIn_bool' _ D t _ _ hu
  ·rename_i fs hu
   split at hL
   ·simp at hL
   ·rename_i dj
    split at hL
    ·rename_i n hn
     simp only [partOf,hu] at hx hy
     obtain ⟨nx,qq,Gx,rfl⟩:=hx
     obtain ⟨ny,oO,Gy,rfl⟩:=hy
     obtain rfl:n=nx:=by rw [hn] at qq;simpa using qq
     obtain rfl:n=ny:=by rw [hn] at oO;simpa using oO
     have oP:P.fieldsOf t=fs:=by simp [Program.fieldsOf,hu]
     rw [run_equalIn_struct E.w D t _ _ (by rw [oP];exact hu) (by simpa using dj),oP]
     clear oP dj leaf hu
     generalize fs.toList=l at hL
     induction l generalizing L b with
     |nil=>
      simp only [sB,OG] at hL
      subst hL
      simp only [eqA,OG] at hb
      subst hb
      rfl
     |cons f l Gz=>
      simp only [sB] at hL
      split at hL
      ·simp at hL
      ·rename_i qs
       split at hL
       ·rename_i k hk
        split at hL
        ·rename_i hfit
         split at hL
         ·rename_i La Lb ea eb
          simp only [OG] at hL
          subst hL
          obtain ⟨xa,xb,m1,m2,rfl⟩:=At hb
          have hp:∀(us:Array Value),off+n<=us.size->∃p,(part f.type (us.extract off (off+n)) f.offset).run P E.w= .ok p E.w/\partOf P f.type us (off+f.offset) p:=by
           intro us NZ
           have hsz:=mq hk E.w
           cases hd:P.underlying f.type with
           |none=>
            exfalso
            cases d with
            |zero=>simp [ke] at ea
            |succ d=>simp [ke,hd] at ea
           |some desc=>
            have wu:(isAgg f.type).run P E.w= .ok false E.w->(∀qt,desc≠ .struct qt)->0<k\/True->f.offset<n->∃p,(part f.type (us.extract off (off+n)) f.offset).run P E.w= .ok p E.w/\partOf P f.type us (off+f.offset) p:=by
             intro dN hne _ hlt
             have hg:(us.extract off (off+n))[f.offset]? =us[off+f.offset]? :=by
              rw [Array.getElem?_extract]
              simp;omega
             have sT:off+f.offset<us.size:=by omega
             refine ⟨us[off+f.offset], ?_, ?_⟩
             ·simp [part,dN,hg,OY sT]
             ·simp only [partOf,hd]
              cases desc<;>first|exact OY sT|exact absurd rfl (hne _)
            cases desc with
            |struct qt=>
             refine ⟨_,by simp [part,isAgg,run_underlying hd,hsz];rfl, ?_⟩
             simp only [partOf,hd]
             refine ⟨k,hk,by omega, ?_⟩
             congr 1
             apply Array.ext_getElem?
             intro i
             simp only [Array.getElem?_extract]
             by_cases hi:i<k
             ·rw [OI (by omega),OI (by omega)]
              try rw [OI (by omega)]
              try (congr 1;omega)
             ·rw [OH (by omega),OH (by omega)]
            |int _=>exact wu (by simp [isAgg,run_underlying hd]) (fun qt h=>by cases h) (.inr trivial) hfit.2
            |string=>exact wu (by simp [isAgg,run_underlying hd]) (fun qt h=>by cases h) (.inr trivial) hfit.2
            |bool=>exact wu (by simp [isAgg,run_underlying hd]) (fun qt h=>by cases h) (.inr trivial) hfit.2
            |_=>
             exfalso
             cases d with
             |zero=>simp [ke] at ea
             |succ d=>simp [ke,hd] at ea
          obtain ⟨p1,r1,q1⟩:=hp vs Gx
          obtain ⟨p2,r2,q2⟩:=hp ws Gy
          have cv:=ih f.type (off+f.offset) La xa ea m1 D (by omega) p1 p2 q1 q2
          have GA:=Gz Lb xb m2 eb
          simp only [Op.eqFields]
          rw [OI qs]
          simp only [Pv,r1,r2,cv,Qd,Sem.run_ite]
          cases xa
          ·simp
          ·simp [GA]
         ·simp at hL
        ·simp at hL
       ·simp at hL
    ·simp at hL
  ·simp at hL
theorem Au (hm:aE E J base g) {neg:Bool} {op:BinOp} (bX:op=if neg then .neq else .eql) {L:List (Nat×LK)} {fs:Array Field} (hu:P.underlying t=some (.struct fs)) (hn:szOf P t=some n) (hg:P.eqGuardType P.depth t=false) (hL:ke P 8 t 0=some L) {vx vy:Value} {yo:Operand} {y:Arg} (hvx:aj E vx (ρ x)) (hvy:aj E vy (ρ y))
 (h:((AO.eqs neg n L x y).au fresh ρ).run g=some (.done val ups)):
  bQ E J base g ((do pure (Next.value (<-(do eqGuard op t xo yo vx vy;binOp op t vx vy:Sem Value))):Sem Next).run P E.w) val ups:=by
 simp only [AO.au] at h
 split at h
 ·rename_i cs ds h1 h2
  split at h
  case isFalse=>simp [RM.run] at h
  rename_i hlen
  cases hb:eqA cs ds L with
  |none=>simp [hb,RM.opt,RM.run] at h
  |some b=>
   simp [hb,RM.opt,RM.run] at h
   obtain ⟨rfl,rfl⟩:=h
   have s1:szOf P t=some cs.length:=by rw [hlen.1];exact hn
   have s2:szOf P t=some ds.length:=by rw [hlen.2];exact hn
   rw [h1] at hvx;rw [h2] at hvy
   cases hvx with
   | @agg xs _ l1 r1=>cases hvy with
    | @agg ys _ l2 r2=>
     have hrun:=Gw (P:=P) (E:=E) ⟨l1,r1⟩ ⟨l2,r2⟩ 8 t 0 L b hL hb 10000 (by omega) (.agg xs) (.agg ys) (by
      simp only [partOf,hu];refine ⟨_,s1,by omega, ?_⟩;congr 1;rw [OZ, <-l1];simp) (by
      simp only [partOf,hu];refine ⟨_,s2,by omega, ?_⟩;congr 1;rw [OZ, <-l2];simp)
     cases neg with
     |false=>
      simp only [PE,Pf] at bX ⊢
      subst bX
      refine bw hm (v:= .bool b) ?_ (.v rfl)
      simp [run_eqGuard_agg E.w _ t xo yo xs ys hg,run_eql_struct,hrun]
     |true=>
      simp only [OK] at bX ⊢
      subst bX
      refine bw hm (v:= .bool (!b)) ?_ (.v rfl)
      simp [run_eqGuard_agg E.w _ t xo yo xs ys hg,run_neq_struct,hrun]
 ·simp [RM.run] at h
theorem GB (ha:dE E aD ρ) (hm:aE E J base g) (hu:P.underlying t=some .string) {x:Operand} {ax:Arg} (hx:cArg x=some ax) {lo hi:Option Operand} {j8 j9:Option Arg} (h1:eU lo=some j8) (h2:eU hi=some j9)
 (h:((AO.sls ax j8 j9).au fresh ρ).run g=some (.done val ups)):
  bQ E J base g ((do pure (Next.value (<-Instr.sliceAt t (aD x) (lo.map aD) (hi.map aD) none)):Sem Next).run P E.w) val ups:=by
 have hv:=ha x ax hx
 simp only [AO.au] at h
 split at h
 ·rename_i nlo nhi s k1 k2 cK
  cases hb:bounds s.size nlo nhi with
  |none=>simp [hb,RM.opt,RM.run] at h
  |some b=>
   simp [hb,RM.opt,RM.run] at h
   obtain ⟨rfl,rfl⟩:=h
   rw [cK] at hv
   have hvx:aD x= .string s:=by
    obtain ⟨vv,cd⟩:∃vv,vv=aD x:=⟨_,rfl⟩
    rw [<-cd] at hv ⊢
    cases hv with|v=>rfl
   have fK:=nt (P:=P) (E:=E) (isS:=false) (mx:=none) (amx:=none) (nmx:=none) ha (OQ s.size) h1 h2 rfl k1 k2 rfl (by simp) hb (fun m hm=>by simp at hm)
   simp only [Option.map_none,P7] at fK
   refine bw hm (v:= .string (s.extract b.1 b.2)) ?_ (.v rfl)
   simp [hvx,Instr.sliceAt,Instr.slice,run_underlying hu,fK]
 ·simp [RM.run] at h
theorem GC (hm:aE E J base g) (hu:P.underlying t=some .string) {vi:Value} {i:Arg} (hv:aj E v (ρ x)) (hvi:aj E vi (ρ i))
 (h:((AO.six x i).au fresh ρ).run g=some (.done val ups)):
  bQ E J base g ((do pure (Next.value (<-Instr.index t v vi)):Sem Next).run P E.w) val ups:=by
 simp only [AO.au] at h
 split at h
 ·rename_i s n hx hn
  cases hb:s[n]? with
  |none=>simp [hb,RM.opt,RM.run] at h
  |some b=>
   simp [hb,RM.opt,RM.run] at h
   obtain ⟨rfl,rfl⟩:=h
   obtain ⟨k,rfl⟩:=sJ hvi hn
   rw [hx] at hv
   cases hv with
   |v hp=>
    refine bw hm (v:= .int .u8 b.toNat) ?_ (.v rfl)
    simp [Instr.index,asIntOf,run_underlying hu,hb]
 ·simp [RM.run] at h
theorem GD {caps:Array Value} {c:Call} {x:Operand} (hc:c.callee= .value x) (hx:aD x= .func (.func f) #[] caps) (w:World):
  (do let d<-resolve aD c ty;invoke d.target d.args:Sem Next).run P w=(callFunc f (c.args.map aD++caps)).run P w:=by
 simp [resolve,hc,hx,Deferred.ofValue,invoke]
theorem GF {first:Array Value} {c:Call} {x:Operand} (hc:c.callee= .value x) (hx:aD x= .func (.func f) first #[]) (w:World):
  (do let d<-resolve aD c ty;invoke d.target d.args:Sem Next).run P w=(callFunc f (first++c.args.map aD)).run P w:=by
 simp [resolve,hc,hx,Deferred.ofValue,invoke]
def bL (P:Program) (f:FuncId):Bool:=
 match P.funcs[f]? with
 |some fn=>fn.body.isSome&&fn.name != "runtime.NumGoroutine"
 |none=>false
theorem wv (h:bL P f=true) (args:Array Value) (w:World):(callFunc f args).run P w= .ok (.enter f args) w:=by
 unfold bL at h
 cases hf:P.funcs[f]? with
 |none=>simp [hf] at h
 |some fn=>
  simp only [hf,OJ,bne_iff_ne,ne_eq] at h
  have hb:fn.body.isNone=false:=by cases hbb:fn.body<;>simp [hbb] at h ⊢
  simp only [callFunc,Pv,run_program,Qd,hf,hb,PE,Pf]
  rw [OH (by simpa using h.2)]
  rfl
theorem aj.iC {a:Value} (h:aj E v (.v a)):v=a:=by cases h;rfl
theorem Av {x:Option Operand} {ax:Option Arg} (h:eU x=some ax):ax.isSome=x.isSome:=by
 cases x with
 |none=>simp [eU] at h;subst h;rfl
 |some o=>
  simp only [eU] at h
  cases hc:cArg o<;>simp [hc] at h
  subst h;rfl
theorem wx (hn:∀x args,ao≠ .call x args):(ao.au fresh ρ).run g≠some (.call f as_):=by
 intro h
 have mz:∀{α:Type} (m:Option α) (k:α->Out),(∀a,∀f as_,k a≠ .call f as_)->∀f as_,RM.run g (RM.opt (m.map k))=some (.call f as_)->False:=by
  intro α m k hk f as_ hh
  cases m with
  |none=>simp [RM.opt,RM.run] at hh
  |some a=>simp [RM.opt,RM.run] at hh;exact hk a _ _ hh
 have Aw:∀{α β:Type} (m:Option α) (k:α->Option β) (k2:β->Out),(∀a,∀f as_,k2 a≠ .call f as_)->∀f as_,RM.run g (RM.opt (m.bind fun x=>(k x).map k2))=some (.call f as_)->False:=by
  intro α β m k k2 hk f as_ hh
  cases m with
  |none=>simp [RM.opt,RM.run] at hh
  |some a=>simp only [PT] at hh;exact mz _ _ hk _ _ hh
 cases ao with
 |call x args=>exact hn x args rfl
 |app sz bytes s x=>
  simp only [AO.au] at h
  obtain ⟨ys,_,h⟩:=cF h
  split at h
  ·split at h<;>simp [RM.run] at h
  ·split at h<;>simp [RM.run] at h
  ·simp only [RM.run] at h
   split at h
   ·split at h
    ·simp [RM.run] at h
    ·split at h<;>simp [RM.run] at h
   ·simp at h
  ·simp [RM.run] at h
 |clr zs x=>
  simp only [AO.au] at h
  split at h
  ·simp [RM.run] at h
  ·simp only [RM.run] at h
   split at h
   ·split at h<;>simp [RM.run] at h
   ·simp at h
  ·simp [RM.run] at h
 |cpy sz x y=>
  simp only [AO.au] at h
  obtain ⟨ys,_,h⟩:=cF h
  split at h
  ·simp only [RM.run] at h
   split at h
   ·split at h<;>simp [RM.run] at h
   ·simp at h
  ·simp [RM.run] at h
 |slc sz x lo hi mx=>
  simp only [AO.au] at h
  split at h
  ·split at h
   ·split at h
    ·exact Aw _ _ _ (by simp) _ _ h
    ·simp [RM.run] at h
   ·split at h
    ·exact Aw _ _ _ (by simp) _ _ h
    ·simp [RM.run] at h
   ·generalize bounds 0 _ _=bb at h
    cases bb with
    |none=>simp [RM.opt,RM.run] at h
    |some b=>
     simp only [PT] at h
     split at h<;>simp [RM.opt,RM.run] at h
   ·obtain ⟨B,_,h⟩:=iy h
    split at h
    ·split at h
     ·split at h
      ·simp [RM.run] at h
      ·simp only [RM.run] at h
       split at h
       ·split at h
        ·exact mz _ _ (by simp) _ _ h
        ·simp [RM.run] at h
       ·simp at h
      ·simp [RM.run] at h
     ·simp [RM.run] at h
    ·simp only [RM.run] at h
     split at h
     ·split at h
      ·generalize bounds _ _ _=bb at h
       cases bb with
       |none=>simp [RM.opt,RM.run] at h
       |some b=>
        simp only [PT] at h
        split at h<;>simp [RM.opt,RM.run] at h
      ·simp [RM.run] at h
     ·simp at h
   ·simp [RM.run] at h
  ·simp [RM.run] at h
 |mup kd x k y=>
  simp only [AO.au] at h
  split at h
  ·simp only [RM.run] at h
   split at h
   ·split at h
    ·split at h<;>simp [RM.run] at h
    ·simp [RM.run] at h
   ·simp at h
  ·simp [RM.run] at h
 |mlk kd z x k=>
  simp only [AO.au] at h
  split at h
  ·simp only [RM.run] at h
   split at h
   ·split at h
    ·exact mz _ _ (by simp) _ _ h
    ·simp [RM.run] at h
   ·simp at h
  ·simp [RM.run] at h
 |b2s x=>
  simp only [AO.au] at h
  obtain ⟨ys,_,h⟩:=cF h
  exact mz _ _ (by simp) _ _ h
 |isn kd b x=>cases kd<;>simp only [AO.au] at h<;>split at h<;>first|(simp [RM.run] at h;done)|(obtain ⟨B,_,h⟩:=iy h;simp [RM.run] at h)
 |len b x=>cases b<;>simp only [AO.au] at h<;>split at h<;>first|(simp [RM.run] at h;done)|(obtain ⟨B,_,h⟩:=iy h;simp [RM.run] at h)
 |_=>
  simp only [AO.au] at h
  first
  |(simp [RM.run] at h;done)
  |exact mz _ _ (by simp) _ _ h
  |(split at h<;>first
    |(simp [RM.run] at h;done)
    |exact mz _ _ (by simp) _ _ h
    |(obtain ⟨B,_,h⟩:=iy h;simp [RM.run] at h;done)
    |(split at h<;>first
      |(simp [RM.run] at h;done)
      |exact mz _ _ (by simp) _ _ h
      |(obtain ⟨B,_,h⟩:=iy h;simp [RM.run] at h;done))
    |(simp only [RM.run] at h;split at h<;>first
      |(simp at h;done)
      |(split at h<;>first
        |(simp [RM.run] at h;done)
        |exact mz _ _ (by simp) _ _ h
        |(split at h<;>simp [RM.run] at h))))
theorem Ax {o:Oper} {args:List Arg} (hc:bP P o=some (.call x args)):∃c y,o.op= .call c/\c.callee= .value y/\cArg y=some x/\mn c.args.toList=some args:=by
 obtain ⟨dst,op,type,pos,after,guard⟩:=o
 cases op with
 |call c=>
  simp only [bP] at hc
  split at hc
  ·rename_i y hy
   split at hc
   ·rename_i ax al h1 h2
    simp only [OG,AO.call.injEq] at hc
    obtain ⟨rfl,rfl⟩:=hc
    exact ⟨c,y,rfl,hy,h1,h2⟩
   ·simp at hc
  all_goals exfalso
  all_goals (repeat' (first|(simp at hc;done)|split at hc))
 |makeFunc fn first caps=>
  exfalso
  cases fn<;>simp only [bP] at hc
  all_goals (repeat' (first|(simp at hc;done)|split at hc))
 |mapUpdate t m k y=>
  exfalso
  simp only [bP] at hc
  split at hc
  ·cases hk:keyT P _ with
   |none=>rw [hk] at hc;simp at hc
   |some kd=>rw [hk] at hc;simp at hc
  ·simp at hc
 |insert t m k y=>
  exfalso
  simp only [bP] at hc
  split at hc
  ·cases hk:keyT P _ with
   |none=>rw [hk] at hc;simp at hc
   |some kd=>rw [hk] at hc;simp at hc
  ·simp at hc
 |_=>
  exfalso
  simp only [bP] at hc
  all_goals (repeat' (first|(simp at hc;done)|split at hc))
theorem qu (ha:dE E aD ρ) {o:Oper} (hc:bP P o=some ao) (h:(ao.au fresh ρ).run g=some (.call f as_)) (hf:bL P f=true):
  ∃vs,(execOp aD o).run P E.w= .ok (.enter f vs) E.w/\RC E vs as_:=by
 by_cases hn:∀x args,ao≠ .call x args
 ·exact absurd h (wx hn)
 ·obtain ⟨x,args,rfl⟩:∃x args,ao= .call x args:=by
   simp only [ne_eq] at hn
   cases ao<;>first|exact ⟨_,_,rfl⟩|(exfalso;exact hn (by simp))
  obtain ⟨c,y,h1,h2,h3,h4⟩:=Ax hc
  simp only [AO.au] at h
  split at h
  ·rename_i f' caps hx
   simp only [RM.run,OG,Out.call.injEq] at h
   obtain ⟨rfl,rfl⟩:=h
   have hv:=ha y x h3
   rw [hx] at hv
   obtain ⟨vv,cd⟩:∃vv,vv=aD y:=⟨_,rfl⟩
   rw [<-cd] at hv
   cases hv with
   | @fn _ us _ hl hr=>
    obtain ⟨al,ar⟩:=ha.list h4
    refine ⟨c.args.map aD++us, ?_, ?_⟩
    ·unfold execOp
     simp only [h1]
     exact (GD (caps:=us) h2 cd.symm E.w).trans (wv hf _ _)
    ·refine ⟨by simp [hl];rw [<-al];simp,fun j u a hu dF=> ?_⟩
     have bY:(c.args.map aD).size=args.length:=by rw [<-al];simp
     by_cases hj:j<args.length
     ·rw [Qw (by omega)] at hu
      rw [PB (by simpa using hj)] at dF
      exact ar j u a (by simpa using hu) dF
     ·rw [QF (by omega),bY] at hu
      rw [PN (by simpa using hj)] at dF
      simp only [O7] at dF
      exact hr _ u a hu dF
  ·rename_i f' caps hx
   simp only [RM.run,OG,Out.call.injEq] at h
   obtain ⟨rfl,rfl⟩:=h
   have hv:=ha y x h3
   rw [hx] at hv
   obtain ⟨vv,cd⟩:∃vv,vv=aD y:=⟨_,rfl⟩
   rw [<-cd] at hv
   cases hv with
   | @bf _ us _ hl hr=>
    obtain ⟨al,ar⟩:=ha.list h4
    refine ⟨us++c.args.map aD, ?_, ?_⟩
    ·unfold execOp
     simp only [h1]
     exact (GF (first:=us) h2 cd.symm E.w).trans (wv hf _ _)
    ·refine ⟨by simp [hl];rw [<-al];simp,fun j u a hu dF=> ?_⟩
     by_cases hj:j<us.size
     ·rw [Qw hj] at hu
      rw [PB (by omega)] at dF
      exact hr _ u a hu dF
     ·rw [QF (by omega)] at hu
      rw [PN (by omega), <-hl] at dF
      exact ar _ u a (by simpa using hu) dF
  ·simp [RM.run] at h
theorem wy {op:BinOp} {n:Bool} (h:negOf op=some n):op=if n then .neq else .eql:=by
 cases op<;>cases h<;>rfl
theorem GG (hu:P.underlying t=some (.slice e)) (A:Option Addr) (n c:Nat) (w:World):(Op.equal t (.slice A n c) (.slice none 0 0)).run P w= .ok A.isNone w:=by
 show (Op.equalIn (9999+1) t _ _).run P w=_
 unfold Op.equalIn
 cases A<;>simp [run_underlying hu]
theorem GH (hu:P.underlying t=some (.pointer e)) (A:Option Addr) (w:World):(Op.equal t (.pointer A) (.pointer none)).run P w= .ok A.isNone w:=by
 show (Op.equalIn (9999+1) t _ _).run P w=_
 unfold Op.equalIn
 cases A<;>simp [run_underlying hu]
theorem wz {a1 a2 a3} (hu:P.underlying t=some (.func a1 a2 a3)) (f:Go.Fn) (x y:Array Value) (w:World):(Op.equal t (.func f x y) .nilFunc).run P w= .ok false w:=by
 show (Op.equalIn (9999+1) t _ _).run P w=_
 unfold Op.equalIn
 simp [run_underlying hu]
theorem wA {a1 a2 a3} (hu:P.underlying t=some (.func a1 a2 a3)) (w:World):(Op.equal t .nilFunc .nilFunc).run P w= .ok true w:=by
 show (Op.equalIn (9999+1) t _ _).run P w=_
 unfold Op.equalIn
 simp [run_underlying hu]
theorem GI (hm:aE E J base g) (oQ:∀v,aD (.const v)=v) {op:BinOp} {y:Operand} {q:NK×Bool} (hn:vV P t op y=some q) (hv:aj E (aD xo) (ρ x))
  (h:((AO.isn q.1 q.2 x).au fresh ρ).run g=some (.done val ups)):bQ E J base g ((do pure (Next.value (<-(do eqGuard op t xo y (aD xo) (aD y);binOp op t (aD xo) (aD y)))):Sem Next).run P E.w) val ups:=by
 obtain ⟨vx,hvx⟩:∃vx,vx=aD xo:=⟨_,rfl⟩
 rw [<-hvx] at hv ⊢
 unfold vV at hn
 split at hn
 ·-- N5
  rename_i e hu
  rw [oQ]
  cases hng:negOf op with
  |none=>simp [hng] at hn
  |some neg=>
   simp only [hng,OS,OG] at hn
   subst hn
   have bX:=wy hng
   have run:∀A n c,vx= .slice A n c->(do pure (Next.value (<-(do eqGuard op t xo (.const (.slice none 0 0)) vx (.slice none 0 0);binOp op t vx (.slice none 0 0)))):Sem Next).run P E.w= .ok (.value (.bool (A.isNone !=neg))) E.w:=by
    rintro A n c rfl
    cases neg<;>simp only [OK,PE,Pf] at bX<;>subst bX<;>cases A<;>simp [eqGuard,binOp,GG hu]
   have Ay:∀A n c,vx= .slice (some A) n c->∀{v},v=AV.v (.bool neg)->bQ E J base g ((do pure (Next.value (<-(do eqGuard op t xo (.const (.slice none 0 0)) vx (.slice none 0 0);binOp op t vx (.slice none 0 0)))):Sem Next).run P E.w) v []:=by
    intro A n c hA v hv
    subst hv
    refine bw hm (v:= .bool neg) ?_ (.v rfl)
    rw [run _ _ _ hA];cases neg<;>rfl
   have qv:∀A n c,vx= .slice A n c->bQ E J base g ((do pure (Next.value (<-(do eqGuard op t xo (.const (.slice none 0 0)) vx (.slice none 0 0);binOp op t vx (.slice none 0 0)))):Sem Next).run P E.w) .de []:=by
    intro A n c hA
    exact bw hm (v:= .bool (A.isNone !=neg)) (run _ _ _ hA) .de
   have aX:∀sz els,aj E vx (.aX sz els)->val=(if els.isEmpty=true then .de else .v (.bool neg))->ups=[]->bQ E J base g ((do pure (Next.value (<-(do eqGuard op t xo (.const (.slice none 0 0)) vx (.slice none 0 0);binOp op t vx (.slice none 0 0)))):Sem Next).run P E.w) val ups:=by
    rintro sz els hr rfl rfl
    cases hr with
    |dD hc=>exact qv _ _ _ rfl
    |ed u hn hl hc=>
     by_cases he:els.isEmpty=true
     ·rw [OI he];exact qv _ _ _ rfl
     ·rw [OH he];exact Ay _ _ _ rfl rfl
   simp only [AO.au] at h
   split at h
   ·rename_i sz els hx
    simp only [RM.run,OG,Out.done.injEq] at h
    rw [hx] at hv
    exact aX sz els hv h.1.symm h.2.symm
   ·rename_i sz els hx
    simp only [RM.run,OG,Out.done.injEq] at h
    rw [hx] at hv
    cases hv with
    |ct hv=>exact aX sz els hv h.1.symm h.2.symm
   ·rename_i hx
    simp only [RM.run,OG,Out.done.injEq] at h
    obtain ⟨rfl,rfl⟩:=h
    rw [hx] at hv
    cases hv with
    |emp=>exact qv _ _ _ rfl
   ·rename_i id sz off n hx
    obtain ⟨B,hB,h⟩:=iy h
    simp only [RM.run,OG,Out.done.injEq] at h
    obtain ⟨rfl,rfl⟩:=h
    rw [hx] at hv
    cases hv with
    |own hi hd hb hq hs cY hl hc=>
     by_cases h0:n=0
     ·rw [OI h0];exact qv _ _ _ rfl
     ·rw [OH h0];exact Ay _ _ _ rfl rfl
    |bT hi hd hb=>rw [OI rfl];exact qv _ _ _ rfl
    |cp hi hd=>exact absurd hd (alive hm hB)
   ·simp [RM.run] at h
 ·-- N6
  rename_i a1 a2 a3 hu
  rw [oQ]
  cases hng:negOf op with
  |none=>simp [hng] at hn
  |some neg=>
   simp only [hng,OS,OG] at hn
   subst hn
   have bX:=wy hng
   simp only [AO.au] at h
   split at h
   ·rename_i f cs hx
    simp only [RM.run,OG,Out.done.injEq] at h
    obtain ⟨rfl,rfl⟩:=h
    rw [hx] at hv
    cases hv with
    |fn hl hh=>
     refine bw hm (v:= .bool neg) ?_ (.v rfl)
     cases neg<;>simp only [OK,PE,Pf] at bX<;>subst bX<;>simp [eqGuard,binOp,wz hu,wA hu]
   ·rename_i f cs hx
    simp only [RM.run,OG,Out.done.injEq] at h
    obtain ⟨rfl,rfl⟩:=h
    rw [hx] at hv
    cases hv with
    |bf hl hh=>
     refine bw hm (v:= .bool neg) ?_ (.v rfl)
     cases neg<;>simp only [OK,PE,Pf] at bX<;>subst bX<;>simp [eqGuard,binOp,wz hu,wA hu]
   ·rename_i hx
    simp only [RM.run,OG,Out.done.injEq] at h
    obtain ⟨rfl,rfl⟩:=h
    rw [hx] at hv
    have:=hv.iC
    subst this
    refine bw hm (v:= .bool !neg) ?_ (.v rfl)
    cases neg<;>simp only [OK,PE,Pf] at bX<;>subst bX<;>simp [eqGuard,binOp,wz hu,wA hu]
   ·simp [RM.run] at h
 ·-- N7
  rename_i e hu
  rw [oQ]
  cases hng:negOf op with
  |none=>simp [hng] at hn
  |some neg=>
   simp only [hng,OS,OG] at hn
   subst hn
   have bX:=wy hng
   have run:∀A,vx= .pointer A->(do pure (Next.value (<-(do eqGuard op t xo (.const (.pointer none)) vx (.pointer none);binOp op t vx (.pointer none)))):Sem Next).run P E.w= .ok (.value (.bool (A.isNone !=neg))) E.w:=by
    rintro A rfl
    cases neg<;>simp only [OK,PE,Pf] at bX<;>subst bX<;>cases A<;>simp [eqGuard,binOp,GH hu]
   simp only [AO.au] at h
   split at h
   ·rename_i id sz i o hx
    obtain ⟨B,hB,h⟩:=iy h
    simp only [RM.run,OG,Out.done.injEq] at h
    obtain ⟨rfl,rfl⟩:=h
    rw [hx] at hv
    cases hv with
    |ref hi hd hb hq=>
     refine bw hm (v:= .bool neg) ?_ (.v rfl)
     rw [run _ rfl];cases neg<;>rfl
    |dR hi hd=>exact absurd hd (alive hm hB)
   ·rename_i cs o hx
    simp only [RM.run,OG,Out.done.injEq] at h
    obtain ⟨rfl,rfl⟩:=h
    rw [hx] at hv
    cases hv with
    |pim u hb hq N8 eI hr=>
     refine bw hm (v:= .bool neg) ?_ (.v rfl)
     rw [run _ rfl];cases neg<;>rfl
   ·rename_i hx
    simp only [RM.run,OG,Out.done.injEq] at h
    obtain ⟨rfl,rfl⟩:=h
    rw [hx] at hv
    have:=hv.iC
    refine bw hm (v:= .bool !neg) ?_ (.v rfl)
    rw [run _ this];cases neg<;>rfl
   ·simp [RM.run] at h
 ·simp at hn
theorem GJ (ha:dE E aD ρ) (oQ:∀v,aD (.const v)=v) (hm:aE E J base g) (hf:¬E.kn fresh) {o:Oper} (hc:bP P o=some ao) (h:(ao.au fresh ρ).run g=some (.done val ups)):
  bQ E J base g ((execOp aD o).run P E.w) val ups:=by
 obtain ⟨dst,op,type,pos,after,guard⟩:=o
 have omap:∀{α β:Type} {m:Option α} {k:α->β} {y:β},m.map k=some y->∃x,m=some x/\k x=y:=by
  intro α β m k y h
  cases m with
  |none=>simp at h
  |some a=>exact ⟨a,rfl,by simpa using h⟩
 have mov:∀x ax,cArg x=some ax->((AO.mov ax).au fresh ρ).run g=some (.done val ups)->∀r,r= .ok (.value (aD x)) E.w->bQ E J base g r val ups:=by
  intro x ax h1 h2 r hr
  simp only [AO.au,RM.run,OG,Out.done.injEq] at h2
  obtain ⟨rfl,rfl⟩:=h2
  exact bw hm hr (ha x ax h1)
 cases op with
 |move x=>simp only [bP] at hc;obtain ⟨ax,h1,rfl⟩:=omap hc;exact mov x ax h1 h _ rfl
 |assign x=>simp only [bP] at hc;obtain ⟨ax,h1,rfl⟩:=omap hc;exact mov x ax h1 h _ rfl
 |pick c a b=>
  simp only [bP] at hc
  split at hc
  ·rename_i ac aa ab h1 h2 h3
   simp only [OG] at hc;subst hc
   simp only [AO.au] at h
   split at h
   ·rename_i t ht
    simp only [RM.run,OG,Out.done.injEq] at h
    obtain ⟨rfl,rfl⟩:=h
    have hv:=ha c ac h1
    rw [ht] at hv
    obtain ⟨vv,cd⟩:∃vv,vv=aD c:=⟨_,rfl⟩
    rw [<-cd] at hv
    cases hv with
    |v hp=>
     refine bw hm (v:=if t then aD a else aD b) ?_ ?_
     ·unfold execOp
      simp only [<-cd]
      cases t<;>simp [asBool]
     ·cases t
      ·exact ha b ab h3
      ·exact ha a aa h2
   ·simp [RM.run] at h
  ·simp at hc
 |alloc t=>
  simp only [bP] at hc
  split at hc
  ·rename_i zs h1
   split at hc
   ·rename_i hz0
    simp only [OG] at hc;subst hc
    simp only [AO.au,RM.run,OG,Out.done.injEq] at h
    obtain ⟨rfl,rfl⟩:=h
    exact Fl hm hf h1 hz0
   ·simp at hc
  ·simp at hc
 |panic x=>
  simp only [bP,OG] at hc
  subst hc
  simp [AO.au,RM.run] at h
 |makeInterface t x=>
  simp only [bP,OG] at hc
  subst hc
  simp [AO.au,RM.run] at h
 |makeMap t r=>
  simp only [bP] at hc
  split at hc
  ·rename_i kt et h1
   simp only [OG] at hc;subst hc
   simp only [AO.au,RM.run,OG,Out.done.injEq] at h
   obtain ⟨rfl,rfl⟩:=h
   exact Ak hm hf h1 (.inl rfl)
  ·rename_i kt et k n h1
   simp only [OG] at hc;subst hc
   simp only [AO.au,RM.run,OG,Out.done.injEq] at h
   obtain ⟨rfl,rfl⟩:=h
   have:=Ak (P:=P) (r:=some (aD (.const (.int k n)))) hm hf h1 (.inr ⟨k,n,by rw [oQ]⟩)
   exact this
  ·simp at hc
 |mapUpdate t x k y=>
  simp only [bP] at hc
  split at hc
  ·rename_i kt et ax ak ay h1 h2 h3 h4
   obtain ⟨kd,h5,rfl⟩:=omap hc
   exact An hm h1 h5 (ha x ax h2) (ha k ak h3) (ha y ay h4) h
  ·simp at hc
 |insert t x k y=>
  simp only [bP] at hc
  split at hc
  ·rename_i kt et ax ak ay h1 h2 h3 h4
   obtain ⟨kd,h5,rfl⟩:=omap hc
   exact An hm h1 h5 (ha x ax h2) (ha k ak h3) (ha y ay h4) h
  ·simp at hc
 |lookup t x k ok=>
  simp only [bP] at hc
  split at hc
  ·rename_i kt et ax ak h1 h2 h3
   split at hc
   ·rename_i hok
    subst hok
    split at hc
    ·rename_i z kd h4 h5
     simp only [OG] at hc;subst hc
     exact Gl hm h1 h5 h4 (ha x ax h2) (ha k ak h3) h
    ·simp at hc
   ·simp at hc
  ·simp at hc
 |box t x=>
  simp only [bP] at hc
  split at hc
  ·rename_i n ax h1 h2
   split at hc
   ·rename_i hz0
    simp only [OG] at hc;subst hc
    simp only [AO.au] at h
    split at h
    ·rename_i b5
     simp only [RM.run,OG,Out.done.injEq] at h
     obtain ⟨rfl,rfl⟩:=h
     exact Fm hm hf (ha x ax h2) b5.1 b5.2 hz0
    ·simp [RM.run] at h
   ·simp at hc
  ·simp at hc
 |build t parts=>
  simp only [bP] at hc
  split at hc
  ·rename_i zs fields h1 h2
   split at hc
   ·rename_i places h3
    obtain ⟨as_,h4,rfl⟩:=omap hc
    refine zX ha hm h1 h4 (fun z i hi hz ps=> ?_) h
    unfold placesOf at h3
    simp only [Program.built,hi,h2,hz,h3]
   ·simp at hc
  ·rename_i zs k e h1 h2
   split at hc
   ·rename_i sz h3
    obtain ⟨as_,h4,rfl⟩:=omap hc
    refine zX ha hm h1 h4 (fun z i hi hz ps=> ?_) h
    unfold szOf at h3
    obtain ⟨ie,GK,hs⟩:=omap h3
    simp only [Program.built,hi,h2,hz,GK,hs]
   ·simp at hc
  ·simp at hc
 |buildSlice t len parts=>
  simp only [bP] at hc
  split at hc
  ·rename_i e h1
   split at hc
   ·rename_i zs h2
    split at hc
    ·rename_i b5
     obtain ⟨as_,h3,rfl⟩:=omap hc
     exact FB ha hm hf h1 h2 b5.1 b5.2 h3 h
    ·simp at hc
   ·simp at hc
  ·simp at hc
 |load t x=>
  simp only [bP] at hc
  split at hc
  ·rename_i m ax h1 h2
   simp only [OG] at hc;subst hc
   exact Fp hm h1 (ha x ax h2) h
  ·simp at hc
 |store t x y=>
  simp only [bP] at hc
  split at hc
  ·rename_i n ax ay h1 h2 h3
   simp only [OG] at hc;subst hc
   exact Fq hm h1 (ha x ax h2) (ha y ay h3) h
  ·simp at hc
 |nilCheck x=>simp only [bP] at hc;obtain ⟨ax,h1,rfl⟩:=omap hc;exact FD hm (ha x ax h1) rfl rfl h
 |binOp op t x y yt=>
  simp only [bP] at hc
  split at hc
  ·rename_i q fq
   obtain ⟨ax,h1,rfl⟩:=omap hc
   exact GI hm oQ fq (ha x ax h1) h
  rename_i fq
  clear fq
  split at hc
  ·rename_i ax ay h1 h2
   split at hc
   ·simp only [OG] at hc;subst hc
    simp only [AO.au] at h
    split at h
    ·rename_i a b hx hy
     cases hb:binA (boolT P t) op a b with
     |none=>simp [hb,RM.opt,RM.run] at h
     |some v=>
      simp [hb,RM.opt,RM.run] at h
      obtain ⟨rfl,rfl⟩:=h
      have hvx:=ha x ax h1
      have hvy:=ha y ay h2
      rw [hx] at hvx;rw [hy] at hvy
      have ex:aD x=a:=hvx.iC
      have ey:aD y=b:=hvy.iC
      obtain ⟨r1,r2⟩:=Fw (P:=P) (x:=x) (y:=y) hb E.w
      refine bw hm (v:=v) ?_ (.v r2)
      show (do pure (Next.value (<-(do eqGuard op t x y (aD x) (aD y);binOp op t (aD x) (aD y)))):Sem Next).run P E.w=_
      rw [ex,ey,Pv,r1]
      rfl
    ·simp [RM.run] at h
   ·split at hc
    ·simp at hc
    ·rename_i hg
     split at hc
     ·rename_i fs L n hu hL hn
      simp only [OG] at hc;subst hc
      exact Au hm (by simp) hu hn (by simpa using hg) hL (ha x ax h1) (ha y ay h2) h
     ·rename_i fs L n hu hL hn
      simp only [OG] at hc;subst hc
      exact Au hm (by simp) hu hn (by simpa using hg) hL (ha x ax h1) (ha y ay h2) h
     ·simp at hc
  ·simp at hc
 |unOp op t x=>
  simp only [bP] at hc;obtain ⟨ax,h1,rfl⟩:=omap hc
  simp only [AO.au] at h
  split at h
  ·rename_i a hx
   cases hb:unA op a with
   |none=>simp [hb,RM.opt,RM.run] at h
   |some v=>
    simp [hb,RM.opt,RM.run] at h
    obtain ⟨rfl,rfl⟩:=h
    have hvx:=ha x ax h1
    rw [hx] at hvx
    have ex:aD x=a:=hvx.iC
    obtain ⟨r1,r2⟩:=Fx (P:=P) hb E.w
    refine bw hm (v:=v) ?_ (.v r2)
    show (do pure (Next.value (<-Op.unary op (aD x))):Sem Next).run P E.w=_
    rw [ex,Pv,r1]
    rfl
  ·simp [RM.run] at h
 |convert s d x=>
  simp only [bP] at hc
  split at hc
  ·rename_i k1 k ax h1 h2 h3
   simp only [OG] at hc;subst hc
   simp only [AO.au] at h
   split at h
   ·rename_i k0 n hx
    simp only [RM.run,OG,Out.done.injEq] at h
    obtain ⟨rfl,rfl⟩:=h
    have hvx:=ha x ax h3
    rw [hx] at hvx
    have ex:aD x= .int k0 n:=hvx.iC
    refine bw hm (v:= .int k (k.wrap n)) ?_ (.v rfl)
    show (do pure (Next.value (<-convert s d (aD x))):Sem Next).run P E.w=_
    rw [ex]
    simp [convert,run_underlying h1,run_underlying h2,Conv.intToInt]
   ·simp [RM.run] at h
  ·rename_i e ax h1 h2 h3
   split at hc
   ·rename_i h4
    simp only [OG] at hc;subst hc
    exact Gu hm h1 h2 h4 (ha x ax h3) h
   ·simp at hc
  ·rename_i e ax h1 h2 h3
   split at hc
   ·rename_i h4
    simp only [OG] at hc;subst hc
    exact Gv hm hf h1 h2 h4 (ha x ax h3) h
   ·simp at hc
  ·simp at hc
 |fieldAddr s x f=>
  simp only [bP] at hc
  split at hc
  ·rename_i fields ax h1 h2
   split at hc
   ·rename_i fd h3
    split at hc
    ·simp at hc
    ·rename_i b5
     simp only [OG] at hc;subst hc
     cases hz:szOf P fd.type with
     |none=>simp [hz] at b5
     |some n=>exact FE hm (ha x ax h2) h1 h3 hz (by rw [hz] at b5;simpa using b5) h
   ·simp at hc
  ·simp at hc
 |field s x f=>
  simp only [bP] at hc
  split at hc
  ·rename_i fields ax h1 h2
   split at hc
   ·rename_i fd h3
    obtain ⟨m,h4,rfl⟩:=omap hc
    exact FF hm (ha x ax h2) h1 h3 h4 h
   ·simp at hc
  ·simp at hc
 |indexAddr t x i=>
  simp only [bP] at hc
  split at hc
  ·rename_i e ax ai h1 h2 h3
   split at hc
   ·rename_i sz h4
    split at hc
    ·rename_i c9
     simp only [OG] at hc;subst hc
     exact FJ hm (ha x ax h2) (ha i ai h3) h1 h4 c9 h
    ·simp at hc
   ·simp at hc
  ·rename_i len e ax ai h1 h2 h3
   split at hc
   ·rename_i sz h4
    split at hc
    ·rename_i c9
     simp only [OG] at hc;subst hc
     exact FG hm (ha x ax h2) (ha i ai h3) h1 h4 h
    ·simp at hc
   ·simp at hc
  ·simp at hc
 |index t x i=>
  simp only [bP] at hc
  split at hc
  ·rename_i ax ai h1 h2 h3
   simp only [OG] at hc;subst hc
   exact GC hm h1 (ha x ax h2) (ha i ai h3) h
  ·rename_i len e ax ai h1 h2 h3
   split at hc
   ·rename_i sz m h4 h5
    simp only [OG] at hc;subst hc
    exact FI hm (ha x ax h2) (ha i ai h3) h1 h4 h5 h
   ·simp at hc
  ·simp at hc
 |extract x i=>simp only [bP] at hc;obtain ⟨ax,h1,rfl⟩:=omap hc;exact FK hm (ha x ax h1) h
 |makeSlice t l c=>
  simp only [bP] at hc
  split at hc
  ·rename_i e al ac h1 h2 h3
   split at hc
   ·rename_i zs i h4 h5
    split at hc
    ·rename_i b5
     simp only [OG] at hc;subst hc
     exact FL hm hf h1 h4 h5 b5.1 b5.2 (ha l al h2) (ha c ac h3) h
    ·simp at hc
   ·simp at hc
  ·simp at hc
 |slice t x lo hi mx=>
  simp only [bP] at hc
  split at hc
  ·rename_i e ax j8 j9 amx h1 h2 h3 h4 h5
   split at hc
   ·rename_i sz h6
    split at hc
    ·rename_i b5
     simp only [OG] at hc;subst hc
     exact FO ha hm h1 h6 h2 h3 h4 h5 (fun hh=>by rw [<-Av h4];exact b5.2 (by rw [Av h5];exact hh)) h
    ·simp at hc
   ·simp at hc
  ·rename_i ax j8 j9 h1 h2 h3 h4 h5
   simp only [OG] at hc;subst hc
   have gV:mx=none:=by cases mx<;>simp [eU] at h5 ⊢
   subst gV
   exact GB ha hm h1 h2 h3 h4 h
  ·simp at hc
 |makeFunc fn first caps=>
  cases fn with
  |func f=>
   simp only [bP] at hc
   split at hc
   ·rename_i GL
    obtain ⟨l,h1,rfl⟩:=omap hc
    simp only [AO.au,RM.run,OG,Out.done.injEq] at h
    obtain ⟨rfl,rfl⟩:=h
    obtain ⟨e1,e2⟩:=ha.list h1
    have oN:first= #[]:=by simpa using GL
    subst oN
    refine bw hm (v:= .func (.func f) #[] (caps.map aD)) (by simp [execOp,Instr.makeFunc]) (.fn (by simp;rw [<-e1];simp) (fun i v c hv hc=>e2 i v c (by simpa using hv) hc))
   ·split at hc
    ·rename_i _ sU
     obtain ⟨l,h1,rfl⟩:=omap hc
     simp only [AO.au,RM.run,OG,Out.done.injEq] at h
     obtain ⟨rfl,rfl⟩:=h
     obtain ⟨e1,e2⟩:=ha.list h1
     have oN:caps= #[]:=by simpa using sU
     subst oN
     refine bw hm (v:= .func (.func f) (first.map aD) #[]) (by simp [execOp,Instr.makeFunc]) (.bf (by simp;rw [<-e1];simp) (fun i v c hv hc=>e2 i v c (by simpa using hv) hc))
    ·simp at hc
  |_=>simp [bP] at hc
 |call c=>
  by_cases sV:∃x args,ao= .call x args
  ·obtain ⟨x,args,rfl⟩:=sV
   simp only [AO.au] at h
   split at h<;>simp [RM.run] at h
  ·simp only [bP] at hc
   split at hc
   ·split at hc
    ·simp only [OG] at hc;exact absurd ⟨_,_,hc.symm⟩ sV
    ·simp at hc
   all_goals rename_i eD
   all_goals try (simp at hc;done)
   ·split at hc
    ·rename_i x t gy nA
     have kr:c.args= #[x]:=by apply Qq.1;rw [gy]
     have nB:∀b,c.callee= .builtin b->b= .len->(execOp aD ⟨dst, .call c,type,pos,after,guard⟩).run P E.w=(do pure (Next.value (<-Builtin.len_ c.argTypes type #[aD x])):Sem Next).run P E.w:=by
      intro b hb hl;subst hl
      simp [execOp,resolve,hb,invoke,builtin,kr]
     have GM:∀v ty,(Builtin.len_ c.argTypes ty #[v])=Builtin.len_ #[t] ty #[v]:=by
      intro v ty
      simp [Builtin.len_,nA]
     rw [nB _ eD rfl,GM]
     split at hc
     ·rename_i e hu
      obtain ⟨ax,h1,rfl⟩:=omap hc
      exact z6 hm (by simp;exact ⟨e,hu⟩) (ha x ax h1) type h
     ·rename_i hu
      obtain ⟨ax,h1,rfl⟩:=omap hc
      exact z6 hm (by simp;exact hu) (ha x ax h1) type h
     ·simp at hc
    ·simp at hc
   ·split at hc
    ·rename_i s x t u gy nA
     split at hc
     ·rename_i GN
      subst GN
      split at hc
      ·rename_i e as_ ax h1 h2 h3
       split at hc
       ·rename_i zs i h4 h5
        split at hc
        ·rename_i b5
         simp only [OG] at hc;subst hc
         have kr:c.args= #[s,x]:=by apply Qq.1;rw [gy]
         have GO:c.argTypes= #[t,t]:=by apply Qq.1;rw [nA]
         have:=Ge (P:=P) (ty:=type) hm hf h1 h4 h5 b5.1 b5.2 (ha s as_ h2) (ha x ax h3) h
         have nB:(execOp aD ⟨dst, .call c,type,pos,after,guard⟩).run P E.w=(do pure (Next.value (<-Builtin.append_ #[t,t] type #[aD s,aD x])):Sem Next).run P E.w:=by
          simp [execOp,resolve,eD,invoke,builtin,kr,GO]
         rw [nB];exact this
        ·simp at hc
       ·simp at hc
      ·simp at hc
     ·simp at hc
    ·simp at hc
   ·split at hc
    ·rename_i x t gy nA
     split at hc
     ·rename_i e ax h1 h2
      split at hc
      ·rename_i zs h4
       split at hc
       ·rename_i b5
        simp only [OG] at hc;subst hc
        have kr:c.args= #[x]:=by apply Qq.1;rw [gy]
        have:=Ga (P:=P) (ty:=type) hm h1 h4 b5 (ha x ax h2) h
        have nB:(execOp aD ⟨dst, .call c,type,pos,after,guard⟩).run P E.w=(do pure (Next.value (<-Builtin.clear_ #[t] type #[aD x])):Sem Next).run P E.w:=by
         simp [execOp,resolve,eD,invoke,builtin,kr,Builtin.clear_,nA]
        rw [nB];exact this
       ·simp at hc
      ·simp at hc
     ·simp at hc
    ·simp at hc
   ·split at hc
    ·rename_i x y t gy nA
     split at hc
     ·rename_i e ax ay h1 h2 h3
      split at hc
      ·rename_i sz h4
       split at hc
       ·rename_i b5
        simp only [OG] at hc;subst hc
        have kr:c.args= #[x,y]:=by apply Qq.1;rw [gy]
        have:=Gb (P:=P) (ty:=type) (u:=t) hm h1 h4 b5 (ha x ax h2) (ha y ay h3) h c.argTypes nA
        have nB:(execOp aD ⟨dst, .call c,type,pos,after,guard⟩).run P E.w=(do pure (Next.value (<-Builtin.copy_ c.argTypes type #[aD x,aD y])):Sem Next).run P E.w:=by
         simp [execOp,resolve,eD,invoke,builtin,kr]
        rw [nB];exact this
       ·simp at hc
      ·simp at hc
     ·simp at hc
    ·simp at hc
   all_goals
    split at hc
    ·rename_i x y gy
     split at hc
     ·rename_i ax ay h1 h2
      simp only [OG] at hc;subst hc
      have kr:c.args= #[x,y]:=by apply Qq.1;rw [gy]
      simp only [AO.au] at h
      split at h
      ·rename_i a b hx hy
       obtain ⟨mx,mb,gV,z7,h⟩:∃mx mb,(mx=false/\c.callee= .builtin .min\/mx=true/\c.callee= .builtin .max)/\pZ mx a b=mb/\RM.run g (RM.opt (Option.map (fun v=>Out.done (AV.v v) []) mb))=some (Out.done val ups):=by
        first
        |exact ⟨false,_, .inl ⟨rfl,eD⟩,rfl,h⟩
        |exact ⟨true,_, .inr ⟨rfl,eD⟩,rfl,h⟩
       cases mb with
       |none=>simp [RM.opt,RM.run] at h
       |some v=>
        simp [RM.opt,RM.run] at h
        obtain ⟨rfl,rfl⟩:=h
        have hvx:=ha x ax h1
        have hvy:=ha y ay h2
        rw [hx] at hvx;rw [hy] at hvy
        have ex:aD x=a:=hvx.iC
        have ey:aD y=b:=hvy.iC
        obtain ⟨r1,r2,r3⟩:=Fy (P:=P) z7 E.w
        refine bw hm (v:=v) ?_ (.v r1)
        rcases gV with ⟨gV,eD⟩|⟨gV,eD⟩
        ·simp [execOp,resolve,eD,invoke,builtin,kr,ex,ey,r2 gV]
        ·simp [execOp,resolve,eD,invoke,builtin,kr,ex,ey,r3 gV]
      ·simp [RM.run] at h
     ·simp at hc
    ·simp at hc
 |_=>simp [bP] at hc
end
open Go.RowKit
def AV.pu1:AV->Bool
 | .v _| .emp| .aX _ _| .ct _ _| .pim _ _| .dead=>true
 | .fn _ caps=>caps.isEmpty
 |_=>false
theorem AV.qw (h:a.pu1=true):Pu a:=by
 cases a<;>simp [AV.pu1] at h<;>try constructor
 subst h;intro c hc;simp at hc
def snap1:AV->RM AV
 | .own id sz off n=>(content sz (.own id sz off n)).bind fun els=>if (els.all fun cs=>cs.all AV.pu1)=true then .ret (.aX sz els) else .fail
 | .ref id sz i o=> .rd id fun B=>if B.sz=sz then (match B.els[i]? with
  |some cs=>if cs.all AV.pu1=true then .ret (.pim cs o) else .fail
  |none=> .fail) else .fail
 |a=>if a.pu1=true then .ret a else .fail
def gz:List AV->RM (List AV)
 |[]=> .ret []
 |a::r=>(snap1 a).bind fun x=>(gz r).bind fun l=> .ret (x::l)
def dy:AV->RM AV
 | .agg cs=>(gz cs).bind fun l=> .ret (.agg l)
 | .fn f cs=>(gz cs).bind fun l=> .ret (.fn f l)
 | .bf f cs=>(gz cs).bind fun l=> .ret (.bf f l)
 |a=>snap1 a
def cS:List AV->RM (List AV)
 |[]=> .ret []
 |a::r=>(dy a).bind fun x=>(cS r).bind fun l=> .ret (x::l)
def AV.bV:AV->List Nat
 | .own id _ _ _=>[id]
 | .ref id _ _ _=>[id]
 |_=>[]
def AV.ids:AV->List Nat
 | .agg cs=>cs.flatMap AV.bV
 | .fn _ cs=>cs.flatMap AV.bV
 | .bf _ cs=>cs.flatMap AV.bV
 |a=>a.bV
def AV.dk:AV->Bool
 | .v _| .emp| .dead=>true
 | .fn _ caps=>caps.isEmpty
 |_=>false
def AV.dH:AV->Bool
 | .agg cs=>cs.all AV.dk
 |a=>a.dk
def AV.nob:AV->Bool
 | .aK vs=>vs.all AV.dH
 |a=>a.dH
def E0 (w:World) (I:Nat->Prop):Env:=⟨w,fun _=>False,fun _=>none,fun _=>False,I,fun _=>0,fun _=>False,fun _=>False⟩
theorem ee.sub {I:Nat->Prop} (h:ee E) (hw:E.w=w) (hI:∀b,E.I b->I b):ee (E0 w I):=trivial
def Fn (P:Program) (f:FuncId) (as_:List AV) (r:AV):Prop:=
 ∀(w:World) (J:Nat->Prop) (vs:Array Value),(∀b,J b->b<w.heap.size)->ee (E0 w J)->RC (E0 w J) vs as_->
  Calls P f vs w fun e w'=>∃v,e= .returned v/\aj (E0 w' fun b=>J b\/(w.heap.size<=b/\b<w'.heap.size)) v r/\Below w.heap.size w w'
section
variable {P:Program} {E:Env} {J:Nat->Prop} {base:Nat} {g:Nat->Option Bk}
theorem aj.dk {E':Env} {v:Value} {a:AV} (h:aj E v a) (hn:a.dk=true):aj E' v a:=by
 cases h<;>simp [AV.dk] at hn
 ·exact .v (by assumption)
 ·exact .emp
 ·rename_i f vs cs hl h
  subst hn
  exact .fn hl (fun i v c hv hc=>by simp at hc)
 ·exact .dead
theorem aj.dH {E':Env} {v:Value} {a:AV} (h:aj E v a) (hn:a.dH=true):aj E' v a:=by
 cases a with
 |agg cs=>cases h with
  |agg hl h=>
   simp only [AV.dH,ON] at hn
   exact .agg hl fun i v c hv hc=>(h i v c hv hc).dk (hn c (Pd hc))
 |_=>exact h.dk (by simpa [AV.dH] using hn)
theorem aj.nob {E':Env} {v:Value} {a:AV} (h:aj E v a) (hn:a.nob=true):aj E' v a:=by
 cases a with
 |aK cs=>cases h with
  |aK hl h=>
   simp only [AV.nob,ON] at hn
   exact .aK hl fun i v c hv hc=>(h i v c hv hc).dH (hn c (Pd hc))
 |_=>exact h.dH (by simpa [AV.nob] using hn)
def Handed (E:Env) (g:Nat->Option Bk) (ids:List Nat) (b:Nat):Prop:=E.I b\/∃id B,id∈ids/\g id=some B/\E.loc id=some b
theorem wB (hm:aE E J base g) (I:Nat->Prop) (h:aj E v a) (hs:(snap1 a).run g=some a') (hI:∀b,Handed E g a.bV b->I b):aj (E0 E.w I) v a':=by
 have pure:∀{v:Value} {a:AV},(∀b,E.I b->I b)->aj E v a->Pu a->aj (E0 E.w I) v a:=fun hI h hp=>h.pure (E':=E0 E.w I) (fun b hb=>⟨hI b hb,fun _=>rfl⟩) hp
 have qx:∀b,E.I b->I b:=fun b hb=>hI b (.inl hb)
 have other:(if a.pu1=true then RM.ret a else RM.fail).run g=some a'->aj (E0 E.w I) v a':=by
  intro hs
  split at hs
  ·rename_i hp
   simp only [RM.run,OG] at hs;subst hs
   exact pure qx h (AV.qw hp)
  ·simp [RM.run] at hs
 cases a with
 |own id sz off n=>
  simp only [snap1] at hs
  obtain ⟨els,h1,h2⟩:=cF hs
  split at h2
  ·rename_i bM
   simp only [RM.run,OG] at h2;subst h2
   simp only [content,RM.run] at h1
   cases hB:g id with
   |none=>simp [hB] at h1
   |some B=>
    simp only [hB] at h1
    split at h1
    ·rename_i hc
     obtain ⟨-, gZ,hfit⟩:=hc
     simp only [RM.run,OG] at h1;subst h1
     have hlen:((B.els.drop off).take n).length=n:=by simp;omega
     cases h with
     |cp hi hd=>exact absurd hd (alive hm hB)
     |bT hi hd hb=>
      have:(B.els.drop 0).take 0=[]:=by simp
      rw [this]
      exact .dD (by omega)
     | @own _ _ _ _ c b q mm t' hi hd hb hq iV cY hl hcc=>
      rcases Qg n with h0|h0
      ·subst h0
       rw [List.take_zero]
       exact .dD hcc
      ·have iz:q=off*sz:=by
        rcases hq with hq|hq
        ·exact hq
        ·omega
       subst iz
       have bZ:=hm.at_ id B hB
       rw [hb] at bZ
       obtain ⟨kY,arr,t,ha,ld,dG⟩:=bZ.cells (by first|assumption|omega)
       rw [gZ] at dG
       have get:∀(i:Nat) cs (j:Nat) x,((B.els.drop off).take n)[i]? =some cs->cs[j]? =some x->∃u,E.w.cell? ⟨b,off*sz+i*sz+j,none⟩=some u/\u.oneCell'=true/\aj E u x:=by
        intro i cs j x hi hj
        rw [PR] at hi
        split at hi
        ·rw [PS] at hi
         obtain ⟨u,k1,k2,k3⟩:=(dG _ cs hi).2 j x hj
         refine ⟨u, ?_,k2,k3⟩
         rw [cell_of_row _ _ _ _ _ _ ha]
         rw [Pb] at k1
         exact k1
        ·simp at hi
       refine .ed (fun i j=>(E.w.cell? ⟨b,off*sz+i*sz+j,none⟩).getD undef) hlen.symm hl hcc (hI b (.inr ⟨id,B,by simp [AV.bV],hB,hb⟩)) (fun i cs hi=> ?_) (fun i cs j x hi hj=> ?_) (fun i cs j x hi hj=> ?_) (fun i cs j x hi hj=> ?_)
       ·rw [PR] at hi
        split at hi
        ·rw [PS] at hi
         exact (dG _ cs hi).1
        ·simp at hi
       ·obtain ⟨u,k1,_,_⟩:=get i cs j x hi hj
        show E.w.cell? _=_
        rw [k1];rfl
       all_goals
        obtain ⟨u,k1,k2,k3⟩:=get i cs j x hi hj
        have hp:Pu x:=by
         simp only [ON] at bM
         exact AV.qw (bM cs (Pd hi) x (Pd hj))
        simp only [k1,PA]
        first
        |exact ⟨k2,hp⟩
        |exact pure qx k3 hp
    ·simp [RM.run] at h1
  ·simp [RM.run] at h2
 |ref id sz i o=>
  simp only [snap1,RM.run] at hs
  cases hB:g id with
  |none=>simp [hB] at hs
  |some B=>
   simp only [hB] at hs
   split at hs
   ·rename_i hsz
    split at hs
    ·rename_i cs hcs
     split at hs
     ·rename_i bM
      simp only [RM.run,OG] at hs;subst hs
      cases h with
      |dR hi hd=>exact absurd hd (alive hm hB)
      | @ref _ _ _ _ b q hi hd hb hq=>
       have bZ:=hm.at_ id B hB
       rw [hb] at bZ
       obtain ⟨kY,arr,t,ha,ld,dG⟩:=bZ.cells (by first|assumption|omega)
       rw [hsz] at dG
       have get:∀(j:Nat) x,cs[j]? =some x->∃u,E.w.cell? ⟨b,i*sz+j,none⟩=some u/\aj E u x:=by
        intro j x hj
        obtain ⟨u,k1,k2,k3⟩:=(dG i cs hcs).2 j x hj
        exact ⟨u,by rw [cell_of_row _ _ _ _ _ _ ha];exact k1,k3⟩
       have hp:∀(j:Nat) x,cs[j]? =some x->Pu x:=fun j x hj=>by
        simp only [ON] at bM
        exact AV.qw (bM x (Pd hj))
       refine .pim (off:=i*sz) (fun j=>(E.w.cell? ⟨b,i*sz+j,none⟩).getD undef) (hI b (.inr ⟨id,B,by simp [AV.bV],hB,hb⟩)) hq (fun j x hj=> ?_) hp (fun j x hj=> ?_)
       ·obtain ⟨u,k1,_⟩:=get j x hj
        show E.w.cell? _=_
        rw [k1];rfl
       ·obtain ⟨u,k1,k3⟩:=get j x hj
        simp only [k1,PA]
        exact pure qx k3 (hp j x hj)
     ·simp [RM.run] at hs
    ·simp [RM.run] at hs
   ·simp [RM.run] at hs
 |_=>exact other hs
theorem sW (hm:aE E J base g) (I:Nat->Prop):∀{as_ bz:List AV},(gz as_).run g=some bz->(∀b,Handed E g (as_.flatMap AV.bV) b->I b)->bz.length=as_.length/\∀(i:Nat) v c c',aj E v c->as_[i]? =some c->bz[i]? =some c'->aj (E0 E.w I) v c'
 |[],bz,h,_=>by
  simp only [gz,RM.run,OG] at h;subst h
  exact ⟨rfl,fun i v c c' _ hc=>by simp at hc⟩
 |a::r,bz,h,hI=>by
  simp only [gz] at h
  obtain ⟨x,h1,h⟩:=cF h
  obtain ⟨l,h2,h⟩:=cF h
  simp only [RM.run,OG] at h;subst h
  have nC:∀b,Handed E g a.bV b->I b:=fun b hb=>hI b (hb.imp id fun ⟨id,B,hi,hh⟩=>⟨id,B,by simp [hi],hh⟩)
  have ks:∀b,Handed E g (r.flatMap AV.bV) b->I b:=fun b hb=>hI b (hb.imp id fun ⟨id,B,hi,hh⟩=>⟨id,B,by simp only [PF,Pm];exact .inr hi,hh⟩)
  have ih:=sW hm I h2 ks
  refine ⟨by simp [ih.1],fun i v c c' hr hc dF=> ?_⟩
  cases i with
  |zero=>simp at hc dF;subst hc;subst dF;exact wB hm I hr h1 nC
  |succ i=>simp at hc dF;exact ih.2 i v c c' hr hc dF
theorem wC (hm:aE E J base g) (I:Nat->Prop) (h:aj E v a) (hs:(dy a).run g=some a') (hI:∀b,Handed E g a.ids b->I b):aj (E0 E.w I) v a':=by
 cases a with
 |agg cs=>
  simp only [dy] at hs
  obtain ⟨l,h1,h2⟩:=cF hs
  simp only [RM.run,OG] at h2;subst h2
  obtain ⟨k1,k2⟩:=sW hm I h1 hI
  cases h with
  |agg hl h=>
   refine .agg (by rw [k1];exact hl) fun i v c hv hc=> ?_
   have hi:i<cs.length:=by rw [<-k1];exact (OO.1 hc).1
   exact k2 i v cs[i] c (h i v _ hv (OV hi)) (OV hi) hc
 |fn f cs=>
  simp only [dy] at hs
  obtain ⟨l,h1,h2⟩:=cF hs
  simp only [RM.run,OG] at h2;subst h2
  obtain ⟨k1,k2⟩:=sW hm I h1 hI
  cases h with
  |fn hl h=>
   refine .fn (by rw [k1];exact hl) fun i v c hv hc=> ?_
   have hi:i<cs.length:=by rw [<-k1];exact (OO.1 hc).1
   exact k2 i v cs[i] c (h i v _ hv (OV hi)) (OV hi) hc
 |bf f cs=>
  simp only [dy] at hs
  obtain ⟨l,h1,h2⟩:=cF hs
  simp only [RM.run,OG] at h2;subst h2
  obtain ⟨k1,k2⟩:=sW hm I h1 hI
  cases h with
  |bf hl h=>
   refine .bf (by rw [k1];exact hl) fun i v c hv hc=> ?_
   have hi:i<cs.length:=by rw [<-k1];exact (OO.1 hc).1
   exact k2 i v cs[i] c (h i v _ hv (OV hi)) (OV hi) hc
 |_=>exact wB hm I h hs hI
theorem qy (hm:aE E J base g) (I:Nat->Prop):∀{as_ bz:List AV},(cS as_).run g=some bz->(∀b,Handed E g (as_.flatMap AV.ids) b->I b)->bz.length=as_.length/\∀(i:Nat) v c c',aj E v c->as_[i]? =some c->bz[i]? =some c'->aj (E0 E.w I) v c'
 |[],bz,h,_=>by
  simp only [cS,RM.run,OG] at h;subst h
  exact ⟨rfl,fun i v c c' _ hc=>by simp at hc⟩
 |a::r,bz,h,hI=>by
  simp only [cS] at h
  obtain ⟨x,h1,h⟩:=cF h
  obtain ⟨l,h2,h⟩:=cF h
  simp only [RM.run,OG] at h;subst h
  have nC:∀b,Handed E g a.ids b->I b:=fun b hb=>hI b (hb.imp id fun ⟨id,B,hi,hh⟩=>⟨id,B,by simp [hi],hh⟩)
  have ks:∀b,Handed E g (r.flatMap AV.ids) b->I b:=fun b hb=>hI b (hb.imp id fun ⟨id,B,hi,hh⟩=>⟨id,B,by simp only [PF,Pm];exact .inr hi,hh⟩)
  have ih:=qy hm I h2 ks
  refine ⟨by simp [ih.1],fun i v c c' hr hc dF=> ?_⟩
  cases i with
  |zero=>simp at hc dF;subst hc;subst dF;exact wC hm I hr h1 nC
  |succ i=>simp at hc dF;exact ih.2 i v c c' hr hc dF
theorem aE.grow (hm:aE E J base g) (hb:Below E.w.heap.size E.w w'):
  ∃E':Env,E'.w=w'/\E.Le E'/\aE E' J base g/\(∀k,E'.kn k->E.kn k)/\(∀b,E.I b\/(E.w.heap.size<=b/\b<w'.heap.size)->E'.I b):=by
 have hlt:∀id b B,g id=some B->E.loc id=some b->b<E.w.heap.size:=fun id b B hg hb=>by
  have:=hm.at_ id B hg;rw [hb] at this;exact this.lt.2
 let E':Env:={ E with w:=w',I:=fun b=>E.I b\/(E.w.heap.size<=b/\b<w'.heap.size) }
 have hE:E.Le E':=by
  refine ⟨fun _ h=>h,fun b bq=>⟨.inl bq,hb.block b (hm.low b bq).1⟩,fun _ _ h=>h,fun _ _ _=> .inr rfl,fun id b hi hd hl=> .inr ?_,fun _ _ _=> .inr rfl,fun _ h=>h,fun b bq=>⟨bq,hb.block b (hm.xo b bq).1⟩⟩
  obtain ⟨B,hB⟩:=(hm.live id).1 ⟨hi,hd⟩
  show w'.shape? b=_
  simp only [World.shape?,hb.block b (hlt id b B hB hl)]
 refine ⟨E',rfl,hE,⟨hm.live,fun id B hg=>(hm.at_ id B hg).bO hE fun b hl=>hb.block b (hlt id b B hg hl),hm.apart,fun id b B hg hl hI=> ?_,fun b hI=> ?_,Pe hm.size hb.size,hm.len,hm.fk,fun b hX=>⟨O8 (hm.xo b hX).1 hb.size,fun hI=>hI.elim (hm.xo b hX).2.1 fun h=>by have:=(hm.xo b hX).1;omega,(hm.xo b hX).2.2⟩⟩,fun _ h=>h,fun b h=>h⟩
 ·rcases hI with hI|hI
  ·exact hm.out id b B hg hl hI
  ·have:=hlt id b B hg hl;omega
 ·rcases hI with hI|hI
  ·exact ⟨O8 (hm.low b hI).1 hb.size,(hm.low b hI).2⟩
  ·exact ⟨hI.2, .inr (Pe hm.size hI.1)⟩
def callUps (as_:List AV) (r:AV):List (Nat×Option Bk):=if r.nob=true then [] else (as_.flatMap AV.ids).map fun id=>(id,none)
theorem GP (hG:ee E) (hm:aE E J base g) (hvs:RC E vs as_) (hs:(cS as_).run g=some bz) (hf:Fn P f bz r) (GQ:∀id,id∈as_.flatMap AV.ids->E.kn id):
  Calls P f vs E.w fun e w'=>∃v E',e= .returned v/\E'.w=w'/\E.Le E'/\aj E' v r/\aE E' J base (aA g (callUps as_ r))/\Below base E.w w'/\∀id,E'.kn id->E.kn id:=by
 let I:=Handed E g (as_.flatMap AV.ids)
 have wD:∀b,I b->b<E.w.heap.size:=fun b hb=>by
  rcases hb with hb|⟨id,B,_,hg,hl⟩
  ·exact (hm.low b hb).1
  ·have:=hm.at_ id B hg;rw [hl] at this;exact this.lt.2
 have bJ:RC (E0 E.w I) vs bz:=by
  obtain ⟨k1,k2⟩:=qy hm I hs (fun b hb=>hb)
  refine ⟨by rw [k1];exact hvs.1,fun j u c hu hc=> ?_⟩
  have hj:j<as_.length:=by rw [<-k1];exact (OO.1 hc).1
  exact k2 j u as_[j] c (hvs.2 j u _ hu (OV hj)) (OV hj) hc
 refine (hf E.w I vs wD (hG.sub rfl fun b hb=> .inl hb) bJ).mono ?_
 rintro e w' ⟨v,he,hr,hb⟩
 unfold callUps
 by_cases hn:r.nob=true
 ·rw [OI hn]
  obtain ⟨E',hw,hE,hM,hk,_⟩:=hm.grow hb
  exact ⟨v,E',he,hw,hE,hr.nob hn,hM,hb.mono hm.size,hk⟩
 ·rw [OH hn]
  obtain ⟨E1,gY,fu,iA,bI,nC,ks⟩:=hm.kill (as_.flatMap AV.ids) GQ
  have mu:Below E1.w.heap.size E1.w w':=by rw [gY];exact hb
  obtain ⟨E',hw,hE,hM,hk,hI⟩:=iA.grow mu
  refine ⟨v,E',he,hw,fu.trans hE, ?_,hM,hb.mono hm.size,fun id h=>bI _ (hk _ h)⟩
  refine hr.pure (E':=E') (fun b bq=> ?_) ?_
  ·refine ⟨hI b ?_,fun o=>by rw [hw];rfl⟩
   rcases bq with bq|bq
   ·left
    rcases bq with bq|⟨id,B,hid,hg,hl⟩
    ·exact ks b bq
    ·exact nC id b B hid hg hl
   ·right;rw [gY];exact bq
  ·clear hn hI hM hk hE hw nC ks mu bI iA fu gY hb he
   generalize (fun b=>I b\/E.w.heap.size<=b/\b<w'.heap.size)=I' at hr
   have:∀{E:Env} {v:Value} {a:AV},aj E v a->(∀id,¬E.kn id)->(∀l,¬E.rg l)->Pu a:=by
    intro E v a h hk hy
    induction h with
    |v h=>exact .v
    |agg hl h ih=>
     refine .agg fun c hc=> ?_
     obtain ⟨i,hi,rfl⟩:=Qn hc
     exact ih i _ _ (OY (by omega)) (OV hi)
    |aK hl h ih=>
     refine .aK fun c hc=> ?_
     obtain ⟨i,hi,rfl⟩:=Qn hc
     exact ih i _ _ (OY (by omega)) (OV hi)
    |dD hc=>exact .aX
    |ed=>exact .aX
    |ct h ih=>exact .ct
    |emp=>exact .emp
    |pim=>exact .pim
    |ref hi=>exact absurd hi (hk _)
    |own hi=>exact absurd hi (hk _)
    |bT hi=>exact absurd hi (hk _)
    |dR hi=>exact absurd hi (hk _)
    |cp hi=>exact absurd hi (hk _)
    |mp hi=>exact absurd hi (hk _)
    |gr hi=>exact absurd hi (hk _)
    |fn hl h ih=>
     refine .fn fun c hc=> ?_
     obtain ⟨i,hi,rfl⟩:=Qn hc
     exact ih i _ _ (OY (by omega)) (OV hi)
    |bf hl h ih=>
     refine .bf fun c hc=> ?_
     obtain ⟨i,hi,rfl⟩:=Qn hc
     exact ih i _ _ (OY (by omega)) (OV hi)
    |af hg=>exact absurd hg (hy _)
    |de=>exact .de
    |dead=>exact .dead
   exact this hr (fun id h=>h) (fun _ h=>h)
def Fo (P:Program) (f:FuncId) (as_:List AV) (sz:Nat) (els:List (List AV)):Prop:=
 ∀(w:World) (J:Nat->Prop) (vs:Array Value),(∀b,J b->b<w.heap.size)->ee (E0 w J)->RC (E0 w J) vs as_->
  Calls P f vs w fun e w'=>∃v E1,e= .returned v/\E1.w=w'/\Below w.heap.size w w'/\aj E1 v (.own 0 sz 0 els.length)/\E1.kn 0/\¬E1.dead 0/\cI E1 w.heap.size ⟨sz,els⟩ (E1.loc 0)/\E1.ln 0=els.length
theorem GR (hG:ee E) (hm:aE E J base g) {sz:Nat} {els:List (List AV)} (hvs:RC E vs as_) (hs:(cS as_).run g=some bz) (hf:Fo P f bz sz els) (wE:∀cs,cs∈els->∀c,c∈cs->c.dk=true) (eC:¬E.kn fresh):
  Calls P f vs E.w fun e w'=>∃v E',e= .returned v/\E'.w=w'/\E.Le E'/\aj E' v (.own fresh sz 0 els.length)/\aE E' J base (aA g [(fresh,some ⟨sz,els⟩)])/\Below base E.w w'/\∀id,E'.kn id->E.kn id\/id=fresh:=by
 let I:=Handed E g (as_.flatMap AV.ids)
 have wD:∀b,I b->b<E.w.heap.size:=fun b hb=>by
  rcases hb with hb|⟨id,B,_,hg,hl⟩
  ·exact (hm.low b hb).1
  ·have:=hm.at_ id B hg;rw [hl] at this;exact this.lt.2
 have bJ:RC (E0 E.w I) vs bz:=by
  obtain ⟨k1,k2⟩:=qy hm I hs (fun b hb=>hb)
  refine ⟨by rw [k1];exact hvs.1,fun j u c hu hc=> ?_⟩
  have hj:j<as_.length:=by rw [<-k1];exact (OO.1 hc).1
  exact k2 j u as_[j] c (hvs.2 j u _ hu (OV hj)) (OV hj) hc
 refine (hf E.w I vs wD (hG.sub rfl fun b hb=> .inl hb) bJ).mono ?_
 rintro e w' ⟨v,E1,he,rfl,hb,hr,hH,sL,bZ,Az⟩
 have hlt:∀id b B,g id=some B->E.loc id=some b->b<E.w.heap.size:=fun id b B hg hb=>by
  have:=hm.at_ id B hg;rw [hb] at this;exact this.lt.2
 let E':Env:={ w:=E1.w,kn:=fun id=>E.kn id\/id=fresh,loc:=fun id=>if id=fresh then E1.loc 0 else E.loc id,dead:=fun id=>E.dead id/\id≠fresh,I:=E.I,ln:=fun id=>if id=fresh then els.length else E.ln id,rg:=E.rg,X:=E.X }
 have hne:∀id,E.kn id->id≠fresh:=fun id hi he=>eC (he▸hi)
 have hE:E.Le E':=by
  refine ⟨fun id hi=> .inl hi,fun b bq=>⟨bq,hb.block b (hm.low b bq).1⟩,fun id hi hd=>⟨hd,hne id hi⟩,fun id hi hd=> .inr (OH (hne id hi)),fun id b hi hd hl=> .inr ?_,fun id hi hd=> .inr (OH (hne id hi)),fun _ h=>h,fun b bq=>⟨bq,hb.block b (hm.xo b bq).1⟩⟩
  obtain ⟨B',aL⟩:=(hm.live id).1 ⟨hi,hd⟩
  show E1.w.shape? b=_
  simp only [World.shape?,hb.block b (hlt id b B' aL hl)]
 have AA:E'.kn fresh:= .inr rfl
 have fo:¬E'.dead fresh:=fun hd=>hd.2 rfl
 have dr:E'.loc fresh=E1.loc 0:=OI rfl
 have AB:sz≠0:=hr.sy sL
 have kf:∀b,E1.loc 0=some b->E.w.heap.size<=b/\b<E1.w.heap.size:=fun b hl=>by rw [hl] at bZ;exact bZ.lt
 refine ⟨v,E',he,rfl,hE, ?_,⟨fun id=> ?_,fun id B' hg=> ?_,fun id b9 b B1 B2 h1 h2 h3 h4=> ?_,fun id b B' hg bq hI=> ?_,fun b bq=>⟨O8 (hm.low b bq).1 hb.size,(hm.low b bq).2⟩,Pe hm.size hb.size,fun id B' hg cJ=> ?_,hm.fk,fun b hX=>⟨O8 (hm.xo b hX).1 hb.size,(hm.xo b hX).2.1,fun k B1 hk he=> ?_⟩⟩,hb.mono hm.size,fun id hi=>hi⟩
 ·obtain ⟨n,hn⟩:∃n,n=els.length:=⟨_,rfl⟩
  rw [<-hn] at hr ⊢
  cases hr with
  |own hi hd hl hq hs cY vZ hcc wF=>exact .own AA fo (dr.trans hl) hq hs cY vZ hcc (by rw [show E'.ln fresh=els.length from OI rfl, <-Az];exact wF)
  |bT hi hd hl wF=>exact .bT AA fo (dr.trans hl) ((show E'.ln fresh=els.length from OI rfl).trans (Az.symm.trans wF))
  |cp hi hd=>exact absurd hd sL
 ·simp only [aA]
  by_cases hid:id=fresh
  ·subst hid;simp [E']
  ·simp only [hid,Pf]
   rw [<-hm.live id]
   simp [E',hid]
 ·simp only [aA] at hg
  by_cases hid:id=fresh
  ·subst hid
   simp only [OK,OG] at hg
   subst hg
   rw [dr]
   cases hl:E1.loc 0 with
   |none=>rw [hl] at bZ;exact bZ
   |some b=>
    rw [hl] at bZ
    obtain ⟨q1,arr,t,q2,q3,q4⟩:=bZ.cells AB
    refine .iT ⟨Pe hm.size q1,arr,t,q2,q3,fun i cs hi=>⟨(q4 i cs hi).1,fun j x hj=> ?_⟩⟩ AB
    obtain ⟨u,u1,u2,u3⟩:=(q4 i cs hi).2 j x hj
    exact ⟨u,u1,u2,u3.dk (wE cs (Pd hi) x (Pd hj))⟩
  ·simp only [hid,Pf] at hg
   show cI E' base B' (if id=fresh then _ else _)
   rw [OH hid]
   exact (hm.at_ id B' hg).bO hE fun b hl=>hb.block b (hlt id b B' hg hl)
 ·simp only [aA] at h1 h2
  have e3:(if id=fresh then E1.loc 0 else E.loc id)=some b:=h3
  have e4:(if b9=fresh then E1.loc 0 else E.loc b9)=some b:=h4
  by_cases hid:id=fresh<;>by_cases jF:b9=fresh
  ·rw [hid,jF]
  ·rw [OI hid] at e3;rw [OH jF] at e4 h2
   have:=hlt _ _ _ h2 e4
   have:=kf b e3
   omega
  ·rw [OH hid] at e3 h1;rw [OI jF] at e4
   have:=hlt _ _ _ h1 e3
   have:=kf b e4
   omega
  ·rw [OH hid] at e3 h1;rw [OH jF] at e4 h2
   exact hm.apart id b9 b B1 B2 h1 h2 e3 e4
 ·simp only [aA] at hg
  have e3:(if id=fresh then E1.loc 0 else E.loc id)=some b:=bq
  have:=(hm.low b hI).1
  by_cases hid:id=fresh
  ·rw [OI hid] at e3
   have:=kf b e3
   omega
  ·rw [OH hid] at e3 hg
   exact hm.out id b B' hg e3 hI
 ·simp only [aA] at hg
  show _=if id=fresh then _ else _
  by_cases hid:id=fresh
  ·rw [OI hid] at hg ⊢
   simp only [OG] at hg;rw [<-hg]
  ·rw [OH hid] at hg ⊢
   exact hm.len id B' hg cJ
 ·simp only [aA] at hk
  have e3:(if k=fresh then E1.loc 0 else E.loc k)=some b:=he
  by_cases hid:k=fresh
  ·rw [OI hid] at e3
   have:=kf b e3
   have:=(hm.xo b hX).1
   omega
  ·rw [OH hid] at e3 hk
   exact (hm.xo b hX).2.2 k B1 hk e3
end
open Go.RowKit
def cC (ρ:Option Nat):Fence:={ Fence.wide with round:=ρ }
theorem nD:(cC ρ).depth.isSome=true->1<=n:=fun h=>by simp [cC,Fence.wide] at h
theorem ku {o:Oper} {e:Operand->Value}:∀f,o.about P w e=some f->(cC ρ).fn f:=fun _ _=>trivial
theorem oR (h:Calls P f args w R):CallsIn (cC ρ) n P f args w R:=(callsIn_wide (n:=n)).2 h
theorem oS {o:Oper} (h:bP P o=some ao):∀c,o.op≠ .defer c:=by
 intro c hc
 obtain ⟨dst,op,type,pos,after,guard⟩:=o
 simp only at hc
 subst hc
 simp [bP] at h
inductive Mk (E:Env) (lo:Nat):List Deferred->Prop
 |nil:Mk E lo []
 |cons {D:Nat} {ds:List Deferred} (hI:E.I D) (hD:lo<=D) (hh:E.w.heap[D]? =some (.deferred (some []))) (hne:∀d,d∈ds->d.target≠ .collected D) (t:Mk E lo ds):Mk E lo ({ target:= .collected D,args:= #[] }::ds)
theorem Mk.step {E E':Env} (hE:E.Le E') {lo:Nat} {ds:List Deferred} (h:Mk E lo ds):Mk E' lo ds:=by
 induction h with
 |nil=>exact .nil
 |cons hI hD hh hne t ih=>exact .cons (hE.cE _ hI).1 hD ((hE.cE _ hI).2.trans hh) hne ih
theorem Mk.wG (hE:∀b,E.I b->E'.I b/\E'.w.heap[b]? =E.w.heap[b]?) (h:Mk E lo ds):Mk E' lo ds:=by
 induction h with
 |nil=>exact .nil
 |cons hI hD hh hne t ih=>exact .cons (hE _ hI).1 hD ((hE _ hI).2.trans hh) hne ih
theorem Mk.lt (h:Mk E lo ds):∀d,d∈ds->∀D,d.target= .collected D->D<E.w.heap.size:=by
 induction h with
 |nil=>intro d hd;simp at hd
 | @cons D ds hI hD hh hne t ih=>
  intro d hd D' qz
  rcases OU.1 hd with rfl|hd
  ·simp only [Target.collected.injEq] at qz;subst qz
   exact (Ph.1 hh).1
  ·exact ih d hd D' qz
def Env.lt (E:Env) (kb:Nat):Env:={ E with kn:=fun id=>E.kn id/\id<kb }
theorem Env.AD (E:Env) (kb:Nat):(E.lt kb).Le E:=⟨fun _ h=>h.1,fun _ h=>⟨h,rfl⟩,fun _ _ h=>h,fun _ _ _=> .inr rfl,fun _ _ _ _ _=> .inr rfl,fun _ _ _=> .inr rfl,fun _ h=>h,fun _ h=>⟨h,rfl⟩⟩
theorem Env.Le.cut {E0:Env} (h:E0.Le E) (hk:∀id,E0.kn id->id<kb) (k:(E.lt kb).Le E'):E0.Le E':=
 Env.Le.trans (E':=E.lt kb) ⟨fun id hi=>⟨h.kn id hi,hk id hi⟩,h.cE,h.dead,h.loc,h.shape,h.ln,h.rg,h.fx⟩ k
def nb (kb:Nat):Nat->AV->Bool
 |0,_=>false
 |d+1, .agg cs=>cs.all (nb kb d)
 |d+1, .aK cs=>cs.all (nb kb d)
 |d+1, .fn _ cs=>cs.all (nb kb d)
 |d+1, .bf _ cs=>cs.all (nb kb d)
 |d+1, .af _ cs=>cs.all (nb kb d)
 |_+1, .ref id _ _ _=>Nat.blt id kb
 |_+1, .own id _ _ _=>Nat.blt id kb
 |_+1, .mp id=>Nat.blt id kb
 |_+1,_=>true
theorem aj.AE (hE:(E.lt kb).Le E'):∀(d:Nat) {v:Value} {a:AV},aj E v a->nb kb d a=true->aj E' v a:=by
 have hI:∀b,E.I b->E'.I b/\∀o,E'.w.cell? ⟨b,o,none⟩=E.w.cell? ⟨b,o,none⟩:=fun b hb=>⟨(hE.cE b hb).1,fun o=>hE.cell (E:=E.lt kb) hb o⟩
 intro d
 induction d with
 |zero=>intro v a _ h;simp [nb] at h
 |succ d ih=>
  have fL:∀{vs:Array Value} {cs:List AV},(∀(i:Nat) v c,vs[i]? =some v->cs[i]? =some c->aj E v c)->cs.all (nb kb d)=true->∀(i:Nat) v c,vs[i]? =some v->cs[i]? =some c->aj E' v c:=by
   intro vs cs h hn i v c hv hc
   simp only [ON] at hn
   exact ih (h i v c hv hc) (hn c (Pd hc))
  intro v a h hn
  cases a with
  |v x=>exact h.pure hI .v
  |agg cs=>cases h with|agg hl hh=>exact .agg hl (fL hh hn)
  |aK cs=>cases h with|aK hl hh=>exact .aK hl (fL hh hn)
  |fn f cs=>cases h with|fn hl hh=>exact .fn hl (fL hh hn)
  |bf f cs=>cases h with|bf hl hh=>exact .bf hl (fL hh hn)
  |af r cs=>cases h with|af h1 h2 h3 hl hh=>exact .af (hE.rg _ h1) (hE.cE _ h2).1 ((hE.cE _ h2).2.trans h3) hl (fL hh hn)
  |aX sz els=>exact h.pure hI .aX
  |ct sz els=>exact h.pure hI .ct
  |emp=>exact h.pure hI .emp
  |pim cs o=>exact h.pure hI .pim
  |de=>exact h.pure hI .de
  |dead=>exact .dead
  |ref id sz i o=>
   have hlt:id<kb:=Pn hn
   have:aj (E.lt kb) v (.ref id sz i o):=by
    cases h with
    |ref hi hd hb hq=>exact .ref (E:=E.lt kb) ⟨hi,hlt⟩ hd hb hq
    |dR hi hd ho=>exact .dR (E:=E.lt kb) ⟨hi,hlt⟩ hd ho
   exact this.step hE
  |mp id=>
   have hlt:id<kb:=Pn hn
   have:aj (E.lt kb) v (.mp id):=by
    cases h with
    |mp hi hd hb=>exact .mp (E:=E.lt kb) ⟨hi,hlt⟩ hd hb
    |gr hi hd ho=>exact .gr (E:=E.lt kb) ⟨hi,hlt⟩ hd ho
   exact this.step hE
  |own id sz off n=>
   have hlt:id<kb:=Pn hn
   have:aj (E.lt kb) v (.own id sz off n):=by
    cases h with
    |own hi hd hb hq hs hm hl hc bn=>exact .own (E:=E.lt kb) ⟨hi,hlt⟩ hd hb hq hs hm hl hc bn
    |bT hi hd hb bn=>exact .bT (E:=E.lt kb) ⟨hi,hlt⟩ hd hb bn
    |cp hi hd ho=>exact .cp (E:=E.lt kb) ⟨hi,hlt⟩ hd ho
   exact this.step hE
structure az where
 dst:Option Nat
 ao:AO
 guard:Option (Nat×Bool)
variable {o:az} {os full:List az}
def fv (P:Program) (ops:Array Oper) (o:Oper):Option az:=
 match bP P o with
 |some ao=>match o.guard with
  |none=>some ⟨o.dst,ao,none⟩
  |some (j,w)=>match (ops[j]?).bind (·.dst) with
   |some t=>some ⟨o.dst,ao,some (t,w)⟩
   |none=>none
 |none=>none
def aG (σ:Nat->AV):Arg->AV
 | .s t=>σ t
 | .c a=>a
def bG (n:Nat) (d:Option Nat) (v:AV) (σ:Nat->AV):Nat->AV:=fun t=>if d=some t/\t<n then v else σ t
def bR (σ:Nat->AV):Option (Nat×Bool)->Option Bool
 |none=>some true
 |some (t,w)=>match σ t with
  | .v (.bool b)=>some (b==w)
  | .v (.tuple _)=>some false
  |_=>none
inductive dt (P:Program) (σ:Nat->AV) (g:Nat->Option Bk) (fresh:Nat) (o:az):AV->List (Nat×Option Bk)->List Nat->Prop
 |skip (hg:bR σ o.guard=some false):dt P σ g fresh o (.v undef) [] []
 |done {val:AV} {ups:List (Nat×Option Bk)} (hg:bR σ o.guard=some true) (h:(o.ao.au fresh (aG σ)).run g=some (.done val ups)):
   dt P σ g fresh o val ups ((o.ao.au fresh (aG σ)).acc g++(o.ao.au fresh (aG σ)).see g)
 |call {f:FuncId} {as_ bz:List AV} {r:AV} (hg:bR σ o.guard=some true) (h:(o.ao.au fresh (aG σ)).run g=some (.call f as_)) (hc:bL P f=true)
   (hs:(cS as_).run g=some bz) (hf:Fn P f bz r):dt P σ g fresh o r (callUps as_ r) (((o.ao.au fresh (aG σ)).acc g++(o.ao.au fresh (aG σ)).see g)++((cS as_).acc g++(cS as_).see g))
 |nE {f:FuncId} {as_ bz:List AV} {sz:Nat} {els:List (List AV)} (hg:bR σ o.guard=some true) (h:(o.ao.au fresh (aG σ)).run g=some (.call f as_)) (hc:bL P f=true)
   (hs:(cS as_).run g=some bz) (hf:Fo P f bz sz els) (hn:∀cs,cs∈els->∀c,c∈cs->c.dk=true):dt P σ g fresh o (.own fresh sz 0 els.length) [(fresh,some ⟨sz,els⟩)] (((o.ao.au fresh (aG σ)).acc g++(o.ao.au fresh (aG σ)).see g)++((cS as_).acc g++(cS as_).see g))
theorem dE.of (hG:ee E) {a:Act} (h:∀t,aj E (a.tmps.getD t undef) (σ t)):dE E a.eval (aG σ):=by
 intro x ax hx
 cases x with
 |tmp t=>simp [cArg] at hx;subst hx;exact h t
 |const v=>
  simp only [cArg] at hx
  cases hc:ofConst v with
  |none=>simp [hc] at hx
  |some c=>simp [hc] at hx;subst hx;exact Fj hc
 |func f=>simp [cArg] at hx;subst hx;exact Fk f
 |global g=>
  simp only [cArg] at hx
  cases hc:glArg g with
  |none=>simp [hc] at hx
  |some c=>simp [hc] at hx;subst hx;exact hG.arg hc
theorem AF (h:(snap1 a).run g=some a'):∀id,id∈a.bV->∃B,g id=some B:=by
 intro id hid
 cases a with
 |own b9 sz off n=>
  simp only [AV.bV,OP] at hid
  subst hid
  simp only [snap1] at h
  obtain ⟨els,h1,_⟩:=cF h
  simp only [content,RM.run] at h1
  cases hB:g id with
  |none=>simp [hB] at h1
  |some B=>exact ⟨B,rfl⟩
 |ref b9 sz i o=>
  simp only [AV.bV,OP] at hid
  subst hid
  simp only [snap1,RM.run] at h
  cases hB:g id with
  |none=>simp [hB] at h
  |some B=>exact ⟨B,rfl⟩
 |_=>simp [AV.bV] at hid
theorem sX {g:Nat->Option Bk}:∀{as_ bz:List AV},(gz as_).run g=some bz->∀id,id∈as_.flatMap AV.bV->∃B,g id=some B
 |[],_,_,id,hid=>by simp at hid
 |a::r,bz,h,id,hid=>by
  simp only [gz] at h
  obtain ⟨x,h1,h⟩:=cF h
  obtain ⟨l,h2,h⟩:=cF h
  simp only [PF,Pm] at hid
  rcases hid with hid|hid
  ·exact AF h1 id hid
  ·exact sX h2 id hid
theorem GS (h:(dy a).run g=some a'):∀id,id∈a.ids->∃B,g id=some B:=by
 intro id hid
 cases a with
 |agg cs=>
  simp only [dy] at h
  obtain ⟨l,h1,_⟩:=cF h
  exact sX h1 id hid
 |fn f cs=>
  simp only [dy] at h
  obtain ⟨l,h1,_⟩:=cF h
  exact sX h1 id hid
 |bf f cs=>
  simp only [dy] at h
  obtain ⟨l,h1,_⟩:=cF h
  exact sX h1 id hid
 |_=>simp only [dy] at h;simp only [AV.ids] at hid;exact AF h id hid
theorem AG {g:Nat->Option Bk}:∀{as_ bz:List AV},(cS as_).run g=some bz->∀id,id∈as_.flatMap AV.ids->∃B,g id=some B
 |[],_,_,id,hid=>by simp at hid
 |a::r,bz,h,id,hid=>by
  simp only [cS] at h
  obtain ⟨x,h1,h⟩:=cF h
  obtain ⟨l,h2,h⟩:=cF h
  simp only [PF,Pm] at hid
  rcases hid with hid|hid
  ·exact GS h1 id hid
  ·exact AG h2 id hid
section
variable {P:Program} {E:Env} {J:Nat->Prop} {base:Nat} {g:Nat->Option Bk} {σ:Nat->AV} {fresh:Nat}
theorem lh {a:Act} (hs:∀t,aj E (a.tmps.getD t undef) (σ t)) (hc:fv P ops op=some o) {b:Bool} (hg:bR σ o.guard=some b):Region.wanted op (yielded ops a.tmps)=b:=by
 unfold fv at hc
 split at hc
 ·rename_i ao h1
  split at hc
  ·rename_i h2
   simp only [OG] at hc;subst hc
   simp only [bR,OG] at hg;subst hg
   simp [Region.wanted,h2]
  ·rename_i j w h2
   split at hc
   ·rename_i t h3
    simp only [OG] at hc;subst hc
    simp only [bR] at hg
    have ht:=hs t
    simp only [Region.wanted,h2,yielded,h3,PT]
    split at hg
    ·rename_i b' bq
     rw [bq] at ht
     have:=ht.iC
     simp only [OG] at hg;subst hg
     have hlt:t<a.tmps.size:=by
      rcases Ps t a.tmps.size with h|h
      ·exact h
      ·simp [Array.getElem?_eq_none h,undef] at this
     have h5:a.tmps[t]? =some (.bool b'):=by
      rw [OY hlt]
      simpa [OY hlt] using this
     rw [h5]
     cases b'<;>cases w<;>rfl
    ·rename_i vs bq
     rw [bq] at ht
     have:=ht.iC
     simp only [OG] at hg;subst hg
     have h5:a.tmps[t]? =none\/a.tmps[t]? =some (.tuple vs):=by
      rcases Ps t a.tmps.size with h|h
      ·right
       rw [OY h]
       simpa [OY h] using this
      ·left;exact Array.getElem?_eq_none h
     rcases h5 with h5|h5<;>rw [h5]<;>rfl
    ·simp at hg
   ·simp at hc
 ·simp at hc
theorem qA (hc:fv P ops op=some o):o.dst=op.dst/\bP P op=some o.ao:=by
 unfold fv at hc
 split at hc
 ·rename_i ao h1
  split at hc
  ·simp only [OG] at hc;subst hc;exact ⟨rfl,h1⟩
  ·split at hc
   ·simp only [OG] at hc;subst hc;exact ⟨rfl,h1⟩
   ·simp at hc
 ·simp at hc
theorem wH {a:Act} (hG:ee E) (hs:∀t,aj E (a.tmps.getD t undef) (σ t)) (hm:aE E J base g) (hf:¬E.kn fresh) (hi:ops[i]? =some op) (hc:fv P ops op=some o)
 {acc:List Nat} (hr:dt P σ g fresh o val ups acc) {K:Act->World->Prop}
  (hK:∀v E',E.Le E'->aj E' v val->aE E' J base (aA g ups)->Below base E.w E'.w->(∀id,E'.kn id->E.kn id\/id∈ups.map Prod.fst)->K (a.put o.dst v) E'.w) {rd:Option Nat}:wpOpIn (cC rd) 0 P ops Q i K a E.w:=by
 have hd:o.dst=op.dst/\bP P op=some o.ao:=by
  unfold fv at hc
  split at hc
  ·rename_i ao h1
   split at hc
   ·simp only [OG] at hc;subst hc;exact ⟨rfl,h1⟩
   ·split at hc
    ·simp only [OG] at hc;subst hc;exact ⟨rfl,h1⟩
    ·simp at hc
  ·simp at hc
 have dg:∀e,op.semAt (cC rd).round e=execOp e op:=fun e=>Qx (cC rd) _ _ (oS hd.2)
 unfold wpOpIn
 simp only [hi]
 cases hr with
 |skip hg=>
  rw [lh hs hc hg]
  simp only [PE,Pf]
  rw [<-hd.1]
  exact ⟨ku,hK undef E (Env.Le.refl E) (.v rfl) hm (Pk _ _) fun _ h=> .inl h⟩
 |done hg h=>
  rw [lh hs hc hg,OI rfl]
  obtain ⟨n,v,E',h1,h2,h3,h4,h5,h6,h7⟩:=GJ (dE.of hG hs) (fun _=>rfl) hm hf hd.2 h
  have:=hK v E' h3 h4 h5 h6 h7
  unfold Oper.wpIn
  rw [dg,h1]
  rw [hd.1] at this
  rcases h2 with rfl|⟨rfl,rfl⟩
  ·exact ⟨ku,this⟩
  ·exact ⟨ku,this⟩
 | @call f as_ bz r hg h bY fN eX=>
  rw [lh hs hc hg,OI rfl]
  obtain ⟨vs,h1,h2⟩:=qu (dE.of hG hs) hd.2 h bY
  unfold Oper.wpIn
  rw [dg,h1,Oper.uponIn_enter]
  refine ⟨ku,nD,oR ((GP hG hm h2 fN eX fun id hid=> ?_).mono ?_)⟩
  ·obtain ⟨B,hB⟩:=AG fN id hid
   exact ((hm.live id).2 ⟨B,hB⟩).1
  ·rintro e w' ⟨v,E',rfl,rfl,k1,k2,k3,k4,k5⟩
   have:=hK v E' k1 k2 k3 k4 fun id h=> .inl (k5 id h)
   rw [hd.1] at this
   exact this
 | @nE f as_ bz sz els hg h bY fN eX kx=>
  rw [lh hs hc hg,OI rfl]
  obtain ⟨vs,h1,h2⟩:=qu (dE.of hG hs) hd.2 h bY
  unfold Oper.wpIn
  rw [dg,h1,Oper.uponIn_enter]
  refine ⟨ku,nD,oR ((GR hG hm h2 fN eX kx hf).mono ?_)⟩
  ·rintro e w' ⟨v,E',rfl,rfl,k1,k2,k3,k4,k5⟩
   have:=hK v E' k1 k2 k3 k4 fun id h=>(k5 id h).imp (fun h=>h) fun h=>by simp [h]
   rw [hd.1] at this
   exact this
theorem oT (hE:E.Le E') {a:Act} (hs:∀t,aj E (a.tmps.getD t undef) (σ t)) (hv:aj E' v val) (d:Option Nat):∀t,aj E' ((a.put d v).tmps.getD t undef) (bG a.tmps.size d val σ t):=by
 intro t
 unfold bG
 cases d with
 |none=>simp only [Act.put,reduceCtorEq,false_and,Pf];exact (hs t).step hE
 |some d=>
  simp only [Act.put,OG]
  by_cases h:d=t/\t<a.tmps.size
  ·rw [OI h]
   obtain ⟨rfl,hlt⟩:=h
   simpa [hlt] using hv
  ·rw [OH h]
   have:(a.tmps.setIfInBounds d v).getD t undef=a.tmps.getD t undef:=by
    simp only [P8,Qu]
    by_cases dm:d=t
    ·subst dm
     have:¬d<a.tmps.size:=fun hl=>h ⟨rfl,hl⟩
     simp [this]
    ·simp [dm]
   rw [this];exact (hs t).step hE
theorem hP (a:Act) (d:Option Nat) (v:Value):(a.put d v).tmps.size=a.tmps.size/\(a.put d v).defers=a.defers:=by
 cases d<;>simp [Act.put]
end
def Fi (P:Program) (f:FuncId) (as_:List AV) (g:Nat->Option Bk) (k:Nat) (r:AV) (g':Nat->Option Bk) (k':Nat):Prop:=
 ∀(E:Env) (J:Nat->Prop) (base:Nat) (vs:Array Value),ee E->aE E J base g->(∀id,E.kn id->id<k)->RC E vs as_->
  Calls P f vs E.w fun e w'=>∃v E',e= .returned v/\E'.w=w'/\E.Le E'/\aj E' v r/\aE E' J base g'/\Below base E.w w'/\∀id,E'.kn id->id<k'
def Yd (P:Program) (kb:Nat) (r:Loop) (caps as_:List AV) (g:Nat->Option Bk) (k:Nat) (g':Nat->Option Bk) (k':Nat):Prop:=
 r.params.size=as_.length/\∀(E:Env) (J:Nat->Prop) (base l:Nat) (vs:Array Value),ee E->aE E J base g->(∀id,E.kn id->id<k)->E.rg l->RC E vs as_->RC E r.tmps caps->E.I l->E.w.heap[l]? =some (.loop r)->
  RoundIn Fence.wide 0 P l r.fn ((r.params.zip vs).foldl (fun t (p,v)=>t.setIfInBounds p v) r.tmps) r.assign r.body E.w fun e w'=>e= .returned (.bool true)/\∃E',E'.w=w'/\(E.lt kb).Le E'/\aE E' J base g'/\Below base E.w w'/\∀id,E'.kn id->id<k'
theorem GU {aD:Operand->Value} {l:Nat} {c:Call} {x:Operand} (hc:c.callee= .value x) (hx:aD x= .func (.yield l) #[] #[]) (w:World):
  (do let d<-resolve aD c ty;invoke d.target d.args:Sem Next).run P w=(Instr.yield l (c.args.map aD)).run P w:=by
 simp [resolve,hc,hx,Deferred.ofValue,invoke]
inductive gB (P:Program) (n k0:Nat):List az->(Nat->AV)->(Nat->Option Bk)->Nat->(Nat->AV)->(Nat->Option Bk)->Nat->Prop
 |nil {σ:Nat->AV} {g:Nat->Option Bk} {k:Nat}:gB P n k0 [] σ g k σ g k
 |cons {o:az} {os:List az} {σ σ':Nat->AV} {g g':Nat->Option Bk} {k k1 k':Nat} {val:AV} {ups:List (Nat×Option Bk)} {acc:List Nat} (h:dt P σ g k o val ups acc) (hk:k<=k1) (hu:∀id,id∈ups.map Prod.fst->id<k1)
   (hr:gB P n k0 os (bG n o.dst val σ) (aA g ups) k1 σ' g' k'):gB P n k0 (o::os) σ g k σ' g' k'
 |inl {o:az} {os:List az} {σ σ':Nat->AV} {g g1 g':Nat->Option Bk} {k k1 k':Nat} {f:FuncId} {as_:List AV} {r:AV} (hg:bR σ o.guard=some true) (h:(o.ao.au k (aG σ)).run g=some (.call f as_)) (hc:bL P f=true)
   (hf:Fi P f as_ g k r g1 k1) (hr:gB P n k0 os (bG n o.dst r σ) g1 k1 σ' g' k'):gB P n k0 (o::os) σ g k σ' g' k'
 |af {o:az} {os:List az} {σ σ':Nat->AV} {g g1 g':Nat->Option Bk} {k k1 k':Nat} {x:Arg} {args:List Arg} {r:Loop} {caps:List AV} (hg:bR σ o.guard=some true) (h:o.ao= .call x args) (hx:aG σ x= .af r caps)
   {kb:Nat} (oJ:k0<=kb) (kx:∀t,nb kb 6 (σ t)=true) (hy:Yd P kb r caps (args.map (aG σ)) g k g1 k1) (hr:gB P n k0 os (bG n o.dst (.v (.bool true)) σ) g1 k1 σ' g' k'):gB P n k0 (o::os) σ g k σ' g' k'
structure eK (E0:Env) (J:Nat->Prop) (base:Nat) (w0:World) (n:Nat) (σ:Nat->AV) (g:Nat->Option Bk) (k:Nat) (a:Act) (w:World):Prop where
 ex:∃E:Env,E.w=w/\E0.Le E/\(∀t,aj E (a.tmps.getD t undef) (σ t))/\aE E J base g/\(∀id,E.kn id->id<k)/\Mk E w0.heap.size a.defers
 size:a.tmps.size=n
 below:Below base w0 w
 gl:ee E0
theorem AH {rd:Option Nat} {E0:Env} (hH:∀id,E0.kn id->id<k0) {w0:World} (h:gB P n k0 os σ g k σ' g' k'):
  ∀(i:Nat) (a:Act) (w:World),(∀j,j<os.length->∃op,ops[i+j]? =some op/\∃o,os[j]? =some o/\fv P ops op=some o)->eK E0 J base w0 n σ g k a w->(∀a w,eK E0 J base w0 n σ' g' k' a w->Q .normal a w)->wpOpsIn (cC rd) 0 P ops Q (List.range' i os.length) a w:=by
 induction h with
 |nil=>intro i a w _ hr hQ;exact hQ a w hr
 | @cons o os σ σ' g g' k k1 k' val ups acc h hk hu hr ih=>
  intro i a w dO hrel hQ
  rw [List.length_cons,List.range'_succ,wpOpsIn_cons]
  obtain ⟨op,h1,o',h2,h3⟩:=dO 0 (by simp)
  simp only [Pg,OG] at h2
  subst h2
  rw [Pz] at h1
  obtain ⟨E,rfl,hle,hs,hm,ba,hmk⟩:=hrel.ex
  refine wH (hrel.gl.step hle) hs hm (fun hh=>PW _ (ba k hh)) h1 h3 h fun v E' hE hv hM hB GV=> ?_
  refine ih (i+1) _ _ (fun j hj=> ?_) ⟨⟨E',rfl,hle.trans hE, ?_,hM,fun id hid=> ?_, ?_⟩, ?_, ?_,hrel.gl⟩ hQ
  ·obtain ⟨qB,m1,o',m2,m3⟩:=dO (j+1) (by simp;omega)
   exact ⟨qB,by rw [show i+1+j=i+(j+1) by omega];exact m1,o',by simpa using m2,m3⟩
  ·have:=oT hE hs hv o.dst
   rw [hrel.size] at this
   exact this
  ·rcases GV id hid with h|h
   ·exact O8 (ba id h) hk
   ·exact hu id h
  ·rw [(hP a o.dst v).2];exact hmk.step hE
  ·rw [(hP a o.dst v).1];exact hrel.size
  ·exact hrel.below.trans hB
 | @inl o os σ σ' g g1 g' k k1 k' f as_ r hg h bY hf hr ih=>
  intro i a w dO hrel hQ
  rw [List.length_cons,List.range'_succ,wpOpsIn_cons]
  obtain ⟨op,h1,o',h2,h3⟩:=dO 0 (by simp)
  simp only [Pg,OG] at h2
  subst h2
  rw [Pz] at h1
  obtain ⟨E,rfl,hle,hs,hm,ba,hmk⟩:=hrel.ex
  have hd:=qA h3
  have dg:∀e,op.semAt (cC rd).round e=execOp e op:=fun e=>Qx (cC rd) _ _ (oS hd.2)
  unfold wpOpIn
  simp only [h1]
  rw [lh hs h3 hg,OI rfl]
  obtain ⟨vs,e1,e2⟩:=qu (dE.of (hrel.gl.step hle) hs) hd.2 h bY
  unfold Oper.wpIn
  rw [dg,e1,Oper.uponIn_enter]
  refine ⟨ku,nD,oR ((hf E J base vs (hrel.gl.step hle) hm ba e2).mono ?_)⟩
  rintro e w' ⟨v,E',rfl,rfl,q1,q2,q3,q4,q5⟩
  refine ih (i+1) _ _ (fun j hj=> ?_) ⟨⟨E',rfl,hle.trans q1, ?_,q3,q5, ?_⟩, ?_, ?_,hrel.gl⟩ hQ
  ·obtain ⟨qB,m1,o',m2,m3⟩:=dO (j+1) (by simp;omega)
   exact ⟨qB,by rw [show i+1+j=i+(j+1) by omega];exact m1,o',by simpa using m2,m3⟩
  ·have:=oT q1 hs q2 op.dst
   rw [hrel.size] at this
   rw [hd.1]
   exact this
  ·rw [(hP a op.dst v).2];exact hmk.step q1
  ·rw [(hP a op.dst v).1];exact hrel.size
  ·exact hrel.below.trans q4
 | @af o os σ σ' g g1 g' k k1 k' x args r caps hg h hx kb oJ kx hy hr ih=>
  intro i a w dO hrel hQ
  rw [List.length_cons,List.range'_succ,wpOpsIn_cons]
  obtain ⟨op,h1,o',h2,h3⟩:=dO 0 (by simp)
  simp only [Pg,OG] at h2
  subst h2
  rw [Pz] at h1
  obtain ⟨E,rfl,hle,hs,hm,ba,hmk⟩:=hrel.ex
  have hd:=qA h3
  have dg:∀e,op.semAt (cC rd).round e=execOp e op:=fun e=>Qx (cC rd) _ _ (oS hd.2)
  have AI:=hd.2
  rw [h] at AI
  obtain ⟨c,y,c1,c2,c3,c4⟩:=Ax AI
  have hv:=dE.of (hrel.gl.step hle) hs y x c3
  rw [hx] at hv
  obtain ⟨vv,cd⟩:∃vv,vv=a.eval y:=⟨_,rfl⟩
  rw [<-cd] at hv
  cases hv with
  | @af l _ _ qC hI hh hl hr'=>
   obtain ⟨al,ar⟩:=(dE.of (hrel.gl.step hle) hs).list c4
   have AJ:=run_yield (P:=P) (args:=c.args.map a.eval) hh (by rw [hy.1];simpa using al)
   have e1:(execOp a.eval op).run P E.w= .ok (.round l r.fn ((r.params.zip (c.args.map a.eval)).foldl (fun t (p,v)=>t.setIfInBounds p v) r.tmps) r.assign r.body) E.w:=by
    unfold execOp
    simp only [c1]
    exact (GU c2 cd.symm E.w).trans AJ
   unfold wpOpIn
   simp only [h1]
   rw [lh hs h3 hg,OI rfl]
   unfold Oper.wpIn
   rw [dg,e1,Oper.uponIn_round]
   refine ⟨ku,nD,RoundIn.mono (hy.2 E J base l (c.args.map a.eval) (hrel.gl.step hle) hm ba qC ⟨by simpa using al,fun j u c hu hc=>ar j u c (by simpa using hu) hc⟩ ⟨hl,hr'⟩ hI hh) ?_⟩
   rintro e w' ⟨rfl,E',rfl,q1,q3,q4,q5⟩
   refine ih (i+1) _ _ (fun j hj=> ?_) ⟨⟨E',rfl,hle.cut (fun id hi=>O8 (hH id hi) oJ) q1, ?_,q3,q5, ?_⟩, ?_, ?_,hrel.gl⟩ hQ
   ·obtain ⟨qB,m1,o',m2,m3⟩:=dO (j+1) (by simp;omega)
    exact ⟨qB,by rw [show i+1+j=i+(j+1) by omega];exact m1,o',by simpa using m2,m3⟩
   ·have:=oT (E:=E') (E':=E') (Env.Le.refl E') (fun t=>(hs t).AE q1 6 (kx t)) (v:= .bool true) (.v rfl) op.dst
    rw [hrel.size] at this
    rw [hd.1]
    exact this
   ·rw [(hP a op.dst _).2];exact Mk.wG (E:=E) q1.cE hmk
   ·rw [(hP a op.dst _).1];exact hrel.size
   ·exact hrel.below.trans q4
open Go.RowKit
def Arg.slot:Arg->List Nat
 | .s t=>[t]
 | .c _=>[]
def oV:Option Arg->List Nat
 |none=>[]
 |some x=>x.slot
def AO.qD:AO->List Nat
 | .mov x| .box _ x| .load _ x| .nilc x| .un _ x| .conv _ x| .fad _ x| .fld _ _ x| .ext _ x| .len _ x| .isn _ _ x=>x.slot
 | .pick a b c=>a.slot++b.slot++c.slot
 | .new _=>[]
 | .agg _ ps=>ps.flatMap fun p=>p.2.2.slot
 | .bsl _ _ _ ps=>ps.flatMap fun p=>p.2.slot
 | .store _ x y| .bin _ _ x y| .iad _ x y| .iap _ _ x y| .ixa _ _ _ x y| .mnx _ x y| .eqs _ _ _ x y| .msl _ _ _ x y| .six x y| .app _ _ x y=>x.slot++y.slot
 | .slc _ x l h m=>x.slot++oV l++oV h++oV m
 | .sls x l h=>x.slot++oV l++oV h
 | .mkf _ cs| .mkb _ cs=>cs.flatMap Arg.slot
 | .call x l=>x.slot++l.flatMap Arg.slot
 | .clr _ x| .b2s x| .s2b x=>x.slot
 | .cpy _ x y=>x.slot++y.slot
 | .mkm| .bad=>[]
 | .mup _ x k y=>x.slot++k.slot++y.slot
 | .mlk _ _ x k=>x.slot++k.slot
def AO.allocs:AO->Bool
 | .new _| .box _ _| .bsl _ _ _ _| .msl _ _ _ _ _| .app _ _ _ _| .s2b _| .mkm=>true
 |_=>false
def az.iX (o:az):List Nat:=o.ao.qD++(match o.guard with|some (t,_)=>[t]|none=>[])
theorem bD (h:∀t,t∈x.slot->σ' t=σ t):aG σ' x=aG σ x:=by
 cases x with
 |s t=>exact h t (by simp [Arg.slot])
 |c a=>rfl
theorem qE {x:Option Arg} (h:∀t,t∈oV x->σ' t=σ t):cR (aG σ') x=cR (aG σ) x:=by
 cases x with
 |none=>rfl
 |some a=>simp only [cR,bD h]
theorem map_congr {l:List Arg} (h:∀t,t∈l.flatMap Arg.slot->σ' t=σ t):l.map (aG σ')=l.map (aG σ):=by
 apply QC
 intro x hx
 exact bD fun t ht=>h t (List.mem_flatMap.2 ⟨x,hx,ht⟩)
theorem AK {σ σ':Nat->AV}:∀{ps:List (Nat×Nat×Arg)} {cs:List AV},(∀t,t∈ps.flatMap (fun p=>p.2.2.slot)->σ' t=σ t)->fillA (aG σ') cs ps=fillA (aG σ) cs ps
 |[],cs,_=>rfl
 |(off,n,x)::r,cs,h=>by
  have h1:=bD (x:=x) (σ:=σ) (σ':=σ') fun t ht=>h t (by simp [ht])
  simp only [fillA,h1]
  split
  ·exact AK fun t ht=>h t (by rw [PF];exact Po _ ht)
  ·rfl
theorem AL {σ σ':Nat->AV} {sz:Nat}:∀{ps:List (Nat×Arg)} {els:List (List AV)},(∀t,t∈ps.flatMap (fun p=>p.2.slot)->σ' t=σ t)->fillE (aG σ') sz els ps=fillE (aG σ) sz els ps
 |[],cs,_=>rfl
 |(i,x)::r,cs,h=>by
  have h1:=bD (x:=x) (σ:=σ) (σ':=σ') fun t ht=>h t (by simp [ht])
  simp only [fillE,h1]
  split
  ·exact AL fun t ht=>h t (by rw [PF];exact Po _ ht)
  ·rfl
theorem AM (fresh:Nat) (h:∀t,t∈ao.qD->σ' t=σ t):ao.au fresh (aG σ')=ao.au fresh (aG σ):=by
 cases ao<;>simp only [AO.qD,Pm] at h<;>simp only [AO.au]
 case mov x=>rw [bD h]
 case pick a b c=>rw [bD (x:=a) fun t ht=>h t (.inl (.inl ht)),bD (x:=b) fun t ht=>h t (.inl (.inr ht)),bD (x:=c) fun t ht=>h t (.inr ht)]
 case box n x=>rw [bD h]
 case agg zs ps=>rw [AK h]
 case bsl sz ln zs ps=>rw [AL h]
 case load m x=>rw [bD h]
 case store n x y=>rw [bD (x:=x) fun t ht=>h t (.inl ht),bD (x:=y) fun t ht=>h t (.inr ht)]
 case nilc x=>rw [bD h]
 case bin bt op x y=>rw [bD (x:=x) fun t ht=>h t (.inl ht),bD (x:=y) fun t ht=>h t (.inr ht)]
 case un op x=>rw [bD h]
 case conv k x=>rw [bD h]
 case fad off x=>rw [bD h]
 case fld off m x=>rw [bD h]
 case iad sz x y=>rw [bD (x:=x) fun t ht=>h t (.inl ht),bD (x:=y) fun t ht=>h t (.inr ht)]
 case ext i x=>rw [bD h]
 case len b x=>cases b<;>simp only [AO.au]<;>rw [bD h]
 case isn kd m x=>cases kd<;>simp only [AO.au]<;>rw [bD h]
 case mnx m x y=>rw [bD (x:=x) fun t ht=>h t (.inl ht),bD (x:=y) fun t ht=>h t (.inr ht)]
 case eqs ng n L x y=>rw [bD (x:=x) fun t ht=>h t (.inl ht),bD (x:=y) fun t ht=>h t (.inr ht)]
 case msl sz by_ zs x y=>rw [bD (x:=x) fun t ht=>h t (.inl ht),bD (x:=y) fun t ht=>h t (.inr ht)]
 case slc sz x lo hi mx=>rw [bD (x:=x) fun t ht=>h t (.inl (.inl (.inl ht))),qE (x:=lo) fun t ht=>h t (.inl (.inl (.inr ht))),qE (x:=hi) fun t ht=>h t (.inl (.inr ht)),qE (x:=mx) fun t ht=>h t (.inr ht)]
 case sls x lo hi=>rw [bD (x:=x) fun t ht=>h t (.inl (.inl ht)),qE (x:=lo) fun t ht=>h t (.inl (.inr ht)),qE (x:=hi) fun t ht=>h t (.inr ht)]
 case six x y=>rw [bD (x:=x) fun t ht=>h t (.inl ht),bD (x:=y) fun t ht=>h t (.inr ht)]
 case app sz by_ x y=>rw [bD (x:=x) fun t ht=>h t (.inl ht),bD (x:=y) fun t ht=>h t (.inr ht)]
 case mkf f cs=>rw [map_congr h]
 case mkb f cs=>rw [map_congr h]
 case clr zs x=>rw [bD h]
 case b2s x=>rw [bD h]
 case s2b x=>rw [bD h]
 case cpy sz x y=>rw [bD (x:=x) fun t ht=>h t (.inl ht),bD (x:=y) fun t ht=>h t (.inr ht)]
 case mup kd x k y=>rw [bD (x:=x) fun t ht=>h t (.inl (.inl ht)),bD (x:=k) fun t ht=>h t (.inl (.inr ht)),bD (x:=y) fun t ht=>h t (.inr ht)]
 case mlk kd z x k=>rw [bD (x:=x) fun t ht=>h t (.inl ht),bD (x:=k) fun t ht=>h t (.inr ht)]
 case ixa sz ln m x y=>rw [bD (x:=x) fun t ht=>h t (.inl ht),bD (x:=y) fun t ht=>h t (.inr ht)]
 case iap sz ln x y=>rw [bD (x:=x) fun t ht=>h t (.inl ht),bD (x:=y) fun t ht=>h t (.inr ht)]
 case call x l=>rw [bD (x:=x) fun t ht=>h t (.inl ht),map_congr fun t ht=>h t (.inr ht)]
theorem GW (h:ao.allocs=false) (fresh GX:Nat) (ρ:Arg->AV):ao.au GX ρ=ao.au fresh ρ:=by
 cases ao<;>simp [AO.allocs] at h<;>first|rfl|skip
 case len b x=>cases b<;>rfl
 case isn kd b x=>cases kd<;>rfl
theorem GY (h:ao.allocs=true) {ρ:Arg->AV} (hr:(ao.au fresh ρ).run g=some (.done val ups)):fresh∈ups.map Prod.fst:=by
 cases ao<;>simp [AO.allocs] at h<;>simp only [AO.au] at hr
 case new zs=>simp [RM.run] at hr;rw [<-hr.2];simp
 case mkm=>simp [RM.run] at hr;rw [<-hr.2];simp
 case box n x=>split at hr<;>simp [RM.run] at hr;rw [<-hr.2];simp
 case bsl sz ln zs ps=>
  cases hf:fillE ρ sz (List.replicate ln zs) ps with
  |none=>simp [hf,RM.opt,RM.run] at hr
  |some els=>simp [hf,RM.opt,RM.run] at hr;rw [<-hr.2];simp
 case msl sz b zs l c=>
  split at hr
  ·split at hr<;>simp [RM.run] at hr;rw [<-hr.2];simp
  ·simp [RM.run] at hr
 case s2b x=>
  split at hr
  ·split at hr<;>simp [RM.run] at hr;rw [<-hr.2];simp
  ·simp [RM.run] at hr
 case app sz b s x=>
  obtain ⟨ys,_,hr⟩:=cF hr
  split at hr
  ·split at hr<;>simp [RM.run] at hr;rw [<-hr.2];simp
  ·split at hr<;>simp [RM.run] at hr;rw [<-hr.2];simp
  ·simp only [RM.run] at hr
   split at hr
   ·split at hr
    ·simp [RM.run] at hr;rw [<-hr.2];simp
    ·split at hr<;>simp [RM.run] at hr;rw [<-hr.2];simp
   ·simp at hr
  ·simp [RM.run] at hr
theorem dt.local {P:Program} {σ σ':Nat->AV} {g g':Nat->Option Bk} {fr gC:Nat} {o:az} {val:AV} {ups:List (Nat×Option Bk)} {acc:List Nat} (h:dt P σ g fr o val ups acc)
  (hσ:∀t,t∈o.iX->σ' t=σ t) (hg:∀id,id∈acc->g' id=g id) (eC:fr∈ups.map Prod.fst->gC=fr):∃wI,dt P σ' g' gC o val ups wI:=by
 have cw:bR σ' o.guard=bR σ o.guard:=by
  cases hg0:o.guard with
  |none=>rfl
  |some p=>
   obtain ⟨t,w⟩:=p
   simp only [bR,hσ t (by simp [az.iX,hg0])]
 have dg:∀out,(o.ao.au fr (aG σ)).run g=some out->(∀id,id∈(o.ao.au fr (aG σ)).acc g++(o.ao.au fr (aG σ)).see g->g' id=g id)->(o.ao.allocs=true->gC=fr)->(o.ao.au gC (aG σ')).run g'=some out:=by
  intro out h1 h2 h3
  have e1:o.ao.au gC (aG σ')=o.ao.au fr (aG σ):=by
   rw [AM gC fun t ht=>hσ t (by simp [az.iX,ht])]
   cases hal:o.ao.allocs with
   |false=>exact GW hal _ _ _
   |true=>rw [h3 hal]
  rw [e1,RM.local _ (fun id hid=>h2 id (Pr _ hid)) (fun id hid=>by rw [h2 id (Po _ hid)])]
  exact h1
 cases h with
 |skip hg0=>exact ⟨_, .skip (cw.trans hg0)⟩
 |done hg0 h1=>exact ⟨_, .done (cw.trans hg0) (dg _ h1 hg fun hal=>eC (GY hal h1))⟩
 | @call f as_ bz r hg0 h1 hc hs hf=>
  have hal:o.ao.allocs=false:=by
   cases hx:o.ao with
   |call x l=>rfl
   |_=>exact absurd h1 (wx (by rw [hx];simp))
  refine ⟨_, .call (cw.trans hg0) (dg _ h1 (fun id hid=>hg id (Pr _ hid)) fun h=>by rw [hal] at h;simp at h) hc ?_ hf⟩
  rw [RM.local _ (fun id hid=>hg id (Po _ (Pr _ hid))) (fun id hid=>by rw [hg id (Po _ (Po _ hid))])]
  exact hs
 | @nE f as_ bz sz els hg0 h1 hc hs hf hn=>
  have hal:o.ao.allocs=false:=by
   cases hx:o.ao with
   |call x l=>rfl
   |_=>exact absurd h1 (wx (by rw [hx];simp))
  have hfe:gC=fr:=eC (by simp)
  subst hfe
  refine ⟨_, .nE (cw.trans hg0) (dg _ h1 (fun id hid=>hg id (Pr _ hid)) fun _=>rfl) hc ?_ hf hn⟩
  rw [RM.local _ (fun id hid=>hg id (Po _ (Pr _ hid))) (fun id hid=>by rw [hg id (Po _ (Po _ hid))])]
  exact hs
structure Rec where
 dst:Option Nat
 val:AV
 ups:List (Nat×Option Bk)
 acc:List Nat
 fr:Nat
def Rec.keys (r:Rec):List Nat:=r.ups.map Prod.fst
inductive hU (P:Program) (n:Nat):List az->(Nat->AV)->(Nat->Option Bk)->Nat->List Rec->(Nat->AV)->(Nat->Option Bk)->Nat->Prop
 |nil {σ:Nat->AV} {g:Nat->Option Bk} {k:Nat}:hU P n [] σ g k [] σ g k
 |cons {o:az} {os:List az} {σ σ':Nat->AV} {g g':Nat->Option Bk} {k k1 k':Nat} {val:AV} {ups:List (Nat×Option Bk)} {acc:List Nat} {rs:List Rec} (h:dt P σ g k o val ups acc) (hk:k<=k1) (hu:∀id,id∈ups.map Prod.fst->id<k1)
   (hr:hU P n os (bG n o.dst val σ) (aA g ups) k1 rs σ' g' k'):hU P n (o::os) σ g k (⟨o.dst,val,ups,acc,k⟩::rs) σ' g' k'
def dh {β:Type} (L:Nat->Bool) (w:Rec->Option β):Nat->List Rec->β->β
 |_,[],x=>x
 |k,r::rs,x=>dh L w (k+1) rs (if L k=true then (w r).getD x else x)
theorem jM {β:Type} {L L':Nat->Bool} {w:Rec->Option β}:∀(rs:List Rec) (k:Nat) (x:β),(∀(j:Nat) r,rs[j]? =some r->L (k+j)≠L' (k+j)->w r=none)->dh L w k rs x=dh L' w k rs x
 |[],k,x,_=>rfl
 |r::rs,k,x,h=>by
  simp only [dh]
  have h0:=h 0 r rfl
  rw [Pz] at h0
  have e:(if L k=true then (w r).getD x else x)=if L' k=true then (w r).getD x else x:=by
   by_cases hl:L k=L' k
   ·rw [hl]
   ·rw [h0 hl];simp
  rw [e]
  exact jM rs (k+1) _ fun j r' hr hl=>h (j+1) r' (by simpa using hr) (by rw [show k+(j+1)=k+1+j by omega];exact hl)
theorem jN {β:Type} {L:Nat->Bool} {w:Rec->Option β}:∀(rs:List Rec) (k:Nat) (x:β),(∀(j:Nat) r,rs[j]? =some r->L (k+j)=true->w r=none)->dh L w k rs x=x
 |[],k,x,_=>rfl
 |r::rs,k,x,h=>by
  simp only [dh]
  have e:(if L k=true then (w r).getD x else x)=x:=by
   split
   ·rename_i hl;rw [h 0 r rfl (by simpa using hl)];rfl
   ·rfl
  rw [e]
  exact jN rs (k+1) _ fun j r' hr hl=>h (j+1) r' (by simpa using hr) (by rw [show k+(j+1)=k+1+j by omega];exact hl)
theorem nF {β:Type} {L L':Nat->Bool} {w:Rec->Option β}:∀(rs:List Rec) (k i:Nat) (x:β) (r:Rec),rs[i]? =some r->L (k+i)=false->(∀j,L' j=if j=k+i then true else L j)->(∀(j:Nat) r',i<j->rs[j]? =some r'->L (k+j)=true->w r'=none\/w r=none)->
  dh L' w k rs x=(w r).getD (dh L w k rs x)
 |[],k,i,x,r,hr,_,_,_=>by simp at hr
 |r0::rs,k,0,x,r,hr,hf,hL,hn=>by
  simp only [Pg,OG] at hr
  subst hr
  simp only [dh,hL k,Pz,OK]
  rw [Pz] at hf
  rw [hf]
  simp only [PE,Pf]
  cases hw:w r0 with
  |none=>
   simp only [P7]
   refine jM rs (k+1) x fun j r' hr' hl=> ?_
   rw [hL,OH (by omega)] at hl
   exact absurd rfl hl
  |some y=>
   simp only [PA]
   refine jN rs (k+1) y fun j r' hr' hl=> ?_
   rw [hL,OH (by omega)] at hl
   exact (hn (j+1) r' (by omega) (by simpa using hr') (by rw [show k+(j+1)=k+1+j by omega];exact hl)).resolve_right (by rw [hw];simp)
 |r0::rs,k,i+1,x,r,hr,hf,hL,hn=>by
  simp only [dh]
  have e:L' k=L k:=by rw [hL k,OH (by omega)]
  rw [e]
  exact nF rs (k+1) i _ r (by simpa using hr) (by rw [show k+1+i=k+(i+1) by omega];exact hf) (fun j=>by rw [hL j,show k+1+i=k+(i+1) by omega]) fun j r' hj hr' hl=>hn (j+1) r' (by omega) (by simpa using hr') (by rw [show k+(j+1)=k+1+j by omega];exact hl)
theorem iD {β:Type} {L:Nat->Bool} {w:Rec->Option β}:∀(rs:List Rec) (k:Nat) (x:β),dh L w (k+1) rs x=dh (fun j=>L (j+1)) w k rs x
 |[],_,_=>rfl
 |r::rs,k,x=>by
  simp only [dh]
  exact iD rs (k+1) _
def iY (n t:Nat) (r:Rec):Option AV:=if r.dst=some t/\t<n then some r.val else none
def kv:List (Nat×Option Bk)->Nat->Option (Option Bk)
 |[],_=>none
 |(k,x)::r,id=>match kv r id with
  |some y=>some y
  |none=>if id=k then some x else none
theorem ky:∀(ups:List (Nat×Option Bk)) (g:Nat->Option Bk) (id:Nat),aA g ups id=(kv ups id).getD (g id)
 |[],g,id=>rfl
 |(k,x)::r,g,id=>by
  simp only [aA,kv,ky r]
  cases kv r id with
  |some y=>rfl
  |none=>
   simp only [P7]
   by_cases h:id=k
   ·simp [h]
   ·simp [h]
theorem lj:∀{ups:List (Nat×Option Bk)} {id:Nat},kv ups id≠none->id∈ups.map Prod.fst
 |[],id,h=>by simp [kv] at h
 |(k,x)::r,id,h=>by
  simp only [kv] at h
  cases hr:kv r id with
  |some y=>simp only [OX,OU];exact .inr (lj (by rw [hr];simp))
  |none=>
   rw [hr] at h
   by_cases hk:id=k
   ·simp [hk]
   ·simp [hk] at h
def wg (id:Nat) (r:Rec):Option (Option Bk):=kv r.ups id
theorem lp (n t:Nat) (r:Rec) (σ:Nat->AV):bG n r.dst r.val σ t=(iY n t r).getD (σ t):=by
 unfold bG iY
 split<;>rfl
def upto (i j:Nat):Bool:=decide (j<i)
def bH (n:Nat) (L:Nat->Bool) (rs:List Rec) (σ:Nat->AV) (t:Nat):AV:=dh L (iY n t) 0 rs (σ t)
def bE (L:Nat->Bool) (rs:List Rec) (g:Nat->Option Bk) (id:Nat):Option Bk:=dh L (wg id) 0 rs (g id)
theorem wJ {rs:List Rec} (h:hU P n os σ g k rs σ' g' k'):
  rs.length=os.length/\k<=k'/\(∀(i:Nat) o,os[i]? =some o->∃r,rs[i]? =some r/\r.dst=o.dst/\dt P (bH n (upto i) rs σ) (bE (upto i) rs g) r.fr o r.val r.ups r.acc/\k<=r.fr)/\
   (∀(i j:Nat) ri rj,i<j->rs[i]? =some ri->rs[j]? =some rj->∀id,id∈ri.keys->id<rj.fr)/\(∀(i:Nat) r,rs[i]? =some r->∀id,id∈r.keys->id<k')/\σ'=bH n (fun _=>true) rs σ/\g'=bE (fun _=>true) rs g:=by
 induction h with
 |nil=>exact ⟨rfl,OQ _,fun i o ho=>by simp at ho,fun i j ri rj _ h=>by simp at h,fun i r h=>by simp at h,rfl,rfl⟩
 | @cons o os σ σ' g g' k k1 k' val ups acc rs h hk hu hr ih=>
  obtain ⟨i1,i2,i3,i4,i5,i6,i7⟩:=ih
  have e1:∀i,bH n (upto (i+1)) (⟨o.dst,val,ups,acc,k⟩::rs) σ=bH n (upto i) rs (bG n o.dst val σ):=by
   intro i;funext t
   show dh _ _ 1 rs _=_
   rw [iD]
   unfold bH
   congr 1
   ·funext j;simp [upto]
   ·rw [OI (by simp [upto])];exact (lp n t ⟨o.dst,val,ups,acc,k⟩ σ).symm
  have e2:∀i,bE (upto (i+1)) (⟨o.dst,val,ups,acc,k⟩::rs) g=bE (upto i) rs (aA g ups):=by
   intro i;funext id
   show dh _ _ 1 rs _=_
   rw [iD]
   unfold bE
   congr 1
   ·funext j;simp [upto]
   ·rw [OI (by simp [upto]),ky];rfl
  refine ⟨by simp [i1],Pe hk i2,fun i o' ho=> ?_,fun i j ri rj aZ hi hj id hid=> ?_,fun i r hr' id hid=> ?_, ?_, ?_⟩
  ·cases i with
   |zero=>
    simp only [Pg,OG] at ho
    subst ho
    refine ⟨_,rfl,rfl, ?_,OQ _⟩
    have s0:bH n (upto 0) (⟨o.dst,val,ups,acc,k⟩::rs) σ=σ:=by funext t;exact jN _ 0 _ fun j r _ hl=>by simp [upto] at hl
    have g0:bE (upto 0) (⟨o.dst,val,ups,acc,k⟩::rs) g=g:=by funext t;exact jN _ 0 _ fun j r _ hl=>by simp [upto] at hl
    rw [s0,g0]
    exact h
   |succ i=>
    obtain ⟨r,r1,r2,r3,r4⟩:=i3 i o' (by simpa using ho)
    exact ⟨r,by simpa using r1,r2,by rw [e1,e2];exact r3,Pe hk r4⟩
  ·cases j with
   |zero=>omega
   |succ j=>
    simp only [Py] at hj
    cases i with
    |zero=>
     simp only [Pg,OG] at hi
     subst hi
     have bj:j<os.length:=by rw [<-i1];exact (OO.1 hj).1
     obtain ⟨r,r1,_,_,r4⟩:=i3 j _ (OV bj)
     rw [hj] at r1
     simp only [OG] at r1
     subst r1
     exact O8 (hu id hid) r4
    |succ i=>exact i4 i j ri rj (by omega) (by simpa using hi) hj id hid
  ·cases i with
   |zero=>
    simp only [Pg,OG] at hr'
    subst hr'
    exact O8 (hu id hid) i2
   |succ i=>exact i5 i r (by simpa using hr') id hid
  ·rw [i6]
   funext t
   unfold bH
   simp only [dh]
   rw [iD,OK,lp n t ⟨o.dst,val,ups,acc,k⟩ σ]
  ·rw [i7]
   funext id
   unfold bE
   simp only [dh]
   rw [iD,OK,ky]
   rfl
def iZ (x y:az):Bool:=
 (match x.dst with|some d=> !y.iX.contains d&&y.dst !=some d|none=>true)&&(match y.dst with|some d=> !x.iX.contains d|none=>true)
def fw (x y:Rec):Bool:=(x.keys.all fun id=> !y.acc.contains id&& !y.keys.contains id)&&(y.keys.all fun id=> !x.acc.contains id)
def du (o:Oper):List Nat:=o.after.toList.filterMap fun e=>if Region.binds .any e=true then some e.on else none
def iE (ops:List Oper) (dep:List (List Nat)):Bool:=
 dep.length==ops.length&&(List.range ops.length).all fun j=>((ops[j]?.map du).getD []).all (· <j)&&
  ((dep[j]?).getD []).all fun i=>i<j&&(((ops[j]?.map du).getD []).contains i||((ops[j]?.map du).getD []).any fun e=>((dep[e]?).getD []).contains i)
def fy (os:List az) (dep:List (List Nat)):Bool:=
 (List.range os.length).all fun j=>(List.range j).all fun i=>((dep[j]?).getD []).contains i||(match os[i]?,os[j]? with|some x,some y=>iZ x y|_,_=>false)
def ef (rs:List Rec) (dep:List (List Nat)):Bool:=
 (List.range rs.length).all fun j=>(List.range j).all fun i=>((dep[j]?).getD []).contains i||(match rs[i]?,rs[j]? with|some x,some y=>fw x y|_,_=>false)
theorem wK:∀(N:Nat) (m:List Nat),m.Nodup->(∀j,j∈m->j<N)->m.length<=N
 |0,m,_,h=>by
  cases m with
  |nil=>simp
  |cons a l=>have:=h a (by simp);omega
 |N+1,m,hn,h=>by
  have ih:=wK N (m.erase N) (hn.erase N) fun j hj=>by
   have GZ:=List.mem_of_mem_erase hj
   have:=h j GZ
   have hne:j≠N:=fun e=>by
    subst e
    exact (List.Nodup.mem_erase_iff hn).1 hj|>.1 rfl
   omega
  rw [List.length_erase] at ih
  split at ih<;>omega
section
variable {P:Program} {E0:Env} {n:Nat} {ops:Array Oper} {J:Nat->Prop} {base:Nat} {w0:World} {Q:Exit->Act->World->Prop} {os:List az} {dep:List (List Nat)} {σ σ':Nat->AV} {g g':Nat->Option Bk} {k k':Nat} {rs:List Rec}
structure AN (E0:Env) (n:Nat) (ops:Array Oper) (J:Nat->Prop) (base:Nat) (w0:World) (σ:Nat->AV) (g:Nat->Option Bk) (k:Nat) (rs:List Rec) (listed:Array Bool) (a:Act) (w:World):Prop where
 ex:∃E:Env,E.w=w/\E0.Le E/\(∀t,aj E (a.tmps.getD t undef) (bH n (fun j=>listed.getD j false) rs σ t))/\aE E J base (bE (fun j=>listed.getD j false) rs g)/\
  (∀id,E.kn id->id<k\/∃j r,listed.getD j false=true/\rs[j]? =some r/\id∈r.keys)/\Mk E w0.heap.size a.defers
 size:a.tmps.size=n
 below:Below base w0 w
 gl:ee E0
 fO:listed.size=ops.size
 closed:∀(j:Nat) op,ops[j]? =some op->listed.getD j false=true->∀e,e∈du op->listed.getD e false=true
theorem oW {e:Nat}:e∈du op↔∃x,x∈op.after/\Region.binds .any x=true/\x.on=e:=by
 unfold du
 rw [List.mem_filterMap]
 constructor
 ·rintro ⟨x,hx,h⟩
  split at h
  ·rename_i hb;simp only [OG] at h;exact ⟨x,by simpa using hx,hb,h⟩
  ·simp at h
 ·rintro ⟨x,hx,hb,he⟩
  exact ⟨x,by simpa using hx,by simp [hb,he]⟩
theorem nG (hd:iE ops.toList dep=true) {listed:Array Bool} (hc:∀(j:Nat) op,ops[j]? =some op->listed.getD j false=true->∀e,e∈du op->listed.getD e false=true):
  ∀(j:Nat) op,ops[j]? =some op->(∀e,e∈du op->listed.getD e false=true)->∀i,i∈(dep[j]?).getD []->listed.getD i false=true:=by
 intro j
 induction j using Nat.strongRecOn with
 |_ j ih=>
  intro op bX dz i hi
  have bj:j<ops.toList.length:=by simpa using (Ph.1 bX).1
  unfold iE at hd
  simp only [OJ,ON,Pj,PG,O9,Qr,PX] at hd
  have hj:=hd.2 j bj
  have nH:ops.toList[j]? =some op:=by simpa using bX
  simp only [nH,OS,PA] at hj
  obtain ⟨h1,h2⟩:=hj.2 i hi
  rcases h2 with h2|⟨e,he,h2⟩
  ·exact dz i h2
  ·have G0:e<j:=hj.1 e he
   have eJ:e<ops.size:=by simp at bj;omega
   exact ih e G0 ops[e] (OY eJ) (hc e _ (OY eJ) (dz e he)) i h2
end
open Go.RowKit
def mA:az:=⟨none, .mov (.c (.v undef)),none⟩
def nI (k:Nat):Rec:=⟨none, .v undef,[],[],k⟩
def AP (dep:List (List Nat)) (b N:Nat):Bool:=
 ((List.range b).all fun i=>((dep[b]?).getD []).contains i)&&(List.range N).all fun j=>decide (j<=b)||((dep[j]?).getD []).contains b
section
variable {P:Program} {E0:Env} {n:Nat} {ops:Array Oper} {J:Nat->Prop} {base:Nat} {w0:World} {Q:Exit->Act->World->Prop} {os:List az} {dep:List (List Nat)} {σ σ':Nat->AV} {g g':Nat->Option Bk} {k k':Nat} {rs:List Rec}
theorem G1 {rd:Option Nat} {i1:Nat} (cv:hU P n os σ g k rs σ' g' k') (hlen:os.length=i1) (N9:i1<=ops.size) (dO:∀(j:Nat) op,i0<=j->j<i1->ops[j]? =some op->∃o,os[j]? =some o/\fv P ops op=some o)
  (hd:iE ops.toList dep=true) (cu:fy os dep=true) (hid:ef rs dep=true)
  (wL:∀listed:Array Bool,(∀(j:Nat) op,ops[j]? =some op->listed.getD j false=true->∀e,e∈du op->listed.getD e false=true)->(∀j,listed.getD j false=true->j<i1)->(¬∀j,j<i1->listed.getD j false=true)->∀i op,ops[i]? =some op->(∀e,e∈du op->listed.getD e false=true)->i<i1)
  (hK:∀fuel listed a w,eK E0 J base w0 n σ' g' k' a w->listed.size=ops.size->(∀j,listed.getD j false=decide (j<i1))->(∀m:List Nat,(∀j,j∈m->j<ops.size/\listed.getD j true=false)->m.Nodup->m.length<=fuel)->wpAnyIn (cC rd) 0 P .any ops Q fuel listed a w):
  ∀(fuel:Nat) (listed:Array Bool) (a:Act) (w:World),AN E0 n ops J base w0 σ g k rs listed a w->(∀j,j<i0->listed.getD j false=true)->(∀j,listed.getD j false=true->j<i1)->(∀m:List Nat,(∀j,j∈m->j<ops.size/\listed.getD j true=false)->m.Nodup->m.length<=fuel)->wpAnyIn (cC rd) 0 P .any ops Q fuel listed a w:=by
 obtain ⟨c1,c2,c3,c4,c5,c6,c7⟩:=wJ cv
 have done:∀(fuel:Nat) (listed:Array Bool) (a:Act) (w:World),AN E0 n ops J base w0 σ g k rs listed a w->(∀j,listed.getD j false=true->j<i1)->(∀m:List Nat,(∀j,j∈m->j<ops.size/\listed.getD j true=false)->m.Nodup->m.length<=fuel)->(∀j,j<i1->listed.getD j false=true)->wpAnyIn (cC rd) 0 P .any ops Q fuel listed a w:=by
  intro fuel listed a w hI eA fA bM
  obtain ⟨E,rfl,hle,h1,h2,h3,hmk⟩:=hI.ex
  have e6:bH n (fun j=>listed.getD j false) rs σ=σ':=by
   rw [c6];funext t
   refine jM _ 0 _ fun j r hr hl=>absurd ?_ hl
   rw [OZ,bM j (by rw [<-hlen, <-c1];exact (OO.1 hr).1)]
  have e7:bE (fun j=>listed.getD j false) rs g=g':=by
   rw [c7];funext t
   refine jM _ 0 _ fun j r hr hl=>absurd ?_ hl
   rw [OZ,bM j (by rw [<-hlen, <-c1];exact (OO.1 hr).1)]
  rw [e6] at h1;rw [e7] at h2
  refine hK fuel listed a E.w ⟨⟨E,rfl,hle,h1,h2,fun id hh=> ?_,hmk⟩,hI.size,hI.below,hI.gl⟩ hI.fO (fun j=> ?_) fA
  ·rcases h3 id hh with h|⟨j,r,_,hr,hk⟩
   ·exact O8 h c2
   ·exact c5 j r hr id hk
  ·by_cases hj:j<i1
   ·rw [bM j hj];simp [hj]
   ·cases hl:listed.getD j false with
    |true=>exact absurd (eA j hl) hj
    |false=>simp [hj]
 have first:∀(listed:Array Bool),listed.size=ops.size->(∀(j:Nat) op,ops[j]? =some op->listed.getD j false=true->∀e,e∈du op->listed.getD e false=true)->(¬∀j,j<i1->listed.getD j false=true)->Region.ready .any ops listed≠[]:=by
  intro listed da bY bM hr
  refine bM fun j=> ?_
  induction j using Nat.strongRecOn with
  |_ j ih=>
   intro hj
   cases hl:listed.getD j false with
   |true=>rfl
   |false=>
    exfalso
    have hjs:j<listed.size:=by rw [da];omega
    have ja:j<ops.size:=by omega
    have:j∈Region.ready .any ops listed:=by
     rw [mem_ready]
     refine ⟨by simp [hjs] at hl ⊢; exact hl,ops[j],OY ja,fun e he hb=> ?_⟩
     have cN:=hd
     unfold iE at cN
     simp only [OJ,ON,Pj,PG] at cN
     have jb:=(cN.2 j (by simpa using ja)).1
     have nH:ops.toList[j]? =some ops[j]:=by simp [ja]
     simp only [nH,OS,PA] at jb
     have hlt:=jb e.on (oW.2 ⟨e,he,hb,rfl⟩)
     exact ih e.on hlt (by omega)
    rw [hr] at this
    simp at this
 intro fuel
 induction fuel with
 |zero=>
  intro listed a w hI gD eA fA
  by_cases bM:∀j,j<i1->listed.getD j false=true
  ·exact done 0 listed a w hI eA fA bM
  ·exfalso
   cases hr:Region.ready .any ops listed with
   |nil=>exact first listed hI.fO hI.closed bM hr
   |cons x xs=>
    have hx:x∈Region.ready .any ops listed:=by rw [hr];simp
    obtain ⟨m1,o,m2,_⟩:=mem_ready.1 hx
    have:=fA [x] (fun j hj=>by simp at hj;subst hj;exact ⟨(Ph.1 m2).1,m1⟩) (by simp)
    simp at this
 |succ fuel ih=>
  intro listed a w hI gD eA fA
  by_cases bM:∀j,j<i1->listed.getD j false=true
  ·exact done _ listed a w hI eA fA bM
  refine ⟨fun hr=>absurd hr (first listed hI.fO hI.closed bM),fun i hi=> ?_⟩
  obtain ⟨m1,op,m2,m3⟩:=mem_ready.1 hi
  have cB:i<ops.size:=(Ph.1 m2).1
  have cO:listed.getD i false=false:=by
   have:i<listed.size:=by rw [hI.fO];exact cB
   simp [this] at m1 ⊢; exact m1
  have dz:∀e,e∈du op->listed.getD e false=true:=fun e he=>by
   obtain ⟨x,hx,hb,rfl⟩:=oW.1 he
   exact m3 x hx hb
  have gX:i<i1:=wL listed hI.closed eA bM i op m2 dz
  have G2:i0<=i:=by
   rcases Ps i i0 with h|h
   ·have:=gD i h;rw [cO] at this;simp at this
   ·exact h
  obtain ⟨o,ho,jc⟩:=dO i op G2 gX m2
  obtain ⟨r,cx,cg,hrun,eC⟩:=c3 i o ho
  obtain ⟨E,rfl,hle,h1,h2,h3,hmk⟩:=hI.ex
  -- G3 is listed out of nJ is free of this one
  have free:∀j rj oj,j≠i->rs[j]? =some rj->os[j]? =some oj->listed.getD j false≠upto i j->(iZ (if i<j then o else oj) (if i<j then oj else o)=true/\fw (if i<j then r else rj) (if i<j then rj else r)=true):=by
   intro j rj oj hne aP bu hl
   have bj:j<os.length:=(OO.1 bu).1
   unfold fy at cu
   unfold ef at hid
   simp only [ON,Pj,O9,PX] at cu hid
   by_cases aZ:i<j
   ·rw [OI aZ,OI aZ,OI aZ,OI aZ]
    have aU:listed.getD j false=true:=by
     have hu:upto i j=false:=by simp [upto];omega
     rw [hu] at hl
     simpa using hl
    have cL:i∉(dep[j]?).getD []:=by
     intro cZ
     have ja:j<ops.size:=by omega
     have:=nG hd hI.closed j ops[j] (OY ja) (hI.closed j _ (OY ja) aU) i cZ
     rw [cO] at this;simp at this
    have s1:=(cu j bj i aZ).resolve_left cL
    have s2:=(hid j (by rw [c1];exact bj) i aZ).resolve_left cL
    rw [ho,bu] at s1;rw [cx,aP] at s2
    exact ⟨s1,s2⟩
   ·rw [OH aZ,OH aZ,OH aZ,OH aZ]
    have bF:j<i:=by omega
    have aU:listed.getD j false=false:=by
     have hu:upto i j=true:=by simp [upto];omega
     rw [hu] at hl
     simpa using hl
    have cL:j∉(dep[i]?).getD []:=by
     intro cZ
     have:=nG hd hI.closed i op m2 dz j cZ
     rw [aU] at this;simp at this
    have s1:=(cu i (by omega) j bF).resolve_left cL
    have s2:=(hid i (by omega) j bF).resolve_left cL
    rw [ho,bu] at s1;rw [cx,aP] at s2
    exact ⟨s1,s2⟩
  have gE:∀(j:Nat) rj,rs[j]? =some rj->∃oj,os[j]? =some oj/\rj.dst=oj.dst:=fun j rj aP=>by
   have bj:j<os.length:=by rw [<-c1];exact (OO.1 aP).1
   obtain ⟨r',q1,q2,_,_⟩:=c3 j _ (OV bj)
   rw [aP] at q1;simp only [OG] at q1;subst q1
   exact ⟨_,OV bj,q2⟩
  -- a slot qF it looks at is as it comes one behind jK other
  have hσ:∀t,t∈o.iX->bH n (fun j=>listed.getD j false) rs σ t=bH n (upto i) rs σ t:=by
   intro t ht
   refine jM _ 0 _ fun j rj aP hl=> ?_
   rw [OZ] at hl
   by_cases hne:j=i
   ·subst hne;rw [cO] at hl;simp [upto] at hl
   ·obtain ⟨oj,bu,cN⟩:=gE j rj aP
    have hf:=(free j rj oj hne aP bu hl).1
    unfold iY
    rw [OH]
    rintro ⟨dm,_⟩
    rw [cN] at dm
    unfold iZ at hf
    by_cases aZ:i<j
    ·simp only [OI aZ,dm,OJ,O4,Pp,Pq] at hf
     exact hf.2 ht
    ·simp only [OH aZ,dm,OJ,O4,Pp,Pq] at hf
     exact hf.1.1 ht
  have hg:∀id,id∈r.acc->bE (fun j=>listed.getD j false) rs g id=bE (upto i) rs g id:=by
   intro id qG
   refine jM _ 0 _ fun j rj aP hl=> ?_
   rw [OZ] at hl
   by_cases hne:j=i
   ·subst hne;rw [cO] at hl;simp [upto] at hl
   ·obtain ⟨oj,bu,cN⟩:=gE j rj aP
    have hf:=(free j rj oj hne aP bu hl).2
    cases hw:wg id rj with
    |none=>rfl
    |some y=>
     exfalso
     have hk:id∈rj.keys:=lj (by unfold wg at hw;rw [hw];simp)
     unfold fw at hf
     by_cases aZ:i<j
     ·simp only [OI aZ,OJ,ON,O4,Pp,Pq] at hf
      exact hf.2 id hk qG
     ·simp only [OH aZ,OJ,ON,O4,Pp,Pq] at hf
      exact (hf.1 id hk).1 qG
  -- a name qF G4 has
  have qs:∃gC,¬E.kn gC/\(r.fr∈r.ups.map Prod.fst->gC=r.fr):=by
   by_cases gX:r.fr∈r.ups.map Prod.fst
   ·refine ⟨r.fr,fun hk=> ?_,fun _=>rfl⟩
    rcases h3 _ hk with h|⟨j,rj,aU,aP,cM⟩
    ·omega
    ·by_cases hne:j=i
     ·subst hne;rw [cO] at aU;simp at aU
     ·by_cases aZ:i<j
      ·obtain ⟨oj,bu,_⟩:=gE j rj aP
       have hf:=(free j rj oj hne aP bu (by rw [aU];simp [upto];omega)).2
       unfold fw at hf
       simp only [OI aZ,OJ,ON,O4,Pp,Pq] at hf
       exact (hf.1 _ gX).2 cM
      ·have:=c4 j i rj r (by omega) aP cx _ cM
       exact PW _ this
   ·refine ⟨k',fun hk=> ?_,fun h=>absurd h gX⟩
    rcases h3 _ hk with h|⟨j,rj,aU,aP,cM⟩
    ·omega
    ·exact PW _ (c5 j rj aP _ cM)
  obtain ⟨gC,wM,wN⟩:=qs
  obtain ⟨wI,wO⟩:=hrun.local hσ hg wN
  refine wH (hI.gl.step hle) h1 h2 wM m2 jc wO fun v E' hE hv hM hB ba=> ?_
  -- it is listed now
  have db:∀j,(listed.setIfInBounds i true).getD j false=if j=0+i then true else listed.getD j false:=by
   intro j
   rw [OZ]
   have hZ:i<listed.size:=by rw [hI.fO];exact cB
   by_cases bF:j=i
   ·subst bF;simp [hZ]
   ·rw [OH bF,getD_set_ne false (Ne.symm bF)]
  have nK:∀t,bH n (fun j=>(listed.setIfInBounds i true).getD j false) rs σ t=bG n o.dst r.val (bH n (fun j=>listed.getD j false) rs σ) t:=by
   intro t
   rw [<-cg,lp]
   refine nF rs 0 i _ r cx (by rw [OZ];exact cO) db fun j rj aZ aP aU=> ?_
   rw [OZ] at aU
   obtain ⟨oj,bu,cN⟩:=gE j rj aP
   have hf:=(free j rj oj (by omega) aP bu (by rw [aU];simp [upto];omega)).1
   unfold iZ at hf
   simp only [OI aZ] at hf
   by_cases iB:r.dst=some t
   ·left
    unfold iY
    rw [OH]
    rintro ⟨dm,_⟩
    rw [cg] at iB
    rw [cN] at dm
    simp only [iB,dm,OJ,bne_iff_ne,ne_eq] at hf
    exact hf.1.2 trivial
   ·right
    unfold iY
    rw [OH]
    rintro ⟨dm,_⟩
    exact iB dm
  have ng:∀id,bE (fun j=>(listed.setIfInBounds i true).getD j false) rs g id=aA (bE (fun j=>listed.getD j false) rs g) r.ups id:=by
   intro id
   rw [ky]
   refine nF rs 0 i _ r cx (by rw [OZ];exact cO) db fun j rj aZ aP aU=> ?_
   rw [OZ] at aU
   obtain ⟨oj,bu,cN⟩:=gE j rj aP
   have hf:=(free j rj oj (by omega) aP bu (by rw [aU];simp [upto];omega)).2
   unfold fw at hf
   simp only [OI aZ,OJ,ON,O4,Pp,Pq] at hf
   cases hw:wg id r with
   |none=>exact .inr rfl
   |some y=>
    left
    cases hw2:wg id rj with
    |none=>rfl
    |some y2=>
     exfalso
     have k1:id∈r.keys:=lj (by unfold wg at hw;rw [hw];simp)
     have k2:id∈rj.keys:=lj (by unfold wg at hw2;rw [hw2];simp)
     exact (hf.1 id k1).2 k2
  refine ih _ _ _ ⟨⟨E',rfl,hle.trans hE,fun t=> ?_, ?_,fun id hh=> ?_, ?_⟩, ?_,hI.below.trans hB,hI.gl,by simpa using hI.fO,fun j oj bu aU e he=> ?_⟩ (fun j hj=>getD_set_true (gD j hj)) (fun j hj=> ?_) fun m hm cL=> ?_
  ·rw [nK t]
   have:=oT hE h1 hv o.dst t
   rw [hI.size] at this
   exact this
  ·rw [show bE (fun j=>(listed.setIfInBounds i true).getD j false) rs g=aA (bE (fun j=>listed.getD j false) rs g) r.ups from funext ng]
   exact hM
  ·rcases ba id hh with h|h
   ·rcases h3 id h with h|⟨j,rj,q1,q2,q3⟩
    ·exact .inl h
    ·exact .inr ⟨j,rj,getD_set_true q1,q2,q3⟩
   ·refine .inr ⟨i,r, ?_,cx,h⟩
    rw [db i,OZ,OI rfl]
  ·rw [(hP a o.dst v).2];exact hmk.step hE
  ·rw [(hP a o.dst v).1];exact hI.size
  ·rw [db j,OZ] at aU
   by_cases bF:j=i
   ·subst bF
    rw [m2] at bu;simp only [OG] at bu;subst bu
    exact getD_set_true (dz e he)
   ·rw [OH bF] at aU
    exact getD_set_true (hI.closed j oj bu aU e he)
  ·rw [db j,OZ] at hj
   by_cases bF:j=i
   ·rw [bF];exact gX
   ·rw [OH bF] at hj;exact eA j hj
  ·have mB:i∉m:=fun cZ=>by
    have:=(hm i cZ).2
    have hZ:i<listed.size:=by rw [hI.fO];exact cB
    simp [hZ] at this
   have:=fA (i::m) (fun j hj=>by
    rcases OU.1 hj with rfl|hj
    ·exact ⟨cB,m1⟩
    ·refine ⟨(hm j hj).1, ?_⟩
     have h5:=(hm j hj).2
     have bF:i≠j:=fun e=>mB (e▸hj)
     rwa [getD_set_ne true bF] at h5) (List.nodup_cons.2 ⟨mB,cL⟩)
   simpa using this
inductive lq (P:Program) (n:Nat) (dep:List (List Nat)):List az->(Nat->AV)->(Nat->Option Bk)->Nat->List Rec->(Nat->AV)->(Nat->Option Bk)->Nat->Prop
 |nil {σ:Nat->AV} {g:Nat->Option Bk} {k:Nat} {rs:List Rec} (hid:ef rs dep=true):lq P n dep [] σ g k rs σ g k
 |cons {o:az} {os:List az} {σ σ':Nat->AV} {g g':Nat->Option Bk} {k k1 k':Nat} {val:AV} {ups:List (Nat×Option Bk)} {acc:List Nat} {rs:List Rec} (h:dt P σ g k o val ups acc) (hk:k<=k1) (hu:∀id,id∈ups.map Prod.fst->id<k1)
   (hr:lq P n dep os (bG n o.dst val σ) (aA g ups) k1 (rs++[⟨o.dst,val,ups,acc,k⟩]) σ' g' k'):lq P n dep (o::os) σ g k rs σ' g' k'
 |G5 {o:az} {os:List az} {σ σ':Nat->AV} {g g1 g':Nat->Option Bk} {k k1 k':Nat} {f:FuncId} {as_:List AV} {r:AV} {rs:List Rec} (hid:ef rs dep=true) (hb:AP dep rs.length (rs.length+1+os.length)=true) (hg:bR σ o.guard=some true)
   (h:(o.ao.au k (aG σ)).run g=some (.call f as_)) (hc:bL P f=true) (hf:Fi P f as_ g k r g1 k1) (hr:lq P n dep os (bG n o.dst r σ) g1 k1 (List.replicate (rs.length+1) (nI k1)) σ' g' k'):lq P n dep (o::os) σ g k rs σ' g' k'
theorem G6:dt P σ g k mA (.v undef) [] []:= .done (val:= .v undef) (ups:=[]) rfl rfl
theorem hU.AQ:∀i,hU P n (List.replicate i mA) σ g k (List.replicate i (nI k)) σ g k
 |0=> .nil
 |i+1=>by
  rw [List.replicate_succ,List.replicate_succ]
  exact .cons (o:=mA) (k1:=k) G6 (OQ _) (by simp) (hU.AQ i)
theorem hU.snoc {k1:Nat} (h0:hU P n os σ g k rs σ' g' k') (h:dt P σ' g' k' o val ups acc) (hk:k'<=k1) (hu:∀id,id∈ups.map Prod.fst->id<k1):hU P n (os++[o]) σ g k (rs++[⟨o.dst,val,ups,acc,k'⟩]) (bG n o.dst val σ') (aA g' ups) k1:=by
 induction h0 with
 |nil=>exact .cons h hk hu .nil
 |cons h1 h2 h3 h4 ih=>exact .cons h1 h2 h3 (ih h hk)
theorem G7 {pre:List az} (h:fy full dep=true) (hl:pre.length<=full.length) (h1:∀j,i0<=j->j<pre.length->pre[j]? =full[j]?) (h2:∀j,j<i0->j<pre.length->pre[j]? =some mA):fy pre dep=true:=by
 unfold fy at h ⊢
 simp only [ON,Pj,O9] at h ⊢
 intro j hj i hi
 rcases h j (by omega) i hi with h|h
 ·exact .inl h
 ·right
  by_cases nL:i0<=i
  ·rw [h1 i nL (by omega),h1 j (by omega) hj];exact h
  ·rw [h2 i (by omega) (by omega)]
   cases hp:pre[j]? with
   |none=>simp [List.getElem?_eq_none_iff] at hp;omega
   |some y=>
    simp only [iZ,mA,az.iX,AO.qD,Arg.slot,Bool.true_and]
    split<;>simp
theorem G8 {rd:Option Nat} (jO:full.length=ops.size) (dO:∀(j:Nat) op,ops[j]? =some op->∃o,full[j]? =some o/\fv P ops op=some o) (hd:iE ops.toList dep=true) (cu:fy full dep=true)
  (hQ:∀a w,eK E0 J base w0 n σ' g' k' a w->Q .normal a w) (h:lq P n dep os σ g k rs σ' g' k'):
  ∀(i0:Nat) (pre:List az) (cj:Nat->AV) (g0:Nat->Option Bk) (kk:Nat),hU P n pre cj g0 kk rs σ g k->i0<=pre.length->pre.length+os.length=full.length->(∀j,i0<=j->(pre++os)[j]? =full[j]?)->(∀j,j<i0->pre[j]? =some mA/\∃q,rs[j]? =some (nI q))->
   ∀(fuel:Nat) (listed:Array Bool) (a:Act) (w:World),eK E0 J base w0 n cj g0 kk a w->listed.size=ops.size->(∀j,listed.getD j false=decide (j<i0))->(∀m:List Nat,(∀j,j∈m->j<ops.size/\listed.getD j true=false)->m.Nodup->m.length<=fuel)->wpAnyIn (cC rd) 0 P .any ops Q fuel listed a w:=by
 have wP:∀(j:Nat) op,ops[j]? =some op->∀e,e∈du op->e<j:=by
  intro j op bX e he
  have ja:j<ops.size:=(Ph.1 bX).1
  have cN:=hd
  unfold iE at cN
  simp only [OJ,ON,Pj,PG] at cN
  have jb:=(cN.2 j (by simpa using ja)).1
  have nH:ops.toList[j]? =some op:=by simpa using bX
  simp only [nH,OS,PA] at jb
  exact jb e he
 -- a phase, given Oa comes behind it
 have phase:∀{os:List az} {σ:Nat->AV} {g:Nat->Option Bk} {k:Nat} {rs:List Rec} (i0:Nat) (pre:List az) (cj:Nat->AV) (g0:Nat->Option Bk) (kk:Nat),hU P n pre cj g0 kk rs σ g k->i0<=pre.length->pre.length+os.length=full.length->(∀j,i0<=j->(pre++os)[j]? =full[j]?)->(∀j,j<i0->pre[j]? =some mA/\∃q,rs[j]? =some (nI q))->ef rs dep=true->
   (∀listed:Array Bool,(∀(j:Nat) op,ops[j]? =some op->listed.getD j false=true->∀e,e∈du op->listed.getD e false=true)->(∀j,listed.getD j false=true->j<pre.length)->(¬∀j,j<pre.length->listed.getD j false=true)->∀i op,ops[i]? =some op->(∀e,e∈du op->listed.getD e false=true)->i<pre.length)->
   (∀fuel listed a w,eK E0 J base w0 n σ g k a w->listed.size=ops.size->(∀j,listed.getD j false=decide (j<pre.length))->(∀m:List Nat,(∀j,j∈m->j<ops.size/\listed.getD j true=false)->m.Nodup->m.length<=fuel)->wpAnyIn (cC rd) 0 P .any ops Q fuel listed a w)->
   ∀(fuel:Nat) (listed:Array Bool) (a:Act) (w:World),eK E0 J base w0 n cj g0 kk a w->listed.size=ops.size->(∀j,listed.getD j false=decide (j<i0))->(∀m:List Nat,(∀j,j∈m->j<ops.size/\listed.getD j true=false)->m.Nodup->m.length<=fuel)->wpAnyIn (cC rd) 0 P .any ops Q fuel listed a w:=by
  intro os σ g k rs i0 pre cj g0 kk cv nL bn jP mC hid wL hK fuel listed a w hrel da db fA
  have AR:∀j,i0<=j->j<pre.length->pre[j]? =full[j]? :=fun j h1 h2=>by
   have:=jP j h1
   rwa [PB h2] at this
  refine G1 (i0:=i0) cv rfl (by omega) (fun j op h1 h2 bX=> ?_) hd (G7 cu (by omega) AR fun j h1 _=>(mC j h1).1) hid wL hK fuel listed a w ?_ (fun j hj=>by rw [db];simpa using hj) (fun j hj=>by rw [db] at hj;simp at hj;omega) fA
  ·rw [AR j h1 h2];exact dO j op bX
  ·obtain ⟨E,rfl,hle,h1,h2,h3,hmk⟩:=hrel.ex
   have z:∀{β:Type} (wt:Rec->Option β) (x:β),(∀q,wt (nI q)=none)->dh (fun j=>listed.getD j false) wt 0 rs x=x:=by
    intro β wt x hw
    refine jN rs 0 x fun j r hr hl=> ?_
    rw [OZ,db] at hl
    obtain ⟨q,hq⟩:=(mC j (by simpa using hl)).2
    rw [hq] at hr;simp only [OG] at hr;subst hr
    exact hw q
   have e1:bH n (fun j=>listed.getD j false) rs cj=cj:=by funext t;exact z _ _ fun q=>by simp [iY,nI]
   have e2:bE (fun j=>listed.getD j false) rs g0=g0:=by funext t;exact z _ _ fun q=>by simp [wg,nI,kv]
   refine ⟨⟨E,rfl,hle, ?_, ?_,fun id hh=> .inl (h3 id hh),hmk⟩,hrel.size,hrel.below,hrel.gl,da,fun j op bX hl e he=> ?_⟩
   ·rw [e1];exact h1
   ·rw [e2];exact h2
   ·rw [db] at hl ⊢
    have:=wP j op bX e he
    simp at hl ⊢; omega
 induction h with
 | @nil σ g k rs hid=>
  intro i0 pre cj g0 kk cv nL bn jP mC
  have sS:pre.length=ops.size:=by simp at bn;omega
  refine phase i0 pre cj g0 kk cv nL bn jP mC hid (fun listed _ _ _ i op bX _=> ?_) fun fuel listed a w hrel da db fA=> ?_
  ·rw [sS];exact (Ph.1 bX).1
  ·have hr:Region.ready .any ops listed=[]:=by
    cases hr:Region.ready .any ops listed with
    |nil=>rfl
    |cons x xs=>
     have hx:x∈Region.ready .any ops listed:=by rw [hr];simp
     obtain ⟨m1,o,m2,_⟩:=mem_ready.1 hx
     have AS:x<ops.size:=(Ph.1 m2).1
     have wQ:x<listed.size:=by rw [da];exact AS
     have h5:=db x
     rw [sS] at h5
     simp [wQ,AS] at h5 m1
     rw [h5] at m1;simp at m1
   cases fuel with
   |zero=>exact ⟨hr,hQ a w hrel⟩
   |succ fuel=>exact ⟨fun _=>hQ a w hrel,fun i hi=>by rw [hr] at hi;simp at hi⟩
 | @cons o os σ σ' g g' k k1 k' val ups acc rs h hk hu hr ih=>
  intro i0 pre cj g0 kk cv nL bn jP mC
  obtain ⟨c1,_⟩:=wJ cv
  refine ih hQ i0 (pre++[o]) cj g0 kk (cv.snoc h hk hu) (by simp;omega) (by simp at bn ⊢; omega) (fun j hj=>by rw [PZ];exact jP j hj) fun j hj=> ?_
  obtain ⟨d1,q,d2⟩:=mC j hj
  exact ⟨by rw [PB (by omega)];exact d1,q,by rw [PB (by omega)];exact d2⟩
 | @G5 o os σ σ' g g1 g' k k1 k' f as_ r rs hid hb hg h bY hf hr ih=>
  intro i0 pre cj g0 kk cv nL bn jP mC
  obtain ⟨c1,_⟩:=wJ cv
  obtain ⟨b,gF⟩:∃b,pre.length=b:=⟨_,rfl⟩
  rw [c1,gF] at hb
  have bo:b<ops.size:=by simp at bn;omega
  have G9:full[b]? =some o:=by
   have:=jP b (by omega)
   rw [<-this,PN (by omega),gF,Nat.sub_self];rfl
  unfold AP at hb
  simp only [OJ,ON,Pj,O9,PG,PX] at hb
  have AT:∀listed:Array Bool,(∀(j:Nat) op,ops[j]? =some op->listed.getD j false=true->∀e,e∈du op->listed.getD e false=true)->(∀j,listed.getD j false=true->j<b)->∀i op,ops[i]? =some op->(∀e,e∈du op->listed.getD e false=true)->i<=b:=by
   intro listed bY eA i op bX dz
   rcases Ps b i with hlt|Ha
   ·exfalso
    have hi:i<ops.size:=(Ph.1 bX).1
    have hm:=(hb.2 i (by simp at bn;omega)).resolve_left (by omega)
    exact PW _ (eA b (nG hd bY i op bX dz b hm))
   ·exact Ha
  refine phase i0 pre cj g0 kk cv nL bn jP mC hid (fun listed bY eA bM i op bX dz=> ?_) fun fuel listed a w hrel da db fA=> ?_
  ·rw [gF] at eA bM ⊢
   have h1:=AT listed bY eA i op bX dz
   rcases Ps i b with h2|h2
   ·exact h2
   ·exfalso
    have e:i=b:=by omega
    subst e
    exact bM fun j hj=>nG hd bY i op bX dz j (hb.1 j hj)
  ·rw [gF] at db
   have wR:b<listed.size:=by rw [da];exact bo
   have hcd:∀(j:Nat) op,ops[j]? =some op->listed.getD j false=true->∀e,e∈du op->listed.getD e false=true:=fun j op bX hl e he=>by
    rw [db] at hl ⊢
    have:=wP j op bX e he
    simp at hl ⊢; omega
   have AU:listed.getD b true=false:=by
    have:=db b
    simp [wR] at this ⊢; exact this
   cases fuel with
   |zero=>
    have:=fA [b] (fun j hj=>by simp at hj;subst hj;exact ⟨bo,AU⟩) (by simp)
    simp at this
   |succ fuel=>
    refine ⟨fun hr=> ?_,fun i hi=> ?_⟩
    ·have:b∈Region.ready .any ops listed:=by
      rw [mem_ready]
      refine ⟨AU,ops[b],OY bo,fun e he hb=> ?_⟩
      have:=wP b _ (OY bo) e.on (oW.2 ⟨e,he,hb,rfl⟩)
      rw [db];simpa using this
     rw [hr] at this;simp at this
    ·obtain ⟨m1,op,m2,m3⟩:=mem_ready.1 hi
     have cB:i<ops.size:=(Ph.1 m2).1
     have dz:∀e,e∈du op->listed.getD e false=true:=fun e he=>by
      obtain ⟨x,hx,hb,rfl⟩:=oW.1 he
      exact m3 x hx hb
     have Hb:i=b:=by
      have h1:=AT listed hcd (fun j hj=>by rw [db] at hj;simpa using hj) i op m2 dz
      rcases Ps i b with h2|h2
      ·exfalso
       have Hc:i<listed.size:=by rw [da];exact cB
       have h5:=db i
       simp [Hc,h2] at h5 m1
       rw [h5] at m1;simp at m1
      ·omega
     subst Hb
     obtain ⟨o',ix,h3⟩:=dO i op m2
     rw [G9] at ix;simp only [OG] at ix;subst ix
     obtain ⟨E,rfl,hle,hs,hm,ba,hmk⟩:=hrel.ex
     have hdd:=qA h3
     have dg:∀e,op.semAt (cC rd).round e=execOp e op:=fun e=>Qx (cC rd) _ _ (oS hdd.2)
     unfold wpOpIn
     simp only [m2]
     rw [lh hs h3 hg,OI rfl]
     obtain ⟨vs,e1,e2⟩:=qu (dE.of (hrel.gl.step hle) hs) hdd.2 h bY
     unfold Oper.wpIn
     rw [dg,e1,Oper.uponIn_enter]
     refine ⟨ku,nD,oR ((hf E J base vs (hrel.gl.step hle) hm ba e2).mono ?_)⟩
     rintro e w' ⟨v,E',rfl,rfl,q1,q2,q3,q4,q5⟩
     refine ih hQ (i+1) (List.replicate (i+1) mA) _ _ _ (by rw [c1,gF];exact hU.AQ (i+1)) (by simp) (by simp at bn ⊢; omega) (fun j hj=> ?_) (fun j hj=>⟨by simp [hj],k1,by rw [c1,gF];simp [hj]⟩) fuel _ _ _ ⟨⟨E',rfl,hle.trans q1, ?_,q3,q5, ?_⟩, ?_, ?_,hrel.gl⟩ (by simpa using da) (fun j=> ?_) fun m gw cL=> ?_
     ·have h7:=jP j (by omega)
      rw [<-h7,PN (by simp;omega),PN (by omega),gF]
      simp only [QB]
      rw [show j - i=(j - (i+1))+1 by omega,Py]
     ·have:=oT q1 hs q2 op.dst
      rw [hrel.size] at this
      rw [hdd.1]
      exact this
     ·rw [(hP a op.dst v).2];exact hmk.step q1
     ·rw [(hP a op.dst v).1];exact hrel.size
     ·exact hrel.below.trans q4
     ·by_cases bF:j=i
      ·subst bF;simp [wR]
      ·rw [getD_set_ne false (Ne.symm bF),db j,decide_eq_decide];omega
     ·have mB:i∉m:=fun cZ=>by
       have:=(gw i cZ).2
       simp [wR] at this
      have:=fA (i::m) (fun j hj=>by
       rcases OU.1 hj with rfl|hj
       ·exact ⟨cB,m1⟩
       ·refine ⟨(gw j hj).1, ?_⟩
        have h5:=(gw j hj).2
        have bF:i≠j:=fun e=>mB (e▸hj)
        rwa [getD_set_ne true bF] at h5) (List.nodup_cons.2 ⟨mB,cL⟩)
      simpa using this
theorem Hd {id:Nat} (wS:P.follows .mixedOrders=true) (h:lq P n dep os σ g k [] σ' g' k') (hlen:os.length=ops.size) (dO:∀(j:Nat) op,ops[j]? =some op->∃o,os[j]? =some o/\fv P ops op=some o)
  (hd:iE ops.toList dep=true) (cu:fy os dep=true) (hQ:∀a w,eK E0 J base w0 n σ' g' k' a w->Q .normal a w) {a:Act} (hrel:eK E0 J base w0 n σ g k a w) {rd:Option Nat}:(Code.region id ops true).wpIn (cC rd) 0 P Q a w:=by
 refine wpIn_region_any wS ?_
 obtain ⟨E,rfl,hle,h1,h2,h3,hmk⟩:=hrel.ex
 obtain ⟨E',hw,hE,hM,_,hk,_,_⟩:=h2.drew
 have cA:∀(j:Nat),(Array.replicate ops.size false).getD j false=false:=by
  intro j
  rcases Ps j ops.size with h|h
  ·simp [h]
  ·simp [h]
 refine G8 hlen dO hd cu hQ h 0 [] σ g k .nil (by simp) (by simp) (fun j _=>by simp) (fun j hj=>by omega) ops.size _ a _ ⟨⟨E',hw,hle.trans hE,fun t=>(h1 t).step hE,hM,fun id hh=>h3 id ((hk id).1 hh),hmk.step hE⟩,hrel.size,hrel.below.drew,hrel.gl⟩ (by simp) (fun j=>by rw [cA];simp) fun m hm cL=> ?_
 exact wK _ _ cL fun j hj=>(hm j hj).1
end
open Go.RowKit
inductive AC where
 |skip
 |bK (os:List az) (dep:Option (List (List Nat)))
 |seq (a b:AC)
 |cond (c:Arg) (a b:AC)
 |block (id:Nat) (a:AC)
 |loop (a:AC)
 |exit (id:Nat)
 |ret
 |gG (g:Arg) (ps:List Nat) (a b:AC)
variable {ac y:AC}
def AC.ia:AC->Bool
 | .seq a b| .cond _ a b=>a.ia||b.ia
 | .block _ a| .loop a=>a.ia
 | .gG _ _ _ _=>true
 |_=>false
def oX (P:Program) (ops:Array Oper):List Oper->Option (List az)
 |[]=>some []
 |o::r=>match fv P ops o,oX P ops r with
  |some x,some l=>some (x::l)
  |_,_=>none
def wT (ops:List Oper):List (List Nat):=
 ops.foldl (fun acc o=>acc++[(du o++(du o).flatMap fun e=>(acc[e]?).getD []).eraseDups]) []
def cCode (P:Program):Code->Option AC
 | .skip=>some .skip
 | .region _ ops draw=>match oX P ops ops.toList with
  |some os=>if draw=true then
    (if iE ops.toList (wT ops.toList)=true/\fy os (wT ops.toList)=true/\P.follows .mixedOrders=true then some (.bK os (some (wT ops.toList))) else none)
   else some (.bK os none)
  |none=>none
 | .seq a b=>match cCode P a,cCode P b with
  |some x,some y=>some (.seq x y)
  |_,_=>none
 | .cond c a b=>match cArg c,cCode P a,cCode P b with
  |some c,some x,some y=>some (.cond c x y)
  |_,_,_=>none
 | .block id a=>(cCode P a).map (.block id)
 | .loop a=>(cCode P a).map .loop
 | .exit id=>some (.exit id)
 | .ret=>some .ret
 | .rangeFunc g ps a b=>match cArg g,cCode P a,cCode P b with
  |some g,some x,some y=>some (.gG g ps.toList x y)
  |_,_,_=>none
 |_=>none
structure S3 where
 σ:Nat->AV
 g:Nat->Option Bk
 k:Nat
variable {s':S3}
inductive Ex where
 |normal
 |exit (id:Nat)
 |ret
def Ex.up:Ex->Exit
 | .normal=> .normal
 | .exit id=> .exit id
 | .ret=> .ret
def EW (P:Program) (n k0:Nat) (ac:AC) (s:S3) (Q:Ex->S3->Prop):Prop:=
 ∀(rd:Option Nat) (c:Code) (E0:Env) (J:Nat->Prop) (base:Nat) (w0:World) (a:Act) (w:World),(ac.ia=true->rd=none)->cCode P c=some ac->(∀id,E0.kn id->id<k0)->eK E0 J base w0 n s.σ s.g s.k a w->
  c.wpIn (cC rd) 0 P (fun e a' w'=>∃x s',Q x s'/\e=x.up/\eK E0 J base w0 n s'.σ s'.g s'.k a' w') a w
section
variable {P:Program} {n k0:Nat} {s:S3} {Q:Ex->S3->Prop}
theorem EW.cP {Q':Ex->S3->Prop} (h:EW P n k0 ac s Q) (hq:∀x s,Q x s->Q' x s):EW P n k0 ac s Q':=by
 intro rd c E0 J base w0 a w cg hc hk hr
 exact wpIn_mono (h rd c E0 J base w0 a w cg hc hk hr) fun e a' w' ⟨x,s',h1,h2,h3⟩=>⟨x,s',hq x s' h1,h2,h3⟩
def S3.Le (k0 n:Nat) (s s':S3):Prop:=∀(E0:Env) (J:Nat->Prop) (base:Nat) (w0:World) (a:Act) (w:World),(∀id,E0.kn id->id<k0)->eK E0 J base w0 n s.σ s.g s.k a w->eK E0 J base w0 n s'.σ s'.g s'.k a w
theorem EW.fP (hs:s.Le k0 n s') (h:EW P n k0 ac s' Q):EW P n k0 ac s Q:=by
 intro rd c E0 J base w0 a w cg hc hk hr
 exact h rd c E0 J base w0 a w cg hc hk (hs E0 J base w0 a w hk hr)
theorem He (h:cCode P c=some .skip):c= .skip:=by
 cases c<;>simp [cCode] at h ⊢
 case region id ops draw=>
  split at h
  ·split at h
   ·split at h<;>simp at h
   ·simp at h
  ·simp at h
 case seq a b=>split at h<;>simp at h
 case cond c a b=>split at h<;>simp at h
 case rangeFunc=>split at h<;>simp at h
theorem EW.skip (h:Q .normal s):EW P n k0 .skip s Q:=by
 intro rd c E0 J base w0 a w cg hc hk hr
 rw [He hc]
 exact wpIn_skip ⟨.normal,s,h,rfl,hr⟩
theorem Hf (h:cCode P c=some .ret):c= .ret:=by
 cases c<;>simp [cCode] at h ⊢
 case region id ops draw=>
  split at h
  ·split at h
   ·split at h<;>simp at h
   ·simp at h
  ·simp at h
 case seq a b=>split at h<;>simp at h
 case cond c a b=>split at h<;>simp at h
 case rangeFunc=>split at h<;>simp at h
theorem EW.ret (h:Q .ret s):EW P n k0 .ret s Q:=by
 intro rd c E0 J base w0 a w cg hc hk hr
 rw [Hf hc]
 exact wpIn_ret ⟨.ret,s,h,rfl,hr⟩
theorem Hg {id:Nat} (h:cCode P c=some (.exit id)):c= .exit id:=by
 cases c<;>simp [cCode] at h ⊢
 case region id ops draw=>
  split at h
  ·split at h
   ·split at h<;>simp at h
   ·simp at h
  ·simp at h
 case seq a b=>split at h<;>simp at h
 case cond c a b=>split at h<;>simp at h
 case rangeFunc=>split at h<;>simp at h
 case exit=>exact h
theorem EW.exit {id:Nat} (h:Q (.exit id) s):EW P n k0 (.exit id) s Q:=by
 intro rd c E0 J base w0 a w cg hc hk hr
 rw [Hg hc]
 exact wpIn_exit ⟨.exit id,s,h,rfl,hr⟩
theorem Hh {x:AC} (h:cCode P c=some (.seq x y)):∃a b,c= .seq a b/\cCode P a=some x/\cCode P b=some y:=by
 cases c with
 |seq a b=>
  simp only [cCode] at h
  split at h
  ·rename_i h1 h2
   simp only [OG,AC.seq.injEq] at h
   obtain ⟨rfl,rfl⟩:=h
   exact ⟨a,b,rfl,h1,h2⟩
  ·simp at h
 |_=>
  exfalso
  simp only [cCode] at h
  repeat' (first|(simp at h;done)|split at h)
def Ex.then (next:S3->Prop) (Q:Ex->S3->Prop):Ex->S3->Prop
 | .normal,s=>next s
 |e,s=>Q e s
theorem EW.seq {x y:AC} (h:EW P n k0 x s (Ex.then (fun s'=>EW P n k0 y s' Q) Q)):EW P n k0 (.seq x y) s Q:=by
 intro rd c E0 J base w0 a w cg hc hk hr
 obtain ⟨ca,cb,rfl,h1,h2⟩:=Hh hc
 refine wpIn_seq (wpIn_mono (h rd ca E0 J base w0 a w (fun hh=>cg (by simp [AC.ia,hh])) h1 hk hr) ?_)
 rintro e a' w' ⟨x,s',hq,rfl,hr'⟩
 cases x with
 |normal=>exact hq rd cb E0 J base w0 a' w' (fun hh=>cg (by simp [AC.ia,hh])) h2 hk hr'
 |exit id=>exact ⟨.exit id,s',hq,rfl,hr'⟩
 |ret=>exact ⟨.ret,s',hq,rfl,hr'⟩
theorem Hi {b:Arg} {x:AC} (h:cCode P c=some (.cond b x y)):∃o p q,c= .cond o p q/\cArg o=some b/\cCode P p=some x/\cCode P q=some y:=by
 cases c with
 |cond c p q=>
  simp only [cCode] at h
  split at h
  ·rename_i h1 h2 h3
   simp only [OG,AC.cond.injEq] at h
   obtain ⟨rfl,rfl,rfl⟩:=h
   exact ⟨c,p,q,rfl,h1,h2,h3⟩
  ·simp at h
 |_=>
  exfalso
  simp only [cCode] at h
  repeat' (first|(simp at h;done)|split at h)
theorem EW.cond {b:Arg} {x y:AC} {t:Bool} (hb:aG s.σ b= .v (.bool t)) (h:EW P n k0 (if t=true then x else y) s Q):EW P n k0 (.cond b x y) s Q:=by
 intro rd c E0 J base w0 a w cg hc hk hr
 obtain ⟨o,p,q,rfl,h1,h2,h3⟩:=Hi hc
 obtain ⟨E,rfl,hle,hs,hm,ba,hmk⟩:=hr.ex
 have:=dE.of (hr.gl.step hle) hs o b h1
 rw [hb] at this
 refine wpIn_cond this.iC ?_
 cases t with
 |true=>exact h rd p E0 J base w0 a _ (fun hh=>cg (by simp only [OK] at hh;simp [AC.ia,hh])) h2 hk hr
 |false=>exact h rd q E0 J base w0 a _ (fun hh=>cg (by simp only [PE,Pf] at hh;simp [AC.ia,hh])) h3 hk hr
theorem Hj {id:Nat} {x:AC} (h:cCode P c=some (.block id x)):∃b,c= .block id b/\cCode P b=some x:=by
 cases c with
 |block i b=>
  simp only [cCode] at h
  cases hb:cCode P b with
  |none=>simp [hb] at h
  |some y=>
   simp only [hb,OS,OG,AC.block.injEq] at h
   obtain ⟨rfl,rfl⟩:=h
   exact ⟨b,rfl,hb⟩
 |_=>
  exfalso
  simp only [cCode] at h
  repeat' (first|(simp at h;done)|split at h)
def Ex.inBlock (id:Nat) (Q:Ex->S3->Prop):Ex->S3->Prop
 | .exit i,s=>if i=id then Q .normal s else Q (.exit i) s
 |e,s=>Q e s
theorem EW.block {id:Nat} {x:AC} (h:EW P n k0 x s (Ex.inBlock id Q)):EW P n k0 (.block id x) s Q:=by
 intro rd c E0 J base w0 a w cg hc hk hr
 obtain ⟨b,rfl,h1⟩:=Hj hc
 refine wpIn_block (wpIn_mono (h rd b E0 J base w0 a w (fun hh=>cg (by simp only [AC.ia];exact hh)) h1 hk hr) ?_)
 rintro e a' w' ⟨x,s',hq,rfl,hr'⟩
 cases x with
 |normal=>exact ⟨.normal,s',hq,rfl,hr'⟩
 |exit i=>
  simp only [Ex.inBlock] at hq
  simp only [Ex.up,Exit.inBlock]
  split
  ·rename_i hi;rw [OI hi] at hq;exact ⟨.normal,s',hq,rfl,hr'⟩
  ·rename_i hi;rw [OH hi] at hq;exact ⟨.exit i,s',hq,rfl,hr'⟩
 |ret=>exact ⟨.ret,s',hq,rfl,hr'⟩
theorem Hk {x:AC} (h:cCode P c=some (.loop x)):∃b,c= .loop b/\cCode P b=some x:=by
 cases c with
 |loop b=>
  simp only [cCode] at h
  cases hb:cCode P b with
  |none=>simp [hb] at h
  |some y=>
   simp only [hb,OS,OG,AC.loop.injEq] at h
   subst h
   exact ⟨b,rfl,hb⟩
 |_=>
  exfalso
  simp only [cCode] at h
  repeat' (first|(simp at h;done)|split at h)
theorem Hl {F:Fence} {nn:Nat} {Q:Exit->Act->World->Prop} {a:Act} (I:Nat->Act->World->Prop) {m:Nat} (Hm:I m a w)
  (round:∀m a w,I m a w->c.wpIn F nn P (Exit.then (fun a' w'=>∃m',m'<m/\I m' a' w') Q) a w):(Code.loop c).wpIn F nn P Q a w:=by
 intro b k cs Hn hb hr
 have key:∀m a w,I m a w->∃e a' w',Q e a' w'/\ArrivesIn (Machine.fenced P F) P (lone (b.atR a (.code c:: .inLoop c::k)) cs w) b k cs e a' w':=by
  intro m
  induction m using Nat.strongRecOn with
  |_ m ih=>
   intro a w hI
   obtain ⟨e,o0,o6,hq,mD⟩:=round m a w hI b (.inLoop c::k) cs Hn hb hr
   cases e with
   |normal=>
    obtain ⟨m',hlt,Ho⟩:=hq
    obtain ⟨Hp,Hq,Hr,Hs,Ht⟩:=ih m' hlt o0 o6 Ho
    exact ⟨Hp,Hq,Hr,Hs, .of_steps (StepsIn.trans mD (.one (fenced_calm hb hr rfl) stepR_inLoop)) Ht⟩
   |exit id=>exact ⟨_,o0,o6,hq, .pass (x:= .inLoop c) rfl (fun _ _=> .inl (by simp)) mD⟩
   |goto l=>exact ⟨_,o0,o6,hq, .pass (x:= .inLoop c) rfl (fun _ _=> .inl (by simp)) mD⟩
   |ret=>exact ⟨_,o0,o6,hq, .pass (x:= .inLoop c) rfl (fun _ _=> .inl (by simp)) mD⟩
   |panic ch=>exact ⟨_,o0,o6,hq, .pass (x:= .inLoop c) rfl (fun _ _=> .inl (by simp)) mD⟩
   |outgrown=>exact ⟨_,o0,o6,hq, .pass (x:= .inLoop c) rfl (fun _ _=> .inl (by simp)) mD⟩
 obtain ⟨e,a',w',hq,mD⟩:=key m a w Hm
 exact ⟨e,a',w',hq, .of_steps (.one (fenced_calm hb hr rfl) stepR_loop) mD⟩
theorem EW.loop {x:AC} (I:Nat->S3->Prop) {m:Nat} (h0:I m s) (round:∀m s,I m s->EW P n k0 x s (Ex.then (fun s'=>∃m',m'<m/\I m' s') Q)):EW P n k0 (.loop x) s Q:=by
 intro rd c E0 J base w0 a w cg hc hk hr
 obtain ⟨b,rfl,h1⟩:=Hk hc
 refine Hl (fun m a w=>∃s,I m s/\eK E0 J base w0 n s.σ s.g s.k a w) (m:=m) ⟨s,h0,hr⟩ ?_
 rintro m a w ⟨s,hI,hr⟩
 refine wpIn_mono (round m s hI rd b E0 J base w0 a w (fun hh=>cg (by simp only [AC.ia];exact hh)) h1 hk hr) ?_
 rintro e a' w' ⟨x,s',hq,rfl,hr'⟩
 cases x with
 |normal=>
  obtain ⟨m',hm,iF⟩:=hq
  exact ⟨m',hm,s',iF,hr'⟩
 |exit id=>exact ⟨.exit id,s',hq,rfl,hr'⟩
 |ret=>exact ⟨.ret,s',hq,rfl,hr'⟩
theorem qH {ops:Array Oper}:∀{l:List Oper} {os:List az},oX P ops l=some os->l.length=os.length/\∀(j:Nat) op,l[j]? =some op->∃o,os[j]? =some o/\fv P ops op=some o
 |[],os,h=>by simp only [oX,OG] at h;subst h;exact ⟨rfl,fun j op hj=>by simp at hj⟩
 |o::r,os,h=>by
  simp only [oX] at h
  split at h
  ·rename_i x l h1 h2
   simp only [OG] at h;subst h
   obtain ⟨k1,k2⟩:=qH h2
   refine ⟨by simp [k1],fun j op hj=> ?_⟩
   cases j with
   |zero=>simp at hj;subst hj;exact ⟨x,rfl,h1⟩
   |succ j=>simp at hj ⊢; exact k2 j op hj
  ·simp at h
theorem sY {dep:Option (List (List Nat))} (h:cCode P c=some (.bK os dep)):∃id ops draw,c= .region id ops draw/\oX P ops ops.toList=some os/\
  ((draw=false/\dep=none)\/(draw=true/\∃d,dep=some d/\iE ops.toList d=true/\fy os d=true/\P.follows .mixedOrders=true)):=by
 cases c with
 |region id ops draw=>
  simp only [cCode] at h
  split at h
  ·rename_i Ob h1
   split at h
   ·rename_i hd
    split at h
    ·rename_i hc
     simp only [OG,AC.bK.injEq] at h
     obtain ⟨rfl,rfl⟩:=h
     exact ⟨id,ops,draw,rfl,h1, .inr ⟨hd,_,rfl,hc.1,hc.2.1,hc.2.2⟩⟩
    ·simp at h
   ·rename_i hd
    simp only [OG,AC.bK.injEq] at h
    obtain ⟨rfl,rfl⟩:=h
    exact ⟨id,ops,draw,rfl,h1, .inl ⟨by simpa using hd,rfl⟩⟩
  ·simp at h
 |_=>
  exfalso
  simp only [cCode] at h
  repeat' (first|(simp at h;done)|split at h)
theorem EW.bK {os:List az} {s':S3} (h:gB P n k0 os s.σ s.g s.k s'.σ s'.g s'.k) (hq:Q .normal s'):EW P n k0 (.bK os none) s Q:=by
 intro rd c E0 J base w0 a w cg hc hk hr
 obtain ⟨id,ops,draw,rfl,h1,h2⟩:=sY hc
 rcases h2 with ⟨rfl,_⟩|⟨_,d,hd,_⟩
 ·obtain ⟨k1,k2⟩:=qH h1
  refine wpIn_region ?_
  have hsz:ops.size=os.length:=by rw [<-k1];simp
  rw [List.range_eq_range',hsz]
  refine AH (ops:=ops) hk h 0 a w (fun j hj=> ?_) hr fun a' w' hr'=>⟨.normal,s',hq,rfl,hr'⟩
  have hjs:j<ops.size:=by omega
  obtain ⟨o,m1,m2⟩:=k2 j ops[j] (by simp [hjs])
  exact ⟨ops[j],by rw [OZ];exact OY hjs,o,m1,m2⟩
 ·simp at hd
theorem EW.draw {os:List az} {dep:List (List Nat)} {s':S3} (h:lq P n dep os s.σ s.g s.k [] s'.σ s'.g s'.k) (hq:Q .normal s'):EW P n k0 (.bK os (some dep)) s Q:=by
 intro rd c E0 J base w0 a w cg hc hk hr
 obtain ⟨id,ops,draw,rfl,h1,h2⟩:=sY hc
 rcases h2 with ⟨rfl,hh⟩|⟨rfl,d,hd,h3,h4,h5⟩
 ·simp at hh
 ·simp only [OG] at hd
  subst hd
  obtain ⟨k1,k2⟩:=qH h1
  refine Hd h5 h (by rw [<-k1];simp) (fun j op hj=>k2 j op (by simpa using hj)) h3 h4 (fun a' w' hr'=>⟨.normal,s',hq,rfl,hr'⟩) hr
end
open Go.RowKit
inductive kz where
 |tmp (t:Nat)
 |cell (t:Nat) (m:Option Nat)
structure cT where
 n:Nat
 res:List kz
 code:AC
variable {F:cT}
def cRes (P:Program):List ResultVar->Option (List kz)
 |[]=>some []
 | .tmp t::r=>(cRes P r).map (.tmp t:: ·)
 | .cell a t::r=>match iU P t,cRes P r with
  |some m,some l=>some (.cell a m::l)
  |_,_=>none
def cFunc (P:Program) (f:FuncId):Option cT:=
 match P.funcs[f]? with
 |some fn=>match fn.body with
  |some c=>match cRes P fn.results.toList,cCode P c with
   |some res,some code=>some ⟨fn.ntmps,res,code⟩
   |_,_=>none
  |none=>none
 |none=>none
def qI (m:Option Nat):AV->RM AV
 | .pim cs o=> .opt (getCells cs o m)
 | .ref id sz i o=> .rd id fun B=>if B.sz=sz then .opt (B.els[i]?.bind fun cs=>getCells cs o m) else .fail
 |_=> .fail
def kA (σ:Nat->AV):List kz->RM (List AV)
 |[]=> .ret []
 | .tmp t::r=>(kA σ r).bind fun l=> .ret (σ t::l)
 | .cell t m::r=>(qI m (σ t)).bind fun a=>(kA σ r).bind fun l=> .ret (a::l)
def lu:List AV->AV
 |[a]=>a
 |l=> .aK l
def resR (σ:Nat->AV) (rs:List kz):RM AV:=(kA σ rs).bind fun l=> .ret (lu l)
def gH:AV->RM AV
 | .aK vs=>(cS vs).bind fun l=> .ret (.aK l)
 |a=>dy a
section
variable {P:Program} {E:Env} {J:Nat->Prop} {base:Nat} {g:Nat->Option Bk} {σ:Nat->AV}
theorem Hu (hm:aE E J base g) {m:Option Nat} (ht:iU P t=some m) {x:AV} (hv:aj E v x) (h:(qI m x).run g=some a):∃v',(do loadVar t (<-asAddr v):Sem Value).run P E.w= .ok v' E.w/\aj E v' a:=by
 unfold qI at h
 split at h
 ·rename_i cs o
  cases hg:getCells cs o m with
  |none=>simp [hg,RM.opt,RM.run] at h
  |some a'=>
   simp [hg,RM.opt,RM.run] at h
   subst h
   cases hv with
   |pim u hb hq hu eI hr=>
    obtain ⟨v',hl,hr'⟩:=sF (P:=P) ht hq u hu hr hg
    exact ⟨v',by simp [asAddr,hl],hr'⟩
 ·rename_i id sz i o
  simp only [RM.run] at h
  cases hgi:g id with
  |none=>simp [hgi] at h
  |some B=>
   simp only [hgi] at h
   split at h
   ·rename_i hsz
    cases hei:B.els[i]? with
    |none=>simp [hei,RM.opt,RM.run] at h
    |some cs=>
     cases hg:getCells cs o m with
     |none=>simp [hei,hg,RM.opt,RM.run] at h
     |some a'=>
      simp [hei,hg,RM.opt,RM.run] at h
      subst h
      cases hv with
      | @ref _ _ _ _ b q hi hd hb hq=>
       have bZ:=hm.at_ id B hgi
       rw [hb] at bZ
       have fJ:∀(j:Nat) (x:AV),cs[j]? =some x->∃u,E.w.cell? ⟨b,i*B.sz+j,none⟩=some u/\u.oneCell'=true/\aj E u x:=fun j x hj=>bZ.cell hei hj
       obtain ⟨v',hl,hr'⟩:=sF (P:=P) (E:=E) (cs:=cs) ht (b:=b) (off:=i*sz) hq (fun j=>(E.w.cell? ⟨b,i*sz+j,none⟩).getD undef)
        (fun j x hj=>by obtain ⟨u,k1,_,_⟩:=fJ j x hj;rw [hsz] at k1;simp [k1])
        (fun j x hj=>by obtain ⟨u,k1,_,k3⟩:=fJ j x hj;rw [hsz] at k1;simpa [k1] using k3) hg
       exact ⟨v',by simp [asAddr,hl],hr'⟩
      |dR hi hd=>exact absurd hd ((hm.live id).2 ⟨B,hgi⟩).2
   ·simp [RM.run] at h
 ·simp [RM.run] at h
def sZ (tmps:Array Value):ResultVar->Sem Value
 | .tmp t=>pure (tmps.getD t undef)
 | .cell a t=>do loadVar t (<-asAddr (tmps.getD a undef))
theorem Hv (fn:Func) (tmps:Array Value):results fn tmps=(do
  let vs<-fn.results.mapM (sZ tmps)
  pure (if h:vs.size=1 then vs[0] else .tuple vs)):=by
 unfold results
 congr 1
theorem wU (hm:aE E J base g) {tmps:Array Value} (hs:∀t,aj E (tmps.getD t undef) (σ t)):∀{rs:List ResultVar} {mE:List kz} {l:List AV},cRes P rs=some mE->(kA σ mE).run g=some l->
  ∃vs:List Value,(rs.mapM (sZ tmps)).run P E.w= .ok vs E.w/\vs.length=l.length/\∀(i:Nat) v c,vs[i]? =some v->l[i]? =some c->aj E v c
 |[],mE,l,hc,h=>by
  simp only [cRes,OG] at hc;subst hc
  simp only [kA,RM.run,OG] at h;subst h
  exact ⟨[],by simp,rfl,fun i v c hv=>by simp at hv⟩
 | .tmp t::r,mE,l,hc,h=>by
  simp only [cRes] at hc
  cases hr:cRes P r with
  |none=>simp [hr] at hc
  |some ar=>
   simp only [hr,OS,OG] at hc;subst hc
   simp only [kA] at h
   obtain ⟨l',h1,h2⟩:=cF h
   simp only [RM.run,OG] at h2;subst h2
   obtain ⟨vs,k1,k2,k3⟩:=wU hm hs hr h1
   refine ⟨tmps.getD t undef::vs,by rw [List.mapM_cons,Pv,sZ,Sem.run_pure,Qd,Pv,k1];rfl,by simp [k2],fun i v c hv hc=> ?_⟩
   cases i with
   |zero=>simp at hv hc;subst hv;subst hc;simpa using hs t
   |succ i=>simp at hv hc;exact k3 i v c hv hc
 | .cell a t::r,mE,l,hc,h=>by
  simp only [cRes] at hc
  split at hc
  ·rename_i m ar dq hr
   simp only [OG] at hc;subst hc
   simp only [kA] at h
   obtain ⟨x,h1,h⟩:=cF h
   obtain ⟨l',h2,h3⟩:=cF h
   simp only [RM.run,OG] at h3;subst h3
   obtain ⟨vs,k1,k2,k3⟩:=wU hm hs hr h2
   obtain ⟨v',e1,e2⟩:=Hu (P:=P) hm dq (hs a) h1
   refine ⟨v'::vs, ?_,by simp [k2],fun i v c hv hc=> ?_⟩
   ·rw [List.mapM_cons,Pv,sZ,e1,Qd,Pv,k1]
    rfl
   ·cases i with
    |zero=>simp at hv hc;subst hv;subst hc;exact e2
    |succ i=>simp at hv hc;exact k3 i v c hv hc
  ·simp at hc
theorem qJ (hm:aE E J base g) {tmps:Array Value} (hs:∀t,aj E (tmps.getD t undef) (σ t)) {mE:List kz} (hc:cRes P fn.results.toList=some mE) (h:(resR σ mE).run g=some r):∃v,(results fn tmps).run P E.w= .ok v E.w/\aj E v r:=by
 obtain ⟨l,h1,h2⟩:=cF h
 simp only [RM.run,OG] at h2
 obtain ⟨vs,k1,k2,k3⟩:=wU hm hs hc h1
 refine ⟨if h:vs.toArray.size=1 then vs.toArray[0] else .tuple vs.toArray, ?_, ?_⟩
 ·rw [Hv,Array.mapM_eq_mapM_toList,Pv,Sem.run_map,k1]
  rfl
 ·subst h2
  cases vs with
  |nil=>
   have:l=[]:=PU (by simpa using k2.symm)
   subst this
   exact .aK rfl (fun i v c hv=>by simp at hv)
  |cons v vs=>
   cases vs with
   |nil=>
    obtain ⟨a,rfl⟩:∃a,l=[a]:=by
     cases l with
     |nil=>simp at k2
     |cons a l=>cases l with
      |nil=>exact ⟨a,rfl⟩
      |cons=>simp at k2
    simpa [lu] using k3 0 v a rfl rfl
   |cons v' vs=>
    rw [dif_neg (by simp)]
    have e:lu l= .aK l:=by
     cases l with
     |nil=>rfl
     |cons a l=>cases l with
      |nil=>simp at k2
      |cons=>rfl
    rw [e]
    exact .aK (by simpa using k2) (fun i v c hv hc=>k3 i v c (by simpa using hv) hc)
end
theorem qK (h:cFunc P f=some F):∃fn c,P.funcs[f]? =some fn/\fn.body=some c/\cRes P fn.results.toList=some F.res/\cCode P c=some F.code/\fn.ntmps=F.n:=by
 unfold cFunc at h
 split at h
 ·rename_i fn h1
  split at h
  ·rename_i c h2
   split at h
   ·rename_i res code h3 h4
    simp only [OG] at h;subst h
    exact ⟨fn,c,h1,h2,h3,h4,rfl⟩
   ·simp at h
  ·simp at h
 ·simp at h
def cj (as_:List AV) (t:Nat):AV:=(as_[t]?).getD (.v undef)
theorem o7 (h:RC E vs as_) (m:Nat):∀t,aj E ((vs++Array.replicate m undef).getD t undef) (cj as_ t):=by
 intro t
 unfold cj
 by_cases ht:t<vs.size
 ·have AW:t<as_.length:=by rw [<-h.1];exact ht
  rw [OV AW]
  simp only [PA,P8]
  rw [Qw ht,OY ht]
  exact h.2 t _ _ (OY ht) (OV AW)
 ·rw [P9 (by rw [<-h.1];omega)]
  simp only [P7,P8]
  rw [QF (by omega)]
  have:(Array.replicate m undef)[t - vs.size]?.getD undef=undef:=by
   rcases Ps (t - vs.size) m with h|h
   ·simp [h]
   ·simp [h]
  rw [this]
  exact .v rfl
theorem aj.wV (hc:∀b o,w'.cell? ⟨b,o,none⟩=E.w.cell? ⟨b,o,none⟩) (hs:∀b,w'.shape? b=E.w.shape? b) (hl:∀(b:Nat) r,E.w.heap[b]? =some (.loop r)->w'.heap[b]? =some (.loop r)) (h:aj E v a):aj { E with w:=w' } v a:=by
 induction h with
 |v h=>exact .v h
 |agg hl h ih=>exact .agg hl ih
 |aK hl h ih=>exact .aK hl ih
 |dD hc=>exact .dD hc
 |ed u hn hl hcc hb hz hu h1 h ih=>exact .ed u hn hl hcc hb hz (fun i cs j x hi hj=>(hc _ _).trans (hu i cs j x hi hj)) h1 ih
 |ct h ih=>exact .ct ih
 |emp=>exact .emp
 |pim u hb hq hu h1 h ih=>exact .pim u hb hq (fun j x hj=>(hc _ _).trans (hu j x hj)) h1 ih
 |ref hi hd hb hq=>exact .ref hi hd hb hq
 |own hi hd hb hq nM hm hl hcc bn=>exact .own hi hd hb hq ((hs _).trans nM) hm hl hcc bn
 |bT hi hd hb bn=>exact .bT hi hd hb bn
 |dR hi hd ho=>exact .dR hi hd ho
 |cp hi hd ho=>exact .cp hi hd ho
 |mp hi hd hb=>exact .mp hi hd hb
 |gr hi hd ho=>exact .gr hi hd ho
 |fn hl h ih=>exact .fn hl ih
 |bf hl h ih=>exact .bf hl ih
 |af hg hI hh dr h ih=>exact .af hg hI (hl _ _ hh) dr ih
 |de=>exact .de
 |dead=>exact .dead
theorem aE.wV (hm:aE E J base g) (hR:∀{v a},aj E v a->aj { E with w:=w' } v a) (fJ:∀(b:Nat) arr t x,E.w.heap[b]? =some (.cells arr t x)->w'.heap[b]? =some (.cells arr t x)) (wW:∀(b:Nat) es c,E.w.heap[b]? =some (.map es c)->w'.heap[b]? =some (.map es c)) (hsz:w'.heap.size=E.w.heap.size):aE { E with w:=w' } J base g:=by
 refine ⟨hm.live,fun id B hg=> ?_,hm.apart,hm.out,fun b hb=>⟨by show b<w'.heap.size;rw [hsz];exact (hm.low b hb).1,(hm.low b hb).2⟩,by show base<=w'.heap.size;rw [hsz];exact hm.size,hm.len,hm.fk,fun b hb=>⟨by show b<w'.heap.size;rw [hsz];exact (hm.xo b hb).1,(hm.xo b hb).2⟩⟩
 have:=hm.at_ id B hg
 show cI { E with w:=w' } base B (E.loc id)
 cases hl:E.loc id with
 |none=>rw [hl] at this;exact this
 |some b=>
  rw [hl] at this
  obtain ⟨h1,⟨hz,arr,t,h2,h3,h4⟩|⟨hz,es,c,h2,h3,h4⟩⟩:=this
  ·refine .iT ⟨h1,arr,t,fJ _ _ _ _ h2,h3,fun i cs hi=>⟨(h4 i cs hi).1,fun j x hj=> ?_⟩⟩ hz
   obtain ⟨u,k1,k2,k3⟩:=(h4 i cs hi).2 j x hj
   exact ⟨u,k1,k2,hR k3⟩
  ·refine .ofMap ⟨h1,es,c,wW _ _ _ h2,h3,fun i e cs he hi=> ?_⟩ hz
   obtain ⟨x,k1,k2,k3⟩:=h4 i e cs he hi
   exact ⟨x,k1,k2,hR k3⟩
structure iG (lo:Nat) (E E':Env):Prop where
 rep:∀{v a},aj E v a->aj E' v a
 mem:∀{J base g},aE E J base g->aE E' J base g
 heap:∀b,b<lo->E'.w.heap[b]? =E.w.heap[b]?
 size:E'.w.heap.size=E.w.heap.size
 shape:∀b,E'.w.shape? b=E.w.shape? b
 eqs:E'.kn=E.kn/\E'.dead=E.dead/\E'.loc=E.loc/\E'.ln=E.ln/\E'.I=E.I/\E'.rg=E.rg/\E'.X=E.X
 below:∀{base w0},base<=lo->Below base w0 E.w->Below base w0 E'.w
theorem iG.refl (lo:Nat) (E:Env):iG lo E E:=⟨fun h=>h,fun h=>h,fun _ _=>rfl,rfl,fun _=>rfl,⟨rfl,rfl,rfl,rfl,rfl,rfl,rfl⟩,fun _ h=>h⟩
theorem iG.le {E0:Env} (h:iG lo E E') (hle:E0.Le E) (hI:∀b,E0.I b->b<lo) (hX:∀b,E0.X b->b<lo):E0.Le E':=by
 obtain ⟨q1,q2,q3,q4,q5,q6,q7⟩:=h.eqs
 refine ⟨fun id hi=>by rw [q1];exact hle.kn id hi,fun b hb=>⟨by rw [q5];exact (hle.cE b hb).1,(h.heap b (hI b hb)).trans (hle.cE b hb).2⟩,fun id hi hd=>by rw [q2];exact hle.dead id hi hd,fun id hi hd=>by rw [q2,q3];exact hle.loc id hi hd,fun id b hi hd hb=>by rw [q2,h.shape];exact hle.shape id b hi hd hb,fun id hi hd=>by rw [q2,q4];exact hle.ln id hi hd,fun l hg=>by rw [q6];exact hle.rg l hg,fun b hb=>⟨by rw [q7];exact (hle.fx b hb).1,(h.heap b (hX b hb)).trans (hle.fx b hb).2⟩⟩
theorem qL {o:Obj} (o':Obj) (hh:w.heap[D]? =some o) (ho:o.isCells=false) (ix:o'.isCells=false):
  (∀b k,(w.putObj D o').cell? ⟨b,k,none⟩=w.cell? ⟨b,k,none⟩)/\(∀b,(w.putObj D o').shape? b=w.shape? b)/\∀(b:Nat) arr t x,w.heap[b]? =some (.cells arr t x)->(w.putObj D o').heap[b]? =some (.cells arr t x):=by
 have hlt:=(Ph.1 hh).1
 have hs:=World.putObj_heap_same (w:=w) (o:=o') hlt
 refine ⟨fun b k=> ?_,fun b=> ?_,fun b arr t x hb=> ?_⟩
 ·by_cases hb:b=D
  ·subst hb
   unfold World.cell?
   simp only [hs,hh]
   cases o<;>cases o'<;>simp_all [Obj.isCells]
  ·exact World.cell?_of_block (w:=w) (w':=w.putObj D o') (a:=⟨b,k,none⟩) (PY hb)
 ·by_cases hb:b=D
  ·subst hb
   unfold World.shape?
   simp only [hs,hh]
   cases o<;>cases o'<;>simp_all [Obj.isCells]
  ·unfold World.shape?
   rw [PY hb]
 ·by_cases mF:b=D
  ·subst mF
   rw [hh] at hb
   simp only [OG] at hb
   subst hb
   simp [Obj.isCells] at ho
  ·rw [PY mF];exact hb
theorem iG.one (hD:lo<=D) (hh:E.w.heap[D]? =some (.deferred (some []))):iG lo E { E with w:=E.w.putObj D (.deferred none) }:=by
 obtain ⟨c1,c2,c3⟩:=qL (.deferred none) hh rfl rfl
 have hR:∀{v a},aj E v a->aj { E with w:=E.w.putObj D (.deferred none) } v a:=fun h=>aj.wV c1 c2 (fun b r hb=>by
  by_cases mF:b=D
  ·subst mF;rw [hh] at hb;simp at hb
  ·rw [PY mF];exact hb) h
 have wW:∀(b:Nat) es c,E.w.heap[b]? =some (.map es c)->(E.w.putObj D (.deferred none)).heap[b]? =some (.map es c):=fun b es c hb=>by
  by_cases mF:b=D
  ·subst mF;rw [hh] at hb;simp at hb
  ·rw [PY mF];exact hb
 refine ⟨hR,fun hm=>hm.wV hR c3 wW (by simp),fun b hb=>PY (by omega),by simp,c2,⟨rfl,rfl,rfl,rfl,rfl,rfl,rfl⟩,fun gD hb=>hb.trans ⟨rfl,rfl,rfl,by simp,fun k hk=>PY (by omega)⟩⟩
theorem iG.trans {lo:Nat} {E E' mj:Env} (h:iG lo E E') (k:iG lo E' mj):iG lo E mj:=by
 obtain ⟨q1,q2,q3,q4,q5,q6,q7⟩:=h.eqs
 obtain ⟨p1,p2,p3,p4,p5,p6,p7⟩:=k.eqs
 exact ⟨fun hr=>k.rep (h.rep hr),fun hm=>k.mem (h.mem hm),fun b hb=>(k.heap b hb).trans (h.heap b hb),k.size.trans h.size,fun b=>(k.shape b).trans (h.shape b),⟨p1.trans q1,p2.trans q2,p3.trans q3,p4.trans q4,p5.trans q5,p6.trans q6,p7.trans q7⟩,fun gD hb=>k.below gD (h.below gD hb)⟩
theorem o8 {P:Program} {fn:Func} {tmps:Array Value} {R:Ending->World->Prop} {lo:Nat}:∀(ds:List Deferred) (E:Env),Mk E lo ds->
  (∀E',iG lo E E'->∃v,(results fn tmps).run P E'.w= .ok v E'.w/\R (.returned v) E'.w)->LeavesInM Fence.wide 0 P fn tmps R ds .returning E.w
 |[],E,_,h=>h E (iG.refl lo E)
 |d::ds,E,hmk,h=>by
  cases hmk with
  | @cons D _ hI hD hh hne t=>
   have h1:=iG.one hD hh
   refine ⟨by simp, .inl ⟨D,_,rfl,run_takeDeferred hh, ?_⟩⟩
   refine o8 ds { E with w:=E.w.putObj D (.deferred none) } ?_ fun E' hS=>h E' (h1.trans hS)
   clear h h1 hh
   induction t with
   |nil=>exact .nil
   | @cons D' Oc iF qz qM Hw t' ih=>
    have Hx:D'≠D:=fun e=>hne _ (PH ..) (by rw [e])
    exact .cons iF qz ((PY Hx).trans qM) Hw (ih fun d hd=>hne d (Px _ hd))
theorem qN {c:Code} (hf:P.funcs[f]? =some fn) (hb:fn.body=some c)
  (h:c.wpIn (cC none) 0 P (fun e a' w'=>(e= .normal\/e= .ret)/\LeavesInM Fence.wide 0 P fn a'.tmps R a'.defers .returning w') { tmps:=args++Array.replicate (fn.ntmps - args.size) undef,defers:=[] } w):Calls P f args w R:=
 (callsIn_wide (n:=0)).1 (callsIn_of_wp_marks (F:=Fence.wide) (n:=0) hf hb trivial (wpIn_mono h fun e a' w' ⟨he,hl⟩=>by
  rcases he with rfl|rfl
  ·exact hl
  ·exact hl) rfl)
theorem Hy (hF:cFunc P f=some F) (hl:as_.length<=F.n)
  (h:EW P F.n k F.code ⟨cj as_,g,k⟩ fun x s'=>(x= .normal\/x= .ret)/\(resR s'.σ F.res).run s'.g=some r/\s'.g=g'/\s'.k=k'):Fi P f as_ g k r g' k':=by
 intro E J base vs hG hm ba bJ
 obtain ⟨fn,c,h1,h2,h3,h4,h5⟩:=qK hF
 refine qN h1 h2 (wpIn_mono (h none c E J base E.w _ E.w (fun _=>rfl) h4 ba ⟨⟨E,rfl,Env.Le.refl E,o7 bJ _,hm,ba, .nil⟩, ?_,Pk _ _,hG⟩) ?_)
 ·simp only [Qv,QD,bJ.1];omega
 ·rintro e a' w' ⟨x,s',⟨hx,hr,rfl,rfl⟩,rfl,hrel⟩
  obtain ⟨E',rfl,hle,hs,hM,hk,hmk⟩:=hrel.ex
  refine ⟨by rcases hx with rfl|rfl<;>simp [Ex.up],o8 _ E' hmk fun E2 hS=> ?_⟩
  have kB:=hS.mem hM
  obtain ⟨v,e1,e2⟩:=qJ kB (fun t=>hS.rep (hs t)) h3 hr
  exact ⟨v,e1,v,E2,rfl,rfl,hS.le hle (fun b hb=>(hm.low b hb).1) (fun b hb=>(hm.xo b hb).1),e2,kB,hS.below hm.size hrel.below,fun id hid=>hk id (by rw [<-hS.eqs.1];exact hid)⟩
theorem Hz (hF:cFunc P f=some F) (hl:as_.length<=F.n)
  (h:EW P F.n 0 F.code ⟨cj as_,fun _=>none,0⟩ fun x s'=>(x= .normal\/x= .ret)/\((resR s'.σ F.res).bind gH).run s'.g=some r):Fn P f as_ r:=by
 intro w J vs hJ hG bJ
 obtain ⟨fn,c,h1,h2,h3,h4,h5⟩:=qK hF
 have hm:aE (E0 w J) J w.heap.size (fun _=>none):=⟨fun id=>by simp [E0],fun id B hg=>by simp at hg,fun id b9 b B B' hg=>by simp at hg,fun id b B hg=>by simp at hg,fun b hb=>⟨hJ b hb, .inl hb⟩,OQ _,fun id B hg=>by simp at hg,fun _ h=>h.elim,fun _ h=>h.elim⟩
 refine qN h1 h2 (wpIn_mono (h none c (E0 w J) J w.heap.size w _ w (fun _=>rfl) h4 (fun id hid=>hid.elim) ⟨⟨E0 w J,rfl,Env.Le.refl _,o7 bJ _,hm,fun id hid=>hid.elim, .nil⟩, ?_,Pk _ _,hG⟩) ?_)
 ·simp only [Qv,QD,bJ.1];omega
 ·rintro e a' w' ⟨x,s',⟨hx,hr⟩,rfl,hrel⟩
  obtain ⟨E1,rfl,hle,hs1,iA,hk,hmk⟩:=hrel.ex
  refine ⟨by rcases hx with rfl|rfl<;>simp [Ex.up],o8 _ E1 hmk fun E' hS=> ?_⟩
  have hM:=hS.mem iA
  have hs:=fun t=>hS.rep (hs1 t)
  obtain ⟨r0,eI,c8⟩:=cF hr
  obtain ⟨v,e1,e2⟩:=qJ hM hs h3 eI
  have hI:∀ids b,Handed E' s'.g ids b->J b\/(w.heap.size<=b/\b<E'.w.heap.size):=by
   intro ids b hb
   rcases hb with hb|⟨id,B,_,hg,hl⟩
   ·have:=hM.low b hb
    rcases this.2 with h|h
    ·exact .inl h
    ·exact .inr ⟨h,this.1⟩
   ·have:=hM.at_ id B hg
    rw [hl] at this
    exact .inr this.lt
  have cA:aj (Proofs.Ytimomnfobfjggaa.E0 E'.w fun b=>J b\/(w.heap.size<=b/\b<E'.w.heap.size)) v r:=by
   cases r0 with
   |aK us=>
    simp only [gH] at c8
    obtain ⟨l,m1,m2⟩:=cF c8
    simp only [RM.run,OG] at m2;subst m2
    obtain ⟨k1,k2⟩:=qy hM _ m1 (hI _)
    cases e2 with
    |aK hl h=>
     refine .aK (by rw [k1];exact hl) fun i v c hv hc=> ?_
     have hi:i<us.length:=by rw [<-k1];exact (OO.1 hc).1
     exact k2 i v us[i] c (h i v _ hv (OV hi)) (OV hi) hc
   |_=>exact wC hM _ e2 c8 (hI _)
  exact ⟨v,e1,v,rfl,cA,hS.below (OQ _) hrel.below⟩
open Go.RowKit
structure L3 where
 t:List (Nat×AV)
 m:List (Option Bk)
def slot:List (Nat×AV)->Nat->AV
 |[],_=> .dead
 |(j,v)::r,i=>bif Nat.beq i j then v else slot r i
def qO (d:Nat):List (Nat×AV)->List (Nat×AV)
 |[]=>[]
 |(j,v)::r=>bif Nat.beq j d then qO d r else (j,v)::qO d r
def eE (t:List (Nat×AV)):Option Nat->AV->List (Nat×AV)
 |none,_=>t
 |some d,v=>(d,v)::qO d t
def dstOK (n:Nat):Option Nat->Bool
 |none=>true
 |some d=>Nat.blt d n
def look (m:List (Option Bk)) (id:Nat):Option Bk:=(m[id]?).join
def L3.s (x:L3):S3:=⟨slot x.t,look x.m,x.m.length⟩
def dI (m:List (Option Bk)):List (Nat×Option Bk)->List (Option Bk)
 |[]=>m
 |(id,x)::r=>dI (if id<m.length then m.set id x else m++[x]) r
def upsOK (k:Nat):List (Nat×Option Bk)->Bool
 |[]=>true
 |(id,_)::r=>decide (id<=k)&&upsOK (if id<k then k else k+1) r
theorem HA {t:List (Nat×AV)} {d:Nat} (h:i≠d):slot (qO d t) i=slot t i:=by
 induction t with
 |nil=>rfl
 |cons p r ih=>
  obtain ⟨j,v⟩:=p
  simp only [qO,slot]
  cases hj:Nat.beq j d with
  |true=>
   have:=OR hj
   subst this
   have hi:Nat.beq i j=false:=by
    cases hb:Nat.beq i j with
    |false=>rfl
    |true=>exact absurd (OR hb) h
   simp [hi,ih]
  |false=>simp only [O0,slot,ih]
theorem nN (t:List (Nat×AV)) (d:Option Nat) (hd:dstOK n d=true) (v:AV):slot (eE t d v)=bG n d v (slot t):=by
 funext i
 unfold bG
 cases d with
 |none=>simp [eE]
 |some d=>
  simp only [dstOK] at hd
  have wX:=Pn hd
  simp only [eE,slot,OG]
  by_cases h:d=i
  ·subst h
   have:Nat.beq d d=true:=Nat.beq_refl d
   rw [this,OI ⟨rfl,wX⟩];rfl
  ·have hb:Nat.beq i d=false:=by
    cases hb:Nat.beq i d with
    |false=>rfl
    |true=>exact absurd (OR hb).symm h
   rw [hb,OH (fun hh=>h hh.1)]
   exact HA (fun e=>h e.symm)
theorem wY (m:List (Option Bk)) (id:Nat) (x:Option Bk) (h:id<=m.length):look (if id<m.length then m.set id x else m++[x])=fun k=>if k=id then x else look m k:=by
 funext k
 unfold look
 by_cases hl:id<m.length
 ·rw [OI hl,List.getElem?_set]
  by_cases hk:id=k
  ·subst hk;simp [hl]
  ·simp [hk,Ne.symm hk]
 ·rw [OH hl]
  have:id=m.length:=by omega
  subst this
  by_cases hk:k=m.length
  ·subst hk;simp
  ·rw [OH hk]
   rcases Ps k m.length with h1|h1
   ·rw [PB h1]
   ·rw [P9 (by simp;omega),P9 (by omega)]
theorem qP:∀(ups:List (Nat×Option Bk)) (m:List (Option Bk)),upsOK m.length ups=true->look (dI m ups)=aA (look m) ups/\m.length<=(dI m ups).length/\∀id,id∈ups.map Prod.fst->id<(dI m ups).length
 |[],m,_=>⟨rfl,OQ _,fun id h=>by simp at h⟩
 |(i,x)::r,m,h=>by
  simp only [upsOK,OJ,PG] at h
  have hlen:(if i<m.length then m.set i x else m++[x]).length=if i<m.length then m.length else m.length+1:=by split<;>simp
  obtain ⟨h1,h2,h3⟩:=qP r (if i<m.length then m.set i x else m++[x]) (by rw [hlen];exact h.2)
  rw [hlen] at h2
  have e1:m.length<=(if i<m.length then m.length else m.length+1):=by split<;>omega
  have e2:i<(if i<m.length then m.length else m.length+1):=by have:=h.1;split<;>omega
  refine ⟨?_, ?_,fun id hid=> ?_⟩
  ·simp only [dI,aA]
   rw [h1,wY m i x h.1]
  ·simp only [dI];omega
  ·simp only [dI]
   simp only [OX,OU] at hid
   rcases hid with rfl|hid
   ·omega
   ·exact h3 id hid
inductive s5 where
 |done (val:AV) (ups:List (Nat×Option Bk)) (acc:List Nat)
 |call (f:FuncId) (as_:List AV)
 |stuck
def wZ (ao:AO) (x:L3):List Nat:=(ao.au x.m.length (aG (slot x.t))).acc (look x.m)++(ao.au x.m.length (aG (slot x.t))).see (look x.m)
def dp (o:az) (x:L3):s5:=
 match bR (slot x.t) o.guard with
 |some false=> .done (.v undef) [] []
 |some true=>match (o.ao.au x.m.length (aG (slot x.t))).run (look x.m) with
  |some (.done val ups)=> .done val ups (wZ o.ao x)
  |some (.call f as_)=> .call f as_
  |none=> .stuck
 |none=> .stuck
theorem AX {x:L3} (h:dp o x= .done val ups acc):dt P (slot x.t) (look x.m) x.m.length o val ups acc:=by
 unfold dp at h
 split at h
 ·rename_i hg
  simp only [s5.done.injEq] at h
  obtain ⟨rfl,rfl,rfl⟩:=h
  exact .skip hg
 ·rename_i hg
  split at h
  ·rename_i h1
   simp only [s5.done.injEq] at h
   obtain ⟨rfl,rfl,rfl⟩:=h
   exact .done hg h1
  ·simp at h
  ·simp at h
 ·simp at h
theorem w8 {x:L3} (h:dp o x= .call f as_):bR (slot x.t) o.guard=some true/\(o.ao.au x.m.length (aG (slot x.t))).run (look x.m)=some (.call f as_):=by
 unfold dp at h
 split at h
 ·simp at h
 ·rename_i hg
  split at h
  ·simp at h
  ·rename_i h1
   simp only [s5.call.injEq] at h
   obtain ⟨rfl,rfl⟩:=h
   exact ⟨hg,h1⟩
  ·simp at h
 ·simp at h
def OW (P:Program) (n k0:Nat) (os:List az) (x:L3) (K:L3->Prop):Prop:=∃x':L3,gB P n k0 os (slot x.t) (look x.m) x.m.length (slot x'.t) (look x'.m) x'.m.length/\K x'
def DW (P:Program) (n:Nat) (dep:List (List Nat)) (os:List az) (x:L3) (rs:List Rec) (K:L3->Prop):Prop:=
 ∃x':L3,lq P n dep os (slot x.t) (look x.m) x.m.length rs (slot x'.t) (look x'.m) x'.m.length/\K x'
section
variable {P:Program} {n k0:Nat} {x:L3} {K:L3->Prop}
theorem OW.nil (h:K x):OW P n k0 [] x K:=⟨x, .nil,h⟩
theorem OW.cons {o:az} {os:List az} {val:AV} {ups:List (Nat×Option Bk)} {acc:List Nat} (hd:dstOK n o.dst=true) (h:dp o x= .done val ups acc) (hu:upsOK x.m.length ups=true) (hr:OW P n k0 os ⟨eE x.t o.dst val,dI x.m ups⟩ K):OW P n k0 (o::os) x K:=by
 obtain ⟨x',h1,h3⟩:=hr
 simp only [nN _ _ hd] at h1
 obtain ⟨m1,m2,m3⟩:=qP ups x.m hu
 rw [m1] at h1
 exact ⟨x', .cons (AX h) m2 m3 h1,h3⟩
theorem OW.call {o:az} {os:List az} {f:FuncId} {as_ bz:List AV} {r:AV} (hd:dstOK n o.dst=true) (h:dp o x= .call f as_) (hc:bL P f=true) (hs:(cS as_).run (look x.m)=some bz) (hf:Fn P f bz r) (hu:upsOK x.m.length (callUps as_ r)=true)
  (hr:OW P n k0 os ⟨eE x.t o.dst r,dI x.m (callUps as_ r)⟩ K):OW P n k0 (o::os) x K:=by
 obtain ⟨x',h1,h3⟩:=hr
 simp only [nN _ _ hd] at h1
 obtain ⟨m1,m2,m3⟩:=qP _ x.m hu
 rw [m1] at h1
 obtain ⟨g1,g2⟩:=w8 h
 exact ⟨x', .cons (.call g1 g2 hc hs hf) m2 m3 h1,h3⟩
theorem OW.inl {o:az} {os:List az} {f:FuncId} {as_:List AV} {r:AV} {m':List (Option Bk)} (hd:dstOK n o.dst=true) (h:dp o x= .call f as_) (hc:bL P f=true) (hf:Fi P f as_ (look x.m) x.m.length r (look m') m'.length)
  (hr:OW P n k0 os ⟨eE x.t o.dst r,m'⟩ K):OW P n k0 (o::os) x K:=by
 obtain ⟨x',h1,h3⟩:=hr
 simp only [nN _ _ hd] at h1
 obtain ⟨g1,g2⟩:=w8 h
 exact ⟨x', .inl g1 g2 hc hf h1,h3⟩
theorem DW.nil {dep:List (List Nat)} {rs:List Rec} (hid:ef rs dep=true) (h:K x):DW P n dep [] x rs K:=⟨x, .nil hid,h⟩
theorem DW.cons {dep:List (List Nat)} {rs:List Rec} {o:az} {os:List az} {val:AV} {ups:List (Nat×Option Bk)} {acc:List Nat} (hd:dstOK n o.dst=true) (h:dp o x= .done val ups acc) (hu:upsOK x.m.length ups=true)
  (hr:DW P n dep os ⟨eE x.t o.dst val,dI x.m ups⟩ (rs++[⟨o.dst,val,ups,acc,x.m.length⟩]) K):DW P n dep (o::os) x rs K:=by
 obtain ⟨x',h1,h4⟩:=hr
 simp only [nN _ _ hd] at h1
 obtain ⟨m1,m2,m3⟩:=qP ups x.m hu
 rw [m1] at h1
 exact ⟨x', .cons (AX h) m2 m3 h1,h4⟩
def AY (ao:AO) (as_:List AV) (x:L3):List Nat:=wZ ao x++((cS as_).acc (look x.m)++(cS as_).see (look x.m))
theorem DW.call {dep:List (List Nat)} {rs:List Rec} {o:az} {os:List az} {f:FuncId} {as_ bz:List AV} {r:AV} (hd:dstOK n o.dst=true) (h:dp o x= .call f as_) (hc:bL P f=true) (hs:(cS as_).run (look x.m)=some bz) (hf:Fn P f bz r) (hu:upsOK x.m.length (callUps as_ r)=true)
  (hr:DW P n dep os ⟨eE x.t o.dst r,dI x.m (callUps as_ r)⟩ (rs++[⟨o.dst,r,callUps as_ r,AY o.ao as_ x,x.m.length⟩]) K):DW P n dep (o::os) x rs K:=by
 obtain ⟨x',h1,h4⟩:=hr
 simp only [nN _ _ hd] at h1
 obtain ⟨m1,m2,m3⟩:=qP _ x.m hu
 rw [m1] at h1
 obtain ⟨g1,g2⟩:=w8 h
 exact ⟨x', .cons (.call g1 g2 hc hs hf) m2 m3 h1,h4⟩
end
def EL (P:Program) (n k0:Nat) (ac:AC) (x:L3) (Q:Ex->L3->Prop):Prop:=EW P n k0 ac x.s fun e s'=>∃x':L3,s'=x'.s/\Q e x'
section
variable {P:Program} {n k0:Nat} {x:L3} {Q:Ex->L3->Prop}
def Ex.nO (next:L3->Prop) (Q:Ex->L3->Prop):Ex->L3->Prop
 | .normal,s=>next s
 |e,s=>Q e s
def Ex.nP (id:Nat) (Q:Ex->L3->Prop):Ex->L3->Prop
 | .exit i,s=>if i=id then Q .normal s else Q (.exit i) s
 |e,s=>Q e s
theorem EL.cP {ac:AC} {Q':Ex->L3->Prop} (h:EL P n k0 ac x Q) (hq:∀e x,Q e x->Q' e x):EL P n k0 ac x Q':=EW.cP h fun e s ⟨x',h1,h3⟩=>⟨x',h1,hq e x' h3⟩
theorem EL.fP {ac:AC} {y:L3} (hs:x.s.Le k0 n y.s) (h:EL P n k0 ac y Q):EL P n k0 ac x Q:=EW.fP hs h
theorem EL.skip (h:Q .normal x):EL P n k0 .skip x Q:=EW.skip ⟨x,rfl,h⟩
theorem EL.ret (h:Q .ret x):EL P n k0 .ret x Q:=EW.ret ⟨x,rfl,h⟩
theorem EL.exit {id:Nat} (h:Q (.exit id) x):EL P n k0 (.exit id) x Q:=EW.exit ⟨x,rfl,h⟩
theorem EL.seq {a b:AC} (h:EL P n k0 a x (Ex.nO (fun x'=>EL P n k0 b x' Q) Q)):EL P n k0 (.seq a b) x Q:=
 EW.seq (EW.cP h fun e s ⟨x',h1,h3⟩=>by
  cases e with
  |normal=>subst h1;exact h3
  |exit id=>exact ⟨x',h1,h3⟩
  |ret=>exact ⟨x',h1,h3⟩)
theorem EL.cond {b:Arg} {y z:AC} {t:Bool} (hb:aG (slot x.t) b= .v (.bool t)) (h1:t=true->EL P n k0 y x Q) (h2:t=false->EL P n k0 z x Q):EL P n k0 (.cond b y z) x Q:=
 EW.cond hb (by
  cases t with
  |true=>exact h1 rfl
  |false=>exact h2 rfl)
theorem EL.block {id:Nat} {a:AC} (h:EL P n k0 a x (Ex.nP id Q)):EL P n k0 (.block id a) x Q:=
 EW.block (EW.cP h fun e s ⟨x',h1,h3⟩=>by
  cases e with
  |normal=>exact ⟨x',h1,h3⟩
  |exit i=>
   simp only [Ex.nP] at h3
   simp only [Ex.inBlock]
   split
   ·rename_i hi;rw [OI hi] at h3;exact ⟨x',h1,h3⟩
   ·rename_i hi;rw [OH hi] at h3;exact ⟨x',h1,h3⟩
  |ret=>exact ⟨x',h1,h3⟩)
theorem EL.loop {a:AC} (I:Nat->L3->Prop) {m:Nat} (h0:I m x) (round:∀m x,I m x->EL P n k0 a x (Ex.nO (fun x'=>∃m',m'<m/\I m' x') Q)):EL P n k0 (.loop a) x Q:=
 EW.loop (fun m s=>∃x:L3,s=x.s/\I m x) (m:=m) ⟨x,rfl,h0⟩ fun m s ⟨x,h1,h3⟩=>by
  subst h1
  refine EW.cP (round m x h3) fun e s ⟨x',q1,q3⟩=> ?_
  cases e with
  |normal=>
   obtain ⟨m',hm,hI⟩:=q3
   exact ⟨m',hm,x',q1,hI⟩
  |exit id=>exact ⟨x',q1,q3⟩
  |ret=>exact ⟨x',q1,q3⟩
theorem EL.bK {os:List az} (h:OW P n k0 os x (Q .normal)):EL P n k0 (.bK os none) x Q:=by
 obtain ⟨x',h1,h3⟩:=h
 exact EW.bK (s':=x'.s) h1 ⟨x',rfl,h3⟩
theorem EL.draw {os:List az} {dep:List (List Nat)} (h:DW P n dep os x [] (Q .normal)):EL P n k0 (.bK os (some dep)) x Q:=by
 obtain ⟨x',h1,h4⟩:=h
 exact EW.draw (s':=x'.s) h1 ⟨x',rfl,h4⟩
theorem S3.w9 {s:S3} (hσ:∀t,s'.σ t=s.σ t\/s'.σ t= .dead\/s.σ t= .v undef/\False) (hg:s'.g=s.g) (hk:s'.k=s.k):s.Le k0 n s':=by
 intro E0 J base w0 a w _ hr
 obtain ⟨E,h1,h2,h3,h4,h5,h6⟩:=hr.ex
 refine ⟨⟨E,h1,h2,fun t=> ?_,by rw [hg];exact h4,by rw [hk];exact h5,h6⟩,hr.size,hr.below,hr.gl⟩
 rcases hσ t with h|h|h
 ·rw [h];exact h3 t
 ·rw [h];exact .dead
 ·exact h.2.elim
end
def gI:Nat->List AV->List (Nat×AV)
 |_,[]=>[]
 |i,a::r=>(i,a)::gI (i+1) r
def start (as_:List AV):L3:=⟨gI 0 as_,[]⟩
theorem s6:∀(as_:List AV) (i t:Nat),slot (gI i as_) t=if i<=t then (as_[t - i]?).getD .dead else .dead
 |[],i,t=>by simp [gI,slot]
 |a::r,i,t=>by
  simp only [gI,slot]
  by_cases h:t=i
  ·subst h
   rw [Nat.beq_refl];simp
  ·have hb:Nat.beq t i=false:=by
    cases hb:Nat.beq t i with
    |false=>rfl
    |true=>exact absurd (OR hb) h
   rw [hb,O0,s6 r (i+1) t]
   by_cases h1:i<=t
   ·rw [OI h1,OI (by omega),show t - i=(t - (i+1))+1 by omega,Py]
   ·rw [OH h1,OH (by omega)]
theorem qQ (as_:List AV) (g:Nat->Option Bk) (k:Nat):(⟨cj as_,g,k⟩:S3).Le k0 n ⟨slot (gI 0 as_),g,k⟩:=by
 refine S3.w9 (fun t=> ?_) rfl rfl
 show slot (gI 0 as_) t=cj as_ t\/_
 rw [s6,OI (Nat.zero_le _),Nat.sub_zero]
 unfold cj
 cases h:as_[t]? with
 |none=>exact .inr (.inl (by simp [s6,h]))
 |some a=>exact .inl rfl
theorem fn_walk (hF:cFunc P f=some F) (hl:as_.length<=F.n)
  (h:EL P F.n 0 F.code (start as_) fun e x=>(e= .normal\/e= .ret)/\((resR (slot x.t) F.res).bind gH).run (look x.m)=some r):Fn P f as_ r:=by
 refine Hz hF hl (EW.fP (qQ as_ _ _) (EW.cP h ?_))
 rintro e s ⟨x',rfl,h1,h2⟩
 exact ⟨h1,h2⟩
theorem fi_walk (hF:cFunc P f=some F) (hl:as_.length<=F.n) {m m':List (Option Bk)}
  (h:EL P F.n m.length F.code ⟨gI 0 as_,m⟩ fun e x=>(e= .normal\/e= .ret)/\(resR (slot x.t) F.res).run (look x.m)=some r/\x.m=m'):Fi P f as_ (look m) m.length r (look m') m'.length:=by
 refine Hy hF hl (EW.fP (qQ as_ _ _) (EW.cP h ?_))
 rintro e s ⟨x',rfl,h1,h2,rfl⟩
 exact ⟨h1,h2,rfl,rfl⟩
open Go.RowKit
abbrev ow (a:AO):az:=⟨none,a,none⟩
abbrev on (d:Nat) (a:AO) (g:Nat):az:=⟨some d,a,some (g,false)⟩
abbrev Callee:=FuncId->List AV->List (Option Bk)->Option (AV×List (Option Bk))
def AZ (pureC:FuncId->List AV->Option AV) (inC:Callee) (f:FuncId) (as_:List AV) (m:List (Option Bk)):Option (AV×List (Option Bk)):=
 match (cS as_).run (look m) with
 |some bz=>match pureC f bz with
  |some r=>if upsOK m.length (callUps as_ r)=true then some (r,dI m (callUps as_ r)) else none
  |none=>none
 |none=>inC f as_ m
def runOps (n:Nat) (pureC:FuncId->List AV->Option AV) (inC:Callee):List az->L3->Option L3
 |[],x=>some x
 |o::os,x=>if dstOK n o.dst=true then match dp o x with
  | .done val ups _=>if upsOK x.m.length ups=true then runOps n pureC inC os ⟨eE x.t o.dst val,dI x.m ups⟩ else none
  | .call f as_=>match AZ pureC inC f as_ x.m with
   |some (r,m')=>runOps n pureC inC os ⟨eE x.t o.dst r,m'⟩
   |none=>none
  | .stuck=>none
  else none
def o9 (n:Nat) (pureC:FuncId->List AV->Option AV):List az->L3->List Rec->Option (L3×List Rec)
 |[],x,rs=>some (x,rs)
 |o::os,x,rs=>if dstOK n o.dst=true then match dp o x with
  | .done val ups acc=>if upsOK x.m.length ups=true then o9 n pureC os ⟨eE x.t o.dst val,dI x.m ups⟩ (rs++[⟨o.dst,val,ups,acc,x.m.length⟩]) else none
  | .call f as_=>match (cS as_).run (look x.m) with
   |some bz=>match pureC f bz with
    |some r=>if upsOK x.m.length (callUps as_ r)=true then o9 n pureC os ⟨eE x.t o.dst r,dI x.m (callUps as_ r)⟩ (rs++[⟨o.dst,r,callUps as_ r,AY o.ao as_ x,x.m.length⟩]) else none
    |none=>none
   |none=>none
  | .stuck=>none
  else none
def eY (T:FuncId->Option cT):Nat->Nat->AC->L3->Option (Ex×L3)
 |0,_,_,_=>none
 |k+1,n,ac,x=>
  let pureC:FuncId->List AV->Option AV:=fun f as_=>match T f with
   |some F=>if as_.length<=F.n then match eY T k F.n F.code (start as_) with
    |some (.normal,x)=>((resR (slot x.t) F.res).bind gH).run (look x.m)
    |some (.ret,x)=>((resR (slot x.t) F.res).bind gH).run (look x.m)
    |_=>none
    else none
   |none=>none
  let inC:Callee:=fun f as_ m=>match T f with
   |some F=>if as_.length<=F.n then match eY T k F.n F.code ⟨gI 0 as_,m⟩ with
    |some (.normal,x)=>((resR (slot x.t) F.res).run (look x.m)).map fun r=>(r,x.m)
    |some (.ret,x)=>((resR (slot x.t) F.res).run (look x.m)).map fun r=>(r,x.m)
    |_=>none
    else none
   |none=>none
  match ac with
  | .skip=>some (.normal,x)
  | .bK os none=>(runOps n pureC inC os x).map fun x=>(.normal,x)
  | .bK os (some dep)=>match o9 n pureC os x [] with
   |some (x,rs)=>if ef rs dep=true then some (.normal,x) else none
   |none=>none
  | .seq a b=>match eY T k n a x with
   |some (.normal,x)=>eY T k n b x
   |r=>r
  | .cond c a b=>match aG (slot x.t) c with
   | .v (.bool true)=>eY T k n a x
   | .v (.bool false)=>eY T k n b x
   |_=>none
  | .block id a=>match eY T k n a x with
   |some (.exit i,x)=>if i=id then some (.normal,x) else some (.exit i,x)
   |r=>r
  | .loop a=>match eY T k n a x with
   |some (.normal,x)=>eY T k n (.loop a) x
   |r=>r
  | .exit id=>some (.exit id,x)
  | .ret=>some (.ret,x)
  | .gG _ _ _ _=>none
def A3 (T:FuncId->Option cT) (k:Nat) (f:FuncId) (as_:List AV):Option AV:=
 match T f with
 |some F=>if as_.length<=F.n then match eY T k F.n F.code (start as_) with
  |some (.normal,x)=>((resR (slot x.t) F.res).bind gH).run (look x.m)
  |some (.ret,x)=>((resR (slot x.t) F.res).bind gH).run (look x.m)
  |_=>none
  else none
 |none=>none
section
variable {P:Program} {T:FuncId->Option cT}
def Table (P:Program) (T:FuncId->Option cT):Prop:=∀f F,T f=some F->cFunc P f=some F/\bL P f=true
def nQ:List (Nat×cT)->FuncId->Option cT
 |[],_=>none
 |(k,F)::r,f=>bif Nat.beq f k then some F else nQ r f
theorem HB:Table P (nQ []):=fun f F h=>by simp [nQ] at h
theorem ib {r:List (Nat×cT)} (h1:cFunc P k=some F) (h2:bL P k=true) (t:Table P (nQ r)):Table P (nQ ((k,F)::r)):=fun f G h=>by
 simp only [nQ] at h
 cases hb:Nat.beq f k with
 |true=>
  rw [hb,OL,OG] at h
  have:=OR hb
  subst this;subst h;exact ⟨h1,h2⟩
 |false=>rw [hb,O0] at h;exact t f G h
theorem s7 {n k0:Nat} {pureC:FuncId->List AV->Option AV} {inC:Callee} (hp:∀f as_ r,pureC f as_=some r->Fn P f as_ r/\bL P f=true) (hi:∀f as_ m r m',inC f as_ m=some (r,m')->Fi P f as_ (look m) m.length r (look m') m'.length/\bL P f=true):
  ∀(os:List az) (x x':L3),runOps n pureC inC os x=some x'->OW P n k0 os x (· =x')
 |[],x,x',h=>by simp only [runOps,OG] at h;exact OW.nil h
 |o::os,x,x',h=>by
  simp only [runOps] at h
  split at h
  case isFalse=>simp at h
  rename_i hd
  split at h
  ·rename_i val ups acc he
   split at h
   ·rename_i hu;exact OW.cons hd he hu (s7 hp hi os _ _ h)
   ·simp at h
  ·rename_i f as_ he
   split at h
   ·rename_i r m' hs
    unfold AZ at hs
    split at hs
    ·rename_i bz fN
     split at hs
     ·rename_i r' hr
      split at hs
      ·rename_i hu
       simp only [OG,OT] at hs
       obtain ⟨rfl,rfl⟩:=hs
       obtain ⟨h1,h2⟩:=hp f bz _ hr
       exact OW.call hd he h2 fN h1 hu (s7 hp hi os _ _ h)
      ·simp at hs
     ·simp at hs
    ·obtain ⟨h1,h2⟩:=hi f as_ x.m r m' hs
     exact OW.inl hd he h2 h1 (s7 hp hi os _ _ h)
   ·simp at h
  ·simp at h
theorem xc {n:Nat} {pureC:FuncId->List AV->Option AV} (hp:∀f as_ r,pureC f as_=some r->Fn P f as_ r/\bL P f=true) {dep:List (List Nat)}:
  ∀(os:List az) (x x':L3) (rs lx:List Rec),o9 n pureC os x rs=some (x',lx)->ef lx dep=true->DW P n dep os x rs (· =x')
 |[],x,x',rs,lx,h,hid=>by
  simp only [o9,OG,OT] at h
  obtain ⟨rfl,rfl⟩:=h
  exact DW.nil hid rfl
 |o::os,x,x',rs,lx,h,hid=>by
  simp only [o9] at h
  split at h
  case isFalse=>simp at h
  rename_i hd
  split at h
  ·rename_i val ups acc he
   split at h
   ·rename_i hu;exact DW.cons hd he hu (xc hp os _ _ _ _ h hid)
   ·simp at h
  ·rename_i f as_ he
   split at h
   ·rename_i bz fN
    split at h
    ·rename_i r hr
     split at h
     ·rename_i hu
      obtain ⟨h1,h2⟩:=hp f bz _ hr
      exact DW.call hd he h2 fN h1 hu (xc hp os _ _ _ _ h hid)
     ·simp at h
    ·simp at h
   ·simp at h
  ·simp at h
theorem A4 (hT:Table P T):∀(k:Nat) (n k0:Nat) (ac:AC) (x:L3) (e:Ex) (x':L3),eY T k n ac x=some (e,x')->EL P n k0 ac x fun e' y=>e'=e/\y=x':=by
 intro k
 induction k using Nat.strongRecOn with
 |_ k A5=>
 cases k with
 |zero=>intro n k0 ac x e x' h;simp [eY] at h
 |succ k=>
  have ih:=A5 k (by omega)
  intro n k0 ac x e x' h
  have jP:=h
  simp only [eY] at h
  generalize HC:(fun (f:FuncId) (as_:List AV)=>match T f with
   |some F=>if as_.length<=F.n then match eY T k F.n F.code (start as_) with
    |some (.normal,x)=>((resR (slot x.t) F.res).bind gH).run (look x.m)
    |some (.ret,x)=>((resR (slot x.t) F.res).bind gH).run (look x.m)
    |_=>none
    else none
   |none=>none)=pureC at h
  generalize HD:(fun (f:FuncId) (as_:List AV) (m:List (Option Bk))=>match T f with
   |some F=>if as_.length<=F.n then match eY T k F.n F.code ⟨gI 0 as_,m⟩ with
    |some (.normal,x)=>((resR (slot x.t) F.res).run (look x.m)).map fun r=>(r,x.m)
    |some (.ret,x)=>((resR (slot x.t) F.res).run (look x.m)).map fun r=>(r,x.m)
    |_=>none
    else none
   |none=>none)=inC at h
  have hp:∀f as_ r,pureC f as_=some r->Fn P f as_ r/\bL P f=true:=by
   intro f as_ r hr
   rw [<-HC] at hr
   simp only at hr
   split at hr
   ·rename_i F hF
    obtain ⟨c1,c2⟩:=hT f F hF
    split at hr
    ·rename_i hl
     split at hr
     ·rename_i y hy
      exact ⟨fn_walk c1 hl ((ih F.n 0 F.code _ _ _ hy).cP fun e' z ⟨h1,h2⟩=>by subst h1;subst h2;exact ⟨.inl rfl,hr⟩),c2⟩
     ·rename_i y hy
      exact ⟨fn_walk c1 hl ((ih F.n 0 F.code _ _ _ hy).cP fun e' z ⟨h1,h2⟩=>by subst h1;subst h2;exact ⟨.inr rfl,hr⟩),c2⟩
     ·simp at hr
    ·simp at hr
   ·simp at hr
  have hi:∀f as_ m r m',inC f as_ m=some (r,m')->Fi P f as_ (look m) m.length r (look m') m'.length/\bL P f=true:=by
   intro f as_ m r m' hr
   rw [<-HD] at hr
   simp only at hr
   split at hr
   ·rename_i F hF
    obtain ⟨c1,c2⟩:=hT f F hF
    split at hr
    ·rename_i hl
     split at hr
     ·rename_i y hy
      cases hres:(resR (slot y.t) F.res).run (look y.m) with
      |none=>simp [hres] at hr
      |some r'=>
       simp only [hres,OS,OG,OT] at hr
       obtain ⟨rfl,rfl⟩:=hr
       exact ⟨fi_walk c1 hl ((ih F.n m.length F.code _ _ _ hy).cP fun e' z ⟨h1,h2⟩=>by subst h1;subst h2;exact ⟨.inl rfl,hres,rfl⟩),c2⟩
     ·rename_i y hy
      cases hres:(resR (slot y.t) F.res).run (look y.m) with
      |none=>simp [hres] at hr
      |some r'=>
       simp only [hres,OS,OG,OT] at hr
       obtain ⟨rfl,rfl⟩:=hr
       exact ⟨fi_walk c1 hl ((ih F.n m.length F.code _ _ _ hy).cP fun e' z ⟨h1,h2⟩=>by subst h1;subst h2;exact ⟨.inr rfl,hres,rfl⟩),c2⟩
     ·simp at hr
    ·simp at hr
   ·simp at hr
  cases ac with
  |skip=>
   simp only [OG,OT] at h
   obtain ⟨rfl,rfl⟩:=h
   exact EL.skip ⟨rfl,rfl⟩
  |ret=>
   simp only [OG,OT] at h
   obtain ⟨rfl,rfl⟩:=h
   exact EL.ret ⟨rfl,rfl⟩
  |exit id=>
   simp only [OG,OT] at h
   obtain ⟨rfl,rfl⟩:=h
   exact EL.exit ⟨rfl,rfl⟩
  |gG gg ps a b=>simp at h
  |bK os dep=>
   cases dep with
   |none=>
    simp only at h
    cases hr:runOps n pureC inC os x with
    |none=>simp [hr] at h
    |some y=>
     simp only [hr,OS,OG,OT] at h
     obtain ⟨rfl,rfl⟩:=h
     refine EL.bK ?_
     obtain ⟨z,h1,h3⟩:=s7 hp hi os x y hr
     exact ⟨z,h1,rfl,h3⟩
   |some dep=>
    simp only at h
    split at h
    ·rename_i y rs hr
     split at h
     ·rename_i hid
      simp only [OG,OT] at h
      obtain ⟨rfl,rfl⟩:=h
      refine EL.draw ?_
      obtain ⟨z,h1,h4⟩:=xc hp os x y [] rs hr hid
      exact ⟨z,h1,rfl,h4⟩
     ·simp at h
    ·simp at h
  |seq a b=>
   simp only at h
   refine EL.seq ?_
   split at h
   ·rename_i y hy
    refine (ih n k0 a x _ _ hy).cP ?_
    rintro e' z ⟨rfl,rfl⟩
    exact ih n k0 b z _ _ h
   ·rename_i hne
    refine (ih n k0 a x _ _ h).cP ?_
    rintro e' z ⟨rfl,rfl⟩
    cases e' with
    |normal=>exact absurd h (hne _)
    |exit id=>exact ⟨rfl,rfl⟩
    |ret=>exact ⟨rfl,rfl⟩
  |cond c a b=>
   simp only at h
   split at h
   ·rename_i hb
    exact EL.cond hb (fun _=>ih n k0 a x _ _ h) (fun hh=>by simp at hh)
   ·rename_i hb
    exact EL.cond hb (fun hh=>by simp at hh) (fun _=>ih n k0 b x _ _ h)
   ·simp at h
  |block id a=>
   simp only at h
   refine EL.block ?_
   split at h
   ·rename_i i y hy
    refine (ih n k0 a x _ _ hy).cP ?_
    rintro e' z ⟨rfl,rfl⟩
    simp only [Ex.nP]
    split at h
    ·rename_i aO
     simp only [OG,OT] at h
     obtain ⟨rfl,rfl⟩:=h
     rw [OI aO];exact ⟨rfl,rfl⟩
    ·rename_i aO
     simp only [OG,OT] at h
     obtain ⟨rfl,rfl⟩:=h
     rw [OH aO];exact ⟨rfl,rfl⟩
   ·rename_i hne
    refine (ih n k0 a x _ _ h).cP ?_
    rintro e' z ⟨rfl,rfl⟩
    cases e' with
    |normal=>exact ⟨rfl,rfl⟩
    |exit id=>exact absurd h (hne _ _)
    |ret=>exact ⟨rfl,rfl⟩
  |loop a=>
   refine EL.loop (fun j y=>j<=k+1/\eY T j n (.loop a) y=some (e,x')) (m:=k+1) ⟨OQ _,jP⟩ ?_
   rintro j y ⟨hj,hy⟩
   cases j with
   |zero=>simp [eY] at hy
   |succ j=>
    have A6:=A5 j (by omega)
    simp only [eY] at hy
    split at hy
    ·rename_i z hz
     refine (A6 n k0 a y _ _ hz).cP ?_
     rintro e' z' ⟨rfl,rfl⟩
     exact ⟨j,by omega,by omega,hy⟩
    ·rename_i hne
     refine (A6 n k0 a y _ _ hy).cP ?_
     rintro e' z' ⟨rfl,rfl⟩
     cases e' with
     |normal=>exact absurd hy (hne _)
     |exit id=>exact ⟨rfl,rfl⟩
     |ret=>exact ⟨rfl,rfl⟩
theorem iI (hT:Table P T) (h:A3 T k f as_=some r):Fn P f as_ r:=by
 unfold A3 at h
 split at h
 ·rename_i F hF
  obtain ⟨c1,c2⟩:=hT f F hF
  split at h
  ·rename_i hl
   split at h
   ·rename_i y hy
    exact fn_walk c1 hl ((A4 hT k F.n 0 F.code _ _ _ hy).cP fun e' z ⟨h1,h2⟩=>by subst h1;subst h2;exact ⟨.inl rfl,h⟩)
   ·rename_i y hy
    exact fn_walk c1 hl ((A4 hT k F.n 0 F.code _ _ _ hy).cP fun e' z ⟨h1,h2⟩=>by subst h1;subst h2;exact ⟨.inr rfl,h⟩)
   ·simp at h
  ·simp at h
 ·simp at h
end
end Go.Proofs.Ytimomnfobfjggaa
