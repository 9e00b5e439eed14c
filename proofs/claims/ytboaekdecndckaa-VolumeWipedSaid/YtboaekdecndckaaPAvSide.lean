/- Operations of which something must be shown: indices, divisions, parts of lists, appends; loops that are unrolled; memory that is put in order. No condition. -/
import Derived.Test.YtboaekdecndckaaPAvStr
import Derived.OrdersIn
import Derived.OwnWalkIn
import Derived.RangeFuncOwn
import Derived.RangeFuncLeaves
set_option linter.unusedSimpArgs false
set_option linter.unusedVariables false
namespace Go.Proofs.Ytboaekdecndckaa
open Go.RowKit
section
variable {P:Program} {E:Env} {J:Nat→Prop} {base:Nat} {g:Nat→Option Bk} {ρv:Operand→Value} {ρ:Arg→AV} {fresh:Nat}
theorem eqA_append {cs ds:List AV}:∀{L M:List (Nat×LK)} {b:Bool},eqA cs ds (L++M)=some b→∃x y,eqA cs ds L=some x∧eqA cs ds M=some y∧b=(x&&y)
 |[],M,b,h=>⟨true,b,rfl,h,by simp⟩
 |(o,k)::L,M,b,h=>by
  simp only [List.cons_append,eqA] at h ⊢
  split at h
  ·rename_i a c h1 h2
   split at h
   ·rename_i x y h3 h4
    obtain ⟨x',y',k1,k2,k3⟩:=eqA_append h4
    simp only [Option.some.injEq] at h
    refine ⟨x&&x',y', ?_,k2,by rw [←h,k3,Bool.and_assoc]⟩
    simp [h1,h2,h3,k1]
   ·simp at h
  ·simp at h
def partOf (P:Program) (t:TypeId) (vs:Array Value) (off:Nat):Value→Prop:=fun x=>
 match P.underlying t with
 |some (.struct _)=>∃n,szOf P t=some n∧off+n≤vs.size∧x= .agg (vs.extract off (off+n))
 |_=>vs[off]? =some x
theorem eq_run {vs ws:Array Value} {cs ds:List AV} (h1:RC E vs cs) (h2:RC E ws ds):∀(d:Nat) (t:TypeId) (off:Nat) (L:List (Nat×LK)) (b:Bool),leavesOf P d t off=some L→eqA cs ds L=some b→∀D,d≤D→∀x y,partOf P t vs off x→partOf P t ws off y→
  (Op.equalIn D t x y).run P E.w= .ok b E.w:=by
 intro d
 induction d with
 |zero=>intro t off L b hL;simp [leavesOf] at hL
 |succ d ih=>
  intro t off L b hL hb D hD x y hx hy
  obtain ⟨D,rfl⟩:∃D',D=D'+1:=⟨D - 1,by omega⟩
  simp only [leavesOf] at hL
  have leaf:∀k,L=[(off,k)]→vs[off]? =some x→ws[off]? =some y→∃a c,cs[off]? =some a∧ds[off]? =some c∧eqV k a c=some b∧Rep E x a∧Rep E y c:=by
   intro k hk hx hy
   subst hk
   simp only [eqA] at hb
   split at hb
   ·rename_i a c e1 e2
    split at hb
    ·rename_i u v e3 e4
     simp only [Option.some.injEq] at hb e4
     subst e4
     rw [Bool.and_true] at hb
     subst hb
     exact ⟨a,c,e1,e2,e3,h1.2 _ _ _ hx e1,h2.2 _ _ _ hy e2⟩
    ·simp at hb
   ·simp at hb
  split at hL
  ·rename_i k hu
   simp only [Option.some.injEq] at hL
   simp only [partOf,hu] at hx hy
   obtain ⟨a,c,e1,e2,e3,e4,e5⟩:=leaf .int hL.symm hx hy
   unfold eqV at e3
   split at e3<;>try (simp at e3;done)
   ·rename_i k1 m1 k2 m2 _
    split at e3
    ·rename_i hk;subst hk
     simp only [Option.some.injEq] at e3;subst e3
     cases e4;cases e5
     exact run_equalIn_int _ D t k1 k m1 m2 hu
    ·simp at e3
   all_goals (rename_i hk;simp at hk)
  ·rename_i hu
   simp only [Option.some.injEq] at hL
   simp only [partOf,hu] at hx hy
   obtain ⟨a,c,e1,e2,e3,e4,e5⟩:=leaf .str hL.symm hx hy
   unfold eqV at e3
   split at e3<;>try (simp at e3;done)
   all_goals try (rename_i hk;simp at hk;done)
   simp only [Option.some.injEq] at e3;subst e3
   cases e4;cases e5
   rw [strEq_eq]
   exact run_equalIn_string _ D t _ _ hu
  ·rename_i hu
   simp only [Option.some.injEq] at hL
   simp only [partOf,hu] at hx hy
   obtain ⟨a,c,e1,e2,e3,e4,e5⟩:=leaf .bool hL.symm hx hy
   unfold eqV at e3
   split at e3<;>try (simp at e3;done)
   all_goals try (rename_i hk;simp at hk;done)
   simp only [Option.some.injEq] at e3;subst e3
   cases e4;cases e5
   exact run_equalIn_bool' _ D t _ _ hu
  ·rename_i fs hu
   split at hL
   ·simp at hL
   ·rename_i hst
    split at hL
    ·rename_i n hn
     simp only [partOf,hu] at hx hy
     obtain ⟨nx,hnx,hlx,rfl⟩:=hx
     obtain ⟨ny,hny,hly,rfl⟩:=hy
     obtain rfl:n=nx:=by rw [hn] at hnx;simpa using hnx
     obtain rfl:n=ny:=by rw [hn] at hny;simpa using hny
     have hfo:P.fieldsOf t=fs:=by simp [Program.fieldsOf,hu]
     rw [run_equalIn_struct E.w D t _ _ (by rw [hfo];exact hu) (by simpa using hst),hfo]
     clear hfo hst leaf hu
     generalize fs.toList=l at hL
     induction l generalizing L b with
     |nil=>
      simp only [leavesF,Option.some.injEq] at hL
      subst hL
      simp only [eqA,Option.some.injEq] at hb
      subst hb
      rfl
     |cons f l ihl=>
      simp only [leavesF] at hL
      split at hL
      ·simp at hL
      ·rename_i hname
       split at hL
       ·rename_i k hk
        split at hL
        ·rename_i hfit
         split at hL
         ·rename_i La Lb ea eb
          simp only [Option.some.injEq] at hL
          subst hL
          obtain ⟨xa,xb,m1,m2,rfl⟩:=eqA_append hb
          have hp:∀(us:Array Value),off+n≤us.size→∃p,(part f.type (us.extract off (off+n)) f.offset).run P E.w= .ok p E.w∧partOf P f.type us (off+f.offset) p:=by
           intro us hus
           have hsz:=szOf_run hk E.w
           cases hd:P.underlying f.type with
           |none=>
            exfalso
            cases d with
            |zero=>simp [leavesOf] at ea
            |succ d=>simp [leavesOf,hd] at ea
           |some desc=>
            have scal:(isAgg f.type).run P E.w= .ok false E.w→(∀fs',desc≠ .struct fs')→0<k∨True→f.offset<n→∃p,(part f.type (us.extract off (off+n)) f.offset).run P E.w= .ok p E.w∧partOf P f.type us (off+f.offset) p:=by
             intro hag hne _ hlt
             have hg:(us.extract off (off+n))[f.offset]? =us[off+f.offset]? :=by
              rw [Array.getElem?_extract]
              simp;omega
             have hlt2:off+f.offset<us.size:=by omega
             refine ⟨us[off+f.offset], ?_, ?_⟩
             ·simp [part,hag,hg,Array.getElem?_eq_getElem hlt2]
             ·simp only [partOf,hd]
              cases desc<;>first|exact Array.getElem?_eq_getElem hlt2|exact absurd rfl (hne _)
            cases desc with
            |struct fs'=>
             refine ⟨_,by simp [part,isAgg,run_underlying hd,hsz];rfl, ?_⟩
             simp only [partOf,hd]
             refine ⟨k,hk,by omega, ?_⟩
             congr 1
             apply Array.ext_getElem?
             intro i
             simp only [Array.getElem?_extract]
             by_cases hi:i<k
             ·rw [if_pos (by omega),if_pos (by omega)]
              try rw [if_pos (by omega)]
              try (congr 1;omega)
             ·rw [if_neg (by omega),if_neg (by omega)]
            |int _=>exact scal (by simp [isAgg,run_underlying hd]) (fun fs' h=>by cases h) (.inr trivial) hfit.2
            |string=>exact scal (by simp [isAgg,run_underlying hd]) (fun fs' h=>by cases h) (.inr trivial) hfit.2
            |bool=>exact scal (by simp [isAgg,run_underlying hd]) (fun fs' h=>by cases h) (.inr trivial) hfit.2
            |_=>
             exfalso
             cases d with
             |zero=>simp [leavesOf] at ea
             |succ d=>simp [leavesOf,hd] at ea
          obtain ⟨p1,r1,q1⟩:=hp vs hlx
          obtain ⟨p2,r2,q2⟩:=hp ws hly
          have hrec:=ih f.type (off+f.offset) La xa ea m1 D (by omega) p1 p2 q1 q2
          have hrest:=ihl Lb xb m2 eb
          simp only [Op.eqFields]
          rw [if_pos hname]
          simp only [Sem.run_bind,r1,r2,hrec,Result.andThen_ok,Sem.run_ite]
          cases xa
          ·simp
          ·simp [hrest]
         ·simp at hL
        ·simp at hL
       ·simp at hL
    ·simp at hL
  ·simp at hL
theorem eqsOK (hm:MemAt E J base g) {neg:Bool} {op:BinOp} (hop:op=if neg then .neq else .eql) {t:TypeId} {n:Nat} {L:List (Nat×LK)} {fs:Array Field} (hu:P.underlying t=some (.struct fs)) (hn:szOf P t=some n) (hg:P.eqGuardType P.depth t=false) (hL:leavesOf P 8 t 0=some L) {vx vy:Value} {xo yo:Operand} {x y:Arg} (hvx:Rep E vx (ρ x)) (hvy:Rep E vy (ρ y))
  {val:AV} {ups:List (Nat×Option Bk)} (h:((AO.eqs neg n L x y).sem fresh ρ).run g=some (.done val ups)):
  OpOK E J base g ((do pure (Next.value (←(do eqGuard op t xo yo vx vy;binOp op t vx vy:Sem Value))):Sem Next).run P E.w) val ups:=by
 simp only [AO.sem] at h
 split at h
 ·rename_i cs ds h1 h2
  split at h
  case isFalse=>simp [RM.run] at h
  rename_i hlen
  cases hb:eqA cs ds L with
  |none=>simp [hb,RM.opt,RM.run] at h
  |some b=>
   simp [hb,RM.opt,RM.run] at h
   obtain ⟨rfl,rfl⟩:=h
   have s1:szOf P t=some cs.length:=by rw [hlen.1];exact hn
   have s2:szOf P t=some ds.length:=by rw [hlen.2];exact hn
   rw [h1] at hvx;rw [h2] at hvy
   cases hvx with
   | @agg xs _ l1 r1=>cases hvy with
    | @agg ys _ l2 r2=>
     have hrun:=eq_run (P:=P) (E:=E) ⟨l1,r1⟩ ⟨l2,r2⟩ 8 t 0 L b hL hb 10000 (by omega) (.agg xs) (.agg ys) (by
      simp only [partOf,hu];refine ⟨_,s1,by omega, ?_⟩;congr 1;rw [Nat.zero_add, ←l1];simp) (by
      simp only [partOf,hu];refine ⟨_,s2,by omega, ?_⟩;congr 1;rw [Nat.zero_add, ←l2];simp)
     cases neg with
     |false=>
      simp only [Bool.false_eq_true,if_false] at hop ⊢
      subst hop
      refine pureOK hm (v:= .bool b) ?_ (.v rfl)
      simp [run_eqGuard_agg E.w _ t xo yo xs ys hg,run_eql_struct,hrun]
     |true=>
      simp only [if_true] at hop ⊢
      subst hop
      refine pureOK hm (v:= .bool (!b)) ?_ (.v rfl)
      simp [run_eqGuard_agg E.w _ t xo yo xs ys hg,run_neq_struct,hrun]
 ·simp [RM.run] at h
theorem slsOK (ha:Args E ρv ρ) (hm:MemAt E J base g) {t:TypeId} (hu:P.underlying t=some .string) {x:Operand} {ax:Arg} (hx:cArg x=some ax) {lo hi:Option Operand} {alo ahi:Option Arg} (h1:cOptArg lo=some alo) (h2:cOptArg hi=some ahi)
  {val:AV} {ups:List (Nat×Option Bk)} (h:((AO.sls ax alo ahi).sem fresh ρ).run g=some (.done val ups)):
  OpOK E J base g ((do pure (Next.value (←Instr.sliceAt t (ρv x) (lo.map ρv) (hi.map ρv) none)):Sem Next).run P E.w) val ups:=by
 have hv:=ha x ax hx
 simp only [AO.sem] at h
 split at h
 ·rename_i nlo nhi s k1 k2 hx'
  cases hb:bounds s.size nlo nhi with
  |none=>simp [hb,RM.opt,RM.run] at h
  |some b=>
   simp [hb,RM.opt,RM.run] at h
   obtain ⟨rfl,rfl⟩:=h
   rw [hx'] at hv
   have hvx:ρv x= .string s:=by
    obtain ⟨vv,hvv⟩:∃vv,vv=ρv x:=⟨_,rfl⟩
    rw [←hvv] at hv ⊢
    cases hv with|v=>rfl
   have hbr:=bounds_run (P:=P) (E:=E) (isS:=false) (mx:=none) (amx:=none) (nmx:=none) ha (Nat.le_refl s.size) h1 h2 rfl k1 k2 rfl (by simp) hb (fun m hm=>by simp at hm)
   simp only [Option.map_none,Option.getD_none] at hbr
   refine pureOK hm (v:= .string (s.extract b.1 b.2)) ?_ (.v rfl)
   simp [hvx,Instr.sliceAt,Instr.slice,run_underlying hu,hbr]
 ·simp [RM.run] at h
theorem sixOK (hm:MemAt E J base g) {t:TypeId} (hu:P.underlying t=some .string) {v vi:Value} {x i:Arg} (hv:Rep E v (ρ x)) (hvi:Rep E vi (ρ i))
  {val:AV} {ups:List (Nat×Option Bk)} (h:((AO.six x i).sem fresh ρ).run g=some (.done val ups)):
  OpOK E J base g ((do pure (Next.value (←Instr.index t v vi)):Sem Next).run P E.w) val ups:=by
 simp only [AO.sem] at h
 split at h
 ·rename_i s n hx hn
  cases hb:s[n]? with
  |none=>simp [hb,RM.opt,RM.run] at h
  |some b=>
   simp [hb,RM.opt,RM.run] at h
   obtain ⟨rfl,rfl⟩:=h
   obtain ⟨k,rfl⟩:=natOf_rep hvi hn
   rw [hx] at hv
   cases hv with
   |v hp=>
    refine pureOK hm (v:= .int .u8 b.toNat) ?_ (.v rfl)
    simp [Instr.index,asIntOf,run_underlying hu,hb]
 ·simp [RM.run] at h
theorem resolve_value {f:FuncId} {caps:Array Value} {c:Call} {x:Operand} {ty:TypeId} (hc:c.callee= .value x) (hx:ρv x= .func (.func f) #[] caps) (w:World):
  (do let d←resolve ρv c ty;invoke d.target d.args:Sem Next).run P w=(callFunc f (c.args.map ρv++caps)).run P w:=by
 simp [resolve,hc,hx,Deferred.ofValue,invoke]
theorem resolve_bound {f:FuncId} {first:Array Value} {c:Call} {x:Operand} {ty:TypeId} (hc:c.callee= .value x) (hx:ρv x= .func (.func f) first #[]) (w:World):
  (do let d←resolve ρv c ty;invoke d.target d.args:Sem Next).run P w=(callFunc f (first++c.args.map ρv)).run P w:=by
 simp [resolve,hc,hx,Deferred.ofValue,invoke]
def callable (P:Program) (f:FuncId):Bool:=
 match P.funcs[f]? with
 |some fn=>fn.body.isSome&&fn.name != "runtime.NumGoroutine"
 |none=>false
theorem callFunc_run {f:FuncId} (h:callable P f=true) (args:Array Value) (w:World):(callFunc f args).run P w= .ok (.enter f args) w:=by
 unfold callable at h
 cases hf:P.funcs[f]? with
 |none=>simp [hf] at h
 |some fn=>
  simp only [hf,Bool.and_eq_true,bne_iff_ne,ne_eq] at h
  have hb:fn.body.isNone=false:=by cases hbb:fn.body<;>simp [hbb] at h ⊢
  simp only [callFunc,Sem.run_bind,run_program,Result.andThen_ok,hf,hb,Bool.false_eq_true,if_false]
  rw [if_neg (by simpa using h.2)]
  rfl
theorem Rep.v_inv {v a:Value} (h:Rep E v (.v a)):v=a:=by cases h;rfl
theorem optSome {x:Option Operand} {ax:Option Arg} (h:cOptArg x=some ax):ax.isSome=x.isSome:=by
 cases x with
 |none=>simp [cOptArg] at h;subst h;rfl
 |some o=>
  simp only [cOptArg] at h
  cases hc:cArg o<;>simp [hc] at h
  subst h;rfl
theorem noCall {ao:AO} (hn:∀x args,ao≠ .call x args) {f:FuncId} {as_:List AV}:(ao.sem fresh ρ).run g≠some (.call f as_):=by
 intro h
 have nodone:∀{α:Type} (m:Option α) (k:α→Out),(∀a,∀f as_,k a≠ .call f as_)→∀f as_,RM.run g (RM.opt (m.map k))=some (.call f as_)→False:=by
  intro α m k hk f as_ hh
  cases m with
  |none=>simp [RM.opt,RM.run] at hh
  |some a=>simp [RM.opt,RM.run] at hh;exact hk a _ _ hh
 have nobind:∀{α β:Type} (m:Option α) (k:α→Option β) (k2:β→Out),(∀a,∀f as_,k2 a≠ .call f as_)→∀f as_,RM.run g (RM.opt (m.bind fun x=>(k x).map k2))=some (.call f as_)→False:=by
  intro α β m k k2 hk f as_ hh
  cases m with
  |none=>simp [RM.opt,RM.run] at hh
  |some a=>simp only [Option.bind_some] at hh;exact nodone _ _ hk _ _ hh
 cases ao with
 |call x args=>exact hn x args rfl
 |app sz bytes s x=>
  simp only [AO.sem] at h
  obtain ⟨ys,_,h⟩:=bind_run h
  split at h
  ·split at h<;>simp [RM.run] at h
  ·split at h<;>simp [RM.run] at h
  ·simp only [RM.run] at h
   split at h
   ·split at h
    ·simp [RM.run] at h
    ·split at h<;>simp [RM.run] at h
   ·simp at h
  ·simp [RM.run] at h
 |clr zs x=>
  simp only [AO.sem] at h
  split at h
  ·simp [RM.run] at h
  ·simp only [RM.run] at h
   split at h
   ·split at h<;>simp [RM.run] at h
   ·simp at h
  ·simp [RM.run] at h
 |cpy sz x y=>
  simp only [AO.sem] at h
  obtain ⟨ys,_,h⟩:=bind_run h
  split at h
  ·simp only [RM.run] at h
   split at h
   ·split at h<;>simp [RM.run] at h
   ·simp at h
  ·simp [RM.run] at h
 |slc sz x lo hi mx=>
  simp only [AO.sem] at h
  split at h
  ·split at h
   ·split at h
    ·exact nobind _ _ _ (by simp) _ _ h
    ·simp [RM.run] at h
   ·split at h
    ·exact nobind _ _ _ (by simp) _ _ h
    ·simp [RM.run] at h
   ·generalize bounds 0 _ _=bb at h
    cases bb with
    |none=>simp [RM.opt,RM.run] at h
    |some b=>
     simp only [Option.bind_some] at h
     split at h<;>simp [RM.opt,RM.run] at h
   ·obtain ⟨B,_,h⟩:=lv_run h
    split at h
    ·split at h
     ·split at h
      ·simp [RM.run] at h
      ·simp only [RM.run] at h
       split at h
       ·split at h
        ·exact nodone _ _ (by simp) _ _ h
        ·simp [RM.run] at h
       ·simp at h
      ·simp [RM.run] at h
     ·simp [RM.run] at h
    ·simp only [RM.run] at h
     split at h
     ·split at h
      ·generalize bounds _ _ _=bb at h
       cases bb with
       |none=>simp [RM.opt,RM.run] at h
       |some b=>
        simp only [Option.bind_some] at h
        split at h<;>simp [RM.opt,RM.run] at h
      ·simp [RM.run] at h
     ·simp at h
   ·simp [RM.run] at h
  ·simp [RM.run] at h
 |mup kd x k y=>
  simp only [AO.sem] at h
  split at h
  ·simp only [RM.run] at h
   split at h
   ·split at h
    ·split at h<;>simp [RM.run] at h
    ·simp [RM.run] at h
   ·simp at h
  ·simp [RM.run] at h
 |mlk kd z x k=>
  simp only [AO.sem] at h
  split at h
  ·simp only [RM.run] at h
   split at h
   ·split at h
    ·exact nodone _ _ (by simp) _ _ h
    ·simp [RM.run] at h
   ·simp at h
  ·simp [RM.run] at h
 |b2s x=>
  simp only [AO.sem] at h
  obtain ⟨ys,_,h⟩:=bind_run h
  exact nodone _ _ (by simp) _ _ h
 |isn kd b x=>cases kd<;>simp only [AO.sem] at h<;>split at h<;>first|(simp [RM.run] at h;done)|(obtain ⟨B,_,h⟩:=lv_run h;simp [RM.run] at h)
 |len b x=>cases b<;>simp only [AO.sem] at h<;>split at h<;>first|(simp [RM.run] at h;done)|(obtain ⟨B,_,h⟩:=lv_run h;simp [RM.run] at h)
 |_=>
  simp only [AO.sem] at h
  first
  |(simp [RM.run] at h;done)
  |exact nodone _ _ (by simp) _ _ h
  |(split at h<;>first
    |(simp [RM.run] at h;done)
    |exact nodone _ _ (by simp) _ _ h
    |(obtain ⟨B,_,h⟩:=lv_run h;simp [RM.run] at h;done)
    |(split at h<;>first
      |(simp [RM.run] at h;done)
      |exact nodone _ _ (by simp) _ _ h
      |(obtain ⟨B,_,h⟩:=lv_run h;simp [RM.run] at h;done))
    |(simp only [RM.run] at h;split at h<;>first
      |(simp at h;done)
      |(split at h<;>first
        |(simp [RM.run] at h;done)
        |exact nodone _ _ (by simp) _ _ h
        |(split at h<;>simp [RM.run] at h))))
theorem cOp_call {o:Oper} {x:Arg} {args:List Arg} (hc:cOp P o=some (.call x args)):∃c y,o.op= .call c∧c.callee= .value y∧cArg y=some x∧cArgs c.args.toList=some args:=by
 obtain ⟨dst,op,type,pos,after,guard⟩:=o
 cases op with
 |call c=>
  simp only [cOp] at hc
  split at hc
  ·rename_i y hy
   split at hc
   ·rename_i ax al h1 h2
    simp only [Option.some.injEq,AO.call.injEq] at hc
    obtain ⟨rfl,rfl⟩:=hc
    exact ⟨c,y,rfl,hy,h1,h2⟩
   ·simp at hc
  all_goals exfalso
  all_goals (repeat' (first|(simp at hc;done)|split at hc))
 |makeFunc fn first caps=>
  exfalso
  cases fn<;>simp only [cOp] at hc
  all_goals (repeat' (first|(simp at hc;done)|split at hc))
 |mapUpdate t m k y=>
  exfalso
  simp only [cOp] at hc
  split at hc
  ·cases hk:keyT P _ with
   |none=>rw [hk] at hc;simp at hc
   |some kd=>rw [hk] at hc;simp at hc
  ·simp at hc
 |insert t m k y=>
  exfalso
  simp only [cOp] at hc
  split at hc
  ·cases hk:keyT P _ with
   |none=>rw [hk] at hc;simp at hc
   |some kd=>rw [hk] at hc;simp at hc
  ·simp at hc
 |_=>
  exfalso
  simp only [cOp] at hc
  all_goals (repeat' (first|(simp at hc;done)|split at hc))
theorem call_sound (ha:Args E ρv ρ) {o:Oper} {ao:AO} (hc:cOp P o=some ao) {f:FuncId} {as_:List AV} (h:(ao.sem fresh ρ).run g=some (.call f as_)) (hf:callable P f=true):
  ∃vs,(execOp ρv o).run P E.w= .ok (.enter f vs) E.w∧RC E vs as_:=by
 by_cases hn:∀x args,ao≠ .call x args
 ·exact absurd h (noCall hn)
 ·obtain ⟨x,args,rfl⟩:∃x args,ao= .call x args:=by
   simp only [ne_eq] at hn
   cases ao<;>first|exact ⟨_,_,rfl⟩|(exfalso;exact hn (by simp))
  obtain ⟨c,y,h1,h2,h3,h4⟩:=cOp_call hc
  simp only [AO.sem] at h
  split at h
  ·rename_i f' caps hx
   simp only [RM.run,Option.some.injEq,Out.call.injEq] at h
   obtain ⟨rfl,rfl⟩:=h
   have hv:=ha y x h3
   rw [hx] at hv
   obtain ⟨vv,hvv⟩:∃vv,vv=ρv y:=⟨_,rfl⟩
   rw [←hvv] at hv
   cases hv with
   | @fn _ us _ hl hr=>
    obtain ⟨al,ar⟩:=ha.list h4
    refine ⟨c.args.map ρv++us, ?_, ?_⟩
    ·unfold execOp
     simp only [h1]
     exact (resolve_value (caps:=us) h2 hvv.symm E.w).trans (callFunc_run hf _ _)
    ·refine ⟨by simp [hl];rw [←al];simp,fun j u a hu hc'=> ?_⟩
     have hcl:(c.args.map ρv).size=args.length:=by rw [←al];simp
     by_cases hj:j<args.length
     ·rw [Array.getElem?_append_left (by omega)] at hu
      rw [List.getElem?_append_left (by simpa using hj)] at hc'
      exact ar j u a (by simpa using hu) hc'
     ·rw [Array.getElem?_append_right (by omega),hcl] at hu
      rw [List.getElem?_append_right (by simpa using hj)] at hc'
      simp only [List.length_map] at hc'
      exact hr _ u a hu hc'
  ·rename_i f' caps hx
   simp only [RM.run,Option.some.injEq,Out.call.injEq] at h
   obtain ⟨rfl,rfl⟩:=h
   have hv:=ha y x h3
   rw [hx] at hv
   obtain ⟨vv,hvv⟩:∃vv,vv=ρv y:=⟨_,rfl⟩
   rw [←hvv] at hv
   cases hv with
   | @bf _ us _ hl hr=>
    obtain ⟨al,ar⟩:=ha.list h4
    refine ⟨us++c.args.map ρv, ?_, ?_⟩
    ·unfold execOp
     simp only [h1]
     exact (resolve_bound (first:=us) h2 hvv.symm E.w).trans (callFunc_run hf _ _)
    ·refine ⟨by simp [hl];rw [←al];simp,fun j u a hu hc'=> ?_⟩
     by_cases hj:j<us.size
     ·rw [Array.getElem?_append_left hj] at hu
      rw [List.getElem?_append_left (by omega)] at hc'
      exact hr _ u a hu hc'
     ·rw [Array.getElem?_append_right (by omega)] at hu
      rw [List.getElem?_append_right (by omega), ←hl] at hc'
      exact ar _ u a (by simpa using hu) hc'
  ·simp [RM.run] at h
theorem negOf_op {op:BinOp} {n:Bool} (h:negOf op=some n):op=if n then .neq else .eql:=by
 cases op<;>cases h<;>rfl
theorem equal_nil_slice {t e:TypeId} (hu:P.underlying t=some (.slice e)) (A:Option Addr) (n c:Nat) (w:World):(Op.equal t (.slice A n c) (.slice none 0 0)).run P w= .ok A.isNone w:=by
 show (Op.equalIn (9999+1) t _ _).run P w=_
 unfold Op.equalIn
 cases A<;>simp [run_underlying hu]
theorem equal_nil_ptr {t e:TypeId} (hu:P.underlying t=some (.pointer e)) (A:Option Addr) (w:World):(Op.equal t (.pointer A) (.pointer none)).run P w= .ok A.isNone w:=by
 show (Op.equalIn (9999+1) t _ _).run P w=_
 unfold Op.equalIn
 cases A<;>simp [run_underlying hu]
theorem equal_nil_fn {t:TypeId} {a1 a2 a3} (hu:P.underlying t=some (.func a1 a2 a3)) (f:Go.Fn) (x y:Array Value) (w:World):(Op.equal t (.func f x y) .nilFunc).run P w= .ok false w:=by
 show (Op.equalIn (9999+1) t _ _).run P w=_
 unfold Op.equalIn
 simp [run_underlying hu]
theorem equal_nil_fn0 {t:TypeId} {a1 a2 a3} (hu:P.underlying t=some (.func a1 a2 a3)) (w:World):(Op.equal t .nilFunc .nilFunc).run P w= .ok true w:=by
 show (Op.equalIn (9999+1) t _ _).run P w=_
 unfold Op.equalIn
 simp [run_underlying hu]
theorem isnOK (hm:MemAt E J base g) (hcst:∀v,ρv (.const v)=v) {op:BinOp} {t:TypeId} {xo y:Operand} {q:NK×Bool} (hn:nilC P t op y=some q) {x:Arg} (hv:Rep E (ρv xo) (ρ x)) {val:AV} {ups:List (Nat×Option Bk)}
  (h:((AO.isn q.1 q.2 x).sem fresh ρ).run g=some (.done val ups)):OpOK E J base g ((do pure (Next.value (←(do eqGuard op t xo y (ρv xo) (ρv y);binOp op t (ρv xo) (ρv y)))):Sem Next).run P E.w) val ups:=by
 obtain ⟨vx,hvx⟩:∃vx,vx=ρv xo:=⟨_,rfl⟩
 rw [←hvx] at hv ⊢
 unfold nilC at hn
 split at hn
 ·-- slices
  rename_i e hu
  rw [hcst]
  cases hng:negOf op with
  |none=>simp [hng] at hn
  |some neg=>
   simp only [hng,Option.map_some,Option.some.injEq] at hn
   subst hn
   have hop:=negOf_op hng
   have run:∀A n c,vx= .slice A n c→(do pure (Next.value (←(do eqGuard op t xo (.const (.slice none 0 0)) vx (.slice none 0 0);binOp op t vx (.slice none 0 0)))):Sem Next).run P E.w= .ok (.value (.bool (A.isNone !=neg))) E.w:=by
    rintro A n c rfl
    cases neg<;>simp only [if_true,Bool.false_eq_true,if_false] at hop<;>subst hop<;>cases A<;>simp [eqGuard,binOp,equal_nil_slice hu]
   have some':∀A n c,vx= .slice (some A) n c→∀{v},v=AV.v (.bool neg)→OpOK E J base g ((do pure (Next.value (←(do eqGuard op t xo (.const (.slice none 0 0)) vx (.slice none 0 0);binOp op t vx (.slice none 0 0)))):Sem Next).run P E.w) v []:=by
    intro A n c hA v hv
    subst hv
    refine pureOK hm (v:= .bool neg) ?_ (.v rfl)
    rw [run _ _ _ hA];cases neg<;>rfl
   have any':∀A n c,vx= .slice A n c→OpOK E J base g ((do pure (Next.value (←(do eqGuard op t xo (.const (.slice none 0 0)) vx (.slice none 0 0);binOp op t vx (.slice none 0 0)))):Sem Next).run P E.w) .anyb []:=by
    intro A n c hA
    exact pureOK hm (v:= .bool (A.isNone !=neg)) (run _ _ _ hA) .anyb
   have lst:∀sz els,Rep E vx (.lst sz els)→val=(if els.isEmpty=true then .anyb else .v (.bool neg))→ups=[]→OpOK E J base g ((do pure (Next.value (←(do eqGuard op t xo (.const (.slice none 0 0)) vx (.slice none 0 0);binOp op t vx (.slice none 0 0)))):Sem Next).run P E.w) val ups:=by
    rintro sz els hr rfl rfl
    cases hr with
    |lst0 hc=>exact any' _ _ _ rfl
    |lst1 u hn hl hc=>
     by_cases he:els.isEmpty=true
     ·rw [if_pos he];exact any' _ _ _ rfl
     ·rw [if_neg he];exact some' _ _ _ rfl rfl
   simp only [AO.sem] at h
   split at h
   ·rename_i sz els hx
    simp only [RM.run,Option.some.injEq,Out.done.injEq] at h
    rw [hx] at hv
    exact lst sz els hv h.1.symm h.2.symm
   ·rename_i sz els hx
    simp only [RM.run,Option.some.injEq,Out.done.injEq] at h
    rw [hx] at hv
    cases hv with
    |tls hv=>exact lst sz els hv h.1.symm h.2.symm
   ·rename_i hx
    simp only [RM.run,Option.some.injEq,Out.done.injEq] at h
    obtain ⟨rfl,rfl⟩:=h
    rw [hx] at hv
    cases hv with
    |emp=>exact any' _ _ _ rfl
   ·rename_i id sz off n hx
    obtain ⟨B,hB,h⟩:=lv_run h
    simp only [RM.run,Option.some.injEq,Out.done.injEq] at h
    obtain ⟨rfl,rfl⟩:=h
    rw [hx] at hv
    cases hv with
    |own hi hd hb hq hs hmm hl hc=>
     by_cases h0:n=0
     ·rw [if_pos h0];exact any' _ _ _ rfl
     ·rw [if_neg h0];exact some' _ _ _ rfl rfl
    |own0 hi hd hb=>rw [if_pos rfl];exact any' _ _ _ rfl
    |staleO hi hd=>exact absurd hd (alive hm hB)
   ·simp [RM.run] at h
 ·-- functions
  rename_i a1 a2 a3 hu
  rw [hcst]
  cases hng:negOf op with
  |none=>simp [hng] at hn
  |some neg=>
   simp only [hng,Option.map_some,Option.some.injEq] at hn
   subst hn
   have hop:=negOf_op hng
   simp only [AO.sem] at h
   split at h
   ·rename_i f cs hx
    simp only [RM.run,Option.some.injEq,Out.done.injEq] at h
    obtain ⟨rfl,rfl⟩:=h
    rw [hx] at hv
    cases hv with
    |fn hl hh=>
     refine pureOK hm (v:= .bool neg) ?_ (.v rfl)
     cases neg<;>simp only [if_true,Bool.false_eq_true,if_false] at hop<;>subst hop<;>simp [eqGuard,binOp,equal_nil_fn hu,equal_nil_fn0 hu]
   ·rename_i f cs hx
    simp only [RM.run,Option.some.injEq,Out.done.injEq] at h
    obtain ⟨rfl,rfl⟩:=h
    rw [hx] at hv
    cases hv with
    |bf hl hh=>
     refine pureOK hm (v:= .bool neg) ?_ (.v rfl)
     cases neg<;>simp only [if_true,Bool.false_eq_true,if_false] at hop<;>subst hop<;>simp [eqGuard,binOp,equal_nil_fn hu,equal_nil_fn0 hu]
   ·rename_i hx
    simp only [RM.run,Option.some.injEq,Out.done.injEq] at h
    obtain ⟨rfl,rfl⟩:=h
    rw [hx] at hv
    have:=hv.v_inv
    subst this
    refine pureOK hm (v:= .bool !neg) ?_ (.v rfl)
    cases neg<;>simp only [if_true,Bool.false_eq_true,if_false] at hop<;>subst hop<;>simp [eqGuard,binOp,equal_nil_fn hu,equal_nil_fn0 hu]
   ·simp [RM.run] at h
 ·-- addresses
  rename_i e hu
  rw [hcst]
  cases hng:negOf op with
  |none=>simp [hng] at hn
  |some neg=>
   simp only [hng,Option.map_some,Option.some.injEq] at hn
   subst hn
   have hop:=negOf_op hng
   have run:∀A,vx= .pointer A→(do pure (Next.value (←(do eqGuard op t xo (.const (.pointer none)) vx (.pointer none);binOp op t vx (.pointer none)))):Sem Next).run P E.w= .ok (.value (.bool (A.isNone !=neg))) E.w:=by
    rintro A rfl
    cases neg<;>simp only [if_true,Bool.false_eq_true,if_false] at hop<;>subst hop<;>cases A<;>simp [eqGuard,binOp,equal_nil_ptr hu]
   simp only [AO.sem] at h
   split at h
   ·rename_i id sz i o hx
    obtain ⟨B,hB,h⟩:=lv_run h
    simp only [RM.run,Option.some.injEq,Out.done.injEq] at h
    obtain ⟨rfl,rfl⟩:=h
    rw [hx] at hv
    cases hv with
    |ref hi hd hb hq=>
     refine pureOK hm (v:= .bool neg) ?_ (.v rfl)
     rw [run _ rfl];cases neg<;>rfl
    |staleR hi hd=>exact absurd hd (alive hm hB)
   ·rename_i cs o hx
    simp only [RM.run,Option.some.injEq,Out.done.injEq] at h
    obtain ⟨rfl,rfl⟩:=h
    rw [hx] at hv
    cases hv with
    |pim u hb hq hu2 hr1 hr=>
     refine pureOK hm (v:= .bool neg) ?_ (.v rfl)
     rw [run _ rfl];cases neg<;>rfl
   ·rename_i hx
    simp only [RM.run,Option.some.injEq,Out.done.injEq] at h
    obtain ⟨rfl,rfl⟩:=h
    rw [hx] at hv
    have:=hv.v_inv
    refine pureOK hm (v:= .bool !neg) ?_ (.v rfl)
    rw [run _ this];cases neg<;>rfl
   ·simp [RM.run] at h
 ·simp at hn
theorem op_sound (ha:Args E ρv ρ) (hcst:∀v,ρv (.const v)=v) (hm:MemAt E J base g) (hf:¬E.kn fresh) {o:Oper} {ao:AO} (hc:cOp P o=some ao) {val:AV} {ups:List (Nat×Option Bk)} (h:(ao.sem fresh ρ).run g=some (.done val ups)):
  OpOK E J base g ((execOp ρv o).run P E.w) val ups:=by
 obtain ⟨dst,op,type,pos,after,guard⟩:=o
 have omap:∀{α β:Type} {m:Option α} {k:α→β} {y:β},m.map k=some y→∃x,m=some x∧k x=y:=by
  intro α β m k y h
  cases m with
  |none=>simp at h
  |some a=>exact ⟨a,rfl,by simpa using h⟩
 have mov:∀x ax,cArg x=some ax→((AO.mov ax).sem fresh ρ).run g=some (.done val ups)→∀r,r= .ok (.value (ρv x)) E.w→OpOK E J base g r val ups:=by
  intro x ax h1 h2 r hr
  simp only [AO.sem,RM.run,Option.some.injEq,Out.done.injEq] at h2
  obtain ⟨rfl,rfl⟩:=h2
  exact pureOK hm hr (ha x ax h1)
 cases op with
 |move x=>simp only [cOp] at hc;obtain ⟨ax,h1,rfl⟩:=omap hc;exact mov x ax h1 h _ rfl
 |assign x=>simp only [cOp] at hc;obtain ⟨ax,h1,rfl⟩:=omap hc;exact mov x ax h1 h _ rfl
 |pick c a b=>
  simp only [cOp] at hc
  split at hc
  ·rename_i ac aa ab h1 h2 h3
   simp only [Option.some.injEq] at hc;subst hc
   simp only [AO.sem] at h
   split at h
   ·rename_i t ht
    simp only [RM.run,Option.some.injEq,Out.done.injEq] at h
    obtain ⟨rfl,rfl⟩:=h
    have hv:=ha c ac h1
    rw [ht] at hv
    obtain ⟨vv,hvv⟩:∃vv,vv=ρv c:=⟨_,rfl⟩
    rw [←hvv] at hv
    cases hv with
    |v hp=>
     refine pureOK hm (v:=if t then ρv a else ρv b) ?_ ?_
     ·unfold execOp
      simp only [←hvv]
      cases t<;>simp [asBool]
     ·cases t
      ·exact ha b ab h3
      ·exact ha a aa h2
   ·simp [RM.run] at h
  ·simp at hc
 |alloc t=>
  simp only [cOp] at hc
  split at hc
  ·rename_i zs h1
   split at hc
   ·rename_i hz0
    simp only [Option.some.injEq] at hc;subst hc
    simp only [AO.sem,RM.run,Option.some.injEq,Out.done.injEq] at h
    obtain ⟨rfl,rfl⟩:=h
    exact newOK hm hf h1 hz0
   ·simp at hc
  ·simp at hc
 |panic x=>
  simp only [cOp,Option.some.injEq] at hc
  subst hc
  simp [AO.sem,RM.run] at h
 |makeInterface t x=>
  simp only [cOp,Option.some.injEq] at hc
  subst hc
  simp [AO.sem,RM.run] at h
 |makeMap t r=>
  simp only [cOp] at hc
  split at hc
  ·rename_i kt et h1
   simp only [Option.some.injEq] at hc;subst hc
   simp only [AO.sem,RM.run,Option.some.injEq,Out.done.injEq] at h
   obtain ⟨rfl,rfl⟩:=h
   exact mkmOK hm hf h1 (.inl rfl)
  ·rename_i kt et k n h1
   simp only [Option.some.injEq] at hc;subst hc
   simp only [AO.sem,RM.run,Option.some.injEq,Out.done.injEq] at h
   obtain ⟨rfl,rfl⟩:=h
   have:=mkmOK (P:=P) (r:=some (ρv (.const (.int k n)))) hm hf h1 (.inr ⟨k,n,by rw [hcst]⟩)
   exact this
  ·simp at hc
 |mapUpdate t x k y=>
  simp only [cOp] at hc
  split at hc
  ·rename_i kt et ax ak ay h1 h2 h3 h4
   obtain ⟨kd,h5,rfl⟩:=omap hc
   exact mupOK hm h1 h5 (ha x ax h2) (ha k ak h3) (ha y ay h4) h
  ·simp at hc
 |insert t x k y=>
  simp only [cOp] at hc
  split at hc
  ·rename_i kt et ax ak ay h1 h2 h3 h4
   obtain ⟨kd,h5,rfl⟩:=omap hc
   exact mupOK hm h1 h5 (ha x ax h2) (ha k ak h3) (ha y ay h4) h
  ·simp at hc
 |lookup t x k ok=>
  simp only [cOp] at hc
  split at hc
  ·rename_i kt et ax ak h1 h2 h3
   split at hc
   ·rename_i hok
    subst hok
    split at hc
    ·rename_i z kd h4 h5
     simp only [Option.some.injEq] at hc;subst hc
     exact mlkOK hm h1 h5 h4 (ha x ax h2) (ha k ak h3) h
    ·simp at hc
   ·simp at hc
  ·simp at hc
 |box t x=>
  simp only [cOp] at hc
  split at hc
  ·rename_i n ax h1 h2
   split at hc
   ·rename_i hz0
    simp only [Option.some.injEq] at hc;subst hc
    simp only [AO.sem] at h
    split at h
    ·rename_i hcond
     simp only [RM.run,Option.some.injEq,Out.done.injEq] at h
     obtain ⟨rfl,rfl⟩:=h
     exact boxOK hm hf (ha x ax h2) hcond.1 hcond.2 hz0
    ·simp [RM.run] at h
   ·simp at hc
  ·simp at hc
 |build t parts=>
  simp only [cOp] at hc
  split at hc
  ·rename_i zs fields h1 h2
   split at hc
   ·rename_i places h3
    obtain ⟨as_,h4,rfl⟩:=omap hc
    refine aggOK ha hm h1 h4 (fun z i hi hz ps=> ?_) h
    unfold placesOf at h3
    simp only [Program.built,hi,h2,hz,h3]
   ·simp at hc
  ·rename_i zs k e h1 h2
   split at hc
   ·rename_i sz h3
    obtain ⟨as_,h4,rfl⟩:=omap hc
    refine aggOK ha hm h1 h4 (fun z i hi hz ps=> ?_) h
    unfold szOf at h3
    obtain ⟨ie,hie,hs⟩:=omap h3
    simp only [Program.built,hi,h2,hz,hie,hs]
   ·simp at hc
  ·simp at hc
 |buildSlice t len parts=>
  simp only [cOp] at hc
  split at hc
  ·rename_i e h1
   split at hc
   ·rename_i zs h2
    split at hc
    ·rename_i hcond
     obtain ⟨as_,h3,rfl⟩:=omap hc
     exact bslOK ha hm hf h1 h2 hcond.1 hcond.2 h3 h
    ·simp at hc
   ·simp at hc
  ·simp at hc
 |load t x=>
  simp only [cOp] at hc
  split at hc
  ·rename_i m ax h1 h2
   simp only [Option.some.injEq] at hc;subst hc
   exact loadOK hm h1 (ha x ax h2) h
  ·simp at hc
 |store t x y=>
  simp only [cOp] at hc
  split at hc
  ·rename_i n ax ay h1 h2 h3
   simp only [Option.some.injEq] at hc;subst hc
   exact storeOK hm h1 (ha x ax h2) (ha y ay h3) h
  ·simp at hc
 |nilCheck x=>simp only [cOp] at hc;obtain ⟨ax,h1,rfl⟩:=omap hc;exact nilcOK hm (ha x ax h1) rfl rfl h
 |binOp op t x y yt=>
  simp only [cOp] at hc
  split at hc
  ·rename_i q hnc
   obtain ⟨ax,h1,rfl⟩:=omap hc
   exact isnOK hm hcst hnc (ha x ax h1) h
  rename_i hnc
  clear hnc
  split at hc
  ·rename_i ax ay h1 h2
   split at hc
   ·simp only [Option.some.injEq] at hc;subst hc
    simp only [AO.sem] at h
    split at h
    ·rename_i a b hx hy
     cases hb:binA (boolT P t) op a b with
     |none=>simp [hb,RM.opt,RM.run] at h
     |some v=>
      simp [hb,RM.opt,RM.run] at h
      obtain ⟨rfl,rfl⟩:=h
      have hvx:=ha x ax h1
      have hvy:=ha y ay h2
      rw [hx] at hvx;rw [hy] at hvy
      have ex:ρv x=a:=hvx.v_inv
      have ey:ρv y=b:=hvy.v_inv
      obtain ⟨r1,r2⟩:=binA_run (P:=P) (x:=x) (y:=y) hb E.w
      refine pureOK hm (v:=v) ?_ (.v r2)
      show (do pure (Next.value (←(do eqGuard op t x y (ρv x) (ρv y);binOp op t (ρv x) (ρv y)))):Sem Next).run P E.w=_
      rw [ex,ey,Sem.run_bind,r1]
      rfl
    ·simp [RM.run] at h
   ·split at hc
    ·simp at hc
    ·rename_i hg
     split at hc
     ·rename_i fs L n hu hL hn
      simp only [Option.some.injEq] at hc;subst hc
      exact eqsOK hm (by simp) hu hn (by simpa using hg) hL (ha x ax h1) (ha y ay h2) h
     ·rename_i fs L n hu hL hn
      simp only [Option.some.injEq] at hc;subst hc
      exact eqsOK hm (by simp) hu hn (by simpa using hg) hL (ha x ax h1) (ha y ay h2) h
     ·simp at hc
  ·simp at hc
 |unOp op t x=>
  simp only [cOp] at hc;obtain ⟨ax,h1,rfl⟩:=omap hc
  simp only [AO.sem] at h
  split at h
  ·rename_i a hx
   cases hb:unA op a with
   |none=>simp [hb,RM.opt,RM.run] at h
   |some v=>
    simp [hb,RM.opt,RM.run] at h
    obtain ⟨rfl,rfl⟩:=h
    have hvx:=ha x ax h1
    rw [hx] at hvx
    have ex:ρv x=a:=hvx.v_inv
    obtain ⟨r1,r2⟩:=unA_run (P:=P) hb E.w
    refine pureOK hm (v:=v) ?_ (.v r2)
    show (do pure (Next.value (←Op.unary op (ρv x))):Sem Next).run P E.w=_
    rw [ex,Sem.run_bind,r1]
    rfl
  ·simp [RM.run] at h
 |convert s d x=>
  simp only [cOp] at hc
  split at hc
  ·rename_i k1 k ax h1 h2 h3
   simp only [Option.some.injEq] at hc;subst hc
   simp only [AO.sem] at h
   split at h
   ·rename_i k0 n hx
    simp only [RM.run,Option.some.injEq,Out.done.injEq] at h
    obtain ⟨rfl,rfl⟩:=h
    have hvx:=ha x ax h3
    rw [hx] at hvx
    have ex:ρv x= .int k0 n:=hvx.v_inv
    refine pureOK hm (v:= .int k (k.wrap n)) ?_ (.v rfl)
    show (do pure (Next.value (←convert s d (ρv x))):Sem Next).run P E.w=_
    rw [ex]
    simp [convert,run_underlying h1,run_underlying h2,Conv.intToInt]
   ·simp [RM.run] at h
  ·rename_i e ax h1 h2 h3
   split at hc
   ·rename_i h4
    simp only [Option.some.injEq] at hc;subst hc
    exact b2sOK hm h1 h2 h4 (ha x ax h3) h
   ·simp at hc
  ·rename_i e ax h1 h2 h3
   split at hc
   ·rename_i h4
    simp only [Option.some.injEq] at hc;subst hc
    exact s2bOK hm hf h1 h2 h4 (ha x ax h3) h
   ·simp at hc
  ·simp at hc
 |fieldAddr s x f=>
  simp only [cOp] at hc
  split at hc
  ·rename_i fields ax h1 h2
   split at hc
   ·rename_i fd h3
    split at hc
    ·simp at hc
    ·rename_i hcond
     simp only [Option.some.injEq] at hc;subst hc
     cases hz:szOf P fd.type with
     |none=>simp [hz] at hcond
     |some n=>exact fadOK hm (ha x ax h2) h1 h3 hz (by rw [hz] at hcond;simpa using hcond) h
   ·simp at hc
  ·simp at hc
 |field s x f=>
  simp only [cOp] at hc
  split at hc
  ·rename_i fields ax h1 h2
   split at hc
   ·rename_i fd h3
    obtain ⟨m,h4,rfl⟩:=omap hc
    exact fldOK hm (ha x ax h2) h1 h3 h4 h
   ·simp at hc
  ·simp at hc
 |indexAddr t x i=>
  simp only [cOp] at hc
  split at hc
  ·rename_i e ax ai h1 h2 h3
   split at hc
   ·rename_i sz h4
    split at hc
    ·rename_i hpos
     simp only [Option.some.injEq] at hc;subst hc
     exact iadOK hm (ha x ax h2) (ha i ai h3) h1 h4 hpos h
    ·simp at hc
   ·simp at hc
  ·rename_i len e ax ai h1 h2 h3
   split at hc
   ·rename_i sz h4
    split at hc
    ·rename_i hpos
     simp only [Option.some.injEq] at hc;subst hc
     exact iapOK hm (ha x ax h2) (ha i ai h3) h1 h4 h
    ·simp at hc
   ·simp at hc
  ·simp at hc
 |index t x i=>
  simp only [cOp] at hc
  split at hc
  ·rename_i ax ai h1 h2 h3
   simp only [Option.some.injEq] at hc;subst hc
   exact sixOK hm h1 (ha x ax h2) (ha i ai h3) h
  ·rename_i len e ax ai h1 h2 h3
   split at hc
   ·rename_i sz m h4 h5
    simp only [Option.some.injEq] at hc;subst hc
    exact ixaOK hm (ha x ax h2) (ha i ai h3) h1 h4 h5 h
   ·simp at hc
  ·simp at hc
 |extract x i=>simp only [cOp] at hc;obtain ⟨ax,h1,rfl⟩:=omap hc;exact extOK hm (ha x ax h1) h
 |makeSlice t l c=>
  simp only [cOp] at hc
  split at hc
  ·rename_i e al ac h1 h2 h3
   split at hc
   ·rename_i zs i h4 h5
    split at hc
    ·rename_i hcond
     simp only [Option.some.injEq] at hc;subst hc
     exact mslOK hm hf h1 h4 h5 hcond.1 hcond.2 (ha l al h2) (ha c ac h3) h
    ·simp at hc
   ·simp at hc
  ·simp at hc
 |slice t x lo hi mx=>
  simp only [cOp] at hc
  split at hc
  ·rename_i e ax alo ahi amx h1 h2 h3 h4 h5
   split at hc
   ·rename_i sz h6
    split at hc
    ·rename_i hcond
     simp only [Option.some.injEq] at hc;subst hc
     exact slcOK ha hm h1 h6 h2 h3 h4 h5 (fun hh=>by rw [←optSome h4];exact hcond.2 (by rw [optSome h5];exact hh)) h
    ·simp at hc
   ·simp at hc
  ·rename_i ax alo ahi h1 h2 h3 h4 h5
   simp only [Option.some.injEq] at hc;subst hc
   have hmx:mx=none:=by cases mx<;>simp [cOptArg] at h5 ⊢
   subst hmx
   exact slsOK ha hm h1 h2 h3 h4 h
  ·simp at hc
 |makeFunc fn first caps=>
  cases fn with
  |func f=>
   simp only [cOp] at hc
   split at hc
   ·rename_i hfirst
    obtain ⟨l,h1,rfl⟩:=omap hc
    simp only [AO.sem,RM.run,Option.some.injEq,Out.done.injEq] at h
    obtain ⟨rfl,rfl⟩:=h
    obtain ⟨e1,e2⟩:=ha.list h1
    have hf0:first= #[]:=by simpa using hfirst
    subst hf0
    refine pureOK hm (v:= .func (.func f) #[] (caps.map ρv)) (by simp [execOp,Instr.makeFunc]) (.fn (by simp;rw [←e1];simp) (fun i v c hv hc=>e2 i v c (by simpa using hv) hc))
   ·split at hc
    ·rename_i _ hcaps
     obtain ⟨l,h1,rfl⟩:=omap hc
     simp only [AO.sem,RM.run,Option.some.injEq,Out.done.injEq] at h
     obtain ⟨rfl,rfl⟩:=h
     obtain ⟨e1,e2⟩:=ha.list h1
     have hf0:caps= #[]:=by simpa using hcaps
     subst hf0
     refine pureOK hm (v:= .func (.func f) (first.map ρv) #[]) (by simp [execOp,Instr.makeFunc]) (.bf (by simp;rw [←e1];simp) (fun i v c hv hc=>e2 i v c (by simpa using hv) hc))
    ·simp at hc
  |_=>simp [cOp] at hc
 |call c=>
  by_cases hcall:∃x args,ao= .call x args
  ·obtain ⟨x,args,rfl⟩:=hcall
   simp only [AO.sem] at h
   split at h<;>simp [RM.run] at h
  ·simp only [cOp] at hc
   split at hc
   ·split at hc
    ·simp only [Option.some.injEq] at hc;exact absurd ⟨_,_,hc.symm⟩ hcall
    ·simp at hc
   all_goals rename_i hcal
   all_goals try (simp at hc;done)
   ·split at hc
    ·rename_i x t hargs hty
     have hcargs:c.args= #[x]:=by apply Array.toList_inj.1;rw [hargs]
     have hexec:∀b,c.callee= .builtin b→b= .len→(execOp ρv ⟨dst, .call c,type,pos,after,guard⟩).run P E.w=(do pure (Next.value (←Builtin.len_ c.argTypes type #[ρv x])):Sem Next).run P E.w:=by
      intro b hb hl;subst hl
      simp [execOp,resolve,hb,invoke,builtin,hcargs]
     have htypes:∀v ty,(Builtin.len_ c.argTypes ty #[v])=Builtin.len_ #[t] ty #[v]:=by
      intro v ty
      simp [Builtin.len_,hty]
     rw [hexec _ hcal rfl,htypes]
     split at hc
     ·rename_i e hu
      obtain ⟨ax,h1,rfl⟩:=omap hc
      exact lenOK hm (by simp;exact ⟨e,hu⟩) (ha x ax h1) type h
     ·rename_i hu
      obtain ⟨ax,h1,rfl⟩:=omap hc
      exact lenOK hm (by simp;exact hu) (ha x ax h1) type h
     ·simp at hc
    ·simp at hc
   ·split at hc
    ·rename_i s x t u hargs hty
     split at hc
     ·rename_i htu
      subst htu
      split at hc
      ·rename_i e as_ ax h1 h2 h3
       split at hc
       ·rename_i zs i h4 h5
        split at hc
        ·rename_i hcond
         simp only [Option.some.injEq] at hc;subst hc
         have hcargs:c.args= #[s,x]:=by apply Array.toList_inj.1;rw [hargs]
         have hctys:c.argTypes= #[t,t]:=by apply Array.toList_inj.1;rw [hty]
         have:=appOK (P:=P) (ty:=type) hm hf h1 h4 h5 hcond.1 hcond.2 (ha s as_ h2) (ha x ax h3) h
         have hexec:(execOp ρv ⟨dst, .call c,type,pos,after,guard⟩).run P E.w=(do pure (Next.value (←Builtin.append_ #[t,t] type #[ρv s,ρv x])):Sem Next).run P E.w:=by
          simp [execOp,resolve,hcal,invoke,builtin,hcargs,hctys]
         rw [hexec];exact this
        ·simp at hc
       ·simp at hc
      ·simp at hc
     ·simp at hc
    ·simp at hc
   ·split at hc
    ·rename_i x t hargs hty
     split at hc
     ·rename_i e ax h1 h2
      split at hc
      ·rename_i zs h4
       split at hc
       ·rename_i hcond
        simp only [Option.some.injEq] at hc;subst hc
        have hcargs:c.args= #[x]:=by apply Array.toList_inj.1;rw [hargs]
        have:=clrOK (P:=P) (ty:=type) hm h1 h4 hcond (ha x ax h2) h
        have hexec:(execOp ρv ⟨dst, .call c,type,pos,after,guard⟩).run P E.w=(do pure (Next.value (←Builtin.clear_ #[t] type #[ρv x])):Sem Next).run P E.w:=by
         simp [execOp,resolve,hcal,invoke,builtin,hcargs,Builtin.clear_,hty]
        rw [hexec];exact this
       ·simp at hc
      ·simp at hc
     ·simp at hc
    ·simp at hc
   ·split at hc
    ·rename_i x y t hargs hty
     split at hc
     ·rename_i e ax ay h1 h2 h3
      split at hc
      ·rename_i sz h4
       split at hc
       ·rename_i hcond
        simp only [Option.some.injEq] at hc;subst hc
        have hcargs:c.args= #[x,y]:=by apply Array.toList_inj.1;rw [hargs]
        have:=cpyOK (P:=P) (ty:=type) (u:=t) hm h1 h4 hcond (ha x ax h2) (ha y ay h3) h c.argTypes hty
        have hexec:(execOp ρv ⟨dst, .call c,type,pos,after,guard⟩).run P E.w=(do pure (Next.value (←Builtin.copy_ c.argTypes type #[ρv x,ρv y])):Sem Next).run P E.w:=by
         simp [execOp,resolve,hcal,invoke,builtin,hcargs]
        rw [hexec];exact this
       ·simp at hc
      ·simp at hc
     ·simp at hc
    ·simp at hc
   all_goals
    split at hc
    ·rename_i x y hargs
     split at hc
     ·rename_i ax ay h1 h2
      simp only [Option.some.injEq] at hc;subst hc
      have hcargs:c.args= #[x,y]:=by apply Array.toList_inj.1;rw [hargs]
      simp only [AO.sem] at h
      split at h
      ·rename_i a b hx hy
       obtain ⟨mx,mb,hmx,hmb,h⟩:∃mx mb,(mx=false∧c.callee= .builtin .min∨mx=true∧c.callee= .builtin .max)∧minmaxA mx a b=mb∧RM.run g (RM.opt (Option.map (fun v=>Out.done (AV.v v) []) mb))=some (Out.done val ups):=by
        first
        |exact ⟨false,_, .inl ⟨rfl,hcal⟩,rfl,h⟩
        |exact ⟨true,_, .inr ⟨rfl,hcal⟩,rfl,h⟩
       cases mb with
       |none=>simp [RM.opt,RM.run] at h
       |some v=>
        simp [RM.opt,RM.run] at h
        obtain ⟨rfl,rfl⟩:=h
        have hvx:=ha x ax h1
        have hvy:=ha y ay h2
        rw [hx] at hvx;rw [hy] at hvy
        have ex:ρv x=a:=hvx.v_inv
        have ey:ρv y=b:=hvy.v_inv
        obtain ⟨r1,r2,r3⟩:=minmax_run (P:=P) hmb E.w
        refine pureOK hm (v:=v) ?_ (.v r1)
        rcases hmx with ⟨hmx,hcal⟩|⟨hmx,hcal⟩
        ·simp [execOp,resolve,hcal,invoke,builtin,hcargs,ex,ey,r2 hmx]
        ·simp [execOp,resolve,hcal,invoke,builtin,hcargs,ex,ey,r3 hmx]
      ·simp [RM.run] at h
     ·simp at hc
    ·simp at hc
 |_=>simp [cOp] at hc
end
open Go.RowKit
def AV.pu1:AV→Bool
 | .v _| .emp| .lst _ _| .tls _ _| .pim _ _| .dead=>true
 | .fn _ caps=>caps.isEmpty
 |_=>false
theorem AV.pu1_pu {a:AV} (h:a.pu1=true):Pu a:=by
 cases a<;>simp [AV.pu1] at h<;>try constructor
 subst h;intro c hc;simp at hc
def snap1:AV→RM AV
 | .own id sz off n=>(content sz (.own id sz off n)).bind fun els=>if (els.all fun cs=>cs.all AV.pu1)=true then .ret (.lst sz els) else .fail
 | .ref id sz i o=> .rd id fun B=>if B.sz=sz then (match B.els[i]? with
  |some cs=>if cs.all AV.pu1=true then .ret (.pim cs o) else .fail
  |none=> .fail) else .fail
 |a=>if a.pu1=true then .ret a else .fail
def snapL:List AV→RM (List AV)
 |[]=> .ret []
 |a::r=>(snap1 a).bind fun x=>(snapL r).bind fun l=> .ret (x::l)
def snapA:AV→RM AV
 | .agg cs=>(snapL cs).bind fun l=> .ret (.agg l)
 | .fn f cs=>(snapL cs).bind fun l=> .ret (.fn f l)
 | .bf f cs=>(snapL cs).bind fun l=> .ret (.bf f l)
 |a=>snap1 a
def snapAs:List AV→RM (List AV)
 |[]=> .ret []
 |a::r=>(snapA a).bind fun x=>(snapAs r).bind fun l=> .ret (x::l)
def AV.id1:AV→List Nat
 | .own id _ _ _=>[id]
 | .ref id _ _ _=>[id]
 |_=>[]
def AV.ids:AV→List Nat
 | .agg cs=>cs.flatMap AV.id1
 | .fn _ cs=>cs.flatMap AV.id1
 | .bf _ cs=>cs.flatMap AV.id1
 |a=>a.id1
def AV.nob1:AV→Bool
 | .v _| .emp| .dead=>true
 | .fn _ caps=>caps.isEmpty
 |_=>false
def AV.nob2:AV→Bool
 | .agg cs=>cs.all AV.nob1
 |a=>a.nob1
def AV.nob:AV→Bool
 | .tup vs=>vs.all AV.nob2
 |a=>a.nob2
def E0 (w:World) (I:Nat→Prop):Env:=⟨w,fun _=>False,fun _=>none,fun _=>False,I,fun _=>0,fun _=>False,fun _=>False⟩
theorem GlE.sub {E:Env} {w:World} {I:Nat→Prop} (h:GlE E) (hw:E.w=w) (hI:∀b,E.I b→I b):GlE (E0 w I):=trivial
def Fn (P:Program) (f:FuncId) (as_:List AV) (r:AV):Prop:=
 ∀(w:World) (J:Nat→Prop) (vs:Array Value),(∀b,J b→b<w.heap.size)→GlE (E0 w J)→RC (E0 w J) vs as_→
  Calls P f vs w fun e w'=>∃v,e= .returned v∧Rep (E0 w' fun b=>J b∨(w.heap.size≤b∧b<w'.heap.size)) v r∧Below w.heap.size w w'
section
variable {P:Program} {E:Env} {J:Nat→Prop} {base:Nat} {g:Nat→Option Bk}
theorem Rep.nob1 {E':Env} {v:Value} {a:AV} (h:Rep E v a) (hn:a.nob1=true):Rep E' v a:=by
 cases h<;>simp [AV.nob1] at hn
 ·exact .v (by assumption)
 ·exact .emp
 ·rename_i f vs cs hl h
  subst hn
  exact .fn hl (fun i v c hv hc=>by simp at hc)
 ·exact .dead
theorem Rep.nob2 {E':Env} {v:Value} {a:AV} (h:Rep E v a) (hn:a.nob2=true):Rep E' v a:=by
 cases a with
 |agg cs=>cases h with
  |agg hl h=>
   simp only [AV.nob2,List.all_eq_true] at hn
   exact .agg hl fun i v c hv hc=>(h i v c hv hc).nob1 (hn c (List.mem_of_getElem? hc))
 |_=>exact h.nob1 (by simpa [AV.nob2] using hn)
theorem Rep.nob {E':Env} {v:Value} {a:AV} (h:Rep E v a) (hn:a.nob=true):Rep E' v a:=by
 cases a with
 |tup cs=>cases h with
  |tup hl h=>
   simp only [AV.nob,List.all_eq_true] at hn
   exact .tup hl fun i v c hv hc=>(h i v c hv hc).nob2 (hn c (List.mem_of_getElem? hc))
 |_=>exact h.nob2 (by simpa [AV.nob] using hn)
def Handed (E:Env) (g:Nat→Option Bk) (ids:List Nat) (b:Nat):Prop:=E.I b∨∃id B,id∈ids∧g id=some B∧E.loc id=some b
theorem snap1_rep (hm:MemAt E J base g) (I:Nat→Prop) {v:Value} {a a':AV} (h:Rep E v a) (hs:(snap1 a).run g=some a') (hI:∀b,Handed E g a.id1 b→I b):Rep (E0 E.w I) v a':=by
 have pure:∀{v:Value} {a:AV},(∀b,E.I b→I b)→Rep E v a→Pu a→Rep (E0 E.w I) v a:=fun hI h hp=>h.pure (E':=E0 E.w I) (fun b hb=>⟨hI b hb,fun _=>rfl⟩) hp
 have hI0:∀b,E.I b→I b:=fun b hb=>hI b (.inl hb)
 have other:(if a.pu1=true then RM.ret a else RM.fail).run g=some a'→Rep (E0 E.w I) v a':=by
  intro hs
  split at hs
  ·rename_i hp
   simp only [RM.run,Option.some.injEq] at hs;subst hs
   exact pure hI0 h (AV.pu1_pu hp)
  ·simp [RM.run] at hs
 cases a with
 |own id sz off n=>
  simp only [snap1] at hs
  obtain ⟨els,h1,h2⟩:=bind_run hs
  split at h2
  ·rename_i hall
   simp only [RM.run,Option.some.injEq] at h2;subst h2
   simp only [content,RM.run] at h1
   cases hB:g id with
   |none=>simp [hB] at h1
   |some B=>
    simp only [hB] at h1
    split at h1
    ·rename_i hc
     obtain ⟨-, hBs,hfit⟩:=hc
     simp only [RM.run,Option.some.injEq] at h1;subst h1
     have hlen:((B.els.drop off).take n).length=n:=by simp;omega
     cases h with
     |staleO hi hd=>exact absurd hd (alive hm hB)
     |own0 hi hd hb=>
      have:(B.els.drop 0).take 0=[]:=by simp
      rw [this]
      exact .lst0 (by omega)
     | @own _ _ _ _ c b q mm t' hi hd hb hq hs' hmm hl hcc=>
      rcases Nat.eq_zero_or_pos n with h0|h0
      ·subst h0
       rw [List.take_zero]
       exact .lst0 hcc
      ·have hq':q=off*sz:=by
        rcases hq with hq|hq
        ·exact hq
        ·omega
       subst hq'
       have hblk:=hm.at_ id B hB
       rw [hb] at hblk
       obtain ⟨hbase,arr,t,ha,hfit2,hcells⟩:=hblk.cells (by first|assumption|omega)
       rw [hBs] at hcells
       have get:∀(i:Nat) cs (j:Nat) x,((B.els.drop off).take n)[i]? =some cs→cs[j]? =some x→∃u,E.w.cell? ⟨b,off*sz+i*sz+j,none⟩=some u∧u.oneCell'=true∧Rep E u x:=by
        intro i cs j x hi hj
        rw [List.getElem?_take] at hi
        split at hi
        ·rw [List.getElem?_drop] at hi
         obtain ⟨u,k1,k2,k3⟩:=(hcells _ cs hi).2 j x hj
         refine ⟨u, ?_,k2,k3⟩
         rw [cell_of_row _ _ _ _ _ _ ha]
         rw [Nat.add_mul] at k1
         exact k1
        ·simp at hi
       refine .lst1 (fun i j=>(E.w.cell? ⟨b,off*sz+i*sz+j,none⟩).getD undef) hlen.symm hl hcc (hI b (.inr ⟨id,B,by simp [AV.id1],hB,hb⟩)) (fun i cs hi=> ?_) (fun i cs j x hi hj=> ?_) (fun i cs j x hi hj=> ?_) (fun i cs j x hi hj=> ?_)
       ·rw [List.getElem?_take] at hi
        split at hi
        ·rw [List.getElem?_drop] at hi
         exact (hcells _ cs hi).1
        ·simp at hi
       ·obtain ⟨u,k1,_,_⟩:=get i cs j x hi hj
        show E.w.cell? _=_
        rw [k1];rfl
       all_goals
        obtain ⟨u,k1,k2,k3⟩:=get i cs j x hi hj
        have hp:Pu x:=by
         simp only [List.all_eq_true] at hall
         exact AV.pu1_pu (hall cs (List.mem_of_getElem? hi) x (List.mem_of_getElem? hj))
        simp only [k1,Option.getD_some]
        first
        |exact ⟨k2,hp⟩
        |exact pure hI0 k3 hp
    ·simp [RM.run] at h1
  ·simp [RM.run] at h2
 |ref id sz i o=>
  simp only [snap1,RM.run] at hs
  cases hB:g id with
  |none=>simp [hB] at hs
  |some B=>
   simp only [hB] at hs
   split at hs
   ·rename_i hsz
    split at hs
    ·rename_i cs hcs
     split at hs
     ·rename_i hall
      simp only [RM.run,Option.some.injEq] at hs;subst hs
      cases h with
      |staleR hi hd=>exact absurd hd (alive hm hB)
      | @ref _ _ _ _ b q hi hd hb hq=>
       have hblk:=hm.at_ id B hB
       rw [hb] at hblk
       obtain ⟨hbase,arr,t,ha,hfit2,hcells⟩:=hblk.cells (by first|assumption|omega)
       rw [hsz] at hcells
       have get:∀(j:Nat) x,cs[j]? =some x→∃u,E.w.cell? ⟨b,i*sz+j,none⟩=some u∧Rep E u x:=by
        intro j x hj
        obtain ⟨u,k1,k2,k3⟩:=(hcells i cs hcs).2 j x hj
        exact ⟨u,by rw [cell_of_row _ _ _ _ _ _ ha];exact k1,k3⟩
       have hp:∀(j:Nat) x,cs[j]? =some x→Pu x:=fun j x hj=>by
        simp only [List.all_eq_true] at hall
        exact AV.pu1_pu (hall x (List.mem_of_getElem? hj))
       refine .pim (off:=i*sz) (fun j=>(E.w.cell? ⟨b,i*sz+j,none⟩).getD undef) (hI b (.inr ⟨id,B,by simp [AV.id1],hB,hb⟩)) hq (fun j x hj=> ?_) hp (fun j x hj=> ?_)
       ·obtain ⟨u,k1,_⟩:=get j x hj
        show E.w.cell? _=_
        rw [k1];rfl
       ·obtain ⟨u,k1,k3⟩:=get j x hj
        simp only [k1,Option.getD_some]
        exact pure hI0 k3 (hp j x hj)
     ·simp [RM.run] at hs
    ·simp [RM.run] at hs
   ·simp [RM.run] at hs
 |_=>exact other hs
theorem snapL_rep (hm:MemAt E J base g) (I:Nat→Prop):∀{as_ as':List AV},(snapL as_).run g=some as'→(∀b,Handed E g (as_.flatMap AV.id1) b→I b)→as'.length=as_.length∧∀(i:Nat) v c c',Rep E v c→as_[i]? =some c→as'[i]? =some c'→Rep (E0 E.w I) v c'
 |[],as',h,_=>by
  simp only [snapL,RM.run,Option.some.injEq] at h;subst h
  exact ⟨rfl,fun i v c c' _ hc=>by simp at hc⟩
 |a::r,as',h,hI=>by
  simp only [snapL] at h
  obtain ⟨x,h1,h⟩:=bind_run h
  obtain ⟨l,h2,h⟩:=bind_run h
  simp only [RM.run,Option.some.injEq] at h;subst h
  have hI1:∀b,Handed E g a.id1 b→I b:=fun b hb=>hI b (hb.imp id fun ⟨id,B,hi,hh⟩=>⟨id,B,by simp [hi],hh⟩)
  have hI2:∀b,Handed E g (r.flatMap AV.id1) b→I b:=fun b hb=>hI b (hb.imp id fun ⟨id,B,hi,hh⟩=>⟨id,B,by simp only [List.flatMap_cons,List.mem_append];exact .inr hi,hh⟩)
  have ih:=snapL_rep hm I h2 hI2
  refine ⟨by simp [ih.1],fun i v c c' hr hc hc'=> ?_⟩
  cases i with
  |zero=>simp at hc hc';subst hc;subst hc';exact snap1_rep hm I hr h1 hI1
  |succ i=>simp at hc hc';exact ih.2 i v c c' hr hc hc'
theorem snapA_rep (hm:MemAt E J base g) (I:Nat→Prop) {v:Value} {a a':AV} (h:Rep E v a) (hs:(snapA a).run g=some a') (hI:∀b,Handed E g a.ids b→I b):Rep (E0 E.w I) v a':=by
 cases a with
 |agg cs=>
  simp only [snapA] at hs
  obtain ⟨l,h1,h2⟩:=bind_run hs
  simp only [RM.run,Option.some.injEq] at h2;subst h2
  obtain ⟨k1,k2⟩:=snapL_rep hm I h1 hI
  cases h with
  |agg hl h=>
   refine .agg (by rw [k1];exact hl) fun i v c hv hc=> ?_
   have hi:i<cs.length:=by rw [←k1];exact (List.getElem?_eq_some_iff.1 hc).1
   exact k2 i v cs[i] c (h i v _ hv (List.getElem?_eq_getElem hi)) (List.getElem?_eq_getElem hi) hc
 |fn f cs=>
  simp only [snapA] at hs
  obtain ⟨l,h1,h2⟩:=bind_run hs
  simp only [RM.run,Option.some.injEq] at h2;subst h2
  obtain ⟨k1,k2⟩:=snapL_rep hm I h1 hI
  cases h with
  |fn hl h=>
   refine .fn (by rw [k1];exact hl) fun i v c hv hc=> ?_
   have hi:i<cs.length:=by rw [←k1];exact (List.getElem?_eq_some_iff.1 hc).1
   exact k2 i v cs[i] c (h i v _ hv (List.getElem?_eq_getElem hi)) (List.getElem?_eq_getElem hi) hc
 |bf f cs=>
  simp only [snapA] at hs
  obtain ⟨l,h1,h2⟩:=bind_run hs
  simp only [RM.run,Option.some.injEq] at h2;subst h2
  obtain ⟨k1,k2⟩:=snapL_rep hm I h1 hI
  cases h with
  |bf hl h=>
   refine .bf (by rw [k1];exact hl) fun i v c hv hc=> ?_
   have hi:i<cs.length:=by rw [←k1];exact (List.getElem?_eq_some_iff.1 hc).1
   exact k2 i v cs[i] c (h i v _ hv (List.getElem?_eq_getElem hi)) (List.getElem?_eq_getElem hi) hc
 |_=>exact snap1_rep hm I h hs hI
theorem snapAs_rep (hm:MemAt E J base g) (I:Nat→Prop):∀{as_ as':List AV},(snapAs as_).run g=some as'→(∀b,Handed E g (as_.flatMap AV.ids) b→I b)→as'.length=as_.length∧∀(i:Nat) v c c',Rep E v c→as_[i]? =some c→as'[i]? =some c'→Rep (E0 E.w I) v c'
 |[],as',h,_=>by
  simp only [snapAs,RM.run,Option.some.injEq] at h;subst h
  exact ⟨rfl,fun i v c c' _ hc=>by simp at hc⟩
 |a::r,as',h,hI=>by
  simp only [snapAs] at h
  obtain ⟨x,h1,h⟩:=bind_run h
  obtain ⟨l,h2,h⟩:=bind_run h
  simp only [RM.run,Option.some.injEq] at h;subst h
  have hI1:∀b,Handed E g a.ids b→I b:=fun b hb=>hI b (hb.imp id fun ⟨id,B,hi,hh⟩=>⟨id,B,by simp [hi],hh⟩)
  have hI2:∀b,Handed E g (r.flatMap AV.ids) b→I b:=fun b hb=>hI b (hb.imp id fun ⟨id,B,hi,hh⟩=>⟨id,B,by simp only [List.flatMap_cons,List.mem_append];exact .inr hi,hh⟩)
  have ih:=snapAs_rep hm I h2 hI2
  refine ⟨by simp [ih.1],fun i v c c' hr hc hc'=> ?_⟩
  cases i with
  |zero=>simp at hc hc';subst hc;subst hc';exact snapA_rep hm I hr h1 hI1
  |succ i=>simp at hc hc';exact ih.2 i v c c' hr hc hc'
theorem MemAt.grow (hm:MemAt E J base g) {w':World} (hb:Below E.w.heap.size E.w w'):
  ∃E':Env,E'.w=w'∧E.Le E'∧MemAt E' J base g∧(∀k,E'.kn k→E.kn k)∧(∀b,E.I b∨(E.w.heap.size≤b∧b<w'.heap.size)→E'.I b):=by
 have hlt:∀id b B,g id=some B→E.loc id=some b→b<E.w.heap.size:=fun id b B hg hb=>by
  have:=hm.at_ id B hg;rw [hb] at this;exact this.lt.2
 let E':Env:={ E with w:=w',I:=fun b=>E.I b∨(E.w.heap.size≤b∧b<w'.heap.size) }
 have hE:E.Le E':=by
  refine ⟨fun _ h=>h,fun b hb'=>⟨.inl hb',hb.block b (hm.low b hb').1⟩,fun _ _ h=>h,fun _ _ _=> .inr rfl,fun id b hi hd hl=> .inr ?_,fun _ _ _=> .inr rfl,fun _ h=>h,fun b hb'=>⟨hb',hb.block b (hm.xo b hb').1⟩⟩
  obtain ⟨B,hB⟩:=(hm.live id).1 ⟨hi,hd⟩
  show w'.shape? b=_
  simp only [World.shape?,hb.block b (hlt id b B hB hl)]
 refine ⟨E',rfl,hE,⟨hm.live,fun id B hg=>(hm.at_ id B hg).keep hE fun b hl=>hb.block b (hlt id b B hg hl),hm.apart,fun id b B hg hl hI=> ?_,fun b hI=> ?_,Nat.le_trans hm.size hb.size,hm.len,hm.rgb,fun b hX=>⟨Nat.lt_of_lt_of_le (hm.xo b hX).1 hb.size,fun hI=>hI.elim (hm.xo b hX).2.1 fun h=>by have:=(hm.xo b hX).1;omega,(hm.xo b hX).2.2⟩⟩,fun _ h=>h,fun b h=>h⟩
 ·rcases hI with hI|hI
  ·exact hm.out id b B hg hl hI
  ·have:=hlt id b B hg hl;omega
 ·rcases hI with hI|hI
  ·exact ⟨Nat.lt_of_lt_of_le (hm.low b hI).1 hb.size,(hm.low b hI).2⟩
  ·exact ⟨hI.2, .inr (Nat.le_trans hm.size hI.1)⟩
def callUps (as_:List AV) (r:AV):List (Nat×Option Bk):=if r.nob=true then [] else (as_.flatMap AV.ids).map fun id=>(id,none)
theorem fn_sound (hG:GlE E) (hm:MemAt E J base g) {f:FuncId} {as_ as':List AV} {r:AV} {vs:Array Value} (hvs:RC E vs as_) (hs:(snapAs as_).run g=some as') (hf:Fn P f as' r) (hids:∀id,id∈as_.flatMap AV.ids→E.kn id):
  Calls P f vs E.w fun e w'=>∃v E',e= .returned v∧E'.w=w'∧E.Le E'∧Rep E' v r∧MemAt E' J base (gput g (callUps as_ r))∧Below base E.w w'∧∀id,E'.kn id→E.kn id:=by
 let I:=Handed E g (as_.flatMap AV.ids)
 have hIlt:∀b,I b→b<E.w.heap.size:=fun b hb=>by
  rcases hb with hb|⟨id,B,_,hg,hl⟩
  ·exact (hm.low b hb).1
  ·have:=hm.at_ id B hg;rw [hl] at this;exact this.lt.2
 have hrc:RC (E0 E.w I) vs as':=by
  obtain ⟨k1,k2⟩:=snapAs_rep hm I hs (fun b hb=>hb)
  refine ⟨by rw [k1];exact hvs.1,fun j u c hu hc=> ?_⟩
  have hj:j<as_.length:=by rw [←k1];exact (List.getElem?_eq_some_iff.1 hc).1
  exact k2 j u as_[j] c (hvs.2 j u _ hu (List.getElem?_eq_getElem hj)) (List.getElem?_eq_getElem hj) hc
 refine (hf E.w I vs hIlt (hG.sub rfl fun b hb=> .inl hb) hrc).mono ?_
 rintro e w' ⟨v,he,hr,hb⟩
 unfold callUps
 by_cases hn:r.nob=true
 ·rw [if_pos hn]
  obtain ⟨E',hw,hE,hM,hk,_⟩:=hm.grow hb
  exact ⟨v,E',he,hw,hE,hr.nob hn,hM,hb.mono hm.size,hk⟩
 ·rw [if_neg hn]
  obtain ⟨E1,hw1,hE1,hM1,hk1,hI1,hI2⟩:=hm.kill (as_.flatMap AV.ids) hids
  have hb1:Below E1.w.heap.size E1.w w':=by rw [hw1];exact hb
  obtain ⟨E',hw,hE,hM,hk,hI⟩:=hM1.grow hb1
  refine ⟨v,E',he,hw,hE1.trans hE, ?_,hM,hb.mono hm.size,fun id h=>hk1 _ (hk _ h)⟩
  refine hr.pure (E':=E') (fun b hb'=> ?_) ?_
  ·refine ⟨hI b ?_,fun o=>by rw [hw];rfl⟩
   rcases hb' with hb'|hb'
   ·left
    rcases hb' with hb'|⟨id,B,hid,hg,hl⟩
    ·exact hI2 b hb'
    ·exact hI1 id b B hid hg hl
   ·right;rw [hw1];exact hb'
  ·clear hn hI hM hk hE hw hI1 hI2 hb1 hk1 hM1 hE1 hw1 hb he
   generalize (fun b=>I b∨E.w.heap.size≤b∧b<w'.heap.size)=I' at hr
   have:∀{E:Env} {v:Value} {a:AV},Rep E v a→(∀id,¬E.kn id)→(∀l,¬E.rg l)→Pu a:=by
    intro E v a h hk hy
    induction h with
    |v h=>exact .v
    |agg hl h ih=>
     refine .agg fun c hc=> ?_
     obtain ⟨i,hi,rfl⟩:=List.getElem_of_mem hc
     exact ih i _ _ (Array.getElem?_eq_getElem (by omega)) (List.getElem?_eq_getElem hi)
    |tup hl h ih=>
     refine .tup fun c hc=> ?_
     obtain ⟨i,hi,rfl⟩:=List.getElem_of_mem hc
     exact ih i _ _ (Array.getElem?_eq_getElem (by omega)) (List.getElem?_eq_getElem hi)
    |lst0 hc=>exact .lst
    |lst1=>exact .lst
    |tls h ih=>exact .tls
    |emp=>exact .emp
    |pim=>exact .pim
    |ref hi=>exact absurd hi (hk _)
    |own hi=>exact absurd hi (hk _)
    |own0 hi=>exact absurd hi (hk _)
    |staleR hi=>exact absurd hi (hk _)
    |staleO hi=>exact absurd hi (hk _)
    |mp hi=>exact absurd hi (hk _)
    |staleP hi=>exact absurd hi (hk _)
    |fn hl h ih=>
     refine .fn fun c hc=> ?_
     obtain ⟨i,hi,rfl⟩:=List.getElem_of_mem hc
     exact ih i _ _ (Array.getElem?_eq_getElem (by omega)) (List.getElem?_eq_getElem hi)
    |bf hl h ih=>
     refine .bf fun c hc=> ?_
     obtain ⟨i,hi,rfl⟩:=List.getElem_of_mem hc
     exact ih i _ _ (Array.getElem?_eq_getElem (by omega)) (List.getElem?_eq_getElem hi)
    |yld hg=>exact absurd hg (hy _)
    |anyb=>exact .anyb
    |dead=>exact .dead
   exact this hr (fun id h=>h) (fun _ h=>h)
def Fo (P:Program) (f:FuncId) (as_:List AV) (sz:Nat) (els:List (List AV)):Prop:=
 ∀(w:World) (J:Nat→Prop) (vs:Array Value),(∀b,J b→b<w.heap.size)→GlE (E0 w J)→RC (E0 w J) vs as_→
  Calls P f vs w fun e w'=>∃v E1,e= .returned v∧E1.w=w'∧Below w.heap.size w w'∧Rep E1 v (.own 0 sz 0 els.length)∧E1.kn 0∧¬E1.dead 0∧BlkAt E1 w.heap.size ⟨sz,els⟩ (E1.loc 0)∧E1.ln 0=els.length
theorem fo_sound (hG:GlE E) (hm:MemAt E J base g) {f:FuncId} {as_ as':List AV} {sz:Nat} {els:List (List AV)} {fresh:Nat} {vs:Array Value} (hvs:RC E vs as_) (hs:(snapAs as_).run g=some as') (hf:Fo P f as' sz els) (hnob:∀cs,cs∈els→∀c,c∈cs→c.nob1=true) (hfr:¬E.kn fresh):
  Calls P f vs E.w fun e w'=>∃v E',e= .returned v∧E'.w=w'∧E.Le E'∧Rep E' v (.own fresh sz 0 els.length)∧MemAt E' J base (gput g [(fresh,some ⟨sz,els⟩)])∧Below base E.w w'∧∀id,E'.kn id→E.kn id∨id=fresh:=by
 let I:=Handed E g (as_.flatMap AV.ids)
 have hIlt:∀b,I b→b<E.w.heap.size:=fun b hb=>by
  rcases hb with hb|⟨id,B,_,hg,hl⟩
  ·exact (hm.low b hb).1
  ·have:=hm.at_ id B hg;rw [hl] at this;exact this.lt.2
 have hrc:RC (E0 E.w I) vs as':=by
  obtain ⟨k1,k2⟩:=snapAs_rep hm I hs (fun b hb=>hb)
  refine ⟨by rw [k1];exact hvs.1,fun j u c hu hc=> ?_⟩
  have hj:j<as_.length:=by rw [←k1];exact (List.getElem?_eq_some_iff.1 hc).1
  exact k2 j u as_[j] c (hvs.2 j u _ hu (List.getElem?_eq_getElem hj)) (List.getElem?_eq_getElem hj) hc
 refine (hf E.w I vs hIlt (hG.sub rfl fun b hb=> .inl hb) hrc).mono ?_
 rintro e w' ⟨v,E1,he,rfl,hb,hr,hk0,hd0,hblk,hln1⟩
 have hlt:∀id b B,g id=some B→E.loc id=some b→b<E.w.heap.size:=fun id b B hg hb=>by
  have:=hm.at_ id B hg;rw [hb] at this;exact this.lt.2
 let E':Env:={ w:=E1.w,kn:=fun id=>E.kn id∨id=fresh,loc:=fun id=>if id=fresh then E1.loc 0 else E.loc id,dead:=fun id=>E.dead id∧id≠fresh,I:=E.I,ln:=fun id=>if id=fresh then els.length else E.ln id,rg:=E.rg,X:=E.X }
 have hne:∀id,E.kn id→id≠fresh:=fun id hi he=>hfr (he▸hi)
 have hE:E.Le E':=by
  refine ⟨fun id hi=> .inl hi,fun b hb'=>⟨hb',hb.block b (hm.low b hb').1⟩,fun id hi hd=>⟨hd,hne id hi⟩,fun id hi hd=> .inr (if_neg (hne id hi)),fun id b hi hd hl=> .inr ?_,fun id hi hd=> .inr (if_neg (hne id hi)),fun _ h=>h,fun b hb'=>⟨hb',hb.block b (hm.xo b hb').1⟩⟩
  obtain ⟨B',hB'⟩:=(hm.live id).1 ⟨hi,hd⟩
  show E1.w.shape? b=_
  simp only [World.shape?,hb.block b (hlt id b B' hB' hl)]
 have hk':E'.kn fresh:= .inr rfl
 have hd':¬E'.dead fresh:=fun hd=>hd.2 rfl
 have hl':E'.loc fresh=E1.loc 0:=if_pos rfl
 have hsz0:sz≠0:=hr.own_sz hd0
 have hnew:∀b,E1.loc 0=some b→E.w.heap.size≤b∧b<E1.w.heap.size:=fun b hl=>by rw [hl] at hblk;exact hblk.lt
 refine ⟨v,E',he,rfl,hE, ?_,⟨fun id=> ?_,fun id B' hg=> ?_,fun id id' b B1 B2 h1 h2 h3 h4=> ?_,fun id b B' hg hb' hI=> ?_,fun b hb'=>⟨Nat.lt_of_lt_of_le (hm.low b hb').1 hb.size,(hm.low b hb').2⟩,Nat.le_trans hm.size hb.size,fun id B' hg hzz=> ?_,hm.rgb,fun b hX=>⟨Nat.lt_of_lt_of_le (hm.xo b hX).1 hb.size,(hm.xo b hX).2.1,fun k B1 hk he=> ?_⟩⟩,hb.mono hm.size,fun id hi=>hi⟩
 ·obtain ⟨n,hn⟩:∃n,n=els.length:=⟨_,rfl⟩
  rw [←hn] at hr ⊢
  cases hr with
  |own hi hd hl hq hs hmm hlc hcc hlnn=>exact .own hk' hd' (hl'.trans hl) hq hs hmm hlc hcc (by rw [show E'.ln fresh=els.length from if_pos rfl, ←hln1];exact hlnn)
  |own0 hi hd hl hlnn=>exact .own0 hk' hd' (hl'.trans hl) ((show E'.ln fresh=els.length from if_pos rfl).trans (hln1.symm.trans hlnn))
  |staleO hi hd=>exact absurd hd hd0
 ·simp only [gput]
  by_cases hid:id=fresh
  ·subst hid;simp [E']
  ·simp only [hid,if_false]
   rw [←hm.live id]
   simp [E',hid]
 ·simp only [gput] at hg
  by_cases hid:id=fresh
  ·subst hid
   simp only [if_true,Option.some.injEq] at hg
   subst hg
   rw [hl']
   cases hl:E1.loc 0 with
   |none=>rw [hl] at hblk;exact hblk
   |some b=>
    rw [hl] at hblk
    obtain ⟨q1,arr,t,q2,q3,q4⟩:=hblk.cells hsz0
    refine .ofCells ⟨Nat.le_trans hm.size q1,arr,t,q2,q3,fun i cs hi=>⟨(q4 i cs hi).1,fun j x hj=> ?_⟩⟩ hsz0
    obtain ⟨u,u1,u2,u3⟩:=(q4 i cs hi).2 j x hj
    exact ⟨u,u1,u2,u3.nob1 (hnob cs (List.mem_of_getElem? hi) x (List.mem_of_getElem? hj))⟩
  ·simp only [hid,if_false] at hg
   show BlkAt E' base B' (if id=fresh then _ else _)
   rw [if_neg hid]
   exact (hm.at_ id B' hg).keep hE fun b hl=>hb.block b (hlt id b B' hg hl)
 ·simp only [gput] at h1 h2
  have e3:(if id=fresh then E1.loc 0 else E.loc id)=some b:=h3
  have e4:(if id'=fresh then E1.loc 0 else E.loc id')=some b:=h4
  by_cases hid:id=fresh<;>by_cases hid':id'=fresh
  ·rw [hid,hid']
  ·rw [if_pos hid] at e3;rw [if_neg hid'] at e4 h2
   have:=hlt _ _ _ h2 e4
   have:=hnew b e3
   omega
  ·rw [if_neg hid] at e3 h1;rw [if_pos hid'] at e4
   have:=hlt _ _ _ h1 e3
   have:=hnew b e4
   omega
  ·rw [if_neg hid] at e3 h1;rw [if_neg hid'] at e4 h2
   exact hm.apart id id' b B1 B2 h1 h2 e3 e4
 ·simp only [gput] at hg
  have e3:(if id=fresh then E1.loc 0 else E.loc id)=some b:=hb'
  have:=(hm.low b hI).1
  by_cases hid:id=fresh
  ·rw [if_pos hid] at e3
   have:=hnew b e3
   omega
  ·rw [if_neg hid] at e3 hg
   exact hm.out id b B' hg e3 hI
 ·simp only [gput] at hg
  show _=if id=fresh then _ else _
  by_cases hid:id=fresh
  ·rw [if_pos hid] at hg ⊢
   simp only [Option.some.injEq] at hg;rw [←hg]
  ·rw [if_neg hid] at hg ⊢
   exact hm.len id B' hg hzz
 ·simp only [gput] at hk
  have e3:(if k=fresh then E1.loc 0 else E.loc k)=some b:=he
  by_cases hid:k=fresh
  ·rw [if_pos hid] at e3
   have:=hnew b e3
   have:=(hm.xo b hX).1
   omega
  ·rw [if_neg hid] at e3 hk
   exact (hm.xo b hX).2.2 k B1 hk e3
end
open Go.RowKit
def rnd (ρ:Option Nat):Fence:={ Fence.wide with round:=ρ }
theorem rnd_depth {ρ:Option Nat} {n:Nat}:(rnd ρ).depth.isSome=true→1≤n:=fun h=>by simp [rnd,Fence.wide] at h
theorem rnd_out {P:Program} {ρ:Option Nat} {o:Oper} {w:World} {e:Operand→Value}:∀f,o.about P w e=some f→(rnd ρ).fn f:=fun _ _=>trivial
theorem calls_rnd {ρ:Option Nat} {n:Nat} {P:Program} {f:FuncId} {args:Array Value} {w:World} {R:Ending→World→Prop} (h:Calls P f args w R):CallsIn (rnd ρ) n P f args w R:=(callsIn_wide (n:=n)).2 h
theorem cOp_nodefer {P:Program} {o:Oper} {ao:AO} (h:cOp P o=some ao):∀c,o.op≠ .defer c:=by
 intro c hc
 obtain ⟨dst,op,type,pos,after,guard⟩:=o
 simp only at hc
 subst hc
 simp [cOp] at h
inductive Mk (E:Env) (lo:Nat):List Deferred→Prop
 |nil:Mk E lo []
 |cons {D:Nat} {ds:List Deferred} (hI:E.I D) (hD:lo≤D) (hh:E.w.heap[D]? =some (.deferred (some []))) (hne:∀d,d∈ds→d.target≠ .collected D) (t:Mk E lo ds):Mk E lo ({ target:= .collected D,args:= #[] }::ds)
theorem Mk.step {E E':Env} (hE:E.Le E') {lo:Nat} {ds:List Deferred} (h:Mk E lo ds):Mk E' lo ds:=by
 induction h with
 |nil=>exact .nil
 |cons hI hD hh hne t ih=>exact .cons (hE.imm _ hI).1 hD ((hE.imm _ hI).2.trans hh) hne ih
theorem Mk.step' {E E':Env} (hE:∀b,E.I b→E'.I b∧E'.w.heap[b]? =E.w.heap[b]?) {lo:Nat} {ds:List Deferred} (h:Mk E lo ds):Mk E' lo ds:=by
 induction h with
 |nil=>exact .nil
 |cons hI hD hh hne t ih=>exact .cons (hE _ hI).1 hD ((hE _ hI).2.trans hh) hne ih
def Env.lt (E:Env) (kb:Nat):Env:={ E with kn:=fun id=>E.kn id∧id<kb }
theorem Env.Le.cut {E0 E E':Env} (h:E0.Le E) {kb:Nat} (hk:∀id,E0.kn id→id<kb) (k:(E.lt kb).Le E'):E0.Le E':=
 Env.Le.trans (E':=E.lt kb) ⟨fun id hi=>⟨h.kn id hi,hk id hi⟩,h.imm,h.dead,h.loc,h.shape,h.ln,h.rg,h.fx⟩ k
def nb (kb:Nat):Nat→AV→Bool
 |0,_=>false
 |d+1, .agg cs=>cs.all (nb kb d)
 |d+1, .tup cs=>cs.all (nb kb d)
 |d+1, .fn _ cs=>cs.all (nb kb d)
 |d+1, .bf _ cs=>cs.all (nb kb d)
 |d+1, .yld _ cs=>cs.all (nb kb d)
 |_+1, .ref id _ _ _=>Nat.blt id kb
 |_+1, .own id _ _ _=>Nat.blt id kb
 |_+1, .mp id=>Nat.blt id kb
 |_+1,_=>true
theorem Rep.stepB {E E':Env} {kb:Nat} (hE:(E.lt kb).Le E'):∀(d:Nat) {v:Value} {a:AV},Rep E v a→nb kb d a=true→Rep E' v a:=by
 have hI:∀b,E.I b→E'.I b∧∀o,E'.w.cell? ⟨b,o,none⟩=E.w.cell? ⟨b,o,none⟩:=fun b hb=>⟨(hE.imm b hb).1,fun o=>hE.cell (E:=E.lt kb) hb o⟩
 intro d
 induction d with
 |zero=>intro v a _ h;simp [nb] at h
 |succ d ih=>
  have ihm:∀{vs:Array Value} {cs:List AV},(∀(i:Nat) v c,vs[i]? =some v→cs[i]? =some c→Rep E v c)→cs.all (nb kb d)=true→∀(i:Nat) v c,vs[i]? =some v→cs[i]? =some c→Rep E' v c:=by
   intro vs cs h hn i v c hv hc
   simp only [List.all_eq_true] at hn
   exact ih (h i v c hv hc) (hn c (List.mem_of_getElem? hc))
  intro v a h hn
  cases a with
  |v x=>exact h.pure hI .v
  |agg cs=>cases h with|agg hl hh=>exact .agg hl (ihm hh hn)
  |tup cs=>cases h with|tup hl hh=>exact .tup hl (ihm hh hn)
  |fn f cs=>cases h with|fn hl hh=>exact .fn hl (ihm hh hn)
  |bf f cs=>cases h with|bf hl hh=>exact .bf hl (ihm hh hn)
  |yld r cs=>cases h with|yld h1 h2 h3 hl hh=>exact .yld (hE.rg _ h1) (hE.imm _ h2).1 ((hE.imm _ h2).2.trans h3) hl (ihm hh hn)
  |lst sz els=>exact h.pure hI .lst
  |tls sz els=>exact h.pure hI .tls
  |emp=>exact h.pure hI .emp
  |pim cs o=>exact h.pure hI .pim
  |anyb=>exact h.pure hI .anyb
  |dead=>exact .dead
  |ref id sz i o=>
   have hlt:id<kb:=Nat.le_of_ble_eq_true hn
   have:Rep (E.lt kb) v (.ref id sz i o):=by
    cases h with
    |ref hi hd hb hq=>exact .ref (E:=E.lt kb) ⟨hi,hlt⟩ hd hb hq
    |staleR hi hd ho=>exact .staleR (E:=E.lt kb) ⟨hi,hlt⟩ hd ho
   exact this.step hE
  |mp id=>
   have hlt:id<kb:=Nat.le_of_ble_eq_true hn
   have:Rep (E.lt kb) v (.mp id):=by
    cases h with
    |mp hi hd hb=>exact .mp (E:=E.lt kb) ⟨hi,hlt⟩ hd hb
    |staleP hi hd ho=>exact .staleP (E:=E.lt kb) ⟨hi,hlt⟩ hd ho
   exact this.step hE
  |own id sz off n=>
   have hlt:id<kb:=Nat.le_of_ble_eq_true hn
   have:Rep (E.lt kb) v (.own id sz off n):=by
    cases h with
    |own hi hd hb hq hs hm hl hc hln=>exact .own (E:=E.lt kb) ⟨hi,hlt⟩ hd hb hq hs hm hl hc hln
    |own0 hi hd hb hln=>exact .own0 (E:=E.lt kb) ⟨hi,hlt⟩ hd hb hln
    |staleO hi hd ho=>exact .staleO (E:=E.lt kb) ⟨hi,hlt⟩ hd ho
   exact this.step hE
structure AOper where
 dst:Option Nat
 ao:AO
 guard:Option (Nat×Bool)
def cOper (P:Program) (ops:Array Oper) (o:Oper):Option AOper:=
 match cOp P o with
 |some ao=>match o.guard with
  |none=>some ⟨o.dst,ao,none⟩
  |some (j,w)=>match (ops[j]?).bind (·.dst) with
   |some t=>some ⟨o.dst,ao,some (t,w)⟩
   |none=>none
 |none=>none
def argσ (σ:Nat→AV):Arg→AV
 | .s t=>σ t
 | .c a=>a
def putσ (n:Nat) (d:Option Nat) (v:AV) (σ:Nat→AV):Nat→AV:=fun t=>if d=some t∧t<n then v else σ t
def guardA (σ:Nat→AV):Option (Nat×Bool)→Option Bool
 |none=>some true
 |some (t,w)=>match σ t with
  | .v (.bool b)=>some (b==w)
  | .v (.tuple _)=>some false
  |_=>none
inductive OpRun (P:Program) (σ:Nat→AV) (g:Nat→Option Bk) (fresh:Nat) (o:AOper):AV→List (Nat×Option Bk)→List Nat→Prop
 |skip (hg:guardA σ o.guard=some false):OpRun P σ g fresh o (.v undef) [] []
 |done {val:AV} {ups:List (Nat×Option Bk)} (hg:guardA σ o.guard=some true) (h:(o.ao.sem fresh (argσ σ)).run g=some (.done val ups)):
   OpRun P σ g fresh o val ups ((o.ao.sem fresh (argσ σ)).acc g++(o.ao.sem fresh (argσ σ)).see g)
 |call {f:FuncId} {as_ as':List AV} {r:AV} (hg:guardA σ o.guard=some true) (h:(o.ao.sem fresh (argσ σ)).run g=some (.call f as_)) (hc:callable P f=true)
   (hs:(snapAs as_).run g=some as') (hf:Fn P f as' r):OpRun P σ g fresh o r (callUps as_ r) (((o.ao.sem fresh (argσ σ)).acc g++(o.ao.sem fresh (argσ σ)).see g)++((snapAs as_).acc g++(snapAs as_).see g))
 |callO {f:FuncId} {as_ as':List AV} {sz:Nat} {els:List (List AV)} (hg:guardA σ o.guard=some true) (h:(o.ao.sem fresh (argσ σ)).run g=some (.call f as_)) (hc:callable P f=true)
   (hs:(snapAs as_).run g=some as') (hf:Fo P f as' sz els) (hn:∀cs,cs∈els→∀c,c∈cs→c.nob1=true):OpRun P σ g fresh o (.own fresh sz 0 els.length) [(fresh,some ⟨sz,els⟩)] (((o.ao.sem fresh (argσ σ)).acc g++(o.ao.sem fresh (argσ σ)).see g)++((snapAs as_).acc g++(snapAs as_).see g))
theorem Args.of {E:Env} (hG:GlE E) {a:Act} {σ:Nat→AV} (h:∀t,Rep E (a.tmps.getD t undef) (σ t)):Args E a.eval (argσ σ):=by
 intro x ax hx
 cases x with
 |tmp t=>simp [cArg] at hx;subst hx;exact h t
 |const v=>
  simp only [cArg] at hx
  cases hc:ofConst v with
  |none=>simp [hc] at hx
  |some c=>simp [hc] at hx;subst hx;exact ofConst_rep hc
 |func f=>simp [cArg] at hx;subst hx;exact func_rep f
 |global g=>
  simp only [cArg] at hx
  cases hc:glArg g with
  |none=>simp [hc] at hx
  |some c=>simp [hc] at hx;subst hx;exact hG.arg hc
theorem snap1_ids {g:Nat→Option Bk} {a a':AV} (h:(snap1 a).run g=some a'):∀id,id∈a.id1→∃B,g id=some B:=by
 intro id hid
 cases a with
 |own id' sz off n=>
  simp only [AV.id1,List.mem_singleton] at hid
  subst hid
  simp only [snap1] at h
  obtain ⟨els,h1,_⟩:=bind_run h
  simp only [content,RM.run] at h1
  cases hB:g id with
  |none=>simp [hB] at h1
  |some B=>exact ⟨B,rfl⟩
 |ref id' sz i o=>
  simp only [AV.id1,List.mem_singleton] at hid
  subst hid
  simp only [snap1,RM.run] at h
  cases hB:g id with
  |none=>simp [hB] at h
  |some B=>exact ⟨B,rfl⟩
 |_=>simp [AV.id1] at hid
theorem snapL_ids {g:Nat→Option Bk}:∀{as_ as':List AV},(snapL as_).run g=some as'→∀id,id∈as_.flatMap AV.id1→∃B,g id=some B
 |[],_,_,id,hid=>by simp at hid
 |a::r,as',h,id,hid=>by
  simp only [snapL] at h
  obtain ⟨x,h1,h⟩:=bind_run h
  obtain ⟨l,h2,h⟩:=bind_run h
  simp only [List.flatMap_cons,List.mem_append] at hid
  rcases hid with hid|hid
  ·exact snap1_ids h1 id hid
  ·exact snapL_ids h2 id hid
theorem snapA_ids {g:Nat→Option Bk} {a a':AV} (h:(snapA a).run g=some a'):∀id,id∈a.ids→∃B,g id=some B:=by
 intro id hid
 cases a with
 |agg cs=>
  simp only [snapA] at h
  obtain ⟨l,h1,_⟩:=bind_run h
  exact snapL_ids h1 id hid
 |fn f cs=>
  simp only [snapA] at h
  obtain ⟨l,h1,_⟩:=bind_run h
  exact snapL_ids h1 id hid
 |bf f cs=>
  simp only [snapA] at h
  obtain ⟨l,h1,_⟩:=bind_run h
  exact snapL_ids h1 id hid
 |_=>simp only [snapA] at h;simp only [AV.ids] at hid;exact snap1_ids h id hid
theorem snapAs_ids {g:Nat→Option Bk}:∀{as_ as':List AV},(snapAs as_).run g=some as'→∀id,id∈as_.flatMap AV.ids→∃B,g id=some B
 |[],_,_,id,hid=>by simp at hid
 |a::r,as',h,id,hid=>by
  simp only [snapAs] at h
  obtain ⟨x,h1,h⟩:=bind_run h
  obtain ⟨l,h2,h⟩:=bind_run h
  simp only [List.flatMap_cons,List.mem_append] at hid
  rcases hid with hid|hid
  ·exact snapA_ids h1 id hid
  ·exact snapAs_ids h2 id hid
section
variable {P:Program} {E:Env} {J:Nat→Prop} {base:Nat} {g:Nat→Option Bk} {σ:Nat→AV} {fresh:Nat}
theorem guard_sound {a:Act} (hs:∀t,Rep E (a.tmps.getD t undef) (σ t)) {ops:Array Oper} {op:Oper} {o:AOper} (hc:cOper P ops op=some o) {b:Bool} (hg:guardA σ o.guard=some b):Region.wanted op (yielded ops a.tmps)=b:=by
 unfold cOper at hc
 split at hc
 ·rename_i ao h1
  split at hc
  ·rename_i h2
   simp only [Option.some.injEq] at hc;subst hc
   simp only [guardA,Option.some.injEq] at hg;subst hg
   simp [Region.wanted,h2]
  ·rename_i j w h2
   split at hc
   ·rename_i t h3
    simp only [Option.some.injEq] at hc;subst hc
    simp only [guardA] at hg
    have ht:=hs t
    simp only [Region.wanted,h2,yielded,h3,Option.bind_some]
    split at hg
    ·rename_i b' hb'
     rw [hb'] at ht
     have:=ht.v_inv
     simp only [Option.some.injEq] at hg;subst hg
     have hlt:t<a.tmps.size:=by
      rcases Nat.lt_or_ge t a.tmps.size with h|h
      ·exact h
      ·simp [Array.getElem?_eq_none h,undef] at this
     have h5:a.tmps[t]? =some (.bool b'):=by
      rw [Array.getElem?_eq_getElem hlt]
      simpa [Array.getElem?_eq_getElem hlt] using this
     rw [h5]
     cases b'<;>cases w<;>rfl
    ·rename_i vs hb'
     rw [hb'] at ht
     have:=ht.v_inv
     simp only [Option.some.injEq] at hg;subst hg
     have h5:a.tmps[t]? =none∨a.tmps[t]? =some (.tuple vs):=by
      rcases Nat.lt_or_ge t a.tmps.size with h|h
      ·right
       rw [Array.getElem?_eq_getElem h]
       simpa [Array.getElem?_eq_getElem h] using this
      ·left;exact Array.getElem?_eq_none h
     rcases h5 with h5|h5<;>rw [h5]<;>rfl
    ·simp at hg
   ·simp at hc
 ·simp at hc
theorem cOper_inv {ops:Array Oper} {op:Oper} {o:AOper} (hc:cOper P ops op=some o):o.dst=op.dst∧cOp P op=some o.ao:=by
 unfold cOper at hc
 split at hc
 ·rename_i ao h1
  split at hc
  ·simp only [Option.some.injEq] at hc;subst hc;exact ⟨rfl,h1⟩
  ·split at hc
   ·simp only [Option.some.injEq] at hc;subst hc;exact ⟨rfl,h1⟩
   ·simp at hc
 ·simp at hc
theorem step_sound {a:Act} (hG:GlE E) (hs:∀t,Rep E (a.tmps.getD t undef) (σ t)) (hm:MemAt E J base g) (hf:¬E.kn fresh) {ops:Array Oper} {i:Nat} {op:Oper} (hi:ops[i]? =some op) {o:AOper} (hc:cOper P ops op=some o)
  {val:AV} {ups:List (Nat×Option Bk)} {acc:List Nat} (hr:OpRun P σ g fresh o val ups acc) {Q:Exit→Act→World→Prop} {K:Act→World→Prop}
  (hK:∀v E',E.Le E'→Rep E' v val→MemAt E' J base (gput g ups)→Below base E.w E'.w→(∀id,E'.kn id→E.kn id∨id∈ups.map Prod.fst)→K (a.put o.dst v) E'.w) {rd:Option Nat}:wpOpIn (rnd rd) 0 P ops Q i K a E.w:=by
 have hd:o.dst=op.dst∧cOp P op=some o.ao:=by
  unfold cOper at hc
  split at hc
  ·rename_i ao h1
   split at hc
   ·simp only [Option.some.injEq] at hc;subst hc;exact ⟨rfl,h1⟩
   ·split at hc
    ·simp only [Option.some.injEq] at hc;subst hc;exact ⟨rfl,h1⟩
    ·simp at hc
  ·simp at hc
 have hsem:∀e,op.semAt (rnd rd).round e=execOp e op:=fun e=>Oper.semAt_plain (rnd rd) _ _ (cOp_nodefer hd.2)
 unfold wpOpIn
 simp only [hi]
 cases hr with
 |skip hg=>
  rw [guard_sound hs hc hg]
  simp only [Bool.false_eq_true,if_false]
  rw [←hd.1]
  exact ⟨rnd_out,hK undef E (Env.Le.refl E) (.v rfl) hm (Below.refl _ _) fun _ h=> .inl h⟩
 |done hg h=>
  rw [guard_sound hs hc hg,if_pos rfl]
  obtain ⟨n,v,E',h1,h2,h3,h4,h5,h6,h7⟩:=op_sound (Args.of hG hs) (fun _=>rfl) hm hf hd.2 h
  have:=hK v E' h3 h4 h5 h6 h7
  unfold Oper.wpIn
  rw [hsem,h1]
  rw [hd.1] at this
  rcases h2 with rfl|⟨rfl,rfl⟩
  ·exact ⟨rnd_out,this⟩
  ·exact ⟨rnd_out,this⟩
 | @call f as_ as' r hg h hcl hsn hfn=>
  rw [guard_sound hs hc hg,if_pos rfl]
  obtain ⟨vs,h1,h2⟩:=call_sound (Args.of hG hs) hd.2 h hcl
  unfold Oper.wpIn
  rw [hsem,h1,Oper.uponIn_enter]
  refine ⟨rnd_out,rnd_depth,calls_rnd ((fn_sound hG hm h2 hsn hfn fun id hid=> ?_).mono ?_)⟩
  ·obtain ⟨B,hB⟩:=snapAs_ids hsn id hid
   exact ((hm.live id).2 ⟨B,hB⟩).1
  ·rintro e w' ⟨v,E',rfl,rfl,k1,k2,k3,k4,k5⟩
   have:=hK v E' k1 k2 k3 k4 fun id h=> .inl (k5 id h)
   rw [hd.1] at this
   exact this
 | @callO f as_ as' sz els hg h hcl hsn hfn hnb=>
  rw [guard_sound hs hc hg,if_pos rfl]
  obtain ⟨vs,h1,h2⟩:=call_sound (Args.of hG hs) hd.2 h hcl
  unfold Oper.wpIn
  rw [hsem,h1,Oper.uponIn_enter]
  refine ⟨rnd_out,rnd_depth,calls_rnd ((fo_sound hG hm h2 hsn hfn hnb hf).mono ?_)⟩
  ·rintro e w' ⟨v,E',rfl,rfl,k1,k2,k3,k4,k5⟩
   have:=hK v E' k1 k2 k3 k4 fun id h=>(k5 id h).imp (fun h=>h) fun h=>by simp [h]
   rw [hd.1] at this
   exact this
theorem put_rep {E':Env} (hE:E.Le E') {a:Act} (hs:∀t,Rep E (a.tmps.getD t undef) (σ t)) {v:Value} {val:AV} (hv:Rep E' v val) (d:Option Nat):∀t,Rep E' ((a.put d v).tmps.getD t undef) (putσ a.tmps.size d val σ t):=by
 intro t
 unfold putσ
 cases d with
 |none=>simp only [Act.put,reduceCtorEq,false_and,if_false];exact (hs t).step hE
 |some d=>
  simp only [Act.put,Option.some.injEq]
  by_cases h:d=t∧t<a.tmps.size
  ·rw [if_pos h]
   obtain ⟨rfl,hlt⟩:=h
   simpa [hlt] using hv
  ·rw [if_neg h]
   have:(a.tmps.setIfInBounds d v).getD t undef=a.tmps.getD t undef:=by
    simp only [Array.getD_eq_getD_getElem?,Array.getElem?_setIfInBounds]
    by_cases hdt:d=t
    ·subst hdt
     have:¬d<a.tmps.size:=fun hl=>h ⟨rfl,hl⟩
     simp [this]
    ·simp [hdt]
   rw [this];exact (hs t).step hE
theorem put_size (a:Act) (d:Option Nat) (v:Value):(a.put d v).tmps.size=a.tmps.size∧(a.put d v).defers=a.defers:=by
 cases d<;>simp [Act.put]
end
def Fi (P:Program) (f:FuncId) (as_:List AV) (g:Nat→Option Bk) (k:Nat) (r:AV) (g':Nat→Option Bk) (k':Nat):Prop:=
 ∀(E:Env) (J:Nat→Prop) (base:Nat) (vs:Array Value),GlE E→MemAt E J base g→(∀id,E.kn id→id<k)→RC E vs as_→
  Calls P f vs E.w fun e w'=>∃v E',e= .returned v∧E'.w=w'∧E.Le E'∧Rep E' v r∧MemAt E' J base g'∧Below base E.w w'∧∀id,E'.kn id→id<k'
def Yd (P:Program) (kb:Nat) (r:Loop) (caps as_:List AV) (g:Nat→Option Bk) (k:Nat) (g':Nat→Option Bk) (k':Nat):Prop:=
 r.params.size=as_.length∧∀(E:Env) (J:Nat→Prop) (base l:Nat) (vs:Array Value),GlE E→MemAt E J base g→(∀id,E.kn id→id<k)→E.rg l→RC E vs as_→RC E r.tmps caps→E.I l→E.w.heap[l]? =some (.loop r)→
  RoundIn Fence.wide 0 P l r.fn ((r.params.zip vs).foldl (fun t (p,v)=>t.setIfInBounds p v) r.tmps) r.assign r.body E.w fun e w'=>e= .returned (.bool true)∧∃E',E'.w=w'∧(E.lt kb).Le E'∧MemAt E' J base g'∧Below base E.w w'∧∀id,E'.kn id→id<k'
theorem resolve_yield {ρv:Operand→Value} {P:Program} {l:Nat} {c:Call} {x:Operand} {ty:TypeId} (hc:c.callee= .value x) (hx:ρv x= .func (.yield l) #[] #[]) (w:World):
  (do let d←resolve ρv c ty;invoke d.target d.args:Sem Next).run P w=(Instr.yield l (c.args.map ρv)).run P w:=by
 simp [resolve,hc,hx,Deferred.ofValue,invoke]
inductive OpsRun (P:Program) (n k0:Nat):List AOper→(Nat→AV)→(Nat→Option Bk)→Nat→(Nat→AV)→(Nat→Option Bk)→Nat→Prop
 |nil {σ:Nat→AV} {g:Nat→Option Bk} {k:Nat}:OpsRun P n k0 [] σ g k σ g k
 |cons {o:AOper} {os:List AOper} {σ σ':Nat→AV} {g g':Nat→Option Bk} {k k1 k':Nat} {val:AV} {ups:List (Nat×Option Bk)} {acc:List Nat} (h:OpRun P σ g k o val ups acc) (hk:k≤k1) (hu:∀id,id∈ups.map Prod.fst→id<k1)
   (hr:OpsRun P n k0 os (putσ n o.dst val σ) (gput g ups) k1 σ' g' k'):OpsRun P n k0 (o::os) σ g k σ' g' k'
 |inl {o:AOper} {os:List AOper} {σ σ':Nat→AV} {g g1 g':Nat→Option Bk} {k k1 k':Nat} {f:FuncId} {as_:List AV} {r:AV} (hg:guardA σ o.guard=some true) (h:(o.ao.sem k (argσ σ)).run g=some (.call f as_)) (hc:callable P f=true)
   (hf:Fi P f as_ g k r g1 k1) (hr:OpsRun P n k0 os (putσ n o.dst r σ) g1 k1 σ' g' k'):OpsRun P n k0 (o::os) σ g k σ' g' k'
 |yld {o:AOper} {os:List AOper} {σ σ':Nat→AV} {g g1 g':Nat→Option Bk} {k k1 k':Nat} {x:Arg} {args:List Arg} {r:Loop} {caps:List AV} (hg:guardA σ o.guard=some true) (h:o.ao= .call x args) (hx:argσ σ x= .yld r caps)
   {kb:Nat} (hkb:k0≤kb) (hnb:∀t,nb kb 6 (σ t)=true) (hy:Yd P kb r caps (args.map (argσ σ)) g k g1 k1) (hr:OpsRun P n k0 os (putσ n o.dst (.v (.bool true)) σ) g1 k1 σ' g' k'):OpsRun P n k0 (o::os) σ g k σ' g' k'
structure RelS (E0:Env) (J:Nat→Prop) (base:Nat) (w0:World) (n:Nat) (σ:Nat→AV) (g:Nat→Option Bk) (k:Nat) (a:Act) (w:World):Prop where
 ex:∃E:Env,E.w=w∧E0.Le E∧(∀t,Rep E (a.tmps.getD t undef) (σ t))∧MemAt E J base g∧(∀id,E.kn id→id<k)∧Mk E w0.heap.size a.defers
 size:a.tmps.size=n
 below:Below base w0 w
 gl:GlE E0
theorem opsRun_sound {rd:Option Nat} {P:Program} {E0:Env} {n k0:Nat} (hk0:∀id,E0.kn id→id<k0) {ops:Array Oper} {J:Nat→Prop} {base:Nat} {w0:World} {Q:Exit→Act→World→Prop} {os:List AOper} {σ σ':Nat→AV} {g g':Nat→Option Bk} {k k':Nat} (h:OpsRun P n k0 os σ g k σ' g' k'):
  ∀(i:Nat) (a:Act) (w:World),(∀j,j<os.length→∃op,ops[i+j]? =some op∧∃o,os[j]? =some o∧cOper P ops op=some o)→RelS E0 J base w0 n σ g k a w→(∀a w,RelS E0 J base w0 n σ' g' k' a w→Q .normal a w)→wpOpsIn (rnd rd) 0 P ops Q (List.range' i os.length) a w:=by
 induction h with
 |nil=>intro i a w _ hr hQ;exact hQ a w hr
 | @cons o os σ σ' g g' k k1 k' val ups acc h hk hu hr ih=>
  intro i a w hops hrel hQ
  rw [List.length_cons,List.range'_succ,wpOpsIn_cons]
  obtain ⟨op,h1,o',h2,h3⟩:=hops 0 (by simp)
  simp only [List.getElem?_cons_zero,Option.some.injEq] at h2
  subst h2
  rw [Nat.add_zero] at h1
  obtain ⟨E,rfl,hle,hs,hm,hkn,hmk⟩:=hrel.ex
  refine step_sound (hrel.gl.step hle) hs hm (fun hh=>Nat.lt_irrefl _ (hkn k hh)) h1 h3 h fun v E' hE hv hM hB hkn'=> ?_
  refine ih (i+1) _ _ (fun j hj=> ?_) ⟨⟨E',rfl,hle.trans hE, ?_,hM,fun id hid=> ?_, ?_⟩, ?_, ?_,hrel.gl⟩ hQ
  ·obtain ⟨op',m1,o',m2,m3⟩:=hops (j+1) (by simp;omega)
   exact ⟨op',by rw [show i+1+j=i+(j+1) by omega];exact m1,o',by simpa using m2,m3⟩
  ·have:=put_rep hE hs hv o.dst
   rw [hrel.size] at this
   exact this
  ·rcases hkn' id hid with h|h
   ·exact Nat.lt_of_lt_of_le (hkn id h) hk
   ·exact hu id h
  ·rw [(put_size a o.dst v).2];exact hmk.step hE
  ·rw [(put_size a o.dst v).1];exact hrel.size
  ·exact hrel.below.trans hB
 | @inl o os σ σ' g g1 g' k k1 k' f as_ r hg h hcl hf hr ih=>
  intro i a w hops hrel hQ
  rw [List.length_cons,List.range'_succ,wpOpsIn_cons]
  obtain ⟨op,h1,o',h2,h3⟩:=hops 0 (by simp)
  simp only [List.getElem?_cons_zero,Option.some.injEq] at h2
  subst h2
  rw [Nat.add_zero] at h1
  obtain ⟨E,rfl,hle,hs,hm,hkn,hmk⟩:=hrel.ex
  have hd:=cOper_inv h3
  have hsem:∀e,op.semAt (rnd rd).round e=execOp e op:=fun e=>Oper.semAt_plain (rnd rd) _ _ (cOp_nodefer hd.2)
  unfold wpOpIn
  simp only [h1]
  rw [guard_sound hs h3 hg,if_pos rfl]
  obtain ⟨vs,e1,e2⟩:=call_sound (Args.of (hrel.gl.step hle) hs) hd.2 h hcl
  unfold Oper.wpIn
  rw [hsem,e1,Oper.uponIn_enter]
  refine ⟨rnd_out,rnd_depth,calls_rnd ((hf E J base vs (hrel.gl.step hle) hm hkn e2).mono ?_)⟩
  rintro e w' ⟨v,E',rfl,rfl,q1,q2,q3,q4,q5⟩
  refine ih (i+1) _ _ (fun j hj=> ?_) ⟨⟨E',rfl,hle.trans q1, ?_,q3,q5, ?_⟩, ?_, ?_,hrel.gl⟩ hQ
  ·obtain ⟨op',m1,o',m2,m3⟩:=hops (j+1) (by simp;omega)
   exact ⟨op',by rw [show i+1+j=i+(j+1) by omega];exact m1,o',by simpa using m2,m3⟩
  ·have:=put_rep q1 hs q2 op.dst
   rw [hrel.size] at this
   rw [hd.1]
   exact this
  ·rw [(put_size a op.dst v).2];exact hmk.step q1
  ·rw [(put_size a op.dst v).1];exact hrel.size
  ·exact hrel.below.trans q4
 | @yld o os σ σ' g g1 g' k k1 k' x args r caps hg h hx kb hkb hnb hy hr ih=>
  intro i a w hops hrel hQ
  rw [List.length_cons,List.range'_succ,wpOpsIn_cons]
  obtain ⟨op,h1,o',h2,h3⟩:=hops 0 (by simp)
  simp only [List.getElem?_cons_zero,Option.some.injEq] at h2
  subst h2
  rw [Nat.add_zero] at h1
  obtain ⟨E,rfl,hle,hs,hm,hkn,hmk⟩:=hrel.ex
  have hd:=cOper_inv h3
  have hsem:∀e,op.semAt (rnd rd).round e=execOp e op:=fun e=>Oper.semAt_plain (rnd rd) _ _ (cOp_nodefer hd.2)
  have hcop:=hd.2
  rw [h] at hcop
  obtain ⟨c,y,c1,c2,c3,c4⟩:=cOp_call hcop
  have hv:=Args.of (hrel.gl.step hle) hs y x c3
  rw [hx] at hv
  obtain ⟨vv,hvv⟩:∃vv,vv=a.eval y:=⟨_,rfl⟩
  rw [←hvv] at hv
  cases hv with
  | @yld l _ _ hrg hI hh hl hr'=>
   obtain ⟨al,ar⟩:=(Args.of (hrel.gl.step hle) hs).list c4
   have hyl:=run_yield (P:=P) (args:=c.args.map a.eval) hh (by rw [hy.1];simpa using al)
   have e1:(execOp a.eval op).run P E.w= .ok (.round l r.fn ((r.params.zip (c.args.map a.eval)).foldl (fun t (p,v)=>t.setIfInBounds p v) r.tmps) r.assign r.body) E.w:=by
    unfold execOp
    simp only [c1]
    exact (resolve_yield c2 hvv.symm E.w).trans hyl
   unfold wpOpIn
   simp only [h1]
   rw [guard_sound hs h3 hg,if_pos rfl]
   unfold Oper.wpIn
   rw [hsem,e1,Oper.uponIn_round]
   refine ⟨rnd_out,rnd_depth,RoundIn.mono (hy.2 E J base l (c.args.map a.eval) (hrel.gl.step hle) hm hkn hrg ⟨by simpa using al,fun j u c hu hc=>ar j u c (by simpa using hu) hc⟩ ⟨hl,hr'⟩ hI hh) ?_⟩
   rintro e w' ⟨rfl,E',rfl,q1,q3,q4,q5⟩
   refine ih (i+1) _ _ (fun j hj=> ?_) ⟨⟨E',rfl,hle.cut (fun id hi=>Nat.lt_of_lt_of_le (hk0 id hi) hkb) q1, ?_,q3,q5, ?_⟩, ?_, ?_,hrel.gl⟩ hQ
   ·obtain ⟨op',m1,o',m2,m3⟩:=hops (j+1) (by simp;omega)
    exact ⟨op',by rw [show i+1+j=i+(j+1) by omega];exact m1,o',by simpa using m2,m3⟩
   ·have:=put_rep (E:=E') (E':=E') (Env.Le.refl E') (fun t=>(hs t).stepB q1 6 (hnb t)) (v:= .bool true) (.v rfl) op.dst
    rw [hrel.size] at this
    rw [hd.1]
    exact this
   ·rw [(put_size a op.dst _).2];exact Mk.step' (E:=E) q1.imm hmk
   ·rw [(put_size a op.dst _).1];exact hrel.size
   ·exact hrel.below.trans q4
open Go.RowKit
def Arg.slot:Arg→List Nat
 | .s t=>[t]
 | .c _=>[]
def slotsO:Option Arg→List Nat
 |none=>[]
 |some x=>x.slot
def AO.slots:AO→List Nat
 | .mov x| .box _ x| .load _ x| .nilc x| .un _ x| .conv _ x| .fad _ x| .fld _ _ x| .ext _ x| .len _ x| .isn _ _ x=>x.slot
 | .pick a b c=>a.slot++b.slot++c.slot
 | .new _=>[]
 | .agg _ ps=>ps.flatMap fun p=>p.2.2.slot
 | .bsl _ _ _ ps=>ps.flatMap fun p=>p.2.slot
 | .store _ x y| .bin _ _ x y| .iad _ x y| .iap _ _ x y| .ixa _ _ _ x y| .mnx _ x y| .eqs _ _ _ x y| .msl _ _ _ x y| .six x y| .app _ _ x y=>x.slot++y.slot
 | .slc _ x l h m=>x.slot++slotsO l++slotsO h++slotsO m
 | .sls x l h=>x.slot++slotsO l++slotsO h
 | .mkf _ cs| .mkb _ cs=>cs.flatMap Arg.slot
 | .call x l=>x.slot++l.flatMap Arg.slot
 | .clr _ x| .b2s x| .s2b x=>x.slot
 | .cpy _ x y=>x.slot++y.slot
 | .mkm| .bad=>[]
 | .mup _ x k y=>x.slot++k.slot++y.slot
 | .mlk _ _ x k=>x.slot++k.slot
def AO.allocs:AO→Bool
 | .new _| .box _ _| .bsl _ _ _ _| .msl _ _ _ _ _| .app _ _ _ _| .s2b _| .mkm=>true
 |_=>false
def AOper.uses (o:AOper):List Nat:=o.ao.slots++(match o.guard with|some (t,_)=>[t]|none=>[])
theorem arg_congr {σ σ':Nat→AV} {x:Arg} (h:∀t,t∈x.slot→σ' t=σ t):argσ σ' x=argσ σ x:=by
 cases x with
 |s t=>exact h t (by simp [Arg.slot])
 |c a=>rfl
theorem optNat_congr {σ σ':Nat→AV} {x:Option Arg} (h:∀t,t∈slotsO x→σ' t=σ t):optNat (argσ σ') x=optNat (argσ σ) x:=by
 cases x with
 |none=>rfl
 |some a=>simp only [optNat,arg_congr h]
theorem map_congr {σ σ':Nat→AV} {l:List Arg} (h:∀t,t∈l.flatMap Arg.slot→σ' t=σ t):l.map (argσ σ')=l.map (argσ σ):=by
 apply List.map_congr_left
 intro x hx
 exact arg_congr fun t ht=>h t (List.mem_flatMap.2 ⟨x,hx,ht⟩)
theorem fillA_congr {σ σ':Nat→AV}:∀{ps:List (Nat×Nat×Arg)} {cs:List AV},(∀t,t∈ps.flatMap (fun p=>p.2.2.slot)→σ' t=σ t)→fillA (argσ σ') cs ps=fillA (argσ σ) cs ps
 |[],cs,_=>rfl
 |(off,n,x)::r,cs,h=>by
  have h1:=arg_congr (x:=x) (σ:=σ) (σ':=σ') fun t ht=>h t (by simp [ht])
  simp only [fillA,h1]
  split
  ·exact fillA_congr fun t ht=>h t (by rw [List.flatMap_cons];exact List.mem_append_right _ ht)
  ·rfl
theorem fillE_congr {σ σ':Nat→AV} {sz:Nat}:∀{ps:List (Nat×Arg)} {els:List (List AV)},(∀t,t∈ps.flatMap (fun p=>p.2.slot)→σ' t=σ t)→fillE (argσ σ') sz els ps=fillE (argσ σ) sz els ps
 |[],cs,_=>rfl
 |(i,x)::r,cs,h=>by
  have h1:=arg_congr (x:=x) (σ:=σ) (σ':=σ') fun t ht=>h t (by simp [ht])
  simp only [fillE,h1]
  split
  ·exact fillE_congr fun t ht=>h t (by rw [List.flatMap_cons];exact List.mem_append_right _ ht)
  ·rfl
theorem sem_congr {σ σ':Nat→AV} {ao:AO} (fresh:Nat) (h:∀t,t∈ao.slots→σ' t=σ t):ao.sem fresh (argσ σ')=ao.sem fresh (argσ σ):=by
 cases ao<;>simp only [AO.slots,List.mem_append] at h<;>simp only [AO.sem]
 case mov x=>rw [arg_congr h]
 case pick a b c=>rw [arg_congr (x:=a) fun t ht=>h t (.inl (.inl ht)),arg_congr (x:=b) fun t ht=>h t (.inl (.inr ht)),arg_congr (x:=c) fun t ht=>h t (.inr ht)]
 case box n x=>rw [arg_congr h]
 case agg zs ps=>rw [fillA_congr h]
 case bsl sz ln zs ps=>rw [fillE_congr h]
 case load m x=>rw [arg_congr h]
 case store n x y=>rw [arg_congr (x:=x) fun t ht=>h t (.inl ht),arg_congr (x:=y) fun t ht=>h t (.inr ht)]
 case nilc x=>rw [arg_congr h]
 case bin bt op x y=>rw [arg_congr (x:=x) fun t ht=>h t (.inl ht),arg_congr (x:=y) fun t ht=>h t (.inr ht)]
 case un op x=>rw [arg_congr h]
 case conv k x=>rw [arg_congr h]
 case fad off x=>rw [arg_congr h]
 case fld off m x=>rw [arg_congr h]
 case iad sz x y=>rw [arg_congr (x:=x) fun t ht=>h t (.inl ht),arg_congr (x:=y) fun t ht=>h t (.inr ht)]
 case ext i x=>rw [arg_congr h]
 case len b x=>cases b<;>simp only [AO.sem]<;>rw [arg_congr h]
 case isn kd m x=>cases kd<;>simp only [AO.sem]<;>rw [arg_congr h]
 case mnx m x y=>rw [arg_congr (x:=x) fun t ht=>h t (.inl ht),arg_congr (x:=y) fun t ht=>h t (.inr ht)]
 case eqs ng n L x y=>rw [arg_congr (x:=x) fun t ht=>h t (.inl ht),arg_congr (x:=y) fun t ht=>h t (.inr ht)]
 case msl sz by_ zs x y=>rw [arg_congr (x:=x) fun t ht=>h t (.inl ht),arg_congr (x:=y) fun t ht=>h t (.inr ht)]
 case slc sz x lo hi mx=>rw [arg_congr (x:=x) fun t ht=>h t (.inl (.inl (.inl ht))),optNat_congr (x:=lo) fun t ht=>h t (.inl (.inl (.inr ht))),optNat_congr (x:=hi) fun t ht=>h t (.inl (.inr ht)),optNat_congr (x:=mx) fun t ht=>h t (.inr ht)]
 case sls x lo hi=>rw [arg_congr (x:=x) fun t ht=>h t (.inl (.inl ht)),optNat_congr (x:=lo) fun t ht=>h t (.inl (.inr ht)),optNat_congr (x:=hi) fun t ht=>h t (.inr ht)]
 case six x y=>rw [arg_congr (x:=x) fun t ht=>h t (.inl ht),arg_congr (x:=y) fun t ht=>h t (.inr ht)]
 case app sz by_ x y=>rw [arg_congr (x:=x) fun t ht=>h t (.inl ht),arg_congr (x:=y) fun t ht=>h t (.inr ht)]
 case mkf f cs=>rw [map_congr h]
 case mkb f cs=>rw [map_congr h]
 case clr zs x=>rw [arg_congr h]
 case b2s x=>rw [arg_congr h]
 case s2b x=>rw [arg_congr h]
 case cpy sz x y=>rw [arg_congr (x:=x) fun t ht=>h t (.inl ht),arg_congr (x:=y) fun t ht=>h t (.inr ht)]
 case mup kd x k y=>rw [arg_congr (x:=x) fun t ht=>h t (.inl (.inl ht)),arg_congr (x:=k) fun t ht=>h t (.inl (.inr ht)),arg_congr (x:=y) fun t ht=>h t (.inr ht)]
 case mlk kd z x k=>rw [arg_congr (x:=x) fun t ht=>h t (.inl ht),arg_congr (x:=k) fun t ht=>h t (.inr ht)]
 case ixa sz ln m x y=>rw [arg_congr (x:=x) fun t ht=>h t (.inl ht),arg_congr (x:=y) fun t ht=>h t (.inr ht)]
 case iap sz ln x y=>rw [arg_congr (x:=x) fun t ht=>h t (.inl ht),arg_congr (x:=y) fun t ht=>h t (.inr ht)]
 case call x l=>rw [arg_congr (x:=x) fun t ht=>h t (.inl ht),map_congr fun t ht=>h t (.inr ht)]
theorem sem_fresh {ao:AO} (h:ao.allocs=false) (fresh fresh':Nat) (ρ:Arg→AV):ao.sem fresh' ρ=ao.sem fresh ρ:=by
 cases ao<;>simp [AO.allocs] at h<;>first|rfl|skip
 case len b x=>cases b<;>rfl
 case isn kd b x=>cases kd<;>rfl
theorem allocs_fresh {ao:AO} (h:ao.allocs=true) {fresh:Nat} {ρ:Arg→AV} {g:Nat→Option Bk} {val:AV} {ups:List (Nat×Option Bk)} (hr:(ao.sem fresh ρ).run g=some (.done val ups)):fresh∈ups.map Prod.fst:=by
 cases ao<;>simp [AO.allocs] at h<;>simp only [AO.sem] at hr
 case new zs=>simp [RM.run] at hr;rw [←hr.2];simp
 case mkm=>simp [RM.run] at hr;rw [←hr.2];simp
 case box n x=>split at hr<;>simp [RM.run] at hr;rw [←hr.2];simp
 case bsl sz ln zs ps=>
  cases hf:fillE ρ sz (List.replicate ln zs) ps with
  |none=>simp [hf,RM.opt,RM.run] at hr
  |some els=>simp [hf,RM.opt,RM.run] at hr;rw [←hr.2];simp
 case msl sz b zs l c=>
  split at hr
  ·split at hr<;>simp [RM.run] at hr;rw [←hr.2];simp
  ·simp [RM.run] at hr
 case s2b x=>
  split at hr
  ·split at hr<;>simp [RM.run] at hr;rw [←hr.2];simp
  ·simp [RM.run] at hr
 case app sz b s x=>
  obtain ⟨ys,_,hr⟩:=bind_run hr
  split at hr
  ·split at hr<;>simp [RM.run] at hr;rw [←hr.2];simp
  ·split at hr<;>simp [RM.run] at hr;rw [←hr.2];simp
  ·simp only [RM.run] at hr
   split at hr
   ·split at hr
    ·simp [RM.run] at hr;rw [←hr.2];simp
    ·split at hr<;>simp [RM.run] at hr;rw [←hr.2];simp
   ·simp at hr
  ·simp [RM.run] at hr
theorem OpRun.local {P:Program} {σ σ':Nat→AV} {g g':Nat→Option Bk} {fr fr':Nat} {o:AOper} {val:AV} {ups:List (Nat×Option Bk)} {acc:List Nat} (h:OpRun P σ g fr o val ups acc)
  (hσ:∀t,t∈o.uses→σ' t=σ t) (hg:∀id,id∈acc→g' id=g id) (hfr:fr∈ups.map Prod.fst→fr'=fr):∃acc',OpRun P σ' g' fr' o val ups acc':=by
 have hgd:guardA σ' o.guard=guardA σ o.guard:=by
  cases hg0:o.guard with
  |none=>rfl
  |some p=>
   obtain ⟨t,w⟩:=p
   simp only [guardA,hσ t (by simp [AOper.uses,hg0])]
 have hsem:∀out,(o.ao.sem fr (argσ σ)).run g=some out→(∀id,id∈(o.ao.sem fr (argσ σ)).acc g++(o.ao.sem fr (argσ σ)).see g→g' id=g id)→(o.ao.allocs=true→fr'=fr)→(o.ao.sem fr' (argσ σ')).run g'=some out:=by
  intro out h1 h2 h3
  have e1:o.ao.sem fr' (argσ σ')=o.ao.sem fr (argσ σ):=by
   rw [sem_congr fr' fun t ht=>hσ t (by simp [AOper.uses,ht])]
   cases hal:o.ao.allocs with
   |false=>exact sem_fresh hal _ _ _
   |true=>rw [h3 hal]
  rw [e1,RM.local _ (fun id hid=>h2 id (List.mem_append_left _ hid)) (fun id hid=>by rw [h2 id (List.mem_append_right _ hid)])]
  exact h1
 cases h with
 |skip hg0=>exact ⟨_, .skip (hgd.trans hg0)⟩
 |done hg0 h1=>exact ⟨_, .done (hgd.trans hg0) (hsem _ h1 hg fun hal=>hfr (allocs_fresh hal h1))⟩
 | @call f as_ as' r hg0 h1 hc hs hf=>
  have hal:o.ao.allocs=false:=by
   cases hx:o.ao with
   |call x l=>rfl
   |_=>exact absurd h1 (noCall (by rw [hx];simp))
  refine ⟨_, .call (hgd.trans hg0) (hsem _ h1 (fun id hid=>hg id (List.mem_append_left _ hid)) fun h=>by rw [hal] at h;simp at h) hc ?_ hf⟩
  rw [RM.local _ (fun id hid=>hg id (List.mem_append_right _ (List.mem_append_left _ hid))) (fun id hid=>by rw [hg id (List.mem_append_right _ (List.mem_append_right _ hid))])]
  exact hs
 | @callO f as_ as' sz els hg0 h1 hc hs hf hn=>
  have hal:o.ao.allocs=false:=by
   cases hx:o.ao with
   |call x l=>rfl
   |_=>exact absurd h1 (noCall (by rw [hx];simp))
  have hfe:fr'=fr:=hfr (by simp)
  subst hfe
  refine ⟨_, .callO (hgd.trans hg0) (hsem _ h1 (fun id hid=>hg id (List.mem_append_left _ hid)) fun _=>rfl) hc ?_ hf hn⟩
  rw [RM.local _ (fun id hid=>hg id (List.mem_append_right _ (List.mem_append_left _ hid))) (fun id hid=>by rw [hg id (List.mem_append_right _ (List.mem_append_right _ hid))])]
  exact hs
structure Rec where
 dst:Option Nat
 val:AV
 ups:List (Nat×Option Bk)
 acc:List Nat
 fr:Nat
def Rec.keys (r:Rec):List Nat:=r.ups.map Prod.fst
inductive OpsRec (P:Program) (n:Nat):List AOper→(Nat→AV)→(Nat→Option Bk)→Nat→List Rec→(Nat→AV)→(Nat→Option Bk)→Nat→Prop
 |nil {σ:Nat→AV} {g:Nat→Option Bk} {k:Nat}:OpsRec P n [] σ g k [] σ g k
 |cons {o:AOper} {os:List AOper} {σ σ':Nat→AV} {g g':Nat→Option Bk} {k k1 k':Nat} {val:AV} {ups:List (Nat×Option Bk)} {acc:List Nat} {rs:List Rec} (h:OpRun P σ g k o val ups acc) (hk:k≤k1) (hu:∀id,id∈ups.map Prod.fst→id<k1)
   (hr:OpsRec P n os (putσ n o.dst val σ) (gput g ups) k1 rs σ' g' k'):OpsRec P n (o::os) σ g k (⟨o.dst,val,ups,acc,k⟩::rs) σ' g' k'
def lastW {β:Type} (L:Nat→Bool) (w:Rec→Option β):Nat→List Rec→β→β
 |_,[],x=>x
 |k,r::rs,x=>lastW L w (k+1) rs (if L k=true then (w r).getD x else x)
theorem lastW_congr {β:Type} {L L':Nat→Bool} {w:Rec→Option β}:∀(rs:List Rec) (k:Nat) (x:β),(∀(j:Nat) r,rs[j]? =some r→L (k+j)≠L' (k+j)→w r=none)→lastW L w k rs x=lastW L' w k rs x
 |[],k,x,_=>rfl
 |r::rs,k,x,h=>by
  simp only [lastW]
  have h0:=h 0 r rfl
  rw [Nat.add_zero] at h0
  have e:(if L k=true then (w r).getD x else x)=if L' k=true then (w r).getD x else x:=by
   by_cases hl:L k=L' k
   ·rw [hl]
   ·rw [h0 hl];simp
  rw [e]
  exact lastW_congr rs (k+1) _ fun j r' hr hl=>h (j+1) r' (by simpa using hr) (by rw [show k+(j+1)=k+1+j by omega];exact hl)
theorem lastW_none {β:Type} {L:Nat→Bool} {w:Rec→Option β}:∀(rs:List Rec) (k:Nat) (x:β),(∀(j:Nat) r,rs[j]? =some r→L (k+j)=true→w r=none)→lastW L w k rs x=x
 |[],k,x,_=>rfl
 |r::rs,k,x,h=>by
  simp only [lastW]
  have e:(if L k=true then (w r).getD x else x)=x:=by
   split
   ·rename_i hl;rw [h 0 r rfl (by simpa using hl)];rfl
   ·rfl
  rw [e]
  exact lastW_none rs (k+1) _ fun j r' hr hl=>h (j+1) r' (by simpa using hr) (by rw [show k+(j+1)=k+1+j by omega];exact hl)
theorem lastW_ins {β:Type} {L L':Nat→Bool} {w:Rec→Option β}:∀(rs:List Rec) (k i:Nat) (x:β) (r:Rec),rs[i]? =some r→L (k+i)=false→(∀j,L' j=if j=k+i then true else L j)→(∀(j:Nat) r',i<j→rs[j]? =some r'→L (k+j)=true→w r'=none∨w r=none)→
  lastW L' w k rs x=(w r).getD (lastW L w k rs x)
 |[],k,i,x,r,hr,_,_,_=>by simp at hr
 |r0::rs,k,0,x,r,hr,hf,hL,hn=>by
  simp only [List.getElem?_cons_zero,Option.some.injEq] at hr
  subst hr
  simp only [lastW,hL k,Nat.add_zero,if_true]
  rw [Nat.add_zero] at hf
  rw [hf]
  simp only [Bool.false_eq_true,if_false]
  cases hw:w r0 with
  |none=>
   simp only [Option.getD_none]
   refine lastW_congr rs (k+1) x fun j r' hr' hl=> ?_
   rw [hL,if_neg (by omega)] at hl
   exact absurd rfl hl
  |some y=>
   simp only [Option.getD_some]
   refine lastW_none rs (k+1) y fun j r' hr' hl=> ?_
   rw [hL,if_neg (by omega)] at hl
   exact (hn (j+1) r' (by omega) (by simpa using hr') (by rw [show k+(j+1)=k+1+j by omega];exact hl)).resolve_right (by rw [hw];simp)
 |r0::rs,k,i+1,x,r,hr,hf,hL,hn=>by
  simp only [lastW]
  have e:L' k=L k:=by rw [hL k,if_neg (by omega)]
  rw [e]
  exact lastW_ins rs (k+1) i _ r (by simpa using hr) (by rw [show k+1+i=k+(i+1) by omega];exact hf) (fun j=>by rw [hL j,show k+1+i=k+(i+1) by omega]) fun j r' hj hr' hl=>hn (j+1) r' (by omega) (by simpa using hr') (by rw [show k+(j+1)=k+1+j by omega];exact hl)
theorem lastW_shift {β:Type} {L:Nat→Bool} {w:Rec→Option β}:∀(rs:List Rec) (k:Nat) (x:β),lastW L w (k+1) rs x=lastW (fun j=>L (j+1)) w k rs x
 |[],_,_=>rfl
 |r::rs,k,x=>by
  simp only [lastW]
  exact lastW_shift rs (k+1) _
def wσ (n t:Nat) (r:Rec):Option AV:=if r.dst=some t∧t<n then some r.val else none
def kv:List (Nat×Option Bk)→Nat→Option (Option Bk)
 |[],_=>none
 |(k,x)::r,id=>match kv r id with
  |some y=>some y
  |none=>if id=k then some x else none
theorem gput_kv:∀(ups:List (Nat×Option Bk)) (g:Nat→Option Bk) (id:Nat),gput g ups id=(kv ups id).getD (g id)
 |[],g,id=>rfl
 |(k,x)::r,g,id=>by
  simp only [gput,kv,gput_kv r]
  cases kv r id with
  |some y=>rfl
  |none=>
   simp only [Option.getD_none]
   by_cases h:id=k
   ·simp [h]
   ·simp [h]
theorem kv_mem:∀{ups:List (Nat×Option Bk)} {id:Nat},kv ups id≠none→id∈ups.map Prod.fst
 |[],id,h=>by simp [kv] at h
 |(k,x)::r,id,h=>by
  simp only [kv] at h
  cases hr:kv r id with
  |some y=>simp only [List.map_cons,List.mem_cons];exact .inr (kv_mem (by rw [hr];simp))
  |none=>
   rw [hr] at h
   by_cases hk:id=k
   ·simp [hk]
   ·simp [hk] at h
def wg (id:Nat) (r:Rec):Option (Option Bk):=kv r.ups id
theorem putσ_wσ (n t:Nat) (r:Rec) (σ:Nat→AV):putσ n r.dst r.val σ t=(wσ n t r).getD (σ t):=by
 unfold putσ wσ
 split<;>rfl
def upto (i j:Nat):Bool:=decide (j<i)
def σat (n:Nat) (L:Nat→Bool) (rs:List Rec) (σ:Nat→AV) (t:Nat):AV:=lastW L (wσ n t) 0 rs (σ t)
def gat (L:Nat→Bool) (rs:List Rec) (g:Nat→Option Bk) (id:Nat):Option Bk:=lastW L (wg id) 0 rs (g id)
theorem rec_canon {P:Program} {n:Nat} {os:List AOper} {σ σ':Nat→AV} {g g':Nat→Option Bk} {k k':Nat} {rs:List Rec} (h:OpsRec P n os σ g k rs σ' g' k'):
  rs.length=os.length∧k≤k'∧(∀(i:Nat) o,os[i]? =some o→∃r,rs[i]? =some r∧r.dst=o.dst∧OpRun P (σat n (upto i) rs σ) (gat (upto i) rs g) r.fr o r.val r.ups r.acc∧k≤r.fr)∧
   (∀(i j:Nat) ri rj,i<j→rs[i]? =some ri→rs[j]? =some rj→∀id,id∈ri.keys→id<rj.fr)∧(∀(i:Nat) r,rs[i]? =some r→∀id,id∈r.keys→id<k')∧σ'=σat n (fun _=>true) rs σ∧g'=gat (fun _=>true) rs g:=by
 induction h with
 |nil=>exact ⟨rfl,Nat.le_refl _,fun i o ho=>by simp at ho,fun i j ri rj _ h=>by simp at h,fun i r h=>by simp at h,rfl,rfl⟩
 | @cons o os σ σ' g g' k k1 k' val ups acc rs h hk hu hr ih=>
  obtain ⟨i1,i2,i3,i4,i5,i6,i7⟩:=ih
  have e1:∀i,σat n (upto (i+1)) (⟨o.dst,val,ups,acc,k⟩::rs) σ=σat n (upto i) rs (putσ n o.dst val σ):=by
   intro i;funext t
   show lastW _ _ 1 rs _=_
   rw [lastW_shift]
   unfold σat
   congr 1
   ·funext j;simp [upto]
   ·rw [if_pos (by simp [upto])];exact (putσ_wσ n t ⟨o.dst,val,ups,acc,k⟩ σ).symm
  have e2:∀i,gat (upto (i+1)) (⟨o.dst,val,ups,acc,k⟩::rs) g=gat (upto i) rs (gput g ups):=by
   intro i;funext id
   show lastW _ _ 1 rs _=_
   rw [lastW_shift]
   unfold gat
   congr 1
   ·funext j;simp [upto]
   ·rw [if_pos (by simp [upto]),gput_kv];rfl
  refine ⟨by simp [i1],Nat.le_trans hk i2,fun i o' ho=> ?_,fun i j ri rj hij hi hj id hid=> ?_,fun i r hr' id hid=> ?_, ?_, ?_⟩
  ·cases i with
   |zero=>
    simp only [List.getElem?_cons_zero,Option.some.injEq] at ho
    subst ho
    refine ⟨_,rfl,rfl, ?_,Nat.le_refl _⟩
    have s0:σat n (upto 0) (⟨o.dst,val,ups,acc,k⟩::rs) σ=σ:=by funext t;exact lastW_none _ 0 _ fun j r _ hl=>by simp [upto] at hl
    have g0:gat (upto 0) (⟨o.dst,val,ups,acc,k⟩::rs) g=g:=by funext t;exact lastW_none _ 0 _ fun j r _ hl=>by simp [upto] at hl
    rw [s0,g0]
    exact h
   |succ i=>
    obtain ⟨r,r1,r2,r3,r4⟩:=i3 i o' (by simpa using ho)
    exact ⟨r,by simpa using r1,r2,by rw [e1,e2];exact r3,Nat.le_trans hk r4⟩
  ·cases j with
   |zero=>omega
   |succ j=>
    simp only [List.getElem?_cons_succ] at hj
    cases i with
    |zero=>
     simp only [List.getElem?_cons_zero,Option.some.injEq] at hi
     subst hi
     have hjl:j<os.length:=by rw [←i1];exact (List.getElem?_eq_some_iff.1 hj).1
     obtain ⟨r,r1,_,_,r4⟩:=i3 j _ (List.getElem?_eq_getElem hjl)
     rw [hj] at r1
     simp only [Option.some.injEq] at r1
     subst r1
     exact Nat.lt_of_lt_of_le (hu id hid) r4
    |succ i=>exact i4 i j ri rj (by omega) (by simpa using hi) hj id hid
  ·cases i with
   |zero=>
    simp only [List.getElem?_cons_zero,Option.some.injEq] at hr'
    subst hr'
    exact Nat.lt_of_lt_of_le (hu id hid) i2
   |succ i=>exact i5 i r (by simpa using hr') id hid
  ·rw [i6]
   funext t
   unfold σat
   simp only [lastW]
   rw [lastW_shift,if_true,putσ_wσ n t ⟨o.dst,val,ups,acc,k⟩ σ]
  ·rw [i7]
   funext id
   unfold gat
   simp only [lastW]
   rw [lastW_shift,if_true,gput_kv]
   rfl
def slotFree (x y:AOper):Bool:=
 (match x.dst with|some d=> !y.uses.contains d&&y.dst !=some d|none=>true)&&(match y.dst with|some d=> !x.uses.contains d|none=>true)
def idFree (x y:Rec):Bool:=(x.keys.all fun id=> !y.acc.contains id&& !y.keys.contains id)&&(y.keys.all fun id=> !x.acc.contains id)
def dirOf (o:Oper):List Nat:=o.after.toList.filterMap fun e=>if Region.binds .any e=true then some e.on else none
def depOK (ops:List Oper) (dep:List (List Nat)):Bool:=
 dep.length==ops.length&&(List.range ops.length).all fun j=>((ops[j]?.map dirOf).getD []).all (· <j)&&
  ((dep[j]?).getD []).all fun i=>i<j&&(((ops[j]?.map dirOf).getD []).contains i||((ops[j]?.map dirOf).getD []).any fun e=>((dep[e]?).getD []).contains i)
def slotsOK (os:List AOper) (dep:List (List Nat)):Bool:=
 (List.range os.length).all fun j=>(List.range j).all fun i=>((dep[j]?).getD []).contains i||(match os[i]?,os[j]? with|some x,some y=>slotFree x y|_,_=>false)
def idsOK (rs:List Rec) (dep:List (List Nat)):Bool:=
 (List.range rs.length).all fun j=>(List.range j).all fun i=>((dep[j]?).getD []).contains i||(match rs[i]?,rs[j]? with|some x,some y=>idFree x y|_,_=>false)
theorem nodup_len:∀(N:Nat) (m:List Nat),m.Nodup→(∀j,j∈m→j<N)→m.length≤N
 |0,m,_,h=>by
  cases m with
  |nil=>simp
  |cons a l=>have:=h a (by simp);omega
 |N+1,m,hn,h=>by
  have ih:=nodup_len N (m.erase N) (hn.erase N) fun j hj=>by
   have hjm:=List.mem_of_mem_erase hj
   have:=h j hjm
   have hne:j≠N:=fun e=>by
    subst e
    exact (List.Nodup.mem_erase_iff hn).1 hj|>.1 rfl
   omega
  rw [List.length_erase] at ih
  split at ih<;>omega
section
variable {P:Program} {E0:Env} {n:Nat} {ops:Array Oper} {J:Nat→Prop} {base:Nat} {w0:World} {Q:Exit→Act→World→Prop} {os:List AOper} {dep:List (List Nat)} {σ σ':Nat→AV} {g g':Nat→Option Bk} {k k':Nat} {rs:List Rec}
structure DInv (E0:Env) (n:Nat) (ops:Array Oper) (J:Nat→Prop) (base:Nat) (w0:World) (σ:Nat→AV) (g:Nat→Option Bk) (k:Nat) (rs:List Rec) (listed:Array Bool) (a:Act) (w:World):Prop where
 ex:∃E:Env,E.w=w∧E0.Le E∧(∀t,Rep E (a.tmps.getD t undef) (σat n (fun j=>listed.getD j false) rs σ t))∧MemAt E J base (gat (fun j=>listed.getD j false) rs g)∧
  (∀id,E.kn id→id<k∨∃j r,listed.getD j false=true∧rs[j]? =some r∧id∈r.keys)∧Mk E w0.heap.size a.defers
 size:a.tmps.size=n
 below:Below base w0 w
 gl:GlE E0
 lsize:listed.size=ops.size
 closed:∀(j:Nat) op,ops[j]? =some op→listed.getD j false=true→∀e,e∈dirOf op→listed.getD e false=true
theorem mem_dirOf {op:Oper} {e:Nat}:e∈dirOf op↔∃x,x∈op.after∧Region.binds .any x=true∧x.on=e:=by
 unfold dirOf
 rw [List.mem_filterMap]
 constructor
 ·rintro ⟨x,hx,h⟩
  split at h
  ·rename_i hb;simp only [Option.some.injEq] at h;exact ⟨x,by simpa using hx,hb,h⟩
  ·simp at h
 ·rintro ⟨x,hx,hb,he⟩
  exact ⟨x,by simpa using hx,by simp [hb,he]⟩
theorem dep_closed (hd:depOK ops.toList dep=true) {listed:Array Bool} (hc:∀(j:Nat) op,ops[j]? =some op→listed.getD j false=true→∀e,e∈dirOf op→listed.getD e false=true):
  ∀(j:Nat) op,ops[j]? =some op→(∀e,e∈dirOf op→listed.getD e false=true)→∀i,i∈(dep[j]?).getD []→listed.getD i false=true:=by
 intro j
 induction j using Nat.strongRecOn with
 |_ j ih=>
  intro op hop hdir i hi
  have hjl:j<ops.toList.length:=by simpa using (Array.getElem?_eq_some_iff.1 hop).1
  unfold depOK at hd
  simp only [Bool.and_eq_true,List.all_eq_true,List.mem_range,decide_eq_true_eq,Bool.or_eq_true,List.any_eq_true,List.contains_iff_mem] at hd
  have hj:=hd.2 j hjl
  have hopl:ops.toList[j]? =some op:=by simpa using hop
  simp only [hopl,Option.map_some,Option.getD_some] at hj
  obtain ⟨h1,h2⟩:=hj.2 i hi
  rcases h2 with h2|⟨e,he,h2⟩
  ·exact hdir i h2
  ·have hej:e<j:=hj.1 e he
   have hel:e<ops.size:=by simp at hjl;omega
   exact ih e hej ops[e] (Array.getElem?_eq_getElem hel) (hc e _ (Array.getElem?_eq_getElem hel) (hdir e he)) i h2
end
open Go.RowKit
def dumO:AOper:=⟨none, .mov (.c (.v undef)),none⟩
def dumR (k:Nat):Rec:=⟨none, .v undef,[],[],k⟩
def barOK (dep:List (List Nat)) (b N:Nat):Bool:=
 ((List.range b).all fun i=>((dep[b]?).getD []).contains i)&&(List.range N).all fun j=>decide (j≤b)||((dep[j]?).getD []).contains b
section
variable {P:Program} {E0:Env} {n:Nat} {ops:Array Oper} {J:Nat→Prop} {base:Nat} {w0:World} {Q:Exit→Act→World→Prop} {os:List AOper} {dep:List (List Nat)} {σ σ':Nat→AV} {g g':Nat→Option Bk} {k k':Nat} {rs:List Rec}
theorem draw_soundB {rd:Option Nat} {i0 i1:Nat} (hrec:OpsRec P n os σ g k rs σ' g' k') (hlen:os.length=i1) (hi1:i1≤ops.size) (hops:∀(j:Nat) op,i0≤j→j<i1→ops[j]? =some op→∃o,os[j]? =some o∧cOper P ops op=some o)
  (hd:depOK ops.toList dep=true) (hsl:slotsOK os dep=true) (hid:idsOK rs dep=true)
  (inlt:∀listed:Array Bool,(∀(j:Nat) op,ops[j]? =some op→listed.getD j false=true→∀e,e∈dirOf op→listed.getD e false=true)→(∀j,listed.getD j false=true→j<i1)→(¬∀j,j<i1→listed.getD j false=true)→∀i op,ops[i]? =some op→(∀e,e∈dirOf op→listed.getD e false=true)→i<i1)
  (hK:∀fuel listed a w,RelS E0 J base w0 n σ' g' k' a w→listed.size=ops.size→(∀j,listed.getD j false=decide (j<i1))→(∀m:List Nat,(∀j,j∈m→j<ops.size∧listed.getD j true=false)→m.Nodup→m.length≤fuel)→wpAnyIn (rnd rd) 0 P .any ops Q fuel listed a w):
  ∀(fuel:Nat) (listed:Array Bool) (a:Act) (w:World),DInv E0 n ops J base w0 σ g k rs listed a w→(∀j,j<i0→listed.getD j false=true)→(∀j,listed.getD j false=true→j<i1)→(∀m:List Nat,(∀j,j∈m→j<ops.size∧listed.getD j true=false)→m.Nodup→m.length≤fuel)→wpAnyIn (rnd rd) 0 P .any ops Q fuel listed a w:=by
 obtain ⟨c1,c2,c3,c4,c5,c6,c7⟩:=rec_canon hrec
 have done:∀(fuel:Nat) (listed:Array Bool) (a:Act) (w:World),DInv E0 n ops J base w0 σ g k rs listed a w→(∀j,listed.getD j false=true→j<i1)→(∀m:List Nat,(∀j,j∈m→j<ops.size∧listed.getD j true=false)→m.Nodup→m.length≤fuel)→(∀j,j<i1→listed.getD j false=true)→wpAnyIn (rnd rd) 0 P .any ops Q fuel listed a w:=by
  intro fuel listed a w hI hhi hcount hall
  obtain ⟨E,rfl,hle,h1,h2,h3,hmk⟩:=hI.ex
  have e6:σat n (fun j=>listed.getD j false) rs σ=σ':=by
   rw [c6];funext t
   refine lastW_congr _ 0 _ fun j r hr hl=>absurd ?_ hl
   rw [Nat.zero_add,hall j (by rw [←hlen, ←c1];exact (List.getElem?_eq_some_iff.1 hr).1)]
  have e7:gat (fun j=>listed.getD j false) rs g=g':=by
   rw [c7];funext t
   refine lastW_congr _ 0 _ fun j r hr hl=>absurd ?_ hl
   rw [Nat.zero_add,hall j (by rw [←hlen, ←c1];exact (List.getElem?_eq_some_iff.1 hr).1)]
  rw [e6] at h1;rw [e7] at h2
  refine hK fuel listed a E.w ⟨⟨E,rfl,hle,h1,h2,fun id hh=> ?_,hmk⟩,hI.size,hI.below,hI.gl⟩ hI.lsize (fun j=> ?_) hcount
  ·rcases h3 id hh with h|⟨j,r,_,hr,hk⟩
   ·exact Nat.lt_of_lt_of_le h c2
   ·exact c5 j r hr id hk
  ·by_cases hj:j<i1
   ·rw [hall j hj];simp [hj]
   ·cases hl:listed.getD j false with
    |true=>exact absurd (hhi j hl) hj
    |false=>simp [hj]
 have first:∀(listed:Array Bool),listed.size=ops.size→(∀(j:Nat) op,ops[j]? =some op→listed.getD j false=true→∀e,e∈dirOf op→listed.getD e false=true)→(¬∀j,j<i1→listed.getD j false=true)→Region.ready .any ops listed≠[]:=by
  intro listed hls hcl hall hr
  refine hall fun j=> ?_
  induction j using Nat.strongRecOn with
  |_ j ih=>
   intro hj
   cases hl:listed.getD j false with
   |true=>rfl
   |false=>
    exfalso
    have hjs:j<listed.size:=by rw [hls];omega
    have hjo:j<ops.size:=by omega
    have:j∈Region.ready .any ops listed:=by
     rw [mem_ready]
     refine ⟨by simp [hjs] at hl ⊢; exact hl,ops[j],Array.getElem?_eq_getElem hjo,fun e he hb=> ?_⟩
     have hdj:=hd
     unfold depOK at hdj
     simp only [Bool.and_eq_true,List.all_eq_true,List.mem_range,decide_eq_true_eq] at hdj
     have hj2:=(hdj.2 j (by simpa using hjo)).1
     have hopl:ops.toList[j]? =some ops[j]:=by simp [hjo]
     simp only [hopl,Option.map_some,Option.getD_some] at hj2
     have hlt:=hj2 e.on (mem_dirOf.2 ⟨e,he,hb,rfl⟩)
     exact ih e.on hlt (by omega)
    rw [hr] at this
    simp at this
 intro fuel
 induction fuel with
 |zero=>
  intro listed a w hI hlo hhi hcount
  by_cases hall:∀j,j<i1→listed.getD j false=true
  ·exact done 0 listed a w hI hhi hcount hall
  ·exfalso
   cases hr:Region.ready .any ops listed with
   |nil=>exact first listed hI.lsize hI.closed hall hr
   |cons x xs=>
    have hx:x∈Region.ready .any ops listed:=by rw [hr];simp
    obtain ⟨m1,o,m2,_⟩:=mem_ready.1 hx
    have:=hcount [x] (fun j hj=>by simp at hj;subst hj;exact ⟨(Array.getElem?_eq_some_iff.1 m2).1,m1⟩) (by simp)
    simp at this
 |succ fuel ih=>
  intro listed a w hI hlo hhi hcount
  by_cases hall:∀j,j<i1→listed.getD j false=true
  ·exact done _ listed a w hI hhi hcount hall
  refine ⟨fun hr=>absurd hr (first listed hI.lsize hI.closed hall),fun i hi=> ?_⟩
  obtain ⟨m1,op,m2,m3⟩:=mem_ready.1 hi
  have hil:i<ops.size:=(Array.getElem?_eq_some_iff.1 m2).1
  have hunl:listed.getD i false=false:=by
   have:i<listed.size:=by rw [hI.lsize];exact hil
   simp [this] at m1 ⊢; exact m1
  have hdir:∀e,e∈dirOf op→listed.getD e false=true:=fun e he=>by
   obtain ⟨x,hx,hb,rfl⟩:=mem_dirOf.1 he
   exact m3 x hx hb
  have hin:i<i1:=inlt listed hI.closed hhi hall i op m2 hdir
  have hin0:i0≤i:=by
   rcases Nat.lt_or_ge i i0 with h|h
   ·have:=hlo i h;rw [hunl] at this;simp at this
   ·exact h
  obtain ⟨o,ho,hco⟩:=hops i op hin0 hin m2
  obtain ⟨r,hri,hrd,hrun,hfr⟩:=c3 i o ho
  obtain ⟨E,rfl,hle,h1,h2,h3,hmk⟩:=hI.ex
  -- whoever is listed out of turn is free of this one
  have free:∀j rj oj,j≠i→rs[j]? =some rj→os[j]? =some oj→listed.getD j false≠upto i j→(slotFree (if i<j then o else oj) (if i<j then oj else o)=true∧idFree (if i<j then r else rj) (if i<j then rj else r)=true):=by
   intro j rj oj hne hrj hoj hl
   have hjl:j<os.length:=(List.getElem?_eq_some_iff.1 hoj).1
   unfold slotsOK at hsl
   unfold idsOK at hid
   simp only [List.all_eq_true,List.mem_range,Bool.or_eq_true,List.contains_iff_mem] at hsl hid
   by_cases hij:i<j
   ·rw [if_pos hij,if_pos hij,if_pos hij,if_pos hij]
    have hlj:listed.getD j false=true:=by
     have hu:upto i j=false:=by simp [upto];omega
     rw [hu] at hl
     simpa using hl
    have hnd:i∉(dep[j]?).getD []:=by
     intro hmem
     have hjo:j<ops.size:=by omega
     have:=dep_closed hd hI.closed j ops[j] (Array.getElem?_eq_getElem hjo) (hI.closed j _ (Array.getElem?_eq_getElem hjo) hlj) i hmem
     rw [hunl] at this;simp at this
    have s1:=(hsl j hjl i hij).resolve_left hnd
    have s2:=(hid j (by rw [c1];exact hjl) i hij).resolve_left hnd
    rw [ho,hoj] at s1;rw [hri,hrj] at s2
    exact ⟨s1,s2⟩
   ·rw [if_neg hij,if_neg hij,if_neg hij,if_neg hij]
    have hji:j<i:=by omega
    have hlj:listed.getD j false=false:=by
     have hu:upto i j=true:=by simp [upto];omega
     rw [hu] at hl
     simpa using hl
    have hnd:j∉(dep[i]?).getD []:=by
     intro hmem
     have:=dep_closed hd hI.closed i op m2 hdir j hmem
     rw [hlj] at this;simp at this
    have s1:=(hsl i (by omega) j hji).resolve_left hnd
    have s2:=(hid i (by omega) j hji).resolve_left hnd
    rw [ho,hoj] at s1;rw [hri,hrj] at s2
    exact ⟨s1,s2⟩
  have getO:∀(j:Nat) rj,rs[j]? =some rj→∃oj,os[j]? =some oj∧rj.dst=oj.dst:=fun j rj hrj=>by
   have hjl:j<os.length:=by rw [←c1];exact (List.getElem?_eq_some_iff.1 hrj).1
   obtain ⟨r',q1,q2,_,_⟩:=c3 j _ (List.getElem?_eq_getElem hjl)
   rw [hrj] at q1;simp only [Option.some.injEq] at q1;subst q1
   exact ⟨_,List.getElem?_eq_getElem hjl,q2⟩
  -- a slot that it looks at is as it comes one behind the other
  have hσ:∀t,t∈o.uses→σat n (fun j=>listed.getD j false) rs σ t=σat n (upto i) rs σ t:=by
   intro t ht
   refine lastW_congr _ 0 _ fun j rj hrj hl=> ?_
   rw [Nat.zero_add] at hl
   by_cases hne:j=i
   ·subst hne;rw [hunl] at hl;simp [upto] at hl
   ·obtain ⟨oj,hoj,hdj⟩:=getO j rj hrj
    have hf:=(free j rj oj hne hrj hoj hl).1
    unfold wσ
    rw [if_neg]
    rintro ⟨hdt,_⟩
    rw [hdj] at hdt
    unfold slotFree at hf
    by_cases hij:i<j
    ·simp only [if_pos hij,hdt,Bool.and_eq_true,Bool.not_eq_true',List.contains_eq_mem,decide_eq_false_iff_not] at hf
     exact hf.2 ht
    ·simp only [if_neg hij,hdt,Bool.and_eq_true,Bool.not_eq_true',List.contains_eq_mem,decide_eq_false_iff_not] at hf
     exact hf.1.1 ht
  have hg:∀id,id∈r.acc→gat (fun j=>listed.getD j false) rs g id=gat (upto i) rs g id:=by
   intro id hida
   refine lastW_congr _ 0 _ fun j rj hrj hl=> ?_
   rw [Nat.zero_add] at hl
   by_cases hne:j=i
   ·subst hne;rw [hunl] at hl;simp [upto] at hl
   ·obtain ⟨oj,hoj,hdj⟩:=getO j rj hrj
    have hf:=(free j rj oj hne hrj hoj hl).2
    cases hw:wg id rj with
    |none=>rfl
    |some y=>
     exfalso
     have hk:id∈rj.keys:=kv_mem (by unfold wg at hw;rw [hw];simp)
     unfold idFree at hf
     by_cases hij:i<j
     ·simp only [if_pos hij,Bool.and_eq_true,List.all_eq_true,Bool.not_eq_true',List.contains_eq_mem,decide_eq_false_iff_not] at hf
      exact hf.2 id hk hida
     ·simp only [if_neg hij,Bool.and_eq_true,List.all_eq_true,Bool.not_eq_true',List.contains_eq_mem,decide_eq_false_iff_not] at hf
      exact (hf.1 id hk).1 hida
  -- a name that nobody has
  have hname:∃fr',¬E.kn fr'∧(r.fr∈r.ups.map Prod.fst→fr'=r.fr):=by
   by_cases hin:r.fr∈r.ups.map Prod.fst
   ·refine ⟨r.fr,fun hk=> ?_,fun _=>rfl⟩
    rcases h3 _ hk with h|⟨j,rj,hlj,hrj,hkj⟩
    ·omega
    ·by_cases hne:j=i
     ·subst hne;rw [hunl] at hlj;simp at hlj
     ·by_cases hij:i<j
      ·obtain ⟨oj,hoj,_⟩:=getO j rj hrj
       have hf:=(free j rj oj hne hrj hoj (by rw [hlj];simp [upto];omega)).2
       unfold idFree at hf
       simp only [if_pos hij,Bool.and_eq_true,List.all_eq_true,Bool.not_eq_true',List.contains_eq_mem,decide_eq_false_iff_not] at hf
       exact (hf.1 _ hin).2 hkj
      ·have:=c4 j i rj r (by omega) hrj hri _ hkj
       exact Nat.lt_irrefl _ this
   ·refine ⟨k',fun hk=> ?_,fun h=>absurd h hin⟩
    rcases h3 _ hk with h|⟨j,rj,hlj,hrj,hkj⟩
    ·omega
    ·exact Nat.lt_irrefl _ (c5 j rj hrj _ hkj)
  obtain ⟨fr',hfr1,hfr2⟩:=hname
  obtain ⟨acc',hrun'⟩:=hrun.local hσ hg hfr2
  refine step_sound (hI.gl.step hle) h1 h2 hfr1 m2 hco hrun' fun v E' hE hv hM hB hkn=> ?_
  -- it is listed now
  have hlist:∀j,(listed.setIfInBounds i true).getD j false=if j=0+i then true else listed.getD j false:=by
   intro j
   rw [Nat.zero_add]
   have hils:i<listed.size:=by rw [hI.lsize];exact hil
   by_cases hji:j=i
   ·subst hji;simp [hils]
   ·rw [if_neg hji,getD_set_ne false (Ne.symm hji)]
  have nσ:∀t,σat n (fun j=>(listed.setIfInBounds i true).getD j false) rs σ t=putσ n o.dst r.val (σat n (fun j=>listed.getD j false) rs σ) t:=by
   intro t
   rw [←hrd,putσ_wσ]
   refine lastW_ins rs 0 i _ r hri (by rw [Nat.zero_add];exact hunl) hlist fun j rj hij hrj hlj=> ?_
   rw [Nat.zero_add] at hlj
   obtain ⟨oj,hoj,hdj⟩:=getO j rj hrj
   have hf:=(free j rj oj (by omega) hrj hoj (by rw [hlj];simp [upto];omega)).1
   unfold slotFree at hf
   simp only [if_pos hij] at hf
   by_cases hd1:r.dst=some t
   ·left
    unfold wσ
    rw [if_neg]
    rintro ⟨hdt,_⟩
    rw [hrd] at hd1
    rw [hdj] at hdt
    simp only [hd1,hdt,Bool.and_eq_true,bne_iff_ne,ne_eq] at hf
    exact hf.1.2 trivial
   ·right
    unfold wσ
    rw [if_neg]
    rintro ⟨hdt,_⟩
    exact hd1 hdt
  have ng:∀id,gat (fun j=>(listed.setIfInBounds i true).getD j false) rs g id=gput (gat (fun j=>listed.getD j false) rs g) r.ups id:=by
   intro id
   rw [gput_kv]
   refine lastW_ins rs 0 i _ r hri (by rw [Nat.zero_add];exact hunl) hlist fun j rj hij hrj hlj=> ?_
   rw [Nat.zero_add] at hlj
   obtain ⟨oj,hoj,hdj⟩:=getO j rj hrj
   have hf:=(free j rj oj (by omega) hrj hoj (by rw [hlj];simp [upto];omega)).2
   unfold idFree at hf
   simp only [if_pos hij,Bool.and_eq_true,List.all_eq_true,Bool.not_eq_true',List.contains_eq_mem,decide_eq_false_iff_not] at hf
   cases hw:wg id r with
   |none=>exact .inr rfl
   |some y=>
    left
    cases hw2:wg id rj with
    |none=>rfl
    |some y2=>
     exfalso
     have k1:id∈r.keys:=kv_mem (by unfold wg at hw;rw [hw];simp)
     have k2:id∈rj.keys:=kv_mem (by unfold wg at hw2;rw [hw2];simp)
     exact (hf.1 id k1).2 k2
  refine ih _ _ _ ⟨⟨E',rfl,hle.trans hE,fun t=> ?_, ?_,fun id hh=> ?_, ?_⟩, ?_,hI.below.trans hB,hI.gl,by simpa using hI.lsize,fun j oj hoj hlj e he=> ?_⟩ (fun j hj=>getD_set_true (hlo j hj)) (fun j hj=> ?_) fun m hm hnd=> ?_
  ·rw [nσ t]
   have:=put_rep hE h1 hv o.dst t
   rw [hI.size] at this
   exact this
  ·rw [show gat (fun j=>(listed.setIfInBounds i true).getD j false) rs g=gput (gat (fun j=>listed.getD j false) rs g) r.ups from funext ng]
   exact hM
  ·rcases hkn id hh with h|h
   ·rcases h3 id h with h|⟨j,rj,q1,q2,q3⟩
    ·exact .inl h
    ·exact .inr ⟨j,rj,getD_set_true q1,q2,q3⟩
   ·refine .inr ⟨i,r, ?_,hri,h⟩
    rw [hlist i,Nat.zero_add,if_pos rfl]
  ·rw [(put_size a o.dst v).2];exact hmk.step hE
  ·rw [(put_size a o.dst v).1];exact hI.size
  ·rw [hlist j,Nat.zero_add] at hlj
   by_cases hji:j=i
   ·subst hji
    rw [m2] at hoj;simp only [Option.some.injEq] at hoj;subst hoj
    exact getD_set_true (hdir e he)
   ·rw [if_neg hji] at hlj
    exact getD_set_true (hI.closed j oj hoj hlj e he)
  ·rw [hlist j,Nat.zero_add] at hj
   by_cases hji:j=i
   ·rw [hji];exact hin
   ·rw [if_neg hji] at hj;exact hhi j hj
  ·have hni:i∉m:=fun hmem=>by
    have:=(hm i hmem).2
    have hils:i<listed.size:=by rw [hI.lsize];exact hil
    simp [hils] at this
   have:=hcount (i::m) (fun j hj=>by
    rcases List.mem_cons.1 hj with rfl|hj
    ·exact ⟨hil,m1⟩
    ·refine ⟨(hm j hj).1, ?_⟩
     have h5:=(hm j hj).2
     have hji:i≠j:=fun e=>hni (e▸hj)
     rwa [getD_set_ne true hji] at h5) (List.nodup_cons.2 ⟨hni,hnd⟩)
   simpa using this
inductive DrawB (P:Program) (n:Nat) (dep:List (List Nat)):List AOper→(Nat→AV)→(Nat→Option Bk)→Nat→List Rec→(Nat→AV)→(Nat→Option Bk)→Nat→Prop
 |nil {σ:Nat→AV} {g:Nat→Option Bk} {k:Nat} {rs:List Rec} (hid:idsOK rs dep=true):DrawB P n dep [] σ g k rs σ g k
 |cons {o:AOper} {os:List AOper} {σ σ':Nat→AV} {g g':Nat→Option Bk} {k k1 k':Nat} {val:AV} {ups:List (Nat×Option Bk)} {acc:List Nat} {rs:List Rec} (h:OpRun P σ g k o val ups acc) (hk:k≤k1) (hu:∀id,id∈ups.map Prod.fst→id<k1)
   (hr:DrawB P n dep os (putσ n o.dst val σ) (gput g ups) k1 (rs++[⟨o.dst,val,ups,acc,k⟩]) σ' g' k'):DrawB P n dep (o::os) σ g k rs σ' g' k'
 |bar {o:AOper} {os:List AOper} {σ σ':Nat→AV} {g g1 g':Nat→Option Bk} {k k1 k':Nat} {f:FuncId} {as_:List AV} {r:AV} {rs:List Rec} (hid:idsOK rs dep=true) (hb:barOK dep rs.length (rs.length+1+os.length)=true) (hg:guardA σ o.guard=some true)
   (h:(o.ao.sem k (argσ σ)).run g=some (.call f as_)) (hc:callable P f=true) (hf:Fi P f as_ g k r g1 k1) (hr:DrawB P n dep os (putσ n o.dst r σ) g1 k1 (List.replicate (rs.length+1) (dumR k1)) σ' g' k'):DrawB P n dep (o::os) σ g k rs σ' g' k'
theorem dumO_run:OpRun P σ g k dumO (.v undef) [] []:= .done (val:= .v undef) (ups:=[]) rfl rfl
theorem OpsRec.dums:∀i,OpsRec P n (List.replicate i dumO) σ g k (List.replicate i (dumR k)) σ g k
 |0=> .nil
 |i+1=>by
  rw [List.replicate_succ,List.replicate_succ]
  exact .cons (o:=dumO) (k1:=k) dumO_run (Nat.le_refl _) (by simp) (OpsRec.dums i)
theorem OpsRec.snoc {o:AOper} {k1:Nat} {val:AV} {ups:List (Nat×Option Bk)} {acc:List Nat} (h0:OpsRec P n os σ g k rs σ' g' k') (h:OpRun P σ' g' k' o val ups acc) (hk:k'≤k1) (hu:∀id,id∈ups.map Prod.fst→id<k1):OpsRec P n (os++[o]) σ g k (rs++[⟨o.dst,val,ups,acc,k'⟩]) (putσ n o.dst val σ') (gput g' ups) k1:=by
 induction h0 with
 |nil=>exact .cons h hk hu .nil
 |cons h1 h2 h3 h4 ih=>exact .cons h1 h2 h3 (ih h hk)
theorem slotsOK_pre {full pre:List AOper} {i0:Nat} (h:slotsOK full dep=true) (hl:pre.length≤full.length) (h1:∀j,i0≤j→j<pre.length→pre[j]? =full[j]?) (h2:∀j,j<i0→j<pre.length→pre[j]? =some dumO):slotsOK pre dep=true:=by
 unfold slotsOK at h ⊢
 simp only [List.all_eq_true,List.mem_range,Bool.or_eq_true] at h ⊢
 intro j hj i hi
 rcases h j (by omega) i hi with h|h
 ·exact .inl h
 ·right
  by_cases hi0:i0≤i
  ·rw [h1 i hi0 (by omega),h1 j (by omega) hj];exact h
  ·rw [h2 i (by omega) (by omega)]
   cases hp:pre[j]? with
   |none=>simp [List.getElem?_eq_none_iff] at hp;omega
   |some y=>
    simp only [slotFree,dumO,AOper.uses,AO.slots,Arg.slot,Bool.true_and]
    split<;>simp
theorem drawB_sound {rd:Option Nat} {full:List AOper} (hfl:full.length=ops.size) (hops:∀(j:Nat) op,ops[j]? =some op→∃o,full[j]? =some o∧cOper P ops op=some o) (hd:depOK ops.toList dep=true) (hsl:slotsOK full dep=true)
  (hQ:∀a w,RelS E0 J base w0 n σ' g' k' a w→Q .normal a w) (h:DrawB P n dep os σ g k rs σ' g' k'):
  ∀(i0:Nat) (pre:List AOper) (σ0:Nat→AV) (g0:Nat→Option Bk) (kk:Nat),OpsRec P n pre σ0 g0 kk rs σ g k→i0≤pre.length→pre.length+os.length=full.length→(∀j,i0≤j→(pre++os)[j]? =full[j]?)→(∀j,j<i0→pre[j]? =some dumO∧∃q,rs[j]? =some (dumR q))→
   ∀(fuel:Nat) (listed:Array Bool) (a:Act) (w:World),RelS E0 J base w0 n σ0 g0 kk a w→listed.size=ops.size→(∀j,listed.getD j false=decide (j<i0))→(∀m:List Nat,(∀j,j∈m→j<ops.size∧listed.getD j true=false)→m.Nodup→m.length≤fuel)→wpAnyIn (rnd rd) 0 P .any ops Q fuel listed a w:=by
 have dlt:∀(j:Nat) op,ops[j]? =some op→∀e,e∈dirOf op→e<j:=by
  intro j op hop e he
  have hjo:j<ops.size:=(Array.getElem?_eq_some_iff.1 hop).1
  have hdj:=hd
  unfold depOK at hdj
  simp only [Bool.and_eq_true,List.all_eq_true,List.mem_range,decide_eq_true_eq] at hdj
  have hj2:=(hdj.2 j (by simpa using hjo)).1
  have hopl:ops.toList[j]? =some op:=by simpa using hop
  simp only [hopl,Option.map_some,Option.getD_some] at hj2
  exact hj2 e he
 -- a phase, given what comes behind it
 have phase:∀{os:List AOper} {σ:Nat→AV} {g:Nat→Option Bk} {k:Nat} {rs:List Rec} (i0:Nat) (pre:List AOper) (σ0:Nat→AV) (g0:Nat→Option Bk) (kk:Nat),OpsRec P n pre σ0 g0 kk rs σ g k→i0≤pre.length→pre.length+os.length=full.length→(∀j,i0≤j→(pre++os)[j]? =full[j]?)→(∀j,j<i0→pre[j]? =some dumO∧∃q,rs[j]? =some (dumR q))→idsOK rs dep=true→
   (∀listed:Array Bool,(∀(j:Nat) op,ops[j]? =some op→listed.getD j false=true→∀e,e∈dirOf op→listed.getD e false=true)→(∀j,listed.getD j false=true→j<pre.length)→(¬∀j,j<pre.length→listed.getD j false=true)→∀i op,ops[i]? =some op→(∀e,e∈dirOf op→listed.getD e false=true)→i<pre.length)→
   (∀fuel listed a w,RelS E0 J base w0 n σ g k a w→listed.size=ops.size→(∀j,listed.getD j false=decide (j<pre.length))→(∀m:List Nat,(∀j,j∈m→j<ops.size∧listed.getD j true=false)→m.Nodup→m.length≤fuel)→wpAnyIn (rnd rd) 0 P .any ops Q fuel listed a w)→
   ∀(fuel:Nat) (listed:Array Bool) (a:Act) (w:World),RelS E0 J base w0 n σ0 g0 kk a w→listed.size=ops.size→(∀j,listed.getD j false=decide (j<i0))→(∀m:List Nat,(∀j,j∈m→j<ops.size∧listed.getD j true=false)→m.Nodup→m.length≤fuel)→wpAnyIn (rnd rd) 0 P .any ops Q fuel listed a w:=by
  intro os σ g k rs i0 pre σ0 g0 kk hrec hi0 hln hfull hdum hid inlt hK fuel listed a w hrel hls hlist hcount
  have hpf:∀j,i0≤j→j<pre.length→pre[j]? =full[j]? :=fun j h1 h2=>by
   have:=hfull j h1
   rwa [List.getElem?_append_left h2] at this
  refine draw_soundB (i0:=i0) hrec rfl (by omega) (fun j op h1 h2 hop=> ?_) hd (slotsOK_pre hsl (by omega) hpf fun j h1 _=>(hdum j h1).1) hid inlt hK fuel listed a w ?_ (fun j hj=>by rw [hlist];simpa using hj) (fun j hj=>by rw [hlist] at hj;simp at hj;omega) hcount
  ·rw [hpf j h1 h2];exact hops j op hop
  ·obtain ⟨E,rfl,hle,h1,h2,h3,hmk⟩:=hrel.ex
   have z:∀{β:Type} (wt:Rec→Option β) (x:β),(∀q,wt (dumR q)=none)→lastW (fun j=>listed.getD j false) wt 0 rs x=x:=by
    intro β wt x hw
    refine lastW_none rs 0 x fun j r hr hl=> ?_
    rw [Nat.zero_add,hlist] at hl
    obtain ⟨q,hq⟩:=(hdum j (by simpa using hl)).2
    rw [hq] at hr;simp only [Option.some.injEq] at hr;subst hr
    exact hw q
   have e1:σat n (fun j=>listed.getD j false) rs σ0=σ0:=by funext t;exact z _ _ fun q=>by simp [wσ,dumR]
   have e2:gat (fun j=>listed.getD j false) rs g0=g0:=by funext t;exact z _ _ fun q=>by simp [wg,dumR,kv]
   refine ⟨⟨E,rfl,hle, ?_, ?_,fun id hh=> .inl (h3 id hh),hmk⟩,hrel.size,hrel.below,hrel.gl,hls,fun j op hop hl e he=> ?_⟩
   ·rw [e1];exact h1
   ·rw [e2];exact h2
   ·rw [hlist] at hl ⊢
    have:=dlt j op hop e he
    simp at hl ⊢; omega
 induction h with
 | @nil σ g k rs hid=>
  intro i0 pre σ0 g0 kk hrec hi0 hln hfull hdum
  have hpl:pre.length=ops.size:=by simp at hln;omega
  refine phase i0 pre σ0 g0 kk hrec hi0 hln hfull hdum hid (fun listed _ _ _ i op hop _=> ?_) fun fuel listed a w hrel hls hlist hcount=> ?_
  ·rw [hpl];exact (Array.getElem?_eq_some_iff.1 hop).1
  ·have hr:Region.ready .any ops listed=[]:=by
    cases hr:Region.ready .any ops listed with
    |nil=>rfl
    |cons x xs=>
     have hx:x∈Region.ready .any ops listed:=by rw [hr];simp
     obtain ⟨m1,o,m2,_⟩:=mem_ready.1 hx
     have hxl:x<ops.size:=(Array.getElem?_eq_some_iff.1 m2).1
     have hxs:x<listed.size:=by rw [hls];exact hxl
     have h5:=hlist x
     rw [hpl] at h5
     simp [hxs,hxl] at h5 m1
     rw [h5] at m1;simp at m1
   cases fuel with
   |zero=>exact ⟨hr,hQ a w hrel⟩
   |succ fuel=>exact ⟨fun _=>hQ a w hrel,fun i hi=>by rw [hr] at hi;simp at hi⟩
 | @cons o os σ σ' g g' k k1 k' val ups acc rs h hk hu hr ih=>
  intro i0 pre σ0 g0 kk hrec hi0 hln hfull hdum
  obtain ⟨c1,_⟩:=rec_canon hrec
  refine ih hQ i0 (pre++[o]) σ0 g0 kk (hrec.snoc h hk hu) (by simp;omega) (by simp at hln ⊢; omega) (fun j hj=>by rw [List.append_assoc];exact hfull j hj) fun j hj=> ?_
  obtain ⟨d1,q,d2⟩:=hdum j hj
  exact ⟨by rw [List.getElem?_append_left (by omega)];exact d1,q,by rw [List.getElem?_append_left (by omega)];exact d2⟩
 | @bar o os σ σ' g g1 g' k k1 k' f as_ r rs hid hb hg h hcl hf hr ih=>
  intro i0 pre σ0 g0 kk hrec hi0 hln hfull hdum
  obtain ⟨c1,_⟩:=rec_canon hrec
  obtain ⟨b,hbd⟩:∃b,pre.length=b:=⟨_,rfl⟩
  rw [c1,hbd] at hb
  have hbl:b<ops.size:=by simp at hln;omega
  have hob:full[b]? =some o:=by
   have:=hfull b (by omega)
   rw [←this,List.getElem?_append_right (by omega),hbd,Nat.sub_self];rfl
  unfold barOK at hb
  simp only [Bool.and_eq_true,List.all_eq_true,List.mem_range,Bool.or_eq_true,decide_eq_true_eq,List.contains_iff_mem] at hb
  have hbig:∀listed:Array Bool,(∀(j:Nat) op,ops[j]? =some op→listed.getD j false=true→∀e,e∈dirOf op→listed.getD e false=true)→(∀j,listed.getD j false=true→j<b)→∀i op,ops[i]? =some op→(∀e,e∈dirOf op→listed.getD e false=true)→i≤b:=by
   intro listed hcl hhi i op hop hdir
   rcases Nat.lt_or_ge b i with hlt|hge
   ·exfalso
    have hi:i<ops.size:=(Array.getElem?_eq_some_iff.1 hop).1
    have hm:=(hb.2 i (by simp at hln;omega)).resolve_left (by omega)
    exact Nat.lt_irrefl _ (hhi b (dep_closed hd hcl i op hop hdir b hm))
   ·exact hge
  refine phase i0 pre σ0 g0 kk hrec hi0 hln hfull hdum hid (fun listed hcl hhi hall i op hop hdir=> ?_) fun fuel listed a w hrel hls hlist hcount=> ?_
  ·rw [hbd] at hhi hall ⊢
   have h1:=hbig listed hcl hhi i op hop hdir
   rcases Nat.lt_or_ge i b with h2|h2
   ·exact h2
   ·exfalso
    have e:i=b:=by omega
    subst e
    exact hall fun j hj=>dep_closed hd hcl i op hop hdir j (hb.1 j hj)
  ·rw [hbd] at hlist
   have hbs:b<listed.size:=by rw [hls];exact hbl
   have hcd:∀(j:Nat) op,ops[j]? =some op→listed.getD j false=true→∀e,e∈dirOf op→listed.getD e false=true:=fun j op hop hl e he=>by
    rw [hlist] at hl ⊢
    have:=dlt j op hop e he
    simp at hl ⊢; omega
   have hbu:listed.getD b true=false:=by
    have:=hlist b
    simp [hbs] at this ⊢; exact this
   cases fuel with
   |zero=>
    have:=hcount [b] (fun j hj=>by simp at hj;subst hj;exact ⟨hbl,hbu⟩) (by simp)
    simp at this
   |succ fuel=>
    refine ⟨fun hr=> ?_,fun i hi=> ?_⟩
    ·have:b∈Region.ready .any ops listed:=by
      rw [mem_ready]
      refine ⟨hbu,ops[b],Array.getElem?_eq_getElem hbl,fun e he hb=> ?_⟩
      have:=dlt b _ (Array.getElem?_eq_getElem hbl) e.on (mem_dirOf.2 ⟨e,he,hb,rfl⟩)
      rw [hlist];simpa using this
     rw [hr] at this;simp at this
    ·obtain ⟨m1,op,m2,m3⟩:=mem_ready.1 hi
     have hil:i<ops.size:=(Array.getElem?_eq_some_iff.1 m2).1
     have hdir:∀e,e∈dirOf op→listed.getD e false=true:=fun e he=>by
      obtain ⟨x,hx,hb,rfl⟩:=mem_dirOf.1 he
      exact m3 x hx hb
     have hib:i=b:=by
      have h1:=hbig listed hcd (fun j hj=>by rw [hlist] at hj;simpa using hj) i op m2 hdir
      rcases Nat.lt_or_ge i b with h2|h2
      ·exfalso
       have his:i<listed.size:=by rw [hls];exact hil
       have h5:=hlist i
       simp [his,h2] at h5 m1
       rw [h5] at m1;simp at m1
      ·omega
     subst hib
     obtain ⟨o',ho',h3⟩:=hops i op m2
     rw [hob] at ho';simp only [Option.some.injEq] at ho';subst ho'
     obtain ⟨E,rfl,hle,hs,hm,hkn,hmk⟩:=hrel.ex
     have hdd:=cOper_inv h3
     have hsem:∀e,op.semAt (rnd rd).round e=execOp e op:=fun e=>Oper.semAt_plain (rnd rd) _ _ (cOp_nodefer hdd.2)
     unfold wpOpIn
     simp only [m2]
     rw [guard_sound hs h3 hg,if_pos rfl]
     obtain ⟨vs,e1,e2⟩:=call_sound (Args.of (hrel.gl.step hle) hs) hdd.2 h hcl
     unfold Oper.wpIn
     rw [hsem,e1,Oper.uponIn_enter]
     refine ⟨rnd_out,rnd_depth,calls_rnd ((hf E J base vs (hrel.gl.step hle) hm hkn e2).mono ?_)⟩
     rintro e w' ⟨v,E',rfl,rfl,q1,q2,q3,q4,q5⟩
     refine ih hQ (i+1) (List.replicate (i+1) dumO) _ _ _ (by rw [c1,hbd];exact OpsRec.dums (i+1)) (by simp) (by simp at hln ⊢; omega) (fun j hj=> ?_) (fun j hj=>⟨by simp [hj],k1,by rw [c1,hbd];simp [hj]⟩) fuel _ _ _ ⟨⟨E',rfl,hle.trans q1, ?_,q3,q5, ?_⟩, ?_, ?_,hrel.gl⟩ (by simpa using hls) (fun j=> ?_) fun m hm2 hnd=> ?_
     ·have h7:=hfull j (by omega)
      rw [←h7,List.getElem?_append_right (by simp;omega),List.getElem?_append_right (by omega),hbd]
      simp only [List.length_replicate]
      rw [show j - i=(j - (i+1))+1 by omega,List.getElem?_cons_succ]
     ·have:=put_rep q1 hs q2 op.dst
      rw [hrel.size] at this
      rw [hdd.1]
      exact this
     ·rw [(put_size a op.dst v).2];exact hmk.step q1
     ·rw [(put_size a op.dst v).1];exact hrel.size
     ·exact hrel.below.trans q4
     ·by_cases hji:j=i
      ·subst hji;simp [hbs]
      ·rw [getD_set_ne false (Ne.symm hji),hlist j,decide_eq_decide];omega
     ·have hni:i∉m:=fun hmem=>by
       have:=(hm2 i hmem).2
       simp [hbs] at this
      have:=hcount (i::m) (fun j hj=>by
       rcases List.mem_cons.1 hj with rfl|hj
       ·exact ⟨hil,m1⟩
       ·refine ⟨(hm2 j hj).1, ?_⟩
        have h5:=(hm2 j hj).2
        have hji:i≠j:=fun e=>hni (e▸hj)
        rwa [getD_set_ne true hji] at h5) (List.nodup_cons.2 ⟨hni,hnd⟩)
      simpa using this
theorem region_drawB {id:Nat} (hmix:P.follows .mixedOrders=true) (h:DrawB P n dep os σ g k [] σ' g' k') (hlen:os.length=ops.size) (hops:∀(j:Nat) op,ops[j]? =some op→∃o,os[j]? =some o∧cOper P ops op=some o)
  (hd:depOK ops.toList dep=true) (hsl:slotsOK os dep=true) (hQ:∀a w,RelS E0 J base w0 n σ' g' k' a w→Q .normal a w) {a:Act} {w:World} (hrel:RelS E0 J base w0 n σ g k a w) {rd:Option Nat}:(Code.region id ops true).wpIn (rnd rd) 0 P Q a w:=by
 refine wpIn_region_any hmix ?_
 obtain ⟨E,rfl,hle,h1,h2,h3,hmk⟩:=hrel.ex
 obtain ⟨E',hw,hE,hM,_,hk,_,_⟩:=h2.drew
 have hrep:∀(j:Nat),(Array.replicate ops.size false).getD j false=false:=by
  intro j
  rcases Nat.lt_or_ge j ops.size with h|h
  ·simp [h]
  ·simp [h]
 refine drawB_sound hlen hops hd hsl hQ h 0 [] σ g k .nil (by simp) (by simp) (fun j _=>by simp) (fun j hj=>by omega) ops.size _ a _ ⟨⟨E',hw,hle.trans hE,fun t=>(h1 t).step hE,hM,fun id hh=>h3 id ((hk id).1 hh),hmk.step hE⟩,hrel.size,hrel.below.drew,hrel.gl⟩ (by simp) (fun j=>by rw [hrep];simp) fun m hm hnd=> ?_
 exact nodup_len _ _ hnd fun j hj=>(hm j hj).1
end
open Go.RowKit
inductive AC where
 |skip
 |reg (os:List AOper) (dep:Option (List (List Nat)))
 |seq (a b:AC)
 |cond (c:Arg) (a b:AC)
 |block (id:Nat) (a:AC)
 |loop (a:AC)
 |exit (id:Nat)
 |ret
 |rng (g:Arg) (ps:List Nat) (a b:AC)
def AC.hasRng:AC→Bool
 | .seq a b| .cond _ a b=>a.hasRng||b.hasRng
 | .block _ a| .loop a=>a.hasRng
 | .rng _ _ _ _=>true
 |_=>false
def cOpers (P:Program) (ops:Array Oper):List Oper→Option (List AOper)
 |[]=>some []
 |o::r=>match cOper P ops o,cOpers P ops r with
  |some x,some l=>some (x::l)
  |_,_=>none
def depsOf (ops:List Oper):List (List Nat):=
 ops.foldl (fun acc o=>acc++[(dirOf o++(dirOf o).flatMap fun e=>(acc[e]?).getD []).eraseDups]) []
def cCode (P:Program):Code→Option AC
 | .skip=>some .skip
 | .region _ ops draw=>match cOpers P ops ops.toList with
  |some os=>if draw=true then
    (if depOK ops.toList (depsOf ops.toList)=true∧slotsOK os (depsOf ops.toList)=true∧P.follows .mixedOrders=true then some (.reg os (some (depsOf ops.toList))) else none)
   else some (.reg os none)
  |none=>none
 | .seq a b=>match cCode P a,cCode P b with
  |some x,some y=>some (.seq x y)
  |_,_=>none
 | .cond c a b=>match cArg c,cCode P a,cCode P b with
  |some c,some x,some y=>some (.cond c x y)
  |_,_,_=>none
 | .block id a=>(cCode P a).map (.block id)
 | .loop a=>(cCode P a).map .loop
 | .exit id=>some (.exit id)
 | .ret=>some .ret
 | .rangeFunc g ps a b=>match cArg g,cCode P a,cCode P b with
  |some g,some x,some y=>some (.rng g ps.toList x y)
  |_,_,_=>none
 |_=>none
structure S3 where
 σ:Nat→AV
 g:Nat→Option Bk
 k:Nat
inductive Ex where
 |normal
 |exit (id:Nat)
 |ret
def Ex.up:Ex→Exit
 | .normal=> .normal
 | .exit id=> .exit id
 | .ret=> .ret
def EW (P:Program) (n k0:Nat) (ac:AC) (s:S3) (Q:Ex→S3→Prop):Prop:=
 ∀(rd:Option Nat) (c:Code) (E0:Env) (J:Nat→Prop) (base:Nat) (w0:World) (a:Act) (w:World),(ac.hasRng=true→rd=none)→cCode P c=some ac→(∀id,E0.kn id→id<k0)→RelS E0 J base w0 n s.σ s.g s.k a w→
  c.wpIn (rnd rd) 0 P (fun e a' w'=>∃x s',Q x s'∧e=x.up∧RelS E0 J base w0 n s'.σ s'.g s'.k a' w') a w
section
variable {P:Program} {n k0:Nat} {s:S3} {Q:Ex→S3→Prop}
theorem EW.conseq {ac:AC} {Q':Ex→S3→Prop} (h:EW P n k0 ac s Q) (hq:∀x s,Q x s→Q' x s):EW P n k0 ac s Q':=by
 intro rd c E0 J base w0 a w hrd hc hk hr
 exact wpIn_mono (h rd c E0 J base w0 a w hrd hc hk hr) fun e a' w' ⟨x,s',h1,h2,h3⟩=>⟨x,s',hq x s' h1,h2,h3⟩
def S3.Le (k0 n:Nat) (s s':S3):Prop:=∀(E0:Env) (J:Nat→Prop) (base:Nat) (w0:World) (a:Act) (w:World),(∀id,E0.kn id→id<k0)→RelS E0 J base w0 n s.σ s.g s.k a w→RelS E0 J base w0 n s'.σ s'.g s'.k a w
theorem EW.weak {ac:AC} {s':S3} (hs:s.Le k0 n s') (h:EW P n k0 ac s' Q):EW P n k0 ac s Q:=by
 intro rd c E0 J base w0 a w hrd hc hk hr
 exact h rd c E0 J base w0 a w hrd hc hk (hs E0 J base w0 a w hk hr)
theorem cCode_skip {c:Code} (h:cCode P c=some .skip):c= .skip:=by
 cases c<;>simp [cCode] at h ⊢
 case region id ops draw=>
  split at h
  ·split at h
   ·split at h<;>simp at h
   ·simp at h
  ·simp at h
 case seq a b=>split at h<;>simp at h
 case cond c a b=>split at h<;>simp at h
 case rangeFunc=>split at h<;>simp at h
theorem EW.skip (h:Q .normal s):EW P n k0 .skip s Q:=by
 intro rd c E0 J base w0 a w hrd hc hk hr
 rw [cCode_skip hc]
 exact wpIn_skip ⟨.normal,s,h,rfl,hr⟩
theorem cCode_ret {c:Code} (h:cCode P c=some .ret):c= .ret:=by
 cases c<;>simp [cCode] at h ⊢
 case region id ops draw=>
  split at h
  ·split at h
   ·split at h<;>simp at h
   ·simp at h
  ·simp at h
 case seq a b=>split at h<;>simp at h
 case cond c a b=>split at h<;>simp at h
 case rangeFunc=>split at h<;>simp at h
theorem EW.ret (h:Q .ret s):EW P n k0 .ret s Q:=by
 intro rd c E0 J base w0 a w hrd hc hk hr
 rw [cCode_ret hc]
 exact wpIn_ret ⟨.ret,s,h,rfl,hr⟩
theorem cCode_exit {c:Code} {id:Nat} (h:cCode P c=some (.exit id)):c= .exit id:=by
 cases c<;>simp [cCode] at h ⊢
 case region id ops draw=>
  split at h
  ·split at h
   ·split at h<;>simp at h
   ·simp at h
  ·simp at h
 case seq a b=>split at h<;>simp at h
 case cond c a b=>split at h<;>simp at h
 case rangeFunc=>split at h<;>simp at h
 case exit=>exact h
theorem EW.exit {id:Nat} (h:Q (.exit id) s):EW P n k0 (.exit id) s Q:=by
 intro rd c E0 J base w0 a w hrd hc hk hr
 rw [cCode_exit hc]
 exact wpIn_exit ⟨.exit id,s,h,rfl,hr⟩
theorem cCode_seq {c:Code} {x y:AC} (h:cCode P c=some (.seq x y)):∃a b,c= .seq a b∧cCode P a=some x∧cCode P b=some y:=by
 cases c with
 |seq a b=>
  simp only [cCode] at h
  split at h
  ·rename_i h1 h2
   simp only [Option.some.injEq,AC.seq.injEq] at h
   obtain ⟨rfl,rfl⟩:=h
   exact ⟨a,b,rfl,h1,h2⟩
  ·simp at h
 |_=>
  exfalso
  simp only [cCode] at h
  repeat' (first|(simp at h;done)|split at h)
def Ex.then (next:S3→Prop) (Q:Ex→S3→Prop):Ex→S3→Prop
 | .normal,s=>next s
 |e,s=>Q e s
theorem EW.seq {x y:AC} (h:EW P n k0 x s (Ex.then (fun s'=>EW P n k0 y s' Q) Q)):EW P n k0 (.seq x y) s Q:=by
 intro rd c E0 J base w0 a w hrd hc hk hr
 obtain ⟨ca,cb,rfl,h1,h2⟩:=cCode_seq hc
 refine wpIn_seq (wpIn_mono (h rd ca E0 J base w0 a w (fun hh=>hrd (by simp [AC.hasRng,hh])) h1 hk hr) ?_)
 rintro e a' w' ⟨x,s',hq,rfl,hr'⟩
 cases x with
 |normal=>exact hq rd cb E0 J base w0 a' w' (fun hh=>hrd (by simp [AC.hasRng,hh])) h2 hk hr'
 |exit id=>exact ⟨.exit id,s',hq,rfl,hr'⟩
 |ret=>exact ⟨.ret,s',hq,rfl,hr'⟩
theorem cCode_cond {c:Code} {b:Arg} {x y:AC} (h:cCode P c=some (.cond b x y)):∃o p q,c= .cond o p q∧cArg o=some b∧cCode P p=some x∧cCode P q=some y:=by
 cases c with
 |cond c p q=>
  simp only [cCode] at h
  split at h
  ·rename_i h1 h2 h3
   simp only [Option.some.injEq,AC.cond.injEq] at h
   obtain ⟨rfl,rfl,rfl⟩:=h
   exact ⟨c,p,q,rfl,h1,h2,h3⟩
  ·simp at h
 |_=>
  exfalso
  simp only [cCode] at h
  repeat' (first|(simp at h;done)|split at h)
theorem EW.cond {b:Arg} {x y:AC} {t:Bool} (hb:argσ s.σ b= .v (.bool t)) (h:EW P n k0 (if t=true then x else y) s Q):EW P n k0 (.cond b x y) s Q:=by
 intro rd c E0 J base w0 a w hrd hc hk hr
 obtain ⟨o,p,q,rfl,h1,h2,h3⟩:=cCode_cond hc
 obtain ⟨E,rfl,hle,hs,hm,hkn,hmk⟩:=hr.ex
 have:=Args.of (hr.gl.step hle) hs o b h1
 rw [hb] at this
 refine wpIn_cond this.v_inv ?_
 cases t with
 |true=>exact h rd p E0 J base w0 a _ (fun hh=>hrd (by simp only [if_true] at hh;simp [AC.hasRng,hh])) h2 hk hr
 |false=>exact h rd q E0 J base w0 a _ (fun hh=>hrd (by simp only [Bool.false_eq_true,if_false] at hh;simp [AC.hasRng,hh])) h3 hk hr
theorem anyb_inv {E:Env} {v:Value} (h:Rep E v .anyb):∃t,v= .bool t:=by
 cases h with
 |anyb=>exact ⟨_,rfl⟩
theorem EW.condAny {b:Arg} {x y:AC} (hb:argσ s.σ b= .anyb) (h1':EW P n k0 x s Q) (h2':EW P n k0 y s Q):EW P n k0 (.cond b x y) s Q:=by
 intro rd c E0 J base w0 a w hrd hc hk hr
 obtain ⟨o,p,q,rfl,h1,h2,h3⟩:=cCode_cond hc
 obtain ⟨E,rfl,hle,hs,hm,hkn,hmk⟩:=hr.ex
 have:=Args.of (hr.gl.step hle) hs o b h1
 rw [hb] at this
 obtain ⟨t,ht⟩:=anyb_inv this
 refine wpIn_cond ht ?_
 cases t with
 |true=>exact h1' rd p E0 J base w0 a _ (fun hh=>hrd (by simp [AC.hasRng,hh])) h2 hk hr
 |false=>exact h2' rd q E0 J base w0 a _ (fun hh=>hrd (by simp [AC.hasRng,hh])) h3 hk hr
theorem cCode_block {c:Code} {id:Nat} {x:AC} (h:cCode P c=some (.block id x)):∃b,c= .block id b∧cCode P b=some x:=by
 cases c with
 |block i b=>
  simp only [cCode] at h
  cases hb:cCode P b with
  |none=>simp [hb] at h
  |some y=>
   simp only [hb,Option.map_some,Option.some.injEq,AC.block.injEq] at h
   obtain ⟨rfl,rfl⟩:=h
   exact ⟨b,rfl,hb⟩
 |_=>
  exfalso
  simp only [cCode] at h
  repeat' (first|(simp at h;done)|split at h)
def Ex.inBlock (id:Nat) (Q:Ex→S3→Prop):Ex→S3→Prop
 | .exit i,s=>if i=id then Q .normal s else Q (.exit i) s
 |e,s=>Q e s
theorem EW.block {id:Nat} {x:AC} (h:EW P n k0 x s (Ex.inBlock id Q)):EW P n k0 (.block id x) s Q:=by
 intro rd c E0 J base w0 a w hrd hc hk hr
 obtain ⟨b,rfl,h1⟩:=cCode_block hc
 refine wpIn_block (wpIn_mono (h rd b E0 J base w0 a w (fun hh=>hrd (by simp only [AC.hasRng];exact hh)) h1 hk hr) ?_)
 rintro e a' w' ⟨x,s',hq,rfl,hr'⟩
 cases x with
 |normal=>exact ⟨.normal,s',hq,rfl,hr'⟩
 |exit i=>
  simp only [Ex.inBlock] at hq
  simp only [Ex.up,Exit.inBlock]
  split
  ·rename_i hi;rw [if_pos hi] at hq;exact ⟨.normal,s',hq,rfl,hr'⟩
  ·rename_i hi;rw [if_neg hi] at hq;exact ⟨.exit i,s',hq,rfl,hr'⟩
 |ret=>exact ⟨.ret,s',hq,rfl,hr'⟩
theorem cCode_loop {c:Code} {x:AC} (h:cCode P c=some (.loop x)):∃b,c= .loop b∧cCode P b=some x:=by
 cases c with
 |loop b=>
  simp only [cCode] at h
  cases hb:cCode P b with
  |none=>simp [hb] at h
  |some y=>
   simp only [hb,Option.map_some,Option.some.injEq,AC.loop.injEq] at h
   subst h
   exact ⟨b,rfl,hb⟩
 |_=>
  exfalso
  simp only [cCode] at h
  repeat' (first|(simp at h;done)|split at h)
theorem wp_loopN {F:Fence} {nn:Nat} {c:Code} {Q:Exit→Act→World→Prop} {a:Act} {w:World} (I:Nat→Act→World→Prop) {m:Nat} (h₀:I m a w)
  (round:∀m a w,I m a w→c.wpIn F nn P (Exit.then (fun a' w'=>∃m',m'<m∧I m' a' w') Q) a w):(Code.loop c).wpIn F nn P Q a w:=by
 intro b k cs hro hb hr
 have key:∀m a w,I m a w→∃e a' w',Q e a' w'∧ArrivesIn (Machine.fenced P F) P (lone (b.atR a (.code c:: .inLoop c::k)) cs w) b k cs e a' w':=by
  intro m
  induction m using Nat.strongRecOn with
  |_ m ih=>
   intro a w hI
   obtain ⟨e,a₁,w₁,hq,harr⟩:=round m a w hI b (.inLoop c::k) cs hro hb hr
   cases e with
   |normal=>
    obtain ⟨m',hlt,hI₁⟩:=hq
    obtain ⟨e₂,a₂,w₂,hq₂,harr₂⟩:=ih m' hlt a₁ w₁ hI₁
    exact ⟨e₂,a₂,w₂,hq₂, .of_steps (StepsIn.trans harr (.one (fenced_calm hb hr rfl) stepR_inLoop)) harr₂⟩
   |exit id=>exact ⟨_,a₁,w₁,hq, .pass (x:= .inLoop c) rfl (fun _ _=> .inl (by simp)) harr⟩
   |goto l=>exact ⟨_,a₁,w₁,hq, .pass (x:= .inLoop c) rfl (fun _ _=> .inl (by simp)) harr⟩
   |ret=>exact ⟨_,a₁,w₁,hq, .pass (x:= .inLoop c) rfl (fun _ _=> .inl (by simp)) harr⟩
   |panic ch=>exact ⟨_,a₁,w₁,hq, .pass (x:= .inLoop c) rfl (fun _ _=> .inl (by simp)) harr⟩
   |outgrown=>exact ⟨_,a₁,w₁,hq, .pass (x:= .inLoop c) rfl (fun _ _=> .inl (by simp)) harr⟩
 obtain ⟨e,a',w',hq,harr⟩:=key m a w h₀
 exact ⟨e,a',w',hq, .of_steps (.one (fenced_calm hb hr rfl) stepR_loop) harr⟩
theorem EW.loop {x:AC} (I:Nat→S3→Prop) {m:Nat} (h0:I m s) (round:∀m s,I m s→EW P n k0 x s (Ex.then (fun s'=>∃m',m'<m∧I m' s') Q)):EW P n k0 (.loop x) s Q:=by
 intro rd c E0 J base w0 a w hrd hc hk hr
 obtain ⟨b,rfl,h1⟩:=cCode_loop hc
 refine wp_loopN (fun m a w=>∃s,I m s∧RelS E0 J base w0 n s.σ s.g s.k a w) (m:=m) ⟨s,h0,hr⟩ ?_
 rintro m a w ⟨s,hI,hr⟩
 refine wpIn_mono (round m s hI rd b E0 J base w0 a w (fun hh=>hrd (by simp only [AC.hasRng];exact hh)) h1 hk hr) ?_
 rintro e a' w' ⟨x,s',hq,rfl,hr'⟩
 cases x with
 |normal=>
  obtain ⟨m',hm,hI'⟩:=hq
  exact ⟨m',hm,s',hI',hr'⟩
 |exit id=>exact ⟨.exit id,s',hq,rfl,hr'⟩
 |ret=>exact ⟨.ret,s',hq,rfl,hr'⟩
theorem cOpers_get {ops:Array Oper}:∀{l:List Oper} {os:List AOper},cOpers P ops l=some os→l.length=os.length∧∀(j:Nat) op,l[j]? =some op→∃o,os[j]? =some o∧cOper P ops op=some o
 |[],os,h=>by simp only [cOpers,Option.some.injEq] at h;subst h;exact ⟨rfl,fun j op hj=>by simp at hj⟩
 |o::r,os,h=>by
  simp only [cOpers] at h
  split at h
  ·rename_i x l h1 h2
   simp only [Option.some.injEq] at h;subst h
   obtain ⟨k1,k2⟩:=cOpers_get h2
   refine ⟨by simp [k1],fun j op hj=> ?_⟩
   cases j with
   |zero=>simp at hj;subst hj;exact ⟨x,rfl,h1⟩
   |succ j=>simp at hj ⊢; exact k2 j op hj
  ·simp at h
theorem cCode_reg {c:Code} {os:List AOper} {dep:Option (List (List Nat))} (h:cCode P c=some (.reg os dep)):∃id ops draw,c= .region id ops draw∧cOpers P ops ops.toList=some os∧
  ((draw=false∧dep=none)∨(draw=true∧∃d,dep=some d∧depOK ops.toList d=true∧slotsOK os d=true∧P.follows .mixedOrders=true)):=by
 cases c with
 |region id ops draw=>
  simp only [cCode] at h
  split at h
  ·rename_i os' h1
   split at h
   ·rename_i hd
    split at h
    ·rename_i hc
     simp only [Option.some.injEq,AC.reg.injEq] at h
     obtain ⟨rfl,rfl⟩:=h
     exact ⟨id,ops,draw,rfl,h1, .inr ⟨hd,_,rfl,hc.1,hc.2.1,hc.2.2⟩⟩
    ·simp at h
   ·rename_i hd
    simp only [Option.some.injEq,AC.reg.injEq] at h
    obtain ⟨rfl,rfl⟩:=h
    exact ⟨id,ops,draw,rfl,h1, .inl ⟨by simpa using hd,rfl⟩⟩
  ·simp at h
 |_=>
  exfalso
  simp only [cCode] at h
  repeat' (first|(simp at h;done)|split at h)
theorem EW.reg {os:List AOper} {s':S3} (h:OpsRun P n k0 os s.σ s.g s.k s'.σ s'.g s'.k) (hq:Q .normal s'):EW P n k0 (.reg os none) s Q:=by
 intro rd c E0 J base w0 a w hrd hc hk hr
 obtain ⟨id,ops,draw,rfl,h1,h2⟩:=cCode_reg hc
 rcases h2 with ⟨rfl,_⟩|⟨_,d,hd,_⟩
 ·obtain ⟨k1,k2⟩:=cOpers_get h1
  refine wpIn_region ?_
  have hsz:ops.size=os.length:=by rw [←k1];simp
  rw [List.range_eq_range',hsz]
  refine opsRun_sound (ops:=ops) hk h 0 a w (fun j hj=> ?_) hr fun a' w' hr'=>⟨.normal,s',hq,rfl,hr'⟩
  have hjs:j<ops.size:=by omega
  obtain ⟨o,m1,m2⟩:=k2 j ops[j] (by simp [hjs])
  exact ⟨ops[j],by rw [Nat.zero_add];exact Array.getElem?_eq_getElem hjs,o,m1,m2⟩
 ·simp at hd
theorem EW.draw {os:List AOper} {dep:List (List Nat)} {s':S3} (h:DrawB P n dep os s.σ s.g s.k [] s'.σ s'.g s'.k) (hq:Q .normal s'):EW P n k0 (.reg os (some dep)) s Q:=by
 intro rd c E0 J base w0 a w hrd hc hk hr
 obtain ⟨id,ops,draw,rfl,h1,h2⟩:=cCode_reg hc
 rcases h2 with ⟨rfl,hh⟩|⟨rfl,d,hd,h3,h4,h5⟩
 ·simp at hh
 ·simp only [Option.some.injEq] at hd
  subst hd
  obtain ⟨k1,k2⟩:=cOpers_get h1
  refine region_drawB h5 h (by rw [←k1];simp) (fun j op hj=>k2 j op (by simpa using hj)) h3 h4 (fun a' w' hr'=>⟨.normal,s',hq,rfl,hr'⟩) hr
end
open Go.RowKit
inductive ARes where
 |tmp (t:Nat)
 |cell (t:Nat) (m:Option Nat)
structure AFn where
 n:Nat
 res:List ARes
 code:AC
def cRes (P:Program):List ResultVar→Option (List ARes)
 |[]=>some []
 | .tmp t::r=>(cRes P r).map (.tmp t:: ·)
 | .cell a t::r=>match aggOf P t,cRes P r with
  |some m,some l=>some (.cell a m::l)
  |_,_=>none
def cFunc (P:Program) (f:FuncId):Option AFn:=
 match P.funcs[f]? with
 |some fn=>match fn.body with
  |some c=>match cRes P fn.results.toList,cCode P c with
   |some res,some code=>some ⟨fn.ntmps,res,code⟩
   |_,_=>none
  |none=>none
 |none=>none
def loadA (m:Option Nat):AV→RM AV
 | .pim cs o=> .opt (getCells cs o m)
 | .ref id sz i o=> .rd id fun B=>if B.sz=sz then .opt (B.els[i]?.bind fun cs=>getCells cs o m) else .fail
 |_=> .fail
def resL (σ:Nat→AV):List ARes→RM (List AV)
 |[]=> .ret []
 | .tmp t::r=>(resL σ r).bind fun l=> .ret (σ t::l)
 | .cell t m::r=>(loadA m (σ t)).bind fun a=>(resL σ r).bind fun l=> .ret (a::l)
def one1:List AV→AV
 |[a]=>a
 |l=> .tup l
def resR (σ:Nat→AV) (rs:List ARes):RM AV:=(resL σ rs).bind fun l=> .ret (one1 l)
def snapR:AV→RM AV
 | .tup vs=>(snapAs vs).bind fun l=> .ret (.tup l)
 |a=>snapA a
section
variable {P:Program} {E:Env} {J:Nat→Prop} {base:Nat} {g:Nat→Option Bk} {σ:Nat→AV}
theorem loadA_run (hm:MemAt E J base g) {t:TypeId} {m:Option Nat} (ht:aggOf P t=some m) {v:Value} {x a:AV} (hv:Rep E v x) (h:(loadA m x).run g=some a):∃v',(do loadVar t (←asAddr v):Sem Value).run P E.w= .ok v' E.w∧Rep E v' a:=by
 unfold loadA at h
 split at h
 ·rename_i cs o
  cases hg:getCells cs o m with
  |none=>simp [hg,RM.opt,RM.run] at h
  |some a'=>
   simp [hg,RM.opt,RM.run] at h
   subst h
   cases hv with
   |pim u hb hq hu hr1 hr=>
    obtain ⟨v',hl,hr'⟩:=load_run (P:=P) ht hq u hu hr hg
    exact ⟨v',by simp [asAddr,hl],hr'⟩
 ·rename_i id sz i o
  simp only [RM.run] at h
  cases hgi:g id with
  |none=>simp [hgi] at h
  |some B=>
   simp only [hgi] at h
   split at h
   ·rename_i hsz
    cases hei:B.els[i]? with
    |none=>simp [hei,RM.opt,RM.run] at h
    |some cs=>
     cases hg:getCells cs o m with
     |none=>simp [hei,hg,RM.opt,RM.run] at h
     |some a'=>
      simp [hei,hg,RM.opt,RM.run] at h
      subst h
      cases hv with
      | @ref _ _ _ _ b q hi hd hb hq=>
       have hblk:=hm.at_ id B hgi
       rw [hb] at hblk
       have hcell:∀(j:Nat) (x:AV),cs[j]? =some x→∃u,E.w.cell? ⟨b,i*B.sz+j,none⟩=some u∧u.oneCell'=true∧Rep E u x:=fun j x hj=>hblk.cell hei hj
       obtain ⟨v',hl,hr'⟩:=load_run (P:=P) (E:=E) (cs:=cs) ht (b:=b) (off:=i*sz) hq (fun j=>(E.w.cell? ⟨b,i*sz+j,none⟩).getD undef)
        (fun j x hj=>by obtain ⟨u,k1,_,_⟩:=hcell j x hj;rw [hsz] at k1;simp [k1])
        (fun j x hj=>by obtain ⟨u,k1,_,k3⟩:=hcell j x hj;rw [hsz] at k1;simpa [k1] using k3) hg
       exact ⟨v',by simp [asAddr,hl],hr'⟩
      |staleR hi hd=>exact absurd hd ((hm.live id).2 ⟨B,hgi⟩).2
   ·simp [RM.run] at h
 ·simp [RM.run] at h
def resV (tmps:Array Value):ResultVar→Sem Value
 | .tmp t=>pure (tmps.getD t undef)
 | .cell a t=>do loadVar t (←asAddr (tmps.getD a undef))
theorem results_eq (fn:Func) (tmps:Array Value):results fn tmps=(do
  let vs←fn.results.mapM (resV tmps)
  pure (if h:vs.size=1 then vs[0] else .tuple vs)):=by
 unfold results
 congr 1
theorem resL_run (hm:MemAt E J base g) {tmps:Array Value} (hs:∀t,Rep E (tmps.getD t undef) (σ t)):∀{rs:List ResultVar} {ars:List ARes} {l:List AV},cRes P rs=some ars→(resL σ ars).run g=some l→
  ∃vs:List Value,(rs.mapM (resV tmps)).run P E.w= .ok vs E.w∧vs.length=l.length∧∀(i:Nat) v c,vs[i]? =some v→l[i]? =some c→Rep E v c
 |[],ars,l,hc,h=>by
  simp only [cRes,Option.some.injEq] at hc;subst hc
  simp only [resL,RM.run,Option.some.injEq] at h;subst h
  exact ⟨[],by simp,rfl,fun i v c hv=>by simp at hv⟩
 | .tmp t::r,ars,l,hc,h=>by
  simp only [cRes] at hc
  cases hr:cRes P r with
  |none=>simp [hr] at hc
  |some ar=>
   simp only [hr,Option.map_some,Option.some.injEq] at hc;subst hc
   simp only [resL] at h
   obtain ⟨l',h1,h2⟩:=bind_run h
   simp only [RM.run,Option.some.injEq] at h2;subst h2
   obtain ⟨vs,k1,k2,k3⟩:=resL_run hm hs hr h1
   refine ⟨tmps.getD t undef::vs,by rw [List.mapM_cons,Sem.run_bind,resV,Sem.run_pure,Result.andThen_ok,Sem.run_bind,k1];rfl,by simp [k2],fun i v c hv hc=> ?_⟩
   cases i with
   |zero=>simp at hv hc;subst hv;subst hc;simpa using hs t
   |succ i=>simp at hv hc;exact k3 i v c hv hc
 | .cell a t::r,ars,l,hc,h=>by
  simp only [cRes] at hc
  split at hc
  ·rename_i m ar hm' hr
   simp only [Option.some.injEq] at hc;subst hc
   simp only [resL] at h
   obtain ⟨x,h1,h⟩:=bind_run h
   obtain ⟨l',h2,h3⟩:=bind_run h
   simp only [RM.run,Option.some.injEq] at h3;subst h3
   obtain ⟨vs,k1,k2,k3⟩:=resL_run hm hs hr h2
   obtain ⟨v',e1,e2⟩:=loadA_run (P:=P) hm hm' (hs a) h1
   refine ⟨v'::vs, ?_,by simp [k2],fun i v c hv hc=> ?_⟩
   ·rw [List.mapM_cons,Sem.run_bind,resV,e1,Result.andThen_ok,Sem.run_bind,k1]
    rfl
   ·cases i with
    |zero=>simp at hv hc;subst hv;subst hc;exact e2
    |succ i=>simp at hv hc;exact k3 i v c hv hc
  ·simp at hc
theorem res_run (hm:MemAt E J base g) {fn:Func} {tmps:Array Value} (hs:∀t,Rep E (tmps.getD t undef) (σ t)) {ars:List ARes} (hc:cRes P fn.results.toList=some ars) {r:AV} (h:(resR σ ars).run g=some r):∃v,(results fn tmps).run P E.w= .ok v E.w∧Rep E v r:=by
 obtain ⟨l,h1,h2⟩:=bind_run h
 simp only [RM.run,Option.some.injEq] at h2
 obtain ⟨vs,k1,k2,k3⟩:=resL_run hm hs hc h1
 refine ⟨if h:vs.toArray.size=1 then vs.toArray[0] else .tuple vs.toArray, ?_, ?_⟩
 ·rw [results_eq,Array.mapM_eq_mapM_toList,Sem.run_bind,Sem.run_map,k1]
  rfl
 ·subst h2
  cases vs with
  |nil=>
   have:l=[]:=List.eq_nil_of_length_eq_zero (by simpa using k2.symm)
   subst this
   exact .tup rfl (fun i v c hv=>by simp at hv)
  |cons v vs=>
   cases vs with
   |nil=>
    obtain ⟨a,rfl⟩:∃a,l=[a]:=by
     cases l with
     |nil=>simp at k2
     |cons a l=>cases l with
      |nil=>exact ⟨a,rfl⟩
      |cons=>simp at k2
    simpa [one1] using k3 0 v a rfl rfl
   |cons v' vs=>
    rw [dif_neg (by simp)]
    have e:one1 l= .tup l:=by
     cases l with
     |nil=>rfl
     |cons a l=>cases l with
      |nil=>simp at k2
      |cons=>rfl
    rw [e]
    exact .tup (by simpa using k2) (fun i v c hv hc=>k3 i v c (by simpa using hv) hc)
end
theorem cFunc_inv {P:Program} {f:FuncId} {F:AFn} (h:cFunc P f=some F):∃fn c,P.funcs[f]? =some fn∧fn.body=some c∧cRes P fn.results.toList=some F.res∧cCode P c=some F.code∧fn.ntmps=F.n:=by
 unfold cFunc at h
 split at h
 ·rename_i fn h1
  split at h
  ·rename_i c h2
   split at h
   ·rename_i res code h3 h4
    simp only [Option.some.injEq] at h;subst h
    exact ⟨fn,c,h1,h2,h3,h4,rfl⟩
   ·simp at h
  ·simp at h
 ·simp at h
def σ0 (as_:List AV) (t:Nat):AV:=(as_[t]?).getD (.v undef)
theorem start_rep {E:Env} {vs:Array Value} {as_:List AV} (h:RC E vs as_) (m:Nat):∀t,Rep E ((vs++Array.replicate m undef).getD t undef) (σ0 as_ t):=by
 intro t
 unfold σ0
 by_cases ht:t<vs.size
 ·have hta:t<as_.length:=by rw [←h.1];exact ht
  rw [List.getElem?_eq_getElem hta]
  simp only [Option.getD_some,Array.getD_eq_getD_getElem?]
  rw [Array.getElem?_append_left ht,Array.getElem?_eq_getElem ht]
  exact h.2 t _ _ (Array.getElem?_eq_getElem ht) (List.getElem?_eq_getElem hta)
 ·rw [List.getElem?_eq_none (by rw [←h.1];omega)]
  simp only [Option.getD_none,Array.getD_eq_getD_getElem?]
  rw [Array.getElem?_append_right (by omega)]
  have:(Array.replicate m undef)[t - vs.size]?.getD undef=undef:=by
   rcases Nat.lt_or_ge (t - vs.size) m with h|h
   ·simp [h]
   ·simp [h]
  rw [this]
  exact .v rfl
theorem Rep.cong {E:Env} {w':World} (hc:∀b o,w'.cell? ⟨b,o,none⟩=E.w.cell? ⟨b,o,none⟩) (hs:∀b,w'.shape? b=E.w.shape? b) (hl:∀(b:Nat) r,E.w.heap[b]? =some (.loop r)→w'.heap[b]? =some (.loop r)) {v:Value} {a:AV} (h:Rep E v a):Rep { E with w:=w' } v a:=by
 induction h with
 |v h=>exact .v h
 |agg hl h ih=>exact .agg hl ih
 |tup hl h ih=>exact .tup hl ih
 |lst0 hc=>exact .lst0 hc
 |lst1 u hn hl hcc hb hz hu h1 h ih=>exact .lst1 u hn hl hcc hb hz (fun i cs j x hi hj=>(hc _ _).trans (hu i cs j x hi hj)) h1 ih
 |tls h ih=>exact .tls ih
 |emp=>exact .emp
 |pim u hb hq hu h1 h ih=>exact .pim u hb hq (fun j x hj=>(hc _ _).trans (hu j x hj)) h1 ih
 |ref hi hd hb hq=>exact .ref hi hd hb hq
 |own hi hd hb hq hss hm hl hcc hln=>exact .own hi hd hb hq ((hs _).trans hss) hm hl hcc hln
 |own0 hi hd hb hln=>exact .own0 hi hd hb hln
 |staleR hi hd ho=>exact .staleR hi hd ho
 |staleO hi hd ho=>exact .staleO hi hd ho
 |mp hi hd hb=>exact .mp hi hd hb
 |staleP hi hd ho=>exact .staleP hi hd ho
 |fn hl h ih=>exact .fn hl ih
 |bf hl h ih=>exact .bf hl ih
 |yld hg hI hh hl' h ih=>exact .yld hg hI (hl _ _ hh) hl' ih
 |anyb=>exact .anyb
 |dead=>exact .dead
theorem MemAt.cong {E:Env} {w':World} {J:Nat→Prop} {base:Nat} {g:Nat→Option Bk} (hm:MemAt E J base g) (hR:∀{v a},Rep E v a→Rep { E with w:=w' } v a) (hcell:∀(b:Nat) arr t x,E.w.heap[b]? =some (.cells arr t x)→w'.heap[b]? =some (.cells arr t x)) (hmap:∀(b:Nat) es c,E.w.heap[b]? =some (.map es c)→w'.heap[b]? =some (.map es c)) (hsz:w'.heap.size=E.w.heap.size):MemAt { E with w:=w' } J base g:=by
 refine ⟨hm.live,fun id B hg=> ?_,hm.apart,hm.out,fun b hb=>⟨by show b<w'.heap.size;rw [hsz];exact (hm.low b hb).1,(hm.low b hb).2⟩,by show base≤w'.heap.size;rw [hsz];exact hm.size,hm.len,hm.rgb,fun b hb=>⟨by show b<w'.heap.size;rw [hsz];exact (hm.xo b hb).1,(hm.xo b hb).2⟩⟩
 have:=hm.at_ id B hg
 show BlkAt { E with w:=w' } base B (E.loc id)
 cases hl:E.loc id with
 |none=>rw [hl] at this;exact this
 |some b=>
  rw [hl] at this
  obtain ⟨h1,⟨hz,arr,t,h2,h3,h4⟩|⟨hz,es,c,h2,h3,h4⟩⟩:=this
  ·refine .ofCells ⟨h1,arr,t,hcell _ _ _ _ h2,h3,fun i cs hi=>⟨(h4 i cs hi).1,fun j x hj=> ?_⟩⟩ hz
   obtain ⟨u,k1,k2,k3⟩:=(h4 i cs hi).2 j x hj
   exact ⟨u,k1,k2,hR k3⟩
  ·refine .ofMap ⟨h1,es,c,hmap _ _ _ h2,h3,fun i e cs he hi=> ?_⟩ hz
   obtain ⟨x,k1,k2,k3⟩:=h4 i e cs he hi
   exact ⟨x,k1,k2,hR k3⟩
structure Shut (lo:Nat) (E E':Env):Prop where
 rep:∀{v a},Rep E v a→Rep E' v a
 mem:∀{J base g},MemAt E J base g→MemAt E' J base g
 heap:∀b,b<lo→E'.w.heap[b]? =E.w.heap[b]?
 size:E'.w.heap.size=E.w.heap.size
 shape:∀b,E'.w.shape? b=E.w.shape? b
 eqs:E'.kn=E.kn∧E'.dead=E.dead∧E'.loc=E.loc∧E'.ln=E.ln∧E'.I=E.I∧E'.rg=E.rg∧E'.X=E.X
 below:∀{base w0},base≤lo→Below base w0 E.w→Below base w0 E'.w
theorem Shut.refl (lo:Nat) (E:Env):Shut lo E E:=⟨fun h=>h,fun h=>h,fun _ _=>rfl,rfl,fun _=>rfl,⟨rfl,rfl,rfl,rfl,rfl,rfl,rfl⟩,fun _ h=>h⟩
theorem Shut.le {lo:Nat} {E0 E E':Env} (h:Shut lo E E') (hle:E0.Le E) (hI:∀b,E0.I b→b<lo) (hX:∀b,E0.X b→b<lo):E0.Le E':=by
 obtain ⟨q1,q2,q3,q4,q5,q6,q7⟩:=h.eqs
 refine ⟨fun id hi=>by rw [q1];exact hle.kn id hi,fun b hb=>⟨by rw [q5];exact (hle.imm b hb).1,(h.heap b (hI b hb)).trans (hle.imm b hb).2⟩,fun id hi hd=>by rw [q2];exact hle.dead id hi hd,fun id hi hd=>by rw [q2,q3];exact hle.loc id hi hd,fun id b hi hd hb=>by rw [q2,h.shape];exact hle.shape id b hi hd hb,fun id hi hd=>by rw [q2,q4];exact hle.ln id hi hd,fun l hg=>by rw [q6];exact hle.rg l hg,fun b hb=>⟨by rw [q7];exact (hle.fx b hb).1,(h.heap b (hX b hb)).trans (hle.fx b hb).2⟩⟩
theorem noncell {w:World} {D:Nat} {o:Obj} (o':Obj) (hh:w.heap[D]? =some o) (ho:o.isCells=false) (ho':o'.isCells=false):
  (∀b k,(w.putObj D o').cell? ⟨b,k,none⟩=w.cell? ⟨b,k,none⟩)∧(∀b,(w.putObj D o').shape? b=w.shape? b)∧∀(b:Nat) arr t x,w.heap[b]? =some (.cells arr t x)→(w.putObj D o').heap[b]? =some (.cells arr t x):=by
 have hlt:=(Array.getElem?_eq_some_iff.1 hh).1
 have hs:=World.putObj_heap_same (w:=w) (o:=o') hlt
 refine ⟨fun b k=> ?_,fun b=> ?_,fun b arr t x hb=> ?_⟩
 ·by_cases hb:b=D
  ·subst hb
   unfold World.cell?
   simp only [hs,hh]
   cases o<;>cases o'<;>simp_all [Obj.isCells]
  ·exact World.cell?_of_block (w:=w) (w':=w.putObj D o') (a:=⟨b,k,none⟩) (World.putObj_heap_other hb)
 ·by_cases hb:b=D
  ·subst hb
   unfold World.shape?
   simp only [hs,hh]
   cases o<;>cases o'<;>simp_all [Obj.isCells]
  ·unfold World.shape?
   rw [World.putObj_heap_other hb]
 ·by_cases hbD:b=D
  ·subst hbD
   rw [hh] at hb
   simp only [Option.some.injEq] at hb
   subst hb
   simp [Obj.isCells] at ho
  ·rw [World.putObj_heap_other hbD];exact hb
theorem Shut.one {lo D:Nat} {E:Env} (hD:lo≤D) (hh:E.w.heap[D]? =some (.deferred (some []))):Shut lo E { E with w:=E.w.putObj D (.deferred none) }:=by
 obtain ⟨c1,c2,c3⟩:=noncell (.deferred none) hh rfl rfl
 have hR:∀{v a},Rep E v a→Rep { E with w:=E.w.putObj D (.deferred none) } v a:=fun h=>Rep.cong c1 c2 (fun b r hb=>by
  by_cases hbD:b=D
  ·subst hbD;rw [hh] at hb;simp at hb
  ·rw [World.putObj_heap_other hbD];exact hb) h
 have hmap:∀(b:Nat) es c,E.w.heap[b]? =some (.map es c)→(E.w.putObj D (.deferred none)).heap[b]? =some (.map es c):=fun b es c hb=>by
  by_cases hbD:b=D
  ·subst hbD;rw [hh] at hb;simp at hb
  ·rw [World.putObj_heap_other hbD];exact hb
 refine ⟨hR,fun hm=>hm.cong hR c3 hmap (by simp),fun b hb=>World.putObj_heap_other (by omega),by simp,c2,⟨rfl,rfl,rfl,rfl,rfl,rfl,rfl⟩,fun hlo hb=>hb.trans ⟨rfl,rfl,rfl,by simp,fun k hk=>World.putObj_heap_other (by omega)⟩⟩
theorem Shut.trans {lo:Nat} {E E' E'':Env} (h:Shut lo E E') (k:Shut lo E' E''):Shut lo E E'':=by
 obtain ⟨q1,q2,q3,q4,q5,q6,q7⟩:=h.eqs
 obtain ⟨p1,p2,p3,p4,p5,p6,p7⟩:=k.eqs
 exact ⟨fun hr=>k.rep (h.rep hr),fun hm=>k.mem (h.mem hm),fun b hb=>(k.heap b hb).trans (h.heap b hb),k.size.trans h.size,fun b=>(k.shape b).trans (h.shape b),⟨p1.trans q1,p2.trans q2,p3.trans q3,p4.trans q4,p5.trans q5,p6.trans q6,p7.trans q7⟩,fun hlo hb=>k.below hlo (h.below hlo hb)⟩
theorem marks_leave {P:Program} {fn:Func} {tmps:Array Value} {R:Ending→World→Prop} {lo:Nat}:∀(ds:List Deferred) (E:Env),Mk E lo ds→
  (∀E',Shut lo E E'→∃v,(results fn tmps).run P E'.w= .ok v E'.w∧R (.returned v) E'.w)→LeavesInM Fence.wide 0 P fn tmps R ds .returning E.w
 |[],E,_,h=>h E (Shut.refl lo E)
 |d::ds,E,hmk,h=>by
  cases hmk with
  | @cons D _ hI hD hh hne t=>
   have h1:=Shut.one hD hh
   refine ⟨by simp, .inl ⟨D,_,rfl,run_takeDeferred hh, ?_⟩⟩
   refine marks_leave ds { E with w:=E.w.putObj D (.deferred none) } ?_ fun E' hS=>h E' (h1.trans hS)
   clear h h1 hh
   induction t with
   |nil=>exact .nil
   | @cons D' ds' hI' hD' hh' hne' t' ih=>
    have hDD:D'≠D:=fun e=>hne _ (List.mem_cons_self ..) (by rw [e])
    exact .cons hI' hD' ((World.putObj_heap_other hDD).trans hh') hne' (ih fun d hd=>hne d (List.mem_cons_of_mem _ hd))
theorem calls_marks {P:Program} {f:FuncId} {fn:Func} {c:Code} {args:Array Value} {w:World} {R:Ending→World→Prop} (hf:P.funcs[f]? =some fn) (hb:fn.body=some c)
  (h:c.wpIn (rnd none) 0 P (fun e a' w'=>(e= .normal∨e= .ret)∧LeavesInM Fence.wide 0 P fn a'.tmps R a'.defers .returning w') { tmps:=args++Array.replicate (fn.ntmps - args.size) undef,defers:=[] } w):Calls P f args w R:=
 (callsIn_wide (n:=0)).1 (callsIn_of_wp_marks (F:=Fence.wide) (n:=0) hf hb trivial (wpIn_mono h fun e a' w' ⟨he,hl⟩=>by
  rcases he with rfl|rfl
  ·exact hl
  ·exact hl) rfl)
open Go.RowKit
structure L3 where
 t:List (Nat×AV)
 m:List (Option Bk)
def slot:List (Nat×AV)→Nat→AV
 |[],_=> .dead
 |(j,v)::r,i=>bif Nat.beq i j then v else slot r i
def rmA (d:Nat):List (Nat×AV)→List (Nat×AV)
 |[]=>[]
 |(j,v)::r=>bif Nat.beq j d then rmA d r else (j,v)::rmA d r
def setA (t:List (Nat×AV)):Option Nat→AV→List (Nat×AV)
 |none,_=>t
 |some d,v=>(d,v)::rmA d t
def dstOK (n:Nat):Option Nat→Bool
 |none=>true
 |some d=>Nat.blt d n
def look (m:List (Option Bk)) (id:Nat):Option Bk:=(m[id]?).join
def L3.s (x:L3):S3:=⟨slot x.t,look x.m,x.m.length⟩
def mput (m:List (Option Bk)):List (Nat×Option Bk)→List (Option Bk)
 |[]=>m
 |(id,x)::r=>mput (if id<m.length then m.set id x else m++[x]) r
def upsOK (k:Nat):List (Nat×Option Bk)→Bool
 |[]=>true
 |(id,_)::r=>decide (id≤k)&&upsOK (if id<k then k else k+1) r
theorem slot_rm {t:List (Nat×AV)} {d i:Nat} (h:i≠d):slot (rmA d t) i=slot t i:=by
 induction t with
 |nil=>rfl
 |cons p r ih=>
  obtain ⟨j,v⟩:=p
  simp only [rmA,slot]
  cases hj:Nat.beq j d with
  |true=>
   have:=Nat.eq_of_beq_eq_true hj
   subst this
   have hi:Nat.beq i j=false:=by
    cases hb:Nat.beq i j with
    |false=>rfl
    |true=>exact absurd (Nat.eq_of_beq_eq_true hb) h
   simp [hi,ih]
  |false=>simp only [cond_false,slot,ih]
theorem setA_slot {n:Nat} (t:List (Nat×AV)) (d:Option Nat) (hd:dstOK n d=true) (v:AV):slot (setA t d v)=putσ n d v (slot t):=by
 funext i
 unfold putσ
 cases d with
 |none=>simp [setA]
 |some d=>
  simp only [dstOK] at hd
  have hdn:=Nat.le_of_ble_eq_true hd
  simp only [setA,slot,Option.some.injEq]
  by_cases h:d=i
  ·subst h
   have:Nat.beq d d=true:=Nat.beq_refl d
   rw [this,if_pos ⟨rfl,hdn⟩];rfl
  ·have hb:Nat.beq i d=false:=by
    cases hb:Nat.beq i d with
    |false=>rfl
    |true=>exact absurd (Nat.eq_of_beq_eq_true hb).symm h
   rw [hb,if_neg (fun hh=>h hh.1)]
   exact slot_rm (fun e=>h e.symm)
theorem look_put (m:List (Option Bk)) (id:Nat) (x:Option Bk) (h:id≤m.length):look (if id<m.length then m.set id x else m++[x])=fun k=>if k=id then x else look m k:=by
 funext k
 unfold look
 by_cases hl:id<m.length
 ·rw [if_pos hl,List.getElem?_set]
  by_cases hk:id=k
  ·subst hk;simp [hl]
  ·simp [hk,Ne.symm hk]
 ·rw [if_neg hl]
  have:id=m.length:=by omega
  subst this
  by_cases hk:k=m.length
  ·subst hk;simp
  ·rw [if_neg hk]
   rcases Nat.lt_or_ge k m.length with h1|h1
   ·rw [List.getElem?_append_left h1]
   ·rw [List.getElem?_eq_none (by simp;omega),List.getElem?_eq_none (by omega)]
theorem mput_spec:∀(ups:List (Nat×Option Bk)) (m:List (Option Bk)),upsOK m.length ups=true→look (mput m ups)=gput (look m) ups∧m.length≤(mput m ups).length∧∀id,id∈ups.map Prod.fst→id<(mput m ups).length
 |[],m,_=>⟨rfl,Nat.le_refl _,fun id h=>by simp at h⟩
 |(i,x)::r,m,h=>by
  simp only [upsOK,Bool.and_eq_true,decide_eq_true_eq] at h
  have hlen:(if i<m.length then m.set i x else m++[x]).length=if i<m.length then m.length else m.length+1:=by split<;>simp
  obtain ⟨h1,h2,h3⟩:=mput_spec r (if i<m.length then m.set i x else m++[x]) (by rw [hlen];exact h.2)
  rw [hlen] at h2
  have e1:m.length≤(if i<m.length then m.length else m.length+1):=by split<;>omega
  have e2:i<(if i<m.length then m.length else m.length+1):=by have:=h.1;split<;>omega
  refine ⟨?_, ?_,fun id hid=> ?_⟩
  ·simp only [mput,gput]
   rw [h1,look_put m i x h.1]
  ·simp only [mput];omega
  ·simp only [mput]
   simp only [List.map_cons,List.mem_cons] at hid
   rcases hid with rfl|hid
   ·omega
   ·exact h3 id hid
inductive EvR where
 |done (val:AV) (ups:List (Nat×Option Bk)) (acc:List Nat)
 |call (f:FuncId) (as_:List AV)
 |stuck
def accOf (ao:AO) (x:L3):List Nat:=(ao.sem x.m.length (argσ (slot x.t))).acc (look x.m)++(ao.sem x.m.length (argσ (slot x.t))).see (look x.m)
def opE (o:AOper) (x:L3):EvR:=
 match guardA (slot x.t) o.guard with
 |some false=> .done (.v undef) [] []
 |some true=>match (o.ao.sem x.m.length (argσ (slot x.t))).run (look x.m) with
  |some (.done val ups)=> .done val ups (accOf o.ao x)
  |some (.call f as_)=> .call f as_
  |none=> .stuck
 |none=> .stuck
theorem opE_done {P:Program} {o:AOper} {x:L3} {val:AV} {ups:List (Nat×Option Bk)} {acc:List Nat} (h:opE o x= .done val ups acc):OpRun P (slot x.t) (look x.m) x.m.length o val ups acc:=by
 unfold opE at h
 split at h
 ·rename_i hg
  simp only [EvR.done.injEq] at h
  obtain ⟨rfl,rfl,rfl⟩:=h
  exact .skip hg
 ·rename_i hg
  split at h
  ·rename_i h1
   simp only [EvR.done.injEq] at h
   obtain ⟨rfl,rfl,rfl⟩:=h
   exact .done hg h1
  ·simp at h
  ·simp at h
 ·simp at h
def OW (P:Program) (n k0:Nat) (os:List AOper) (x:L3) (K:L3→Prop):Prop:=∃x':L3,OpsRun P n k0 os (slot x.t) (look x.m) x.m.length (slot x'.t) (look x'.m) x'.m.length∧K x'
def DW (P:Program) (n:Nat) (dep:List (List Nat)) (os:List AOper) (x:L3) (rs:List Rec) (K:L3→Prop):Prop:=
 ∃x':L3,DrawB P n dep os (slot x.t) (look x.m) x.m.length rs (slot x'.t) (look x'.m) x'.m.length∧K x'
section
variable {P:Program} {n k0:Nat} {x:L3} {K:L3→Prop}
theorem OW.nil (h:K x):OW P n k0 [] x K:=⟨x, .nil,h⟩
theorem OW.cons {o:AOper} {os:List AOper} {val:AV} {ups:List (Nat×Option Bk)} {acc:List Nat} (hd:dstOK n o.dst=true) (h:opE o x= .done val ups acc) (hu:upsOK x.m.length ups=true) (hr:OW P n k0 os ⟨setA x.t o.dst val,mput x.m ups⟩ K):OW P n k0 (o::os) x K:=by
 obtain ⟨x',h1,h3⟩:=hr
 simp only [setA_slot _ _ hd] at h1
 obtain ⟨m1,m2,m3⟩:=mput_spec ups x.m hu
 rw [m1] at h1
 exact ⟨x', .cons (opE_done h) m2 m3 h1,h3⟩
theorem DW.nil {dep:List (List Nat)} {rs:List Rec} (hid:idsOK rs dep=true) (h:K x):DW P n dep [] x rs K:=⟨x, .nil hid,h⟩
theorem DW.cons {dep:List (List Nat)} {rs:List Rec} {o:AOper} {os:List AOper} {val:AV} {ups:List (Nat×Option Bk)} {acc:List Nat} (hd:dstOK n o.dst=true) (h:opE o x= .done val ups acc) (hu:upsOK x.m.length ups=true)
  (hr:DW P n dep os ⟨setA x.t o.dst val,mput x.m ups⟩ (rs++[⟨o.dst,val,ups,acc,x.m.length⟩]) K):DW P n dep (o::os) x rs K:=by
 obtain ⟨x',h1,h4⟩:=hr
 simp only [setA_slot _ _ hd] at h1
 obtain ⟨m1,m2,m3⟩:=mput_spec ups x.m hu
 rw [m1] at h1
 exact ⟨x', .cons (opE_done h) m2 m3 h1,h4⟩
end
def EL (P:Program) (n k0:Nat) (ac:AC) (x:L3) (Q:Ex→L3→Prop):Prop:=EW P n k0 ac x.s fun e s'=>∃x':L3,s'=x'.s∧Q e x'
section
variable {P:Program} {n k0:Nat} {x:L3} {Q:Ex→L3→Prop}
def Ex.thenL (next:L3→Prop) (Q:Ex→L3→Prop):Ex→L3→Prop
 | .normal,s=>next s
 |e,s=>Q e s
theorem EL.conseq {ac:AC} {Q':Ex→L3→Prop} (h:EL P n k0 ac x Q) (hq:∀e x,Q e x→Q' e x):EL P n k0 ac x Q':=EW.conseq h fun e s ⟨x',h1,h3⟩=>⟨x',h1,hq e x' h3⟩
theorem EL.weak {ac:AC} {y:L3} (hs:x.s.Le k0 n y.s) (h:EL P n k0 ac y Q):EL P n k0 ac x Q:=EW.weak hs h
theorem EL.skip (h:Q .normal x):EL P n k0 .skip x Q:=EW.skip ⟨x,rfl,h⟩
theorem EL.ret (h:Q .ret x):EL P n k0 .ret x Q:=EW.ret ⟨x,rfl,h⟩
theorem EL.seq {a b:AC} (h:EL P n k0 a x (Ex.thenL (fun x'=>EL P n k0 b x' Q) Q)):EL P n k0 (.seq a b) x Q:=
 EW.seq (EW.conseq h fun e s ⟨x',h1,h3⟩=>by
  cases e with
  |normal=>subst h1;exact h3
  |exit id=>exact ⟨x',h1,h3⟩
  |ret=>exact ⟨x',h1,h3⟩)
theorem EL.cond {b:Arg} {y z:AC} {t:Bool} (hb:argσ (slot x.t) b= .v (.bool t)) (h1:t=true→EL P n k0 y x Q) (h2:t=false→EL P n k0 z x Q):EL P n k0 (.cond b y z) x Q:=
 EW.cond hb (by
  cases t with
  |true=>exact h1 rfl
  |false=>exact h2 rfl)
theorem EL.condAny {b:Arg} {y z:AC} (hb:argσ (slot x.t) b= .anyb) (h1:EL P n k0 y x Q) (h2:EL P n k0 z x Q):EL P n k0 (.cond b y z) x Q:=EW.condAny hb h1 h2
theorem EL.reg {os:List AOper} (h:OW P n k0 os x (Q .normal)):EL P n k0 (.reg os none) x Q:=by
 obtain ⟨x',h1,h3⟩:=h
 exact EW.reg (s':=x'.s) h1 ⟨x',rfl,h3⟩
theorem EL.draw {os:List AOper} {dep:List (List Nat)} (h:DW P n dep os x [] (Q .normal)):EL P n k0 (.reg os (some dep)) x Q:=by
 obtain ⟨x',h1,h4⟩:=h
 exact EW.draw (s':=x'.s) h1 ⟨x',rfl,h4⟩
theorem S3.le_slots {s s':S3} (hσ:∀t,s'.σ t=s.σ t∨s'.σ t= .dead∨s.σ t= .v undef∧False) (hg:s'.g=s.g) (hk:s'.k=s.k):s.Le k0 n s':=by
 intro E0 J base w0 a w _ hr
 obtain ⟨E,h1,h2,h3,h4,h5,h6⟩:=hr.ex
 refine ⟨⟨E,h1,h2,fun t=> ?_,by rw [hg];exact h4,by rw [hk];exact h5,h6⟩,hr.size,hr.below,hr.gl⟩
 rcases hσ t with h|h|h
 ·rw [h];exact h3 t
 ·rw [h];exact .dead
 ·exact h.2.elim
end
def startT:Nat→List AV→List (Nat×AV)
 |_,[]=>[]
 |i,a::r=>(i,a)::startT (i+1) r
def start (as_:List AV):L3:=⟨startT 0 as_,[]⟩
theorem startT_slot:∀(as_:List AV) (i t:Nat),slot (startT i as_) t=if i≤t then (as_[t - i]?).getD .dead else .dead
 |[],i,t=>by simp [startT,slot]
 |a::r,i,t=>by
  simp only [startT,slot]
  by_cases h:t=i
  ·subst h
   rw [Nat.beq_refl];simp
  ·have hb:Nat.beq t i=false:=by
    cases hb:Nat.beq t i with
    |false=>rfl
    |true=>exact absurd (Nat.eq_of_beq_eq_true hb) h
   rw [hb,cond_false,startT_slot r (i+1) t]
   by_cases h1:i≤t
   ·rw [if_pos h1,if_pos (by omega),show t - i=(t - (i+1))+1 by omega,List.getElem?_cons_succ]
   ·rw [if_neg h1,if_neg (by omega)]
theorem start_le {n k0:Nat} (as_:List AV) (g:Nat→Option Bk) (k:Nat):(⟨σ0 as_,g,k⟩:S3).Le k0 n ⟨slot (startT 0 as_),g,k⟩:=by
 refine S3.le_slots (fun t=> ?_) rfl rfl
 show slot (startT 0 as_) t=σ0 as_ t∨_
 rw [startT_slot,if_pos (Nat.zero_le _),Nat.sub_zero]
 unfold σ0
 cases h:as_[t]? with
 |none=>exact .inr (.inl (by simp [startT_slot,h]))
 |some a=>exact .inl rfl
open Go.RowKit
abbrev oo (d:Nat) (a:AO):AOper:=⟨some d,a,none⟩
abbrev ow (a:AO):AOper:=⟨none,a,none⟩
abbrev ot (d:Nat) (a:AO) (g:Nat):AOper:=⟨some d,a,some (g,true)⟩
abbrev on (d:Nat) (a:AO) (g:Nat):AOper:=⟨some d,a,some (g,false)⟩
section
variable {P:Program} {T:FuncId→Option AFn}
end
open Go.RowKit
def opV (o:AOper) (x:L3):Option (AV×List (Nat×Option Bk)):=
 match opE o x with
 | .done v u _=>some (v,u)
 |_=>none
def runN (n:Nat):Nat→List AOper→L3→Option L3
 |0,_,x=>some x
 |_+1,[],_=>none
 |k+1,o::os,x=>bif dstOK n o.dst then match opV o x with
   |some (v,u)=>bif upsOK x.m.length u then runN n k os ⟨setA x.t o.dst v,mput x.m u⟩ else none
   |none=>none
  else none
def recN:Nat→List AOper→L3→List Rec
 |0,_,_=>[]
 |_+1,[],_=>[]
 |k+1,o::os,x=>match opE o x with
  | .done v u acc=>⟨o.dst,v,u,acc,x.m.length⟩::recN k os ⟨setA x.t o.dst v,mput x.m u⟩
  |_=>[]
def keep (live:List Nat):List (Nat×AV)→List (Nat×AV)
 |[]=>[]
 |(j,v)::r=>bif live.any (Nat.beq j) then (j,v)::keep live r else keep live r
def L3.keep (live:List Nat) (x:L3):L3:=⟨Ytboaekdecndckaa.keep live x.t,x.m⟩
theorem keep_slot (live:List Nat):∀(t:List (Nat×AV)) (i:Nat),slot (keep live t) i=if live.any (Nat.beq i)=true then slot t i else .dead
 |[],i=>by simp [keep,slot]
 |(j,v)::r,i=>by
  simp only [keep,slot]
  cases hb:Nat.beq i j with
  |true=>
   have:=Nat.eq_of_beq_eq_true hb
   subst this
   cases hl:live.any (Nat.beq i) with
   |true=>simp [slot]
   |false=>simp [keep_slot live r,hl]
  |false=>
   cases hl:live.any (Nat.beq j) with
   |true=>simp [slot,hb,keep_slot live r]
   |false=>simp [keep_slot live r]
section
variable {P:Program} {n k0:Nat} {x:L3} {K:L3→Prop} {Q:Ex→L3→Prop} {R:List AOper} {k:Nat}
theorem EL.prune {ac:AC} (live:List Nat) (h:EL P n k0 ac (x.keep live) Q):EL P n k0 ac x Q:=by
 refine EL.weak (y:=x.keep live) (S3.le_slots (fun t=> ?_) rfl rfl) h
 show slot (keep live x.t) t=slot x.t t∨slot (keep live x.t) t= .dead∨_
 rw [keep_slot]
 split
 ·exact .inl rfl
 ·exact .inr (.inl rfl)
theorem opV_done {o:AOper} {v:AV} {u:List (Nat×Option Bk)} (h:opV o x=some (v,u)):∃acc,opE o x= .done v u acc:=by
 unfold opV at h
 split at h
 ·rename_i v' u' acc he
  simp only [Option.some.injEq,Prod.mk.injEq] at h
  obtain ⟨rfl,rfl⟩:=h
  exact ⟨acc,he⟩
 ·simp at h
theorem runN_ow:∀(c:Nat) (os:List AOper) (x x':L3),runN n c os x=some x'→OW P n k0 (os.drop c) x' K→OW P n k0 os x K
 |0,os,x,x',h,hr=>by simp only [runN,Option.some.injEq] at h;subst h;exact hr
 |c+1,[],x,x',h,hr=>by simp [runN] at h
 |c+1,o::os,x,x',h,hr=>by
  simp only [runN] at h
  cases hd:dstOK n o.dst with
  |false=>rw [hd] at h;simp at h
  |true=>
   rw [hd,cond_true] at h
   split at h
   ·rename_i v u hv
    obtain ⟨acc,he⟩:=opV_done hv
    cases hu:upsOK x.m.length u with
    |false=>rw [hu] at h;simp at h
    |true=>
     rw [hu,cond_true] at h
     exact OW.cons hd he hu (runN_ow c os _ x' h hr)
   ·simp at h
theorem runN_dw {dep:List (List Nat)}:∀(c:Nat) (os:List AOper) (x x':L3) (rs:List Rec),runN n c os x=some x'→DW P n dep (os.drop c) x' (rs++recN c os x) K→DW P n dep os x rs K
 |0,os,x,x',rs,h,hr=>by simp only [runN,Option.some.injEq] at h;subst h;simpa [recN] using hr
 |c+1,[],x,x',rs,h,hr=>by simp [runN] at h
 |c+1,o::os,x,x',rs,h,hr=>by
  simp only [runN] at h
  cases hd:dstOK n o.dst with
  |false=>rw [hd] at h;simp at h
  |true=>
   rw [hd,cond_true] at h
   split at h
   ·rename_i v u hv
    obtain ⟨acc,he⟩:=opV_done hv
    cases hu:upsOK x.m.length u with
    |false=>rw [hu] at h;simp at h
    |true=>
     rw [hu,cond_true] at h
     refine DW.cons hd he hu (runN_dw c os _ x' _ h ?_)
     simp only [recN,he] at hr
     simpa using hr
   ·simp at h
def opD (R:List AOper) (k:Nat):AOper:=(R[k]?).getD ⟨none, .mov (.c .dead),none⟩
theorem opD_drop (h:Nat.blt k R.length=true):R.drop k=opD R k::R.drop (k+1):=by
 have hk:k<R.length:=Nat.le_of_ble_eq_true h
 rw [List.drop_eq_getElem_cons hk]
 simp [opD,hk]
theorem OW.run (c:Nat) {x':L3} (h:runN n c (R.drop k) x=some x') (hr:OW P n k0 (R.drop (k+c)) x' K):OW P n k0 (R.drop k) x K:=
 runN_ow c _ x x' h (by rw [List.drop_drop];exact hr)
theorem OW.last (c:Nat) (live:List Nat) {b:AC} {x':L3} (h:(runN n c (R.drop k) x).map (L3.keep live)=some x') (he:(R.drop (k+c)).isEmpty=true) (hr:EL P n k0 b x' Q):OW P n k0 (R.drop k) x fun y=>EL P n k0 b y Q:=by
 cases hy:runN n c (R.drop k) x with
 |none=>rw [hy] at h;simp at h
 |some y=>
  rw [hy] at h
  simp only [Option.map_some,Option.some.injEq] at h
  refine OW.run c hy ?_
  rw [List.isEmpty_iff.1 he]
  exact OW.nil (EL.prune live (by rw [h];exact hr))
theorem EL.sreg {b:AC} (h:OW P n k0 (R.drop 0) x fun y=>EL P n k0 b y Q):EL P n k0 (.seq (.reg R none) b) x Q:=EL.seq (EL.reg (by have:=h;rw [List.drop_zero] at this;exact this))
theorem DW.run {dep:List (List Nat)} {rs:List Rec} (c:Nat) {x':L3} (h:runN n c (R.drop k) x=some x') (hr:DW P n dep (R.drop (k+c)) x' (rs++recN c (R.drop k) x) K):DW P n dep (R.drop k) x rs K:=
 runN_dw c _ x x' rs h (by rw [List.drop_drop];exact hr)
theorem DW.last {dep:List (List Nat)} {rs:List Rec} (c:Nat) (live:List Nat) {b:AC} {x':L3} (h:(runN n c (R.drop k) x).map (L3.keep live)=some x') (he:((R.drop (k+c)).isEmpty&&idsOK (rs++recN c (R.drop k) x) dep)=true) (hr:EL P n k0 b x' Q):DW P n dep (R.drop k) x rs fun y=>EL P n k0 b y Q:=by
 simp only [Bool.and_eq_true] at he
 cases hy:runN n c (R.drop k) x with
 |none=>rw [hy] at h;simp at h
 |some y=>
  rw [hy] at h
  simp only [Option.map_some,Option.some.injEq] at h
  refine DW.run c hy ?_
  rw [List.isEmpty_iff.1 he.1]
  exact DW.nil he.2 (EL.prune live (by rw [h];exact hr))
theorem EL.sdraw {dep:List (List Nat)} {b:AC} (h:DW P n dep (R.drop 0) x [] fun y=>EL P n k0 b y Q):EL P n k0 (.seq (.reg R (some dep)) b) x Q:=EL.seq (EL.draw (by have:=h;rw [List.drop_zero] at this;exact this))
def L3.ord (live:List Nat) (x:L3):L3:=⟨live.map fun j=>(j,slot x.t j),x.m⟩
theorem ord_slot (t:List (Nat×AV)):∀(live:List Nat) (i:Nat),slot (live.map fun j=>(j,slot t j)) i=slot t i∨slot (live.map fun j=>(j,slot t j)) i= .dead
 |[],i=> .inr rfl
 |j::r,i=>by
  simp only [List.map_cons,slot]
  cases hb:Nat.beq i j with
  |true=>
   have:=Nat.eq_of_beq_eq_true hb
   subst this
   exact .inl rfl
  |false=>exact ord_slot t r i
structure IsI (I J:L3→Prop):Prop where
 eq:I=J
theorem IsI.get {I J:L3→Prop} (h:IsI I J) {y:L3} (hy:J y):I y:=h.eq▸hy
theorem EL.seqG {a b:AC} (live:List Nat) (J:L3→Prop) (h:∀I:L3→Prop,IsI I J→EL P n k0 a x (Ex.thenL (fun y=>I (L3.ord live y)) Q)) (hb:∀y,J y→EL P n k0 b y Q):EL P n k0 (.seq a b) x Q:=by
 refine EL.seq (EL.conseq (h J ⟨rfl⟩) fun e y hy=> ?_)
 cases e with
 |normal=>
  refine EL.weak (y:=L3.ord live y) (S3.le_slots (fun t=> ?_) rfl rfl) (hb _ hy)
  rcases ord_slot y.t live t with h|h
  ·exact .inl h
  ·exact .inr (.inl h)
 |exit i=>exact hy
 |ret=>exact hy
theorem tN {f:L3→Prop} (h:f x):Ex.thenL f Q .normal x:=h
theorem tR {f:L3→Prop} (h:Q .ret x):Ex.thenL f Q .ret x:=h
theorem EL.condF {b:Arg} {y z:AC} (hb:argσ (slot x.t) b= .v (.bool false)) (h:EL P n k0 z x Q):EL P n k0 (.cond b y z) x Q:=EL.cond hb (fun e=>by simp at e) (fun _=>h)
abbrev VI (n:Int):AV:= .v (.int .i64 n)
end
open Go.RowKit
section
variable {P:Program} {n k0:Nat} {x:L3} {K:L3→Prop} {Q:Ex→L3→Prop} {R:List AOper} {k:Nat}
theorem OW.ope {v:AV} {u:List (Nat×Option Bk)} {acc:List Nat} {x':L3} (hl:Nat.blt k R.length=true) (h:opE (opD R k) x= .done v u acc) (hx:(bif dstOK n (opD R k).dst&&upsOK x.m.length u then some (⟨setA x.t (opD R k).dst v,mput x.m u⟩:L3) else none)=some x') (hr:OW P n k0 (R.drop (k+1)) x' K):OW P n k0 (R.drop k) x K:=by
 rw [opD_drop hl]
 cases hd:(dstOK n (opD R k).dst&&upsOK x.m.length u) with
 |false=>rw [hd] at hx;simp at hx
 |true=>
  rw [hd,cond_true] at hx
  simp only [Option.some.injEq] at hx
  subst hx
  simp only [Bool.and_eq_true] at hd
  exact OW.cons hd.1 h hd.2 hr
theorem DW.ope {dep:List (List Nat)} {rs:List Rec} {v:AV} {u:List (Nat×Option Bk)} {acc:List Nat} {x':L3} (hl:Nat.blt k R.length=true) (h:opE (opD R k) x= .done v u acc) (hx:(bif dstOK n (opD R k).dst&&upsOK x.m.length u then some (⟨setA x.t (opD R k).dst v,mput x.m u⟩:L3) else none)=some x') (hr:DW P n dep (R.drop (k+1)) x' (rs++[⟨(opD R k).dst,v,u,acc,x.m.length⟩]) K):DW P n dep (R.drop k) x rs K:=by
 rw [opD_drop hl]
 cases hd:(dstOK n (opD R k).dst&&upsOK x.m.length u) with
 |false=>rw [hd] at hx;simp at hx
 |true=>
  rw [hd,cond_true] at hx
  simp only [Option.some.injEq] at hx
  subst hx
  simp only [Bool.and_eq_true] at hd
  exact DW.cons hd.1 h hd.2 hr
end
section
variable {o:AOper} {x:L3}
theorem opE_sem (ao:AO) {v:AV} {u:List (Nat×Option Bk)} {acc see:List Nat} (ho:o.ao=ao) (hg:guardA (slot x.t) o.guard=some true) (h:(ao.sem x.m.length (argσ (slot x.t))).run (look x.m)=some (.done v u))
  (h2:(ao.sem x.m.length (argσ (slot x.t))).acc (look x.m)=acc) (h3:(ao.sem x.m.length (argσ (slot x.t))).see (look x.m)=see):opE o x= .done v u (acc++see):=by
 unfold opE
 rw [hg]
 simp only [ho,h]
 unfold accOf
 rw [h2,h3]
theorem opE_ret (ao:AO) {v:AV} {u:List (Nat×Option Bk)} (ho:o.ao=ao) (hg:guardA (slot x.t) o.guard=some true) (h:ao.sem x.m.length (argσ (slot x.t))= .ret (.done v u)):opE o x= .done v u []:=
 opE_sem ao (acc:=[]) (see:=[]) ho hg (by rw [h];rfl) (by rw [h];rfl) (by rw [h];rfl)
theorem opE_isn_ne {α:Type} (f:α→List AV) (xs:List α) (a:Arg) (sz:Nat) (neg:Bool) (ho:o.ao= .isn .sl neg a) (hg:guardA (slot x.t) o.guard=some true) (ha:argσ (slot x.t) a= .lst sz (xs.map f)∨argσ (slot x.t) a= .tls sz (xs.map f)) (he:List.isEmpty xs=false):opE o x= .done (.v (.bool neg)) [] []:=by
 rcases ha with ha|ha<;>exact opE_ret _ ho hg (by simp [AO.sem,ha,he])
theorem opE_isn_any {α:Type} (f:α→List AV) (xs:List α) (a:Arg) (sz:Nat) (neg:Bool) (ho:o.ao= .isn .sl neg a) (hg:guardA (slot x.t) o.guard=some true) (ha:argσ (slot x.t) a= .lst sz (xs.map f)∨argσ (slot x.t) a= .tls sz (xs.map f)) (he:List.isEmpty xs=true):opE o x= .done .anyb [] []:=by
 rcases ha with ha|ha<;>exact opE_ret _ ho hg (by simp [AO.sem,ha,he])
end
section
variable {o:AOper} {x:L3}
theorem run_bind {α β:Type} {g:Nat→Option Bk} {f:α→RM β}:∀(m:RM α) {a:α},m.run g=some a→(m.bind f).run g=(f a).run g∧(m.bind f).acc g=m.acc g++(f a).acc g∧(m.bind f).see g=m.see g++(f a).see g
 | .ret b,a,h=>by simp only [RM.run,Option.some.injEq] at h;subst h;exact ⟨rfl,rfl,rfl⟩
 | .fail,a,h=>by simp [RM.run] at h
 | .rd id k,a,h=>by
  cases hg:g id with
  |none=>simp [RM.run,hg] at h
  |some B=>
   simp only [RM.run,hg] at h
   obtain ⟨h1,h2,h3⟩:=run_bind (f:=f) (k B) h
   exact ⟨by simp [RM.bind,RM.run,hg,h1],by simp [RM.bind,RM.acc,hg,h2],by simp [RM.bind,RM.see,hg,h3]⟩
 | .lv id k,a,h=>by
  cases hg:g id with
  |none=>simp [RM.run,hg] at h
  |some B=>
   simp only [RM.run,hg] at h
   obtain ⟨h1,h2,h3⟩:=run_bind (f:=f) k h
   exact ⟨by simp [RM.bind,RM.run,hg,h1],by simp [RM.bind,RM.acc,h2],by simp [RM.bind,RM.see,h3]⟩
inductive Src {α:Type} (f:α→List AV) (sz:Nat) (g:Nat→Option Bk):AV→List α→List Nat→Prop
 |lst {ys:List α}:Src f sz g (.lst sz (ys.map f)) ys []
 |tls {ys:List α}:Src f sz g (.tls sz (ys.map f)) ys []
 |emp:Src f sz g .emp [] []
 |own {id off len:Nat} {els:List (List AV)} {ys:List α} (hB:g id=some ⟨sz,els⟩) (hy:(els.drop off).take len=ys.map f) (hl:off+len≤els.length):Src f sz g (.own id sz off len) ys [id]
theorem Src.content {α:Type} {f:α→List AV} {sz:Nat} {g:Nat→Option Bk} {v:AV} {ys:List α} {acc:List Nat} (h:Src f sz g v ys acc):(content sz v).run g=some (ys.map f)∧(content sz v).acc g=acc∧(content sz v).see g=[]:=by
 cases h with
 |lst=>simp [Ytboaekdecndckaa.content,RM.run,RM.acc,RM.see]
 |tls=>simp [Ytboaekdecndckaa.content,RM.run,RM.acc,RM.see]
 |emp=>simp [Ytboaekdecndckaa.content,RM.run,RM.acc,RM.see]
 |own hB hy hl=>simp [Ytboaekdecndckaa.content,RM.run,RM.acc,RM.see,hB,hy,hl]
theorem opE_appO {α:Type} (f:α→List AV) (xs ys:List α) (s a:Arg) (sz by_ id:Nat) (w:AV) (acc:List Nat) (ho:o.ao= .app sz by_ s a) (hg:guardA (slot x.t) o.guard=some true) (hs:argσ (slot x.t) s= .own id sz 0 xs.length) (hB:look x.m id=some ⟨sz,xs.map f⟩) (ha:argσ (slot x.t) a=w) (hw:Src f sz (look x.m) w ys acc)
  (hb:(xs.length+ys.length)*by_≤140737488355328):opE o x= .done (.own x.m.length sz 0 (xs++ys).length) [(id,none),(x.m.length,some ⟨sz,(xs++ys).map f⟩)] (acc++[id]):=by
 obtain ⟨c1,c2,c3⟩:=hw.content
 let F:List (List AV)→RM Out:=fun ys=> .rd id fun B=>if sz=sz∧B.sz=sz∧0=0∧xs.length=B.els.length∧(xs.length+ys.length)*by_≤140737488355328 then .ret (.done (.own x.m.length sz 0 (xs.length+ys.length)) [(id,none),(x.m.length,some ⟨sz,B.els++ys⟩)])
  else if sz=sz∧B.sz=sz∧0+xs.length+ys.length≤B.els.length then .ret (.done (.own id sz 0 (xs.length+ys.length)) [(id,some ⟨B.sz,B.els.take (0+xs.length)++ys++B.els.drop (0+xs.length+ys.length)⟩),(x.m.length,none)]) else .fail
 have hsem:(AO.app sz by_ s a).sem x.m.length (argσ (slot x.t))=(content sz w).bind F:=by simp [AO.sem,hs,ha,F]
 obtain ⟨r1,r2,r3⟩:=run_bind (f:=F) _ c1
 have:=opE_sem (AO.app sz by_ s a) (o:=o) (x:=x) (v:= .own x.m.length sz 0 (xs++ys).length) (u:=[(id,none),(x.m.length,some ⟨sz,(xs++ys).map f⟩)]) (acc:=acc++[id]) (see:=[]) ho hg (by rw [hsem,r1];simp [F,hb,RM.run,hB]) (by rw [hsem,r2,c2];simp [F,hb,RM.acc,hB]) (by rw [hsem,r3,c3];simp [F,hb,RM.see,hB])
 simpa using this
end
end Go.Proofs.Ytboaekdecndckaa
