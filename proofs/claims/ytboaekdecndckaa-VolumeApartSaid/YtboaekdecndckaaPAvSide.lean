/- Operations of which something must be shown: indices, divisions, parts of lists, appends; loops that are unrolled; memory that is put in order. No condition. -/
import Derived.Test.YtboaekdecndckaaPAvStr
import Derived.OrdersIn
import Derived.OwnWalkIn
import Derived.RangeFuncOwn
import Derived.RangeFuncLeaves
set_option linter.unusedSimpArgs false
set_option linter.unusedVariables false
namespace Go.Proofs.Ytboaekdecndckaa
variable {ao:AO} {val a a' r:AV} {x:Arg} {ops:Array Oper} {vs args:Array Value} {c:Code} {R:Ending->World->Prop} {E E':Env} {Q:Exit->Act->World->Prop} {fn:Func} {f:FuncId} {dep:List (List Nat)} {ups u:List (Nat×Option Bk)} {as_ cR:List AV} {acc:List Nat} {n lo fresh kb i k0 base k k' i0 D:Nat} {σ σ':Nat->AV} {g g':Nat->Option Bk} {J:Nat->Prop} {op:Oper} {xo:Operand} {ρ:Option Nat} {P:Program} {α:Type} {t ty e:TypeId} {v:Value} {w w':World}
open Go.RowKit
abbrev aeH:=@Bool.and_eq_true
abbrev aeK:=@cond_true
abbrev aeP:=@List.mem_singleton
abbrev aeQ:=@List.mem_cons
abbrev aeU:=@Nat.eq_of_beq_eq_true
abbrev ae0:=@cond_false
abbrev ae1:=@Bool.not_eq_true'
abbrev ae3:=@decide_eq_false_iff_not
abbrev ae6:=@List.mem_range
abbrev ae7:=@Nat.lt_of_lt_of_le
abbrev ae8:=@Bool.or_eq_true
abbrev afc:=@List.mem_append
abbrev aff:=@decide_eq_true_eq
abbrev afj:=@List.any_eq_true
abbrev afl:=@List.mem_append_right
abbrev afm:=@List.mem_append_left
abbrev afn:=@List.contains_eq_mem
abbrev afo:=@List.mem_cons_self
abbrev afv:=@Nat.le_of_ble_eq_true
abbrev afH:=@List.flatMap_cons
abbrev afI:=@List.isEmpty_iff
abbrev afL:=@Nat.lt_irrefl
abbrev afM:=@List.getElem?_eq_none
abbrev afR:=@List.map_congr_left
abbrev afX:=@List.contains_iff_mem
abbrev afZ:=@List.cons_append
abbrev af6:=@List.nodup_cons
abbrev agq:=@World.putObj_heap_other
abbrev agw:=@Array.toList_inj
abbrev agx:=@Array.getD_eq_getD_getElem?
abbrev agy:=@List.drop_zero
abbrev agD:=@Oper.semAt_plain
section
variable {P:Program} {E:Env} {J:Nat->Prop} {base:Nat} {g:Nat->Option Bk} {aP:Operand->Value} {ρ:Arg->AV} {fresh:Nat}
theorem H3 {cs ds:List AV}:∀{L M:List (Nat×LK)} {b:Bool},eqA cs ds (L++M)=some b->∃x y,eqA cs ds L=some x/\eqA cs ds M=some y/\b=(x&&y)
 |[],M,b,h=>⟨true,b,rfl,h,by simp⟩
 |(o,k)::L,M,b,h=>by
  simp only [afZ,eqA] at h ⊢
  split at h
  ·rename_i a c h1 h2
   split at h
   ·rename_i x y h3 h4
    obtain ⟨x',y',k1,k2,k3⟩:=H3 h4
    simp only [aeF] at h
    refine ⟨x&&x',y', ?_,k2,by rw [<-h,k3,Bool.and_assoc]⟩
    simp [h1,h2,h3,k1]
   ·simp at h
  ·simp at h
def partOf (P:Program) (t:TypeId) (vs:Array Value) (off:Nat):Value->Prop:=fun x=>
 match P.underlying t with
 |some (.struct _)=>∃n,szOf P t=some n/\off+n<=vs.size/\x= .agg (vs.extract off (off+n))
 |_=>vs[off]? =some x
theorem PL {ws:Array Value} {cs ds:List AV} (h1:RC E vs cs) (h2:RC E ws ds):∀(d:Nat) (t:TypeId) (off:Nat) (L:List (Nat×LK)) (b:Bool),nO P d t off=some L->eqA cs ds L=some b->∀D,d<=D->∀x y,partOf P t vs off x->partOf P t ws off y->
  (Op.equalIn D t x y).run P E.w= .ok b E.w:=by
 intro d
 induction d with
 |zero=>intro t off L b hL;simp [nO] at hL
 |succ d ih=>
  intro t off L b hL hb D hD x y hx hy
  obtain ⟨D,rfl⟩:∃D',D=D'+1:=⟨D - 1,by omega⟩
  simp only [nO] at hL
  have leaf:∀k,L=[(off,k)]->vs[off]? =some x->ws[off]? =some y->∃a c,cs[off]? =some a/\ds[off]? =some c/\nN k a c=some b/\aj E x a/\aj E y c:=by
   intro k hk hx hy
   subst hk
   simp only [eqA] at hb
   split at hb
   ·rename_i a c e1 e2
    split at hb
    ·rename_i u v e3 e4
     simp only [aeF] at hb e4
     subst e4
     rw [Bool.and_true] at hb
     subst hb
     exact ⟨a,c,e1,e2,e3,h1.2 _ _ _ hx e1,h2.2 _ _ _ hy e2⟩
    ·simp at hb
   ·simp at hb
  split at hL
  ·rename_i k hu
   simp only [aeF] at hL
   simp only [partOf,hu] at hx hy
   obtain ⟨a,c,e1,e2,e3,e4,e5⟩:=leaf .int hL.symm hx hy
   unfold nN at e3
   split at e3<;>try (simp at e3;done)
   ·rename_i k1 m1 k2 m2 _
    split at e3
    ·rename_i hk;subst hk
     simp only [aeF] at e3;subst e3
     cases e4;cases e5
     exact run_equalIn_int _ D t k1 k m1 m2 hu
    ·simp at e3
   all_goals (rename_i hk;simp at hk)
  ·rename_i hu
   simp only [aeF] at hL
   simp only [partOf,hu] at hx hy
   obtain ⟨a,c,e1,e2,e3,e4,e5⟩:=leaf .str hL.symm hx hy
   unfold nN at e3
   split at e3<;>try (simp at e3;done)
   all_goals try (rename_i hk;simp at hk;done)
   simp only [aeF] at e3;subst e3
   cases e4;cases e5
   rw [HC]
   exact run_equalIn_string _ D t _ _ hu
  ·rename_i hu
   simp only [aeF] at hL
   simp only [partOf,hu] at hx hy
   obtain ⟨a,c,e1,e2,e3,e4,e5⟩:=leaf .bool hL.symm hx hy
   unfold nN at e3
   split at e3<;>try (simp at e3;done)
   all_goals try (rename_i hk;simp at hk;done)
   simp only [aeF] at e3;subst e3
   cases e4;cases e5
   exact run_equalIn_bool' _ D t _ _ hu
  ·rename_i fs hu
   split at hL
   ·simp at hL
   ·rename_i eY
    split at hL
    ·rename_i n hn
     simp only [partOf,hu] at hx hy
     obtain ⟨nx,vC,PM,rfl⟩:=hx
     obtain ⟨ny,H4,PN,rfl⟩:=hy
     obtain rfl:n=nx:=by rw [hn] at vC;simpa using vC
     obtain rfl:n=ny:=by rw [hn] at H4;simpa using H4
     have tn:P.fieldsOf t=fs:=by simp [Program.fieldsOf,hu]
     rw [run_equalIn_struct E.w D t _ _ (by rw [tn];exact hu) (by simpa using eY),tn]
     clear tn eY leaf hu
     generalize fs.toList=l at hL
     induction l generalizing L b with
     |nil=>
      simp only [yB,aeF] at hL
      subst hL
      simp only [eqA,aeF] at hb
      subst hb
      rfl
     |cons f l PO=>
      simp only [yB] at hL
      split at hL
      ·simp at hL
      ·rename_i vD
       split at hL
       ·rename_i k hk
        split at hL
        ·rename_i hfit
         split at hL
         ·rename_i La Lb ea eb
          simp only [aeF] at hL
          subst hL
          obtain ⟨xa,xb,m1,m2,rfl⟩:=H3 hb
          have hp:∀(us:Array Value),off+n<=us.size->∃p,(part f.type (us.extract off (off+n)) f.offset).run P E.w= .ok p E.w/\partOf P f.type us (off+f.offset) p:=by
           intro us hus
           have aZ:=qm hk E.w
           cases hd:P.underlying f.type with
           |none=>
            exfalso
            cases d with
            |zero=>simp [nO] at ea
            |succ d=>simp [nO,hd] at ea
           |some desc=>
            have CJ:(isAgg f.type).run P E.w= .ok false E.w->(∀vE,desc≠ .struct vE)->0<k\/True->f.offset<n->∃p,(part f.type (us.extract off (off+n)) f.offset).run P E.w= .ok p E.w/\partOf P f.type us (off+f.offset) p:=by
             intro fO aI _ hlt
             have hg:(us.extract off (off+n))[f.offset]? =us[off+f.offset]? :=by
              rw [Array.getElem?_extract]
              simp;omega
             have yT:off+f.offset<us.size:=by omega
             refine ⟨us[off+f.offset], ?_, ?_⟩
             ·simp [part,fO,hg,aeV yT]
             ·simp only [partOf,hd]
              cases desc<;>first|exact aeV yT|exact absurd rfl (aI _)
            cases desc with
            |struct vE=>
             refine ⟨_,by simp [part,isAgg,run_underlying hd,aZ];rfl, ?_⟩
             simp only [partOf,hd]
             refine ⟨k,hk,by omega, ?_⟩
             congr 1
             apply Array.ext_getElem?
             intro i
             simp only [Array.getElem?_extract]
             by_cases hi:i<k
             ·rw [aeG (by omega),aeG (by omega)]
              try rw [aeG (by omega)]
              try (congr 1;omega)
             ·rw [aeE (by omega),aeE (by omega)]
            |int _=>exact CJ (by simp [isAgg,run_underlying hd]) (fun vE h=>by cases h) (.inr trivial) hfit.2
            |string=>exact CJ (by simp [isAgg,run_underlying hd]) (fun vE h=>by cases h) (.inr trivial) hfit.2
            |bool=>exact CJ (by simp [isAgg,run_underlying hd]) (fun vE h=>by cases h) (.inr trivial) hfit.2
            |_=>
             exfalso
             cases d with
             |zero=>simp [nO] at ea
             |succ d=>simp [nO,hd] at ea
          obtain ⟨p1,r1,q1⟩:=hp vs PM
          obtain ⟨p2,r2,q2⟩:=hp ws PN
          have fo:=ih f.type (off+f.offset) La xa ea m1 D (by omega) p1 p2 q1 q2
          have PQ:=PO Lb xb m2 eb
          simp only [Op.eqFields]
          rw [aeG vD]
          simp only [afs,r1,r2,fo,agn,Sem.run_ite]
          cases xa
          ·simp
          ·simp [PQ]
         ·simp at hL
        ·simp at hL
       ·simp at hL
    ·simp at hL
  ·simp at hL
theorem H5 (hm:aS E J base g) {neg:Bool} {op:BinOp} (cW:op=if neg then .neq else .eql) {L:List (Nat×LK)} {fs:Array Field} (hu:P.underlying t=some (.struct fs)) (hn:szOf P t=some n) (hg:P.eqGuardType P.depth t=false) (hL:nO P 8 t 0=some L) {vx vy:Value} {yo:Operand} {y:Arg} (hvx:aj E vx (ρ x)) (hvy:aj E vy (ρ y))
 (h:((AO.eqs neg n L x y).aq fresh ρ).run g=some (.done val ups)):
  cG E J base g ((do pure (Next.value (<-(do eqGuard op t xo yo vx vy;binOp op t vx vy:Sem Value))):Sem Next).run P E.w) val ups:=by
 simp only [AO.aq] at h
 split at h
 ·rename_i cs ds h1 h2
  split at h
  case isFalse=>simp [RM.run] at h
  rename_i hlen
  cases hb:eqA cs ds L with
  |none=>simp [hb,RM.opt,RM.run] at h
  |some b=>
   simp [hb,RM.opt,RM.run] at h
   obtain ⟨rfl,rfl⟩:=h
   have s1:szOf P t=some cs.length:=by rw [hlen.1];exact hn
   have s2:szOf P t=some ds.length:=by rw [hlen.2];exact hn
   rw [h1] at hvx;rw [h2] at hvy
   cases hvx with
   | @agg xs _ l1 r1=>cases hvy with
    | @agg ys _ l2 r2=>
     have hrun:=PL (P:=P) (E:=E) ⟨l1,r1⟩ ⟨l2,r2⟩ 8 t 0 L b hL hb 10000 (by omega) (.agg xs) (.agg ys) (by
      simp only [partOf,hu];refine ⟨_,s1,by omega, ?_⟩;congr 1;rw [aeW, <-l1];simp) (by
      simp only [partOf,hu];refine ⟨_,s2,by omega, ?_⟩;congr 1;rw [aeW, <-l2];simp)
     cases neg with
     |false=>
      simp only [afG,ae9] at cW ⊢
      subst cW
      refine cd hm (v:= .bool b) ?_ (.v rfl)
      simp [run_eqGuard_agg E.w _ t xo yo xs ys hg,run_eql_struct,hrun]
     |true=>
      simp only [aeI] at cW ⊢
      subst cW
      refine cd hm (v:= .bool (!b)) ?_ (.v rfl)
      simp [run_eqGuard_agg E.w _ t xo yo xs ys hg,run_neq_struct,hrun]
 ·simp [RM.run] at h
theorem PR (ha:fA E aP ρ) (hm:aS E J base g) (hu:P.underlying t=some .string) {x:Operand} {ax:Arg} (hx:cArg x=some ax) {lo hi:Option Operand} {nL nM:Option Arg} (h1:iy lo=some nL) (h2:iy hi=some nM)
 (h:((AO.sls ax nL nM).aq fresh ρ).run g=some (.done val ups)):
  cG E J base g ((do pure (Next.value (<-Instr.sliceAt t (aP x) (lo.map aP) (hi.map aP) none)):Sem Next).run P E.w) val ups:=by
 have hv:=ha x ax hx
 simp only [AO.aq] at h
 split at h
 ·rename_i nlo nhi s k1 k2 eH
  cases hb:bounds s.size nlo nhi with
  |none=>simp [hb,RM.opt,RM.run] at h
  |some b=>
   simp [hb,RM.opt,RM.run] at h
   obtain ⟨rfl,rfl⟩:=h
   rw [eH] at hv
   have hvx:aP x= .string s:=by
    obtain ⟨vv,dv⟩:∃vv,vv=aP x:=⟨_,rfl⟩
    rw [<-dv] at hv ⊢
    cases hv with|v=>rfl
   have jl:=rJ (P:=P) (E:=E) (isS:=false) (mx:=none) (amx:=none) (nmx:=none) ha (aeO s.size) h1 h2 rfl k1 k2 rfl (by simp) hb (fun m hm=>by simp at hm)
   simp only [Option.map_none,age] at jl
   refine cd hm (v:= .string (s.extract b.1 b.2)) ?_ (.v rfl)
   simp [hvx,Instr.sliceAt,Instr.slice,run_underlying hu,jl]
 ·simp [RM.run] at h
theorem PS (hm:aS E J base g) (hu:P.underlying t=some .string) {vi:Value} {i:Arg} (hv:aj E v (ρ x)) (hvi:aj E vi (ρ i))
 (h:((AO.six x i).aq fresh ρ).run g=some (.done val ups)):
  cG E J base g ((do pure (Next.value (<-Instr.index t v vi)):Sem Next).run P E.w) val ups:=by
 simp only [AO.aq] at h
 split at h
 ·rename_i s n hx hn
  cases hb:s[n]? with
  |none=>simp [hb,RM.opt,RM.run] at h
  |some b=>
   simp [hb,RM.opt,RM.run] at h
   obtain ⟨rfl,rfl⟩:=h
   obtain ⟨k,rfl⟩:=yI hvi hn
   rw [hx] at hv
   cases hv with
   |v hp=>
    refine cd hm (v:= .int .u8 b.toNat) ?_ (.v rfl)
    simp [Instr.index,asIntOf,run_underlying hu,hb]
 ·simp [RM.run] at h
theorem PT {caps:Array Value} {c:Call} {x:Operand} (hc:c.callee= .value x) (hx:aP x= .func (.func f) #[] caps) (w:World):
  (do let d<-resolve aP c ty;invoke d.target d.args:Sem Next).run P w=(callFunc f (c.args.map aP++caps)).run P w:=by
 simp [resolve,hc,hx,Deferred.ofValue,invoke]
theorem PU {first:Array Value} {c:Call} {x:Operand} (hc:c.callee= .value x) (hx:aP x= .func (.func f) first #[]) (w:World):
  (do let d<-resolve aP c ty;invoke d.target d.args:Sem Next).run P w=(callFunc f (first++c.args.map aP)).run P w:=by
 simp [resolve,hc,hx,Deferred.ofValue,invoke]
def aX (P:Program) (f:FuncId):Bool:=
 match P.funcs[f]? with
 |some fn=>fn.body.isSome&&fn.name != "runtime.NumGoroutine"
 |none=>false
theorem H6 (h:aX P f=true) (args:Array Value) (w:World):(callFunc f args).run P w= .ok (.enter f args) w:=by
 unfold aX at h
 cases hf:P.funcs[f]? with
 |none=>simp [hf] at h
 |some fn=>
  simp only [hf,aeH,bne_iff_ne,ne_eq] at h
  have hb:fn.body.isNone=false:=by cases hbb:fn.body<;>simp [hbb] at h ⊢
  simp only [callFunc,afs,run_program,agn,hf,hb,afG,ae9]
  rw [aeE (by simpa using h.2)]
  rfl
theorem aj.l0 {a:Value} (h:aj E v (.v a)):v=a:=by cases h;rfl
theorem H7 {x:Option Operand} {ax:Option Arg} (h:iy x=some ax):ax.isSome=x.isSome:=by
 cases x with
 |none=>simp [iy] at h;subst h;rfl
 |some o=>
  simp only [iy] at h
  cases hc:cArg o<;>simp [hc] at h
  subst h;rfl
theorem CK (hn:∀x args,ao≠ .call x args):(ao.aq fresh ρ).run g≠some (.call f as_):=by
 intro h
 have qq:∀{α:Type} (m:Option α) (k:α->Out),(∀a,∀f as_,k a≠ .call f as_)->∀f as_,RM.run g (RM.opt (m.map k))=some (.call f as_)->False:=by
  intro α m k hk f as_ hh
  cases m with
  |none=>simp [RM.opt,RM.run] at hh
  |some a=>simp [RM.opt,RM.run] at hh;exact hk a _ _ hh
 have H8:∀{α β:Type} (m:Option α) (k:α->Option β) (k2:β->Out),(∀a,∀f as_,k2 a≠ .call f as_)->∀f as_,RM.run g (RM.opt (m.bind fun x=>(k x).map k2))=some (.call f as_)->False:=by
  intro α β m k k2 hk f as_ hh
  cases m with
  |none=>simp [RM.opt,RM.run] at hh
  |some a=>simp only [afV] at hh;exact qq _ _ hk _ _ hh
 cases ao with
 |call x args=>exact hn x args rfl
 |app sz bytes s x=>
  simp only [AO.aq] at h
  obtain ⟨ys,_,h⟩:=dW h
  split at h
  ·split at h<;>simp [RM.run] at h
  ·split at h<;>simp [RM.run] at h
  ·simp only [RM.run] at h
   split at h
   ·split at h
    ·simp [RM.run] at h
    ·split at h<;>simp [RM.run] at h
   ·simp at h
  ·simp [RM.run] at h
 |clr zs x=>
  simp only [AO.aq] at h
  split at h
  ·simp [RM.run] at h
  ·simp only [RM.run] at h
   split at h
   ·split at h<;>simp [RM.run] at h
   ·simp at h
  ·simp [RM.run] at h
 |cpy sz x y=>
  simp only [AO.aq] at h
  obtain ⟨ys,_,h⟩:=dW h
  split at h
  ·simp only [RM.run] at h
   split at h
   ·split at h<;>simp [RM.run] at h
   ·simp at h
  ·simp [RM.run] at h
 |slc sz x lo hi mx=>
  simp only [AO.aq] at h
  split at h
  ·split at h
   ·split at h
    ·exact H8 _ _ _ (by simp) _ _ h
    ·simp [RM.run] at h
   ·split at h
    ·exact H8 _ _ _ (by simp) _ _ h
    ·simp [RM.run] at h
   ·generalize bounds 0 _ _=bb at h
    cases bb with
    |none=>simp [RM.opt,RM.run] at h
    |some b=>
     simp only [afV] at h
     split at h<;>simp [RM.opt,RM.run] at h
   ·obtain ⟨B,_,h⟩:=ld h
    split at h
    ·split at h
     ·split at h
      ·simp [RM.run] at h
      ·simp only [RM.run] at h
       split at h
       ·split at h
        ·exact qq _ _ (by simp) _ _ h
        ·simp [RM.run] at h
       ·simp at h
      ·simp [RM.run] at h
     ·simp [RM.run] at h
    ·simp only [RM.run] at h
     split at h
     ·split at h
      ·generalize bounds _ _ _=bb at h
       cases bb with
       |none=>simp [RM.opt,RM.run] at h
       |some b=>
        simp only [afV] at h
        split at h<;>simp [RM.opt,RM.run] at h
      ·simp [RM.run] at h
     ·simp at h
   ·simp [RM.run] at h
  ·simp [RM.run] at h
 |mup kd x k y=>
  simp only [AO.aq] at h
  split at h
  ·simp only [RM.run] at h
   split at h
   ·split at h
    ·split at h<;>simp [RM.run] at h
    ·simp [RM.run] at h
   ·simp at h
  ·simp [RM.run] at h
 |mlk kd z x k=>
  simp only [AO.aq] at h
  split at h
  ·simp only [RM.run] at h
   split at h
   ·split at h
    ·exact qq _ _ (by simp) _ _ h
    ·simp [RM.run] at h
   ·simp at h
  ·simp [RM.run] at h
 |b2s x=>
  simp only [AO.aq] at h
  obtain ⟨ys,_,h⟩:=dW h
  exact qq _ _ (by simp) _ _ h
 |isn kd b x=>cases kd<;>simp only [AO.aq] at h<;>split at h<;>first|(simp [RM.run] at h;done)|(obtain ⟨B,_,h⟩:=ld h;simp [RM.run] at h)
 |len b x=>cases b<;>simp only [AO.aq] at h<;>split at h<;>first|(simp [RM.run] at h;done)|(obtain ⟨B,_,h⟩:=ld h;simp [RM.run] at h)
 |_=>
  simp only [AO.aq] at h
  first
  |(simp [RM.run] at h;done)
  |exact qq _ _ (by simp) _ _ h
  |(split at h<;>first
    |(simp [RM.run] at h;done)
    |exact qq _ _ (by simp) _ _ h
    |(obtain ⟨B,_,h⟩:=ld h;simp [RM.run] at h;done)
    |(split at h<;>first
      |(simp [RM.run] at h;done)
      |exact qq _ _ (by simp) _ _ h
      |(obtain ⟨B,_,h⟩:=ld h;simp [RM.run] at h;done))
    |(simp only [RM.run] at h;split at h<;>first
      |(simp at h;done)
      |(split at h<;>first
        |(simp [RM.run] at h;done)
        |exact qq _ _ (by simp) _ _ h
        |(split at h<;>simp [RM.run] at h))))
theorem H9 {o:Oper} {args:List Arg} (hc:cF P o=some (.call x args)):∃c y,o.op= .call c/\c.callee= .value y/\cArg y=some x/\qj c.args.toList=some args:=by
 obtain ⟨dst,op,type,pos,after,guard⟩:=o
 cases op with
 |call c=>
  simp only [cF] at hc
  split at hc
  ·rename_i y hy
   split at hc
   ·rename_i ax al h1 h2
    simp only [aeF,AO.call.injEq] at hc
    obtain ⟨rfl,rfl⟩:=hc
    exact ⟨c,y,rfl,hy,h1,h2⟩
   ·simp at hc
  all_goals exfalso
  all_goals (repeat' (first|(simp at hc;done)|split at hc))
 |makeFunc fn first caps=>
  exfalso
  cases fn<;>simp only [cF] at hc
  all_goals (repeat' (first|(simp at hc;done)|split at hc))
 |mapUpdate t m k y=>
  exfalso
  simp only [cF] at hc
  split at hc
  ·cases hk:keyT P _ with
   |none=>rw [hk] at hc;simp at hc
   |some kd=>rw [hk] at hc;simp at hc
  ·simp at hc
 |insert t m k y=>
  exfalso
  simp only [cF] at hc
  split at hc
  ·cases hk:keyT P _ with
   |none=>rw [hk] at hc;simp at hc
   |some kd=>rw [hk] at hc;simp at hc
  ·simp at hc
 |_=>
  exfalso
  simp only [cF] at hc
  all_goals (repeat' (first|(simp at hc;done)|split at hc))
theorem vF (ha:fA E aP ρ) {o:Oper} (hc:cF P o=some ao) (h:(ao.aq fresh ρ).run g=some (.call f as_)) (hf:aX P f=true):
  ∃vs,(execOp aP o).run P E.w= .ok (.enter f vs) E.w/\RC E vs as_:=by
 by_cases hn:∀x args,ao≠ .call x args
 ·exact absurd h (CK hn)
 ·obtain ⟨x,args,rfl⟩:∃x args,ao= .call x args:=by
   simp only [ne_eq] at hn
   cases ao<;>first|exact ⟨_,_,rfl⟩|(exfalso;exact hn (by simp))
  obtain ⟨c,y,h1,h2,h3,h4⟩:=H9 hc
  simp only [AO.aq] at h
  split at h
  ·rename_i f' caps hx
   simp only [RM.run,aeF,Out.call.injEq] at h
   obtain ⟨rfl,rfl⟩:=h
   have hv:=ha y x h3
   rw [hx] at hv
   obtain ⟨vv,dv⟩:∃vv,vv=aP y:=⟨_,rfl⟩
   rw [<-dv] at hv
   cases hv with
   | @fn _ us _ hl hr=>
    obtain ⟨al,ar⟩:=ha.list h4
    refine ⟨c.args.map aP++us, ?_, ?_⟩
    ·unfold execOp
     simp only [h1]
     exact (PT (caps:=us) h2 dv.symm E.w).trans (H6 hf _ _)
    ·refine ⟨by simp [hl];rw [<-al];simp,fun j u a hu fD=> ?_⟩
     have cX:(c.args.map aP).size=args.length:=by rw [<-al];simp
     by_cases hj:j<args.length
     ·rw [agJ (by omega)] at hu
      rw [afk (by simpa using hj)] at fD
      exact ar j u a (by simpa using hu) fD
     ·rw [Array.getElem?_append_right (by omega),cX] at hu
      rw [afr (by simpa using hj)] at fD
      simp only [aeS] at fD
      exact hr _ u a hu fD
  ·rename_i f' caps hx
   simp only [RM.run,aeF,Out.call.injEq] at h
   obtain ⟨rfl,rfl⟩:=h
   have hv:=ha y x h3
   rw [hx] at hv
   obtain ⟨vv,dv⟩:∃vv,vv=aP y:=⟨_,rfl⟩
   rw [<-dv] at hv
   cases hv with
   | @bf _ us _ hl hr=>
    obtain ⟨al,ar⟩:=ha.list h4
    refine ⟨us++c.args.map aP, ?_, ?_⟩
    ·unfold execOp
     simp only [h1]
     exact (PU (first:=us) h2 dv.symm E.w).trans (H6 hf _ _)
    ·refine ⟨by simp [hl];rw [<-al];simp,fun j u a hu fD=> ?_⟩
     by_cases hj:j<us.size
     ·rw [agJ hj] at hu
      rw [afk (by omega)] at fD
      exact hr _ u a hu fD
     ·rw [Array.getElem?_append_right (by omega)] at hu
      rw [afr (by omega), <-hl] at fD
      exact ar _ u a (by simpa using hu) fD
  ·simp [RM.run] at h
theorem CL {op:BinOp} {n:Bool} (h:negOf op=some n):op=if n then .neq else .eql:=by
 cases op<;>cases h<;>rfl
theorem PV (hu:P.underlying t=some (.slice e)) (A:Option Addr) (n c:Nat) (w:World):(Op.equal t (.slice A n c) (.slice none 0 0)).run P w= .ok A.isNone w:=by
 show (Op.equalIn (9999+1) t _ _).run P w=_
 unfold Op.equalIn
 cases A<;>simp [run_underlying hu]
theorem PW (hu:P.underlying t=some (.pointer e)) (A:Option Addr) (w:World):(Op.equal t (.pointer A) (.pointer none)).run P w= .ok A.isNone w:=by
 show (Op.equalIn (9999+1) t _ _).run P w=_
 unfold Op.equalIn
 cases A<;>simp [run_underlying hu]
theorem CM {a1 a2 a3} (hu:P.underlying t=some (.func a1 a2 a3)) (f:Go.Fn) (x y:Array Value) (w:World):(Op.equal t (.func f x y) .nilFunc).run P w= .ok false w:=by
 show (Op.equalIn (9999+1) t _ _).run P w=_
 unfold Op.equalIn
 simp [run_underlying hu]
theorem CN {a1 a2 a3} (hu:P.underlying t=some (.func a1 a2 a3)) (w:World):(Op.equal t .nilFunc .nilFunc).run P w= .ok true w:=by
 show (Op.equalIn (9999+1) t _ _).run P w=_
 unfold Op.equalIn
 simp [run_underlying hu]
theorem PX (hm:aS E J base g) (tp:∀v,aP (.const v)=v) {op:BinOp} {y:Operand} {q:NK×Bool} (hn:Cu P t op y=some q) (hv:aj E (aP xo) (ρ x))
  (h:((AO.isn q.1 q.2 x).aq fresh ρ).run g=some (.done val ups)):cG E J base g ((do pure (Next.value (<-(do eqGuard op t xo y (aP xo) (aP y);binOp op t (aP xo) (aP y)))):Sem Next).run P E.w) val ups:=by
 obtain ⟨vx,hvx⟩:∃vx,vx=aP xo:=⟨_,rfl⟩
 rw [<-hvx] at hv ⊢
 unfold Cu at hn
 split at hn
 ·-- adT
  rename_i e hu
  rw [tp]
  cases hng:negOf op with
  |none=>simp [hng] at hn
  |some neg=>
   simp only [hng,aeT,aeF] at hn
   subst hn
   have cW:=CL hng
   have run:∀A n c,vx= .slice A n c->(do pure (Next.value (<-(do eqGuard op t xo (.const (.slice none 0 0)) vx (.slice none 0 0);binOp op t vx (.slice none 0 0)))):Sem Next).run P E.w= .ok (.value (.bool (A.isNone !=neg))) E.w:=by
    rintro A n c rfl
    cases neg<;>simp only [aeI,afG,ae9] at cW<;>subst cW<;>cases A<;>simp [eqGuard,binOp,PV hu]
   have Ia:∀A n c,vx= .slice (some A) n c->∀{v},v=AV.v (.bool neg)->cG E J base g ((do pure (Next.value (<-(do eqGuard op t xo (.const (.slice none 0 0)) vx (.slice none 0 0);binOp op t vx (.slice none 0 0)))):Sem Next).run P E.w) v []:=by
    intro A n c hA v hv
    subst hv
    refine cd hm (v:= .bool neg) ?_ (.v rfl)
    rw [run _ _ _ hA];cases neg<;>rfl
   have vG:∀A n c,vx= .slice A n c->cG E J base g ((do pure (Next.value (<-(do eqGuard op t xo (.const (.slice none 0 0)) vx (.slice none 0 0);binOp op t vx (.slice none 0 0)))):Sem Next).run P E.w) .dP []:=by
    intro A n c hA
    exact cd hm (v:= .bool (A.isNone !=neg)) (run _ _ _ hA) .dP
   have aV:∀sz els,aj E vx (.aV sz els)->val=(if els.isEmpty=true then .dP else .v (.bool neg))->ups=[]->cG E J base g ((do pure (Next.value (<-(do eqGuard op t xo (.const (.slice none 0 0)) vx (.slice none 0 0);binOp op t vx (.slice none 0 0)))):Sem Next).run P E.w) val ups:=by
    rintro sz els hr rfl rfl
    cases hr with
    |fy hc=>exact vG _ _ _ rfl
    |gA u hn hl hc=>
     by_cases he:els.isEmpty=true
     ·rw [aeG he];exact vG _ _ _ rfl
     ·rw [aeE he];exact Ia _ _ _ rfl rfl
   simp only [AO.aq] at h
   split at h
   ·rename_i sz els hx
    simp only [RM.run,aeF,Out.done.injEq] at h
    rw [hx] at hv
    exact aV sz els hv h.1.symm h.2.symm
   ·rename_i sz els hx
    simp only [RM.run,aeF,Out.done.injEq] at h
    rw [hx] at hv
    cases hv with
    |db hv=>exact aV sz els hv h.1.symm h.2.symm
   ·rename_i hx
    simp only [RM.run,aeF,Out.done.injEq] at h
    obtain ⟨rfl,rfl⟩:=h
    rw [hx] at hv
    cases hv with
    |emp=>exact vG _ _ _ rfl
   ·rename_i id sz off n hx
    obtain ⟨B,hB,h⟩:=ld h
    simp only [RM.run,aeF,Out.done.injEq] at h
    obtain ⟨rfl,rfl⟩:=h
    rw [hx] at hv
    cases hv with
    |own hi hd hb hq hs dV hl hc=>
     by_cases h0:n=0
     ·rw [aeG h0];exact vG _ _ _ rfl
     ·rw [aeE h0];exact Ia _ _ _ rfl rfl
    |cK hi hd hb=>rw [aeG rfl];exact vG _ _ _ rfl
    |du hi hd=>exact absurd hd (alive hm hB)
   ·simp [RM.run] at h
 ·-- adU
  rename_i a1 a2 a3 hu
  rw [tp]
  cases hng:negOf op with
  |none=>simp [hng] at hn
  |some neg=>
   simp only [hng,aeT,aeF] at hn
   subst hn
   have cW:=CL hng
   simp only [AO.aq] at h
   split at h
   ·rename_i f cs hx
    simp only [RM.run,aeF,Out.done.injEq] at h
    obtain ⟨rfl,rfl⟩:=h
    rw [hx] at hv
    cases hv with
    |fn hl hh=>
     refine cd hm (v:= .bool neg) ?_ (.v rfl)
     cases neg<;>simp only [aeI,afG,ae9] at cW<;>subst cW<;>simp [eqGuard,binOp,CM hu,CN hu]
   ·rename_i f cs hx
    simp only [RM.run,aeF,Out.done.injEq] at h
    obtain ⟨rfl,rfl⟩:=h
    rw [hx] at hv
    cases hv with
    |bf hl hh=>
     refine cd hm (v:= .bool neg) ?_ (.v rfl)
     cases neg<;>simp only [aeI,afG,ae9] at cW<;>subst cW<;>simp [eqGuard,binOp,CM hu,CN hu]
   ·rename_i hx
    simp only [RM.run,aeF,Out.done.injEq] at h
    obtain ⟨rfl,rfl⟩:=h
    rw [hx] at hv
    have:=hv.l0
    subst this
    refine cd hm (v:= .bool !neg) ?_ (.v rfl)
    cases neg<;>simp only [aeI,afG,ae9] at cW<;>subst cW<;>simp [eqGuard,binOp,CM hu,CN hu]
   ·simp [RM.run] at h
 ·-- adV
  rename_i e hu
  rw [tp]
  cases hng:negOf op with
  |none=>simp [hng] at hn
  |some neg=>
   simp only [hng,aeT,aeF] at hn
   subst hn
   have cW:=CL hng
   have run:∀A,vx= .pointer A->(do pure (Next.value (<-(do eqGuard op t xo (.const (.pointer none)) vx (.pointer none);binOp op t vx (.pointer none)))):Sem Next).run P E.w= .ok (.value (.bool (A.isNone !=neg))) E.w:=by
    rintro A rfl
    cases neg<;>simp only [aeI,afG,ae9] at cW<;>subst cW<;>cases A<;>simp [eqGuard,binOp,PW hu]
   simp only [AO.aq] at h
   split at h
   ·rename_i id sz i o hx
    obtain ⟨B,hB,h⟩:=ld h
    simp only [RM.run,aeF,Out.done.injEq] at h
    obtain ⟨rfl,rfl⟩:=h
    rw [hx] at hv
    cases hv with
    |ref hi hd hb hq=>
     refine cd hm (v:= .bool neg) ?_ (.v rfl)
     rw [run _ rfl];cases neg<;>rfl
    |gL hi hd=>exact absurd hd (alive hm hB)
   ·rename_i cs o hx
    simp only [RM.run,aeF,Out.done.injEq] at h
    obtain ⟨rfl,rfl⟩:=h
    rw [hx] at hv
    cases hv with
    |pim u hb hq hu2 iN hr=>
     refine cd hm (v:= .bool neg) ?_ (.v rfl)
     rw [run _ rfl];cases neg<;>rfl
   ·rename_i hx
    simp only [RM.run,aeF,Out.done.injEq] at h
    obtain ⟨rfl,rfl⟩:=h
    rw [hx] at hv
    have:=hv.l0
    refine cd hm (v:= .bool !neg) ?_ (.v rfl)
    rw [run _ this];cases neg<;>rfl
   ·simp [RM.run] at h
 ·simp at hn
theorem PY (ha:fA E aP ρ) (tp:∀v,aP (.const v)=v) (hm:aS E J base g) (hf:¬E.kn fresh) {o:Oper} (hc:cF P o=some ao) (h:(ao.aq fresh ρ).run g=some (.done val ups)):
  cG E J base g ((execOp aP o).run P E.w) val ups:=by
 obtain ⟨dst,op,type,pos,after,guard⟩:=o
 have omap:∀{α β:Type} {m:Option α} {k:α->β} {y:β},m.map k=some y->∃x,m=some x/\k x=y:=by
  intro α β m k y h
  cases m with
  |none=>simp at h
  |some a=>exact ⟨a,rfl,by simpa using h⟩
 have mov:∀x ax,cArg x=some ax->((AO.mov ax).aq fresh ρ).run g=some (.done val ups)->∀r,r= .ok (.value (aP x)) E.w->cG E J base g r val ups:=by
  intro x ax h1 h2 r hr
  simp only [AO.aq,RM.run,aeF,Out.done.injEq] at h2
  obtain ⟨rfl,rfl⟩:=h2
  exact cd hm hr (ha x ax h1)
 cases op with
 |move x=>simp only [cF] at hc;obtain ⟨ax,h1,rfl⟩:=omap hc;exact mov x ax h1 h _ rfl
 |assign x=>simp only [cF] at hc;obtain ⟨ax,h1,rfl⟩:=omap hc;exact mov x ax h1 h _ rfl
 |pick c a b=>
  simp only [cF] at hc
  split at hc
  ·rename_i ac aa ab h1 h2 h3
   simp only [aeF] at hc;subst hc
   simp only [AO.aq] at h
   split at h
   ·rename_i t ht
    simp only [RM.run,aeF,Out.done.injEq] at h
    obtain ⟨rfl,rfl⟩:=h
    have hv:=ha c ac h1
    rw [ht] at hv
    obtain ⟨vv,dv⟩:∃vv,vv=aP c:=⟨_,rfl⟩
    rw [<-dv] at hv
    cases hv with
    |v hp=>
     refine cd hm (v:=if t then aP a else aP b) ?_ ?_
     ·unfold execOp
      simp only [<-dv]
      cases t<;>simp [asBool]
     ·cases t
      ·exact ha b ab h3
      ·exact ha a aa h2
   ·simp [RM.run] at h
  ·simp at hc
 |alloc t=>
  simp only [cF] at hc
  split at hc
  ·rename_i zs h1
   split at hc
   ·rename_i eF
    simp only [aeF] at hc;subst hc
    simp only [AO.aq,RM.run,aeF,Out.done.injEq] at h
    obtain ⟨rfl,rfl⟩:=h
    exact OE hm hf h1 eF
   ·simp at hc
  ·simp at hc
 |panic x=>
  simp only [cF,aeF] at hc
  subst hc
  simp [AO.aq,RM.run] at h
 |makeInterface t x=>
  simp only [cF,aeF] at hc
  subst hc
  simp [AO.aq,RM.run] at h
 |makeMap t r=>
  simp only [cF] at hc
  split at hc
  ·rename_i kt et h1
   simp only [aeF] at hc;subst hc
   simp only [AO.aq,RM.run,aeF,Out.done.injEq] at h
   obtain ⟨rfl,rfl⟩:=h
   exact HU hm hf h1 (.inl rfl)
  ·rename_i kt et k n h1
   simp only [aeF] at hc;subst hc
   simp only [AO.aq,RM.run,aeF,Out.done.injEq] at h
   obtain ⟨rfl,rfl⟩:=h
   have:=HU (P:=P) (r:=some (aP (.const (.int k n)))) hm hf h1 (.inr ⟨k,n,by rw [tp]⟩)
   exact this
  ·simp at hc
 |mapUpdate t x k y=>
  simp only [cF] at hc
  split at hc
  ·rename_i kt et ax ak ay h1 h2 h3 h4
   obtain ⟨kd,h5,rfl⟩:=omap hc
   exact HW hm h1 h5 (ha x ax h2) (ha k ak h3) (ha y ay h4) h
  ·simp at hc
 |insert t x k y=>
  simp only [cF] at hc
  split at hc
  ·rename_i kt et ax ak ay h1 h2 h3 h4
   obtain ⟨kd,h5,rfl⟩:=omap hc
   exact HW hm h1 h5 (ha x ax h2) (ha k ak h3) (ha y ay h4) h
  ·simp at hc
 |lookup t x k ok=>
  simp only [cF] at hc
  split at hc
  ·rename_i kt et ax ak h1 h2 h3
   split at hc
   ·rename_i hok
    subst hok
    split at hc
    ·rename_i z kd h4 h5
     simp only [aeF] at hc;subst hc
     exact Pz hm h1 h5 h4 (ha x ax h2) (ha k ak h3) h
    ·simp at hc
   ·simp at hc
  ·simp at hc
 |box t x=>
  simp only [cF] at hc
  split at hc
  ·rename_i n ax h1 h2
   split at hc
   ·rename_i eF
    simp only [aeF] at hc;subst hc
    simp only [AO.aq] at h
    split at h
    ·rename_i cZ
     simp only [RM.run,aeF,Out.done.injEq] at h
     obtain ⟨rfl,rfl⟩:=h
     exact OF hm hf (ha x ax h2) cZ.1 cZ.2 eF
    ·simp [RM.run] at h
   ·simp at hc
  ·simp at hc
 |build t parts=>
  simp only [cF] at hc
  split at hc
  ·rename_i zs fields h1 h2
   split at hc
   ·rename_i places h3
    obtain ⟨as_,h4,rfl⟩:=omap hc
    refine HE ha hm h1 h4 (fun z i hi hz ps=> ?_) h
    unfold placesOf at h3
    simp only [Program.built,hi,h2,hz,h3]
   ·simp at hc
  ·rename_i zs k e h1 h2
   split at hc
   ·rename_i sz h3
    obtain ⟨as_,h4,rfl⟩:=omap hc
    refine HE ha hm h1 h4 (fun z i hi hz ps=> ?_) h
    unfold szOf at h3
    obtain ⟨ie,PZ,hs⟩:=omap h3
    simp only [Program.built,hi,h2,hz,PZ,hs]
   ·simp at hc
  ·simp at hc
 |buildSlice t len parts=>
  simp only [cF] at hc
  split at hc
  ·rename_i e h1
   split at hc
   ·rename_i zs h2
    split at hc
    ·rename_i cZ
     obtain ⟨as_,h3,rfl⟩:=omap hc
     exact OR ha hm hf h1 h2 cZ.1 cZ.2 h3 h
    ·simp at hc
   ·simp at hc
  ·simp at hc
 |load t x=>
  simp only [cF] at hc
  split at hc
  ·rename_i m ax h1 h2
   simp only [aeF] at hc;subst hc
   exact OG hm h1 (ha x ax h2) h
  ·simp at hc
 |store t x y=>
  simp only [cF] at hc
  split at hc
  ·rename_i n ax ay h1 h2 h3
   simp only [aeF] at hc;subst hc
   exact OH hm h1 (ha x ax h2) (ha y ay h3) h
  ·simp at hc
 |nilCheck x=>simp only [cF] at hc;obtain ⟨ax,h1,rfl⟩:=omap hc;exact OT hm (ha x ax h1) rfl rfl h
 |binOp op t x y yt=>
  simp only [cF] at hc
  split at hc
  ·rename_i q iQ
   obtain ⟨ax,h1,rfl⟩:=omap hc
   exact PX hm tp iQ (ha x ax h1) h
  rename_i iQ
  clear iQ
  split at hc
  ·rename_i ax ay h1 h2
   split at hc
   ·simp only [aeF] at hc;subst hc
    simp only [AO.aq] at h
    split at h
    ·rename_i a b hx hy
     cases hb:binA (boolT P t) op a b with
     |none=>simp [hb,RM.opt,RM.run] at h
     |some v=>
      simp [hb,RM.opt,RM.run] at h
      obtain ⟨rfl,rfl⟩:=h
      have hvx:=ha x ax h1
      have hvy:=ha y ay h2
      rw [hx] at hvx;rw [hy] at hvy
      have ex:aP x=a:=hvx.l0
      have ey:aP y=b:=hvy.l0
      obtain ⟨r1,r2⟩:=ON (P:=P) (x:=x) (y:=y) hb E.w
      refine cd hm (v:=v) ?_ (.v r2)
      show (do pure (Next.value (<-(do eqGuard op t x y (aP x) (aP y);binOp op t (aP x) (aP y)))):Sem Next).run P E.w=_
      rw [ex,ey,afs,r1]
      rfl
    ·simp [RM.run] at h
   ·split at hc
    ·simp at hc
    ·rename_i hg
     split at hc
     ·rename_i fs L n hu hL hn
      simp only [aeF] at hc;subst hc
      exact H5 hm (by simp) hu hn (by simpa using hg) hL (ha x ax h1) (ha y ay h2) h
     ·rename_i fs L n hu hL hn
      simp only [aeF] at hc;subst hc
      exact H5 hm (by simp) hu hn (by simpa using hg) hL (ha x ax h1) (ha y ay h2) h
     ·simp at hc
  ·simp at hc
 |unOp op t x=>
  simp only [cF] at hc;obtain ⟨ax,h1,rfl⟩:=omap hc
  simp only [AO.aq] at h
  split at h
  ·rename_i a hx
   cases hb:unA op a with
   |none=>simp [hb,RM.opt,RM.run] at h
   |some v=>
    simp [hb,RM.opt,RM.run] at h
    obtain ⟨rfl,rfl⟩:=h
    have hvx:=ha x ax h1
    rw [hx] at hvx
    have ex:aP x=a:=hvx.l0
    obtain ⟨r1,r2⟩:=OO (P:=P) hb E.w
    refine cd hm (v:=v) ?_ (.v r2)
    show (do pure (Next.value (<-Op.unary op (aP x))):Sem Next).run P E.w=_
    rw [ex,afs,r1]
    rfl
  ·simp [RM.run] at h
 |convert s d x=>
  simp only [cF] at hc
  split at hc
  ·rename_i k1 k ax h1 h2 h3
   simp only [aeF] at hc;subst hc
   simp only [AO.aq] at h
   split at h
   ·rename_i k0 n hx
    simp only [RM.run,aeF,Out.done.injEq] at h
    obtain ⟨rfl,rfl⟩:=h
    have hvx:=ha x ax h3
    rw [hx] at hvx
    have ex:aP x= .int k0 n:=hvx.l0
    refine cd hm (v:= .int k (k.wrap n)) ?_ (.v rfl)
    show (do pure (Next.value (<-convert s d (aP x))):Sem Next).run P E.w=_
    rw [ex]
    simp [convert,run_underlying h1,run_underlying h2,Conv.intToInt]
   ·simp [RM.run] at h
  ·rename_i e ax h1 h2 h3
   split at hc
   ·rename_i h4
    simp only [aeF] at hc;subst hc
    exact PJ hm h1 h2 h4 (ha x ax h3) h
   ·simp at hc
  ·rename_i e ax h1 h2 h3
   split at hc
   ·rename_i h4
    simp only [aeF] at hc;subst hc
    exact PK hm hf h1 h2 h4 (ha x ax h3) h
   ·simp at hc
  ·simp at hc
 |fieldAddr s x f=>
  simp only [cF] at hc
  split at hc
  ·rename_i fields ax h1 h2
   split at hc
   ·rename_i fd h3
    split at hc
    ·simp at hc
    ·rename_i cZ
     simp only [aeF] at hc;subst hc
     cases hz:szOf P fd.type with
     |none=>simp [hz] at cZ
     |some n=>exact OU hm (ha x ax h2) h1 h3 hz (by rw [hz] at cZ;simpa using cZ) h
   ·simp at hc
  ·simp at hc
 |field s x f=>
  simp only [cF] at hc
  split at hc
  ·rename_i fields ax h1 h2
   split at hc
   ·rename_i fd h3
    obtain ⟨m,h4,rfl⟩:=omap hc
    exact OV hm (ha x ax h2) h1 h3 h4 h
   ·simp at hc
  ·simp at hc
 |indexAddr t x i=>
  simp only [cF] at hc
  split at hc
  ·rename_i e ax ai h1 h2 h3
   split at hc
   ·rename_i sz h4
    split at hc
    ·rename_i eG
     simp only [aeF] at hc;subst hc
     exact O0 hm (ha x ax h2) (ha i ai h3) h1 h4 eG h
    ·simp at hc
   ·simp at hc
  ·rename_i len e ax ai h1 h2 h3
   split at hc
   ·rename_i sz h4
    split at hc
    ·rename_i eG
     simp only [aeF] at hc;subst hc
     exact OX hm (ha x ax h2) (ha i ai h3) h1 h4 h
    ·simp at hc
   ·simp at hc
  ·simp at hc
 |index t x i=>
  simp only [cF] at hc
  split at hc
  ·rename_i ax ai h1 h2 h3
   simp only [aeF] at hc;subst hc
   exact PS hm h1 (ha x ax h2) (ha i ai h3) h
  ·rename_i len e ax ai h1 h2 h3
   split at hc
   ·rename_i sz m h4 h5
    simp only [aeF] at hc;subst hc
    exact OZ hm (ha x ax h2) (ha i ai h3) h1 h4 h5 h
   ·simp at hc
  ·simp at hc
 |extract x i=>simp only [cF] at hc;obtain ⟨ax,h1,rfl⟩:=omap hc;exact O3 hm (ha x ax h1) h
 |makeSlice t l c=>
  simp only [cF] at hc
  split at hc
  ·rename_i e al ac h1 h2 h3
   split at hc
   ·rename_i zs i h4 h5
    split at hc
    ·rename_i cZ
     simp only [aeF] at hc;subst hc
     exact O4 hm hf h1 h4 h5 cZ.1 cZ.2 (ha l al h2) (ha c ac h3) h
    ·simp at hc
   ·simp at hc
  ·simp at hc
 |slice t x lo hi mx=>
  simp only [cF] at hc
  split at hc
  ·rename_i e ax nL nM amx h1 h2 h3 h4 h5
   split at hc
   ·rename_i sz h6
    split at hc
    ·rename_i cZ
     simp only [aeF] at hc;subst hc
     exact O7 ha hm h1 h6 h2 h3 h4 h5 (fun hh=>by rw [<-H7 h4];exact cZ.2 (by rw [H7 h5];exact hh)) h
    ·simp at hc
   ·simp at hc
  ·rename_i ax nL nM h1 h2 h3 h4 h5
   simp only [aeF] at hc;subst hc
   have kC:mx=none:=by cases mx<;>simp [iy] at h5 ⊢
   subst kC
   exact PR ha hm h1 h2 h3 h4 h
  ·simp at hc
 |makeFunc fn first caps=>
  cases fn with
  |func f=>
   simp only [cF] at hc
   split at hc
   ·rename_i P1
    obtain ⟨l,h1,rfl⟩:=omap hc
    simp only [AO.aq,RM.run,aeF,Out.done.injEq] at h
    obtain ⟨rfl,rfl⟩:=h
    obtain ⟨e1,e2⟩:=ha.list h1
    have tl:first= #[]:=by simpa using P1
    subst tl
    refine cd hm (v:= .func (.func f) #[] (caps.map aP)) (by simp [execOp,Instr.makeFunc]) (.fn (by simp;rw [<-e1];simp) (fun i v c hv hc=>e2 i v c (by simpa using hv) hc))
   ·split at hc
    ·rename_i _ P2
     obtain ⟨l,h1,rfl⟩:=omap hc
     simp only [AO.aq,RM.run,aeF,Out.done.injEq] at h
     obtain ⟨rfl,rfl⟩:=h
     obtain ⟨e1,e2⟩:=ha.list h1
     have tl:caps= #[]:=by simpa using P2
     subst tl
     refine cd hm (v:= .func (.func f) (first.map aP) #[]) (by simp [execOp,Instr.makeFunc]) (.bf (by simp;rw [<-e1];simp) (fun i v c hv hc=>e2 i v c (by simpa using hv) hc))
    ·simp at hc
  |_=>simp [cF] at hc
 |call c=>
  by_cases Ib:∃x args,ao= .call x args
  ·obtain ⟨x,args,rfl⟩:=Ib
   simp only [AO.aq] at h
   split at h<;>simp [RM.run] at h
  ·simp only [cF] at hc
   split at hc
   ·split at hc
    ·simp only [aeF] at hc;exact absurd ⟨_,_,hc.symm⟩ Ib
    ·simp at hc
   all_goals rename_i gQ
   all_goals try (simp at hc;done)
   ·split at hc
    ·rename_i x t jN rP
     have nT:c.args= #[x]:=by apply agw.1;rw [jN]
     have rQ:∀b,c.callee= .builtin b->b= .len->(execOp aP ⟨dst, .call c,type,pos,after,guard⟩).run P E.w=(do pure (Next.value (<-Builtin.len_ c.argTypes type #[aP x])):Sem Next).run P E.w:=by
      intro b hb hl;subst hl
      simp [execOp,resolve,hb,invoke,builtin,nT]
     have P3:∀v ty,(Builtin.len_ c.argTypes ty #[v])=Builtin.len_ #[t] ty #[v]:=by
      intro v ty
      simp [Builtin.len_,rP]
     rw [rQ _ gQ rfl,P3]
     split at hc
     ·rename_i e hu
      obtain ⟨ax,h1,rfl⟩:=omap hc
      exact HH hm (by simp;exact ⟨e,hu⟩) (ha x ax h1) type h
     ·rename_i hu
      obtain ⟨ax,h1,rfl⟩:=omap hc
      exact HH hm (by simp;exact hu) (ha x ax h1) type h
     ·simp at hc
    ·simp at hc
   ·split at hc
    ·rename_i s x t u jN rP
     split at hc
     ·rename_i P4
      subst P4
      split at hc
      ·rename_i e as_ ax h1 h2 h3
       split at hc
       ·rename_i zs i h4 h5
        split at hc
        ·rename_i cZ
         simp only [aeF] at hc;subst hc
         have nT:c.args= #[s,x]:=by apply agw.1;rw [jN]
         have P5:c.argTypes= #[t,t]:=by apply agw.1;rw [rP]
         have:=Pr (P:=P) (ty:=type) hm hf h1 h4 h5 cZ.1 cZ.2 (ha s as_ h2) (ha x ax h3) h
         have rQ:(execOp aP ⟨dst, .call c,type,pos,after,guard⟩).run P E.w=(do pure (Next.value (<-Builtin.append_ #[t,t] type #[aP s,aP x])):Sem Next).run P E.w:=by
          simp [execOp,resolve,gQ,invoke,builtin,nT,P5]
         rw [rQ];exact this
        ·simp at hc
       ·simp at hc
      ·simp at hc
     ·simp at hc
    ·simp at hc
   ·split at hc
    ·rename_i x t jN rP
     split at hc
     ·rename_i e ax h1 h2
      split at hc
      ·rename_i zs h4
       split at hc
       ·rename_i cZ
        simp only [aeF] at hc;subst hc
        have nT:c.args= #[x]:=by apply agw.1;rw [jN]
        have:=Po (P:=P) (ty:=type) hm h1 h4 cZ (ha x ax h2) h
        have rQ:(execOp aP ⟨dst, .call c,type,pos,after,guard⟩).run P E.w=(do pure (Next.value (<-Builtin.clear_ #[t] type #[aP x])):Sem Next).run P E.w:=by
         simp [execOp,resolve,gQ,invoke,builtin,nT,Builtin.clear_,rP]
        rw [rQ];exact this
       ·simp at hc
      ·simp at hc
     ·simp at hc
    ·simp at hc
   ·split at hc
    ·rename_i x y t jN rP
     split at hc
     ·rename_i e ax ay h1 h2 h3
      split at hc
      ·rename_i sz h4
       split at hc
       ·rename_i cZ
        simp only [aeF] at hc;subst hc
        have nT:c.args= #[x,y]:=by apply agw.1;rw [jN]
        have:=Pp (P:=P) (ty:=type) (u:=t) hm h1 h4 cZ (ha x ax h2) (ha y ay h3) h c.argTypes rP
        have rQ:(execOp aP ⟨dst, .call c,type,pos,after,guard⟩).run P E.w=(do pure (Next.value (<-Builtin.copy_ c.argTypes type #[aP x,aP y])):Sem Next).run P E.w:=by
         simp [execOp,resolve,gQ,invoke,builtin,nT]
        rw [rQ];exact this
       ·simp at hc
      ·simp at hc
     ·simp at hc
    ·simp at hc
   all_goals
    split at hc
    ·rename_i x y jN
     split at hc
     ·rename_i ax ay h1 h2
      simp only [aeF] at hc;subst hc
      have nT:c.args= #[x,y]:=by apply agw.1;rw [jN]
      simp only [AO.aq] at h
      split at h
      ·rename_i a b hx hy
       obtain ⟨mx,mb,kC,vf,h⟩:∃mx mb,(mx=false/\c.callee= .builtin .min\/mx=true/\c.callee= .builtin .max)/\uZ mx a b=mb/\RM.run g (RM.opt (Option.map (fun v=>Out.done (AV.v v) []) mb))=some (Out.done val ups):=by
        first
        |exact ⟨false,_, .inl ⟨rfl,gQ⟩,rfl,h⟩
        |exact ⟨true,_, .inr ⟨rfl,gQ⟩,rfl,h⟩
       cases mb with
       |none=>simp [RM.opt,RM.run] at h
       |some v=>
        simp [RM.opt,RM.run] at h
        obtain ⟨rfl,rfl⟩:=h
        have hvx:=ha x ax h1
        have hvy:=ha y ay h2
        rw [hx] at hvx;rw [hy] at hvy
        have ex:aP x=a:=hvx.l0
        have ey:aP y=b:=hvy.l0
        obtain ⟨r1,r2,r3⟩:=OP (P:=P) vf E.w
        refine cd hm (v:=v) ?_ (.v r1)
        rcases kC with ⟨kC,gQ⟩|⟨kC,gQ⟩
        ·simp [execOp,resolve,gQ,invoke,builtin,nT,ex,ey,r2 kC]
        ·simp [execOp,resolve,gQ,invoke,builtin,nT,ex,ey,r3 kC]
      ·simp [RM.run] at h
     ·simp at hc
    ·simp at hc
 |_=>simp [cF] at hc
end
open Go.RowKit
def AV.pu1:AV->Bool
 | .v _| .emp| .aV _ _| .db _ _| .pim _ _| .dead=>true
 | .fn _ caps=>caps.isEmpty
 |_=>false
theorem AV.vH (h:a.pu1=true):Pu a:=by
 cases a<;>simp [AV.pu1] at h<;>try constructor
 subst h;intro c hc;simp at hc
def snap1:AV->RM AV
 | .own id sz off n=>(content sz (.own id sz off n)).bind fun els=>if (els.all fun cs=>cs.all AV.pu1)=true then .ret (.aV sz els) else .fail
 | .ref id sz i o=> .rd id fun B=>if B.sz=sz then (match B.els[i]? with
  |some cs=>if cs.all AV.pu1=true then .ret (.pim cs o) else .fail
  |none=> .fail) else .fail
 |a=>if a.pu1=true then .ret a else .fail
def jO:List AV->RM (List AV)
 |[]=> .ret []
 |a::r=>(snap1 a).bind fun x=>(jO r).bind fun l=> .ret (x::l)
def fp:AV->RM AV
 | .agg cs=>(jO cs).bind fun l=> .ret (.agg l)
 | .fn f cs=>(jO cs).bind fun l=> .ret (.fn f l)
 | .bf f cs=>(jO cs).bind fun l=> .ret (.bf f l)
 |a=>snap1 a
def fF:List AV->RM (List AV)
 |[]=> .ret []
 |a::r=>(fp a).bind fun x=>(fF r).bind fun l=> .ret (x::l)
def AV.cP:AV->List Nat
 | .own id _ _ _=>[id]
 | .ref id _ _ _=>[id]
 |_=>[]
def AV.ids:AV->List Nat
 | .agg cs=>cs.flatMap AV.cP
 | .fn _ cs=>cs.flatMap AV.cP
 | .bf _ cs=>cs.flatMap AV.cP
 |a=>a.cP
def AV.ew:AV->Bool
 | .v _| .emp| .dead=>true
 | .fn _ caps=>caps.isEmpty
 |_=>false
def AV.fG:AV->Bool
 | .agg cs=>cs.all AV.ew
 |a=>a.ew
def AV.nob:AV->Bool
 | .bm vs=>vs.all AV.fG
 |a=>a.fG
def E0 (w:World) (I:Nat->Prop):Env:=⟨w,fun _=>False,fun _=>none,fun _=>False,I,fun _=>0,fun _=>False,fun _=>False⟩
theorem gM.sub {I:Nat->Prop} (h:gM E) (hw:E.w=w) (hI:∀b,E.I b->I b):gM (E0 w I):=trivial
def Fn (P:Program) (f:FuncId) (as_:List AV) (r:AV):Prop:=
 ∀(w:World) (J:Nat->Prop) (vs:Array Value),(∀b,J b->b<w.heap.size)->gM (E0 w J)->RC (E0 w J) vs as_->
  Calls P f vs w fun e w'=>∃v,e= .returned v/\aj (E0 w' fun b=>J b\/(w.heap.size<=b/\b<w'.heap.size)) v r/\Below w.heap.size w w'
section
variable {P:Program} {E:Env} {J:Nat->Prop} {base:Nat} {g:Nat->Option Bk}
theorem aj.ew {E':Env} {v:Value} {a:AV} (h:aj E v a) (hn:a.ew=true):aj E' v a:=by
 cases h<;>simp [AV.ew] at hn
 ·exact .v (by assumption)
 ·exact .emp
 ·rename_i f vs cs hl h
  subst hn
  exact .fn hl (fun i v c hv hc=>by simp at hc)
 ·exact .dead
theorem aj.fG {E':Env} {v:Value} {a:AV} (h:aj E v a) (hn:a.fG=true):aj E' v a:=by
 cases a with
 |agg cs=>cases h with
  |agg hl h=>
   simp only [AV.fG,aeJ] at hn
   exact .agg hl fun i v c hv hc=>(h i v c hv hc).ew (hn c (afd hc))
 |_=>exact h.ew (by simpa [AV.fG] using hn)
theorem aj.nob {E':Env} {v:Value} {a:AV} (h:aj E v a) (hn:a.nob=true):aj E' v a:=by
 cases a with
 |bm cs=>cases h with
  |bm hl h=>
   simp only [AV.nob,aeJ] at hn
   exact .bm hl fun i v c hv hc=>(h i v c hv hc).fG (hn c (afd hc))
 |_=>exact h.fG (by simpa [AV.nob] using hn)
def Handed (E:Env) (g:Nat->Option Bk) (ids:List Nat) (b:Nat):Prop:=E.I b\/∃id B,id∈ids/\g id=some B/\E.loc id=some b
theorem CO (hm:aS E J base g) (I:Nat->Prop) (h:aj E v a) (hs:(snap1 a).run g=some a') (hI:∀b,Handed E g a.cP b->I b):aj (E0 E.w I) v a':=by
 have pure:∀{v:Value} {a:AV},(∀b,E.I b->I b)->aj E v a->Pu a->aj (E0 E.w I) v a:=fun hI h hp=>h.pure (E':=E0 E.w I) (fun b hb=>⟨hI b hb,fun _=>rfl⟩) hp
 have vI:∀b,E.I b->I b:=fun b hb=>hI b (.inl hb)
 have other:(if a.pu1=true then RM.ret a else RM.fail).run g=some a'->aj (E0 E.w I) v a':=by
  intro hs
  split at hs
  ·rename_i hp
   simp only [RM.run,aeF] at hs;subst hs
   exact pure vI h (AV.vH hp)
  ·simp [RM.run] at hs
 cases a with
 |own id sz off n=>
  simp only [snap1] at hs
  obtain ⟨els,h1,h2⟩:=dW hs
  split at h2
  ·rename_i cA
   simp only [RM.run,aeF] at h2;subst h2
   simp only [content,RM.run] at h1
   cases hB:g id with
   |none=>simp [hB] at h1
   |some B=>
    simp only [hB] at h1
    split at h1
    ·rename_i hc
     obtain ⟨-, kE,hfit⟩:=hc
     simp only [RM.run,aeF] at h1;subst h1
     have hlen:((B.els.drop off).take n).length=n:=by simp;omega
     cases h with
     |du hi hd=>exact absurd hd (alive hm hB)
     |cK hi hd hb=>
      have:(B.els.drop 0).take 0=[]:=by simp
      rw [this]
      exact .fy (by omega)
     | @own _ _ _ _ c b q mm t' hi hd hb hq lY dV hl hcc=>
      rcases af5 n with h0|h0
      ·subst h0
       rw [List.take_zero]
       exact .fy hcc
      ·have lf:q=off*sz:=by
        rcases hq with hq|hq
        ·exact hq
        ·omega
       subst lf
       have cL:=hm.at_ id B hB
       rw [hb] at cL
       obtain ⟨oR,arr,t,ha,oW,fE⟩:=cL.cells (by first|assumption|omega)
       rw [kE] at fE
       have get:∀(i:Nat) cs (j:Nat) x,((B.els.drop off).take n)[i]? =some cs->cs[j]? =some x->∃u,E.w.cell? ⟨b,off*sz+i*sz+j,none⟩=some u/\u.oneCell'=true/\aj E u x:=by
        intro i cs j x hi hj
        rw [afT] at hi
        split at hi
        ·rw [afF] at hi
         obtain ⟨u,k1,k2,k3⟩:=(fE _ cs hi).2 j x hj
         refine ⟨u, ?_,k2,k3⟩
         rw [cell_of_row _ _ _ _ _ _ ha]
         rw [afa] at k1
         exact k1
        ·simp at hi
       refine .gA (fun i j=>(E.w.cell? ⟨b,off*sz+i*sz+j,none⟩).getD undef) hlen.symm hl hcc (hI b (.inr ⟨id,B,by simp [AV.cP],hB,hb⟩)) (fun i cs hi=> ?_) (fun i cs j x hi hj=> ?_) (fun i cs j x hi hj=> ?_) (fun i cs j x hi hj=> ?_)
       ·rw [afT] at hi
        split at hi
        ·rw [afF] at hi
         exact (fE _ cs hi).1
        ·simp at hi
       ·obtain ⟨u,k1,_,_⟩:=get i cs j x hi hj
        show E.w.cell? _=_
        rw [k1];rfl
       all_goals
        obtain ⟨u,k1,k2,k3⟩:=get i cs j x hi hj
        have hp:Pu x:=by
         simp only [aeJ] at cA
         exact AV.vH (cA cs (afd hi) x (afd hj))
        simp only [k1,afz]
        first
        |exact ⟨k2,hp⟩
        |exact pure vI k3 hp
    ·simp [RM.run] at h1
  ·simp [RM.run] at h2
 |ref id sz i o=>
  simp only [snap1,RM.run] at hs
  cases hB:g id with
  |none=>simp [hB] at hs
  |some B=>
   simp only [hB] at hs
   split at hs
   ·rename_i aZ
    split at hs
    ·rename_i cs hcs
     split at hs
     ·rename_i cA
      simp only [RM.run,aeF] at hs;subst hs
      cases h with
      |gL hi hd=>exact absurd hd (alive hm hB)
      | @ref _ _ _ _ b q hi hd hb hq=>
       have cL:=hm.at_ id B hB
       rw [hb] at cL
       obtain ⟨oR,arr,t,ha,oW,fE⟩:=cL.cells (by first|assumption|omega)
       rw [aZ] at fE
       have get:∀(j:Nat) x,cs[j]? =some x->∃u,E.w.cell? ⟨b,i*sz+j,none⟩=some u/\aj E u x:=by
        intro j x hj
        obtain ⟨u,k1,k2,k3⟩:=(fE i cs hcs).2 j x hj
        exact ⟨u,by rw [cell_of_row _ _ _ _ _ _ ha];exact k1,k3⟩
       have hp:∀(j:Nat) x,cs[j]? =some x->Pu x:=fun j x hj=>by
        simp only [aeJ] at cA
        exact AV.vH (cA x (afd hj))
       refine .pim (off:=i*sz) (fun j=>(E.w.cell? ⟨b,i*sz+j,none⟩).getD undef) (hI b (.inr ⟨id,B,by simp [AV.cP],hB,hb⟩)) hq (fun j x hj=> ?_) hp (fun j x hj=> ?_)
       ·obtain ⟨u,k1,_⟩:=get j x hj
        show E.w.cell? _=_
        rw [k1];rfl
       ·obtain ⟨u,k1,k3⟩:=get j x hj
        simp only [k1,afz]
        exact pure vI k3 (hp j x hj)
     ·simp [RM.run] at hs
    ·simp [RM.run] at hs
   ·simp [RM.run] at hs
 |_=>exact other hs
theorem yU (hm:aS E J base g) (I:Nat->Prop):∀{as_ cR:List AV},(jO as_).run g=some cR->(∀b,Handed E g (as_.flatMap AV.cP) b->I b)->cR.length=as_.length/\∀(i:Nat) v c c',aj E v c->as_[i]? =some c->cR[i]? =some c'->aj (E0 E.w I) v c'
 |[],cR,h,_=>by
  simp only [jO,RM.run,aeF] at h;subst h
  exact ⟨rfl,fun i v c c' _ hc=>by simp at hc⟩
 |a::r,cR,h,hI=>by
  simp only [jO] at h
  obtain ⟨x,h1,h⟩:=dW h
  obtain ⟨l,h2,h⟩:=dW h
  simp only [RM.run,aeF] at h;subst h
  have tq:∀b,Handed E g a.cP b->I b:=fun b hb=>hI b (hb.imp id fun ⟨id,B,hi,hh⟩=>⟨id,B,by simp [hi],hh⟩)
  have nU:∀b,Handed E g (r.flatMap AV.cP) b->I b:=fun b hb=>hI b (hb.imp id fun ⟨id,B,hi,hh⟩=>⟨id,B,by simp only [afH,afc];exact .inr hi,hh⟩)
  have ih:=yU hm I h2 nU
  refine ⟨by simp [ih.1],fun i v c c' hr hc fD=> ?_⟩
  cases i with
  |zero=>simp at hc fD;subst hc;subst fD;exact CO hm I hr h1 tq
  |succ i=>simp at hc fD;exact ih.2 i v c c' hr hc fD
theorem Ic (hm:aS E J base g) (I:Nat->Prop) (h:aj E v a) (hs:(fp a).run g=some a') (hI:∀b,Handed E g a.ids b->I b):aj (E0 E.w I) v a':=by
 cases a with
 |agg cs=>
  simp only [fp] at hs
  obtain ⟨l,h1,h2⟩:=dW hs
  simp only [RM.run,aeF] at h2;subst h2
  obtain ⟨k1,k2⟩:=yU hm I h1 hI
  cases h with
  |agg hl h=>
   refine .agg (by rw [k1];exact hl) fun i v c hv hc=> ?_
   have hi:i<cs.length:=by rw [<-k1];exact (aeN.1 hc).1
   exact k2 i v cs[i] c (h i v _ hv (aeL hi)) (aeL hi) hc
 |fn f cs=>
  simp only [fp] at hs
  obtain ⟨l,h1,h2⟩:=dW hs
  simp only [RM.run,aeF] at h2;subst h2
  obtain ⟨k1,k2⟩:=yU hm I h1 hI
  cases h with
  |fn hl h=>
   refine .fn (by rw [k1];exact hl) fun i v c hv hc=> ?_
   have hi:i<cs.length:=by rw [<-k1];exact (aeN.1 hc).1
   exact k2 i v cs[i] c (h i v _ hv (aeL hi)) (aeL hi) hc
 |bf f cs=>
  simp only [fp] at hs
  obtain ⟨l,h1,h2⟩:=dW hs
  simp only [RM.run,aeF] at h2;subst h2
  obtain ⟨k1,k2⟩:=yU hm I h1 hI
  cases h with
  |bf hl h=>
   refine .bf (by rw [k1];exact hl) fun i v c hv hc=> ?_
   have hi:i<cs.length:=by rw [<-k1];exact (aeN.1 hc).1
   exact k2 i v cs[i] c (h i v _ hv (aeL hi)) (aeL hi) hc
 |_=>exact CO hm I h hs hI
theorem yV (hm:aS E J base g) (I:Nat->Prop):∀{as_ cR:List AV},(fF as_).run g=some cR->(∀b,Handed E g (as_.flatMap AV.ids) b->I b)->cR.length=as_.length/\∀(i:Nat) v c c',aj E v c->as_[i]? =some c->cR[i]? =some c'->aj (E0 E.w I) v c'
 |[],cR,h,_=>by
  simp only [fF,RM.run,aeF] at h;subst h
  exact ⟨rfl,fun i v c c' _ hc=>by simp at hc⟩
 |a::r,cR,h,hI=>by
  simp only [fF] at h
  obtain ⟨x,h1,h⟩:=dW h
  obtain ⟨l,h2,h⟩:=dW h
  simp only [RM.run,aeF] at h;subst h
  have tq:∀b,Handed E g a.ids b->I b:=fun b hb=>hI b (hb.imp id fun ⟨id,B,hi,hh⟩=>⟨id,B,by simp [hi],hh⟩)
  have nU:∀b,Handed E g (r.flatMap AV.ids) b->I b:=fun b hb=>hI b (hb.imp id fun ⟨id,B,hi,hh⟩=>⟨id,B,by simp only [afH,afc];exact .inr hi,hh⟩)
  have ih:=yV hm I h2 nU
  refine ⟨by simp [ih.1],fun i v c c' hr hc fD=> ?_⟩
  cases i with
  |zero=>simp at hc fD;subst hc;subst fD;exact Ic hm I hr h1 tq
  |succ i=>simp at hc fD;exact ih.2 i v c c' hr hc fD
theorem aS.grow (hm:aS E J base g) (hb:Below E.w.heap.size E.w w'):
  ∃E':Env,E'.w=w'/\E.Le E'/\aS E' J base g/\(∀k,E'.kn k->E.kn k)/\(∀b,E.I b\/(E.w.heap.size<=b/\b<w'.heap.size)->E'.I b):=by
 have hlt:∀id b B,g id=some B->E.loc id=some b->b<E.w.heap.size:=fun id b B hg hb=>by
  have:=hm.at_ id B hg;rw [hb] at this;exact this.lt.2
 let E':Env:={ E with w:=w',I:=fun b=>E.I b\/(E.w.heap.size<=b/\b<w'.heap.size) }
 have hE:E.Le E':=by
  refine ⟨fun _ h=>h,fun b bQ=>⟨.inl bQ,hb.block b (hm.low b bQ).1⟩,fun _ _ h=>h,fun _ _ _=> .inr rfl,fun id b hi hd hl=> .inr ?_,fun _ _ _=> .inr rfl,fun _ h=>h,fun b bQ=>⟨bQ,hb.block b (hm.xo b bQ).1⟩⟩
  obtain ⟨B,hB⟩:=(hm.live id).1 ⟨hi,hd⟩
  show w'.shape? b=_
  simp only [World.shape?,hb.block b (hlt id b B hB hl)]
 refine ⟨E',rfl,hE,⟨hm.live,fun id B hg=>(hm.at_ id B hg).ct hE fun b hl=>hb.block b (hlt id b B hg hl),hm.apart,fun id b B hg hl hI=> ?_,fun b hI=> ?_,afb hm.size hb.size,hm.len,hm.ku,fun b hX=>⟨ae7 (hm.xo b hX).1 hb.size,fun hI=>hI.elim (hm.xo b hX).2.1 fun h=>by have:=(hm.xo b hX).1;omega,(hm.xo b hX).2.2⟩⟩,fun _ h=>h,fun b h=>h⟩
 ·rcases hI with hI|hI
  ·exact hm.out id b B hg hl hI
  ·have:=hlt id b B hg hl;omega
 ·rcases hI with hI|hI
  ·exact ⟨ae7 (hm.low b hI).1 hb.size,(hm.low b hI).2⟩
  ·exact ⟨hI.2, .inr (afb hm.size hI.1)⟩
def rR (as_:List AV) (r:AV):List (Nat×Option Bk):=if r.nob=true then [] else (as_.flatMap AV.ids).map fun id=>(id,none)
theorem P6 (hG:gM E) (hm:aS E J base g) (hvs:RC E vs as_) (hs:(fF as_).run g=some cR) (hf:Fn P f cR r) (P7:∀id,id∈as_.flatMap AV.ids->E.kn id):
  Calls P f vs E.w fun e w'=>∃v E',e= .returned v/\E'.w=w'/\E.Le E'/\aj E' v r/\aS E' J base (aJ g (rR as_ r))/\Below base E.w w'/\∀id,E'.kn id->E.kn id:=by
 let I:=Handed E g (as_.flatMap AV.ids)
 have CP:∀b,I b->b<E.w.heap.size:=fun b hb=>by
  rcases hb with hb|⟨id,B,_,hg,hl⟩
  ·exact (hm.low b hb).1
  ·have:=hm.at_ id B hg;rw [hl] at this;exact this.lt.2
 have di:RC (E0 E.w I) vs cR:=by
  obtain ⟨k1,k2⟩:=yV hm I hs (fun b hb=>hb)
  refine ⟨by rw [k1];exact hvs.1,fun j u c hu hc=> ?_⟩
  have hj:j<as_.length:=by rw [<-k1];exact (aeN.1 hc).1
  exact k2 j u as_[j] c (hvs.2 j u _ hu (aeL hj)) (aeL hj) hc
 refine (hf E.w I vs CP (hG.sub rfl fun b hb=> .inl hb) di).mono ?_
 rintro e w' ⟨v,he,hr,hb⟩
 unfold rR
 by_cases hn:r.nob=true
 ·rw [aeG hn]
  obtain ⟨E',hw,hE,hM,hk,_⟩:=hm.grow hb
  exact ⟨v,E',he,hw,hE,hr.nob hn,hM,hb.mono hm.size,hk⟩
 ·rw [aeE hn]
  obtain ⟨E1,kD,lX,mS,dc,tq,nU⟩:=hm.kill (as_.flatMap AV.ids) P7
  have ti:Below E1.w.heap.size E1.w w':=by rw [kD];exact hb
  obtain ⟨E',hw,hE,hM,hk,hI⟩:=mS.grow ti
  refine ⟨v,E',he,hw,lX.trans hE, ?_,hM,hb.mono hm.size,fun id h=>dc _ (hk _ h)⟩
  refine hr.pure (E':=E') (fun b bQ=> ?_) ?_
  ·refine ⟨hI b ?_,fun o=>by rw [hw];rfl⟩
   rcases bQ with bQ|bQ
   ·left
    rcases bQ with bQ|⟨id,B,hid,hg,hl⟩
    ·exact nU b bQ
    ·exact tq id b B hid hg hl
   ·right;rw [kD];exact bQ
  ·clear hn hI hM hk hE hw tq nU ti dc mS lX kD hb he
   generalize (fun b=>I b\/E.w.heap.size<=b/\b<w'.heap.size)=I' at hr
   have:∀{E:Env} {v:Value} {a:AV},aj E v a->(∀id,¬E.kn id)->(∀l,¬E.rg l)->Pu a:=by
    intro E v a h hk hy
    induction h with
    |v h=>exact .v
    |agg hl h ih=>
     refine .agg fun c hc=> ?_
     obtain ⟨i,hi,rfl⟩:=afJ hc
     exact ih i _ _ (aeV (by omega)) (aeL hi)
    |bm hl h ih=>
     refine .bm fun c hc=> ?_
     obtain ⟨i,hi,rfl⟩:=afJ hc
     exact ih i _ _ (aeV (by omega)) (aeL hi)
    |fy hc=>exact .aV
    |gA=>exact .aV
    |db h ih=>exact .db
    |emp=>exact .emp
    |pim=>exact .pim
    |ref hi=>exact absurd hi (hk _)
    |own hi=>exact absurd hi (hk _)
    |cK hi=>exact absurd hi (hk _)
    |gL hi=>exact absurd hi (hk _)
    |du hi=>exact absurd hi (hk _)
    |mp hi=>exact absurd hi (hk _)
    |k8 hi=>exact absurd hi (hk _)
    |fn hl h ih=>
     refine .fn fun c hc=> ?_
     obtain ⟨i,hi,rfl⟩:=afJ hc
     exact ih i _ _ (aeV (by omega)) (aeL hi)
    |bf hl h ih=>
     refine .bf fun c hc=> ?_
     obtain ⟨i,hi,rfl⟩:=afJ hc
     exact ih i _ _ (aeV (by omega)) (aeL hi)
    |fw hg=>exact absurd hg (hy _)
    |dP=>exact .dP
    |dead=>exact .dead
   exact this hr (fun id h=>h) (fun _ h=>h)
def Fo (P:Program) (f:FuncId) (as_:List AV) (sz:Nat) (els:List (List AV)):Prop:=
 ∀(w:World) (J:Nat->Prop) (vs:Array Value),(∀b,J b->b<w.heap.size)->gM (E0 w J)->RC (E0 w J) vs as_->
  Calls P f vs w fun e w'=>∃v E1,e= .returned v/\E1.w=w'/\Below w.heap.size w w'/\aj E1 v (.own 0 sz 0 els.length)/\E1.kn 0/\¬E1.dead 0/\dJ E1 w.heap.size ⟨sz,els⟩ (E1.loc 0)/\E1.ln 0=els.length
theorem P8 (hG:gM E) (hm:aS E J base g) {sz:Nat} {els:List (List AV)} (hvs:RC E vs as_) (hs:(fF as_).run g=some cR) (hf:Fo P f cR sz els) (vJ:∀cs,cs∈els->∀c,c∈cs->c.ew=true) (gj:¬E.kn fresh):
  Calls P f vs E.w fun e w'=>∃v E',e= .returned v/\E'.w=w'/\E.Le E'/\aj E' v (.own fresh sz 0 els.length)/\aS E' J base (aJ g [(fresh,some ⟨sz,els⟩)])/\Below base E.w w'/\∀id,E'.kn id->E.kn id\/id=fresh:=by
 let I:=Handed E g (as_.flatMap AV.ids)
 have CP:∀b,I b->b<E.w.heap.size:=fun b hb=>by
  rcases hb with hb|⟨id,B,_,hg,hl⟩
  ·exact (hm.low b hb).1
  ·have:=hm.at_ id B hg;rw [hl] at this;exact this.lt.2
 have di:RC (E0 E.w I) vs cR:=by
  obtain ⟨k1,k2⟩:=yV hm I hs (fun b hb=>hb)
  refine ⟨by rw [k1];exact hvs.1,fun j u c hu hc=> ?_⟩
  have hj:j<as_.length:=by rw [<-k1];exact (aeN.1 hc).1
  exact k2 j u as_[j] c (hvs.2 j u _ hu (aeL hj)) (aeL hj) hc
 refine (hf E.w I vs CP (hG.sub rfl fun b hb=> .inl hb) di).mono ?_
 rintro e w' ⟨v,E1,he,rfl,hb,hr,o7,yL,cL,Ie⟩
 have hlt:∀id b B,g id=some B->E.loc id=some b->b<E.w.heap.size:=fun id b B hg hb=>by
  have:=hm.at_ id B hg;rw [hb] at this;exact this.lt.2
 let E':Env:={ w:=E1.w,kn:=fun id=>E.kn id\/id=fresh,loc:=fun id=>if id=fresh then E1.loc 0 else E.loc id,dead:=fun id=>E.dead id/\id≠fresh,I:=E.I,ln:=fun id=>if id=fresh then els.length else E.ln id,rg:=E.rg,X:=E.X }
 have aI:∀id,E.kn id->id≠fresh:=fun id hi he=>gj (he▸hi)
 have hE:E.Le E':=by
  refine ⟨fun id hi=> .inl hi,fun b bQ=>⟨bQ,hb.block b (hm.low b bQ).1⟩,fun id hi hd=>⟨hd,aI id hi⟩,fun id hi hd=> .inr (aeE (aI id hi)),fun id b hi hd hl=> .inr ?_,fun id hi hd=> .inr (aeE (aI id hi)),fun _ h=>h,fun b bQ=>⟨bQ,hb.block b (hm.xo b bQ).1⟩⟩
  obtain ⟨B',aW⟩:=(hm.live id).1 ⟨hi,hd⟩
  show E1.w.shape? b=_
  simp only [World.shape?,hb.block b (hlt id b B' aW hl)]
 have CQ:E'.kn fresh:= .inr rfl
 have iO:¬E'.dead fresh:=fun hd=>hd.2 rfl
 have e8:E'.loc fresh=E1.loc 0:=aeG rfl
 have Ig:sz≠0:=hr.s9 yL
 have hnew:∀b,E1.loc 0=some b->E.w.heap.size<=b/\b<E1.w.heap.size:=fun b hl=>by rw [hl] at cL;exact cL.lt
 refine ⟨v,E',he,rfl,hE, ?_,⟨fun id=> ?_,fun id B' hg=> ?_,fun id dh b B1 B2 h1 h2 h3 h4=> ?_,fun id b B' hg bQ hI=> ?_,fun b bQ=>⟨ae7 (hm.low b bQ).1 hb.size,(hm.low b bQ).2⟩,afb hm.size hb.size,fun id B' hg dQ=> ?_,hm.ku,fun b hX=>⟨ae7 (hm.xo b hX).1 hb.size,(hm.xo b hX).2.1,fun k B1 hk he=> ?_⟩⟩,hb.mono hm.size,fun id hi=>hi⟩
 ·obtain ⟨n,hn⟩:∃n,n=els.length:=⟨_,rfl⟩
  rw [<-hn] at hr ⊢
  cases hr with
  |own hi hd hl hq hs dV vh hcc rS=>exact .own CQ iO (e8.trans hl) hq hs dV vh hcc (by rw [show E'.ln fresh=els.length from aeG rfl, <-Ie];exact rS)
  |cK hi hd hl rS=>exact .cK CQ iO (e8.trans hl) ((show E'.ln fresh=els.length from aeG rfl).trans (Ie.symm.trans rS))
  |du hi hd=>exact absurd hd yL
 ·simp only [aJ]
  by_cases hid:id=fresh
  ·subst hid;simp [E']
  ·simp only [hid,ae9]
   rw [<-hm.live id]
   simp [E',hid]
 ·simp only [aJ] at hg
  by_cases hid:id=fresh
  ·subst hid
   simp only [aeI,aeF] at hg
   subst hg
   rw [e8]
   cases hl:E1.loc 0 with
   |none=>rw [hl] at cL;exact cL
   |some b=>
    rw [hl] at cL
    obtain ⟨q1,arr,t,q2,q3,q4⟩:=cL.cells Ig
    refine .lU ⟨afb hm.size q1,arr,t,q2,q3,fun i cs hi=>⟨(q4 i cs hi).1,fun j x hj=> ?_⟩⟩ Ig
    obtain ⟨u,u1,u2,u3⟩:=(q4 i cs hi).2 j x hj
    exact ⟨u,u1,u2,u3.ew (vJ cs (afd hi) x (afd hj))⟩
  ·simp only [hid,ae9] at hg
   show dJ E' base B' (if id=fresh then _ else _)
   rw [aeE hid]
   exact (hm.at_ id B' hg).ct hE fun b hl=>hb.block b (hlt id b B' hg hl)
 ·simp only [aJ] at h1 h2
  have e3:(if id=fresh then E1.loc 0 else E.loc id)=some b:=h3
  have e4:(if dh=fresh then E1.loc 0 else E.loc dh)=some b:=h4
  by_cases hid:id=fresh<;>by_cases mO:dh=fresh
  ·rw [hid,mO]
  ·rw [aeG hid] at e3;rw [aeE mO] at e4 h2
   have:=hlt _ _ _ h2 e4
   have:=hnew b e3
   omega
  ·rw [aeE hid] at e3 h1;rw [aeG mO] at e4
   have:=hlt _ _ _ h1 e3
   have:=hnew b e4
   omega
  ·rw [aeE hid] at e3 h1;rw [aeE mO] at e4 h2
   exact hm.apart id dh b B1 B2 h1 h2 e3 e4
 ·simp only [aJ] at hg
  have e3:(if id=fresh then E1.loc 0 else E.loc id)=some b:=bQ
  have:=(hm.low b hI).1
  by_cases hid:id=fresh
  ·rw [aeG hid] at e3
   have:=hnew b e3
   omega
  ·rw [aeE hid] at e3 hg
   exact hm.out id b B' hg e3 hI
 ·simp only [aJ] at hg
  show _=if id=fresh then _ else _
  by_cases hid:id=fresh
  ·rw [aeG hid] at hg ⊢
   simp only [aeF] at hg;rw [<-hg]
  ·rw [aeE hid] at hg ⊢
   exact hm.len id B' hg dQ
 ·simp only [aJ] at hk
  have e3:(if k=fresh then E1.loc 0 else E.loc k)=some b:=he
  by_cases hid:k=fresh
  ·rw [aeG hid] at e3
   have:=hnew b e3
   have:=(hm.xo b hX).1
   omega
  ·rw [aeE hid] at e3 hk
   exact (hm.xo b hX).2.2 k B1 hk e3
end
open Go.RowKit
def dB (ρ:Option Nat):Fence:={ Fence.wide with round:=ρ }
theorem tr:(dB ρ).depth.isSome=true->1<=n:=fun h=>by simp [dB,Fence.wide] at h
theorem nV {o:Oper} {e:Operand->Value}:∀f,o.about P w e=some f->(dB ρ).fn f:=fun _ _=>trivial
theorem vK (h:Calls P f args w R):CallsIn (dB ρ) n P f args w R:=(callsIn_wide (n:=n)).2 h
theorem tt {o:Oper} (h:cF P o=some ao):∀c,o.op≠ .defer c:=by
 intro c hc
 obtain ⟨dst,op,type,pos,after,guard⟩:=o
 simp only at hc
 subst hc
 simp [cF] at h
inductive Mk (E:Env) (lo:Nat):List Deferred->Prop
 |nil:Mk E lo []
 |cons {D:Nat} {ds:List Deferred} (hI:E.I D) (hD:lo<=D) (hh:E.w.heap[D]? =some (.deferred (some []))) (aI:∀d,d∈ds->d.target≠ .collected D) (t:Mk E lo ds):Mk E lo ({ target:= .collected D,args:= #[] }::ds)
theorem Mk.step {E E':Env} (hE:E.Le E') {lo:Nat} {ds:List Deferred} (h:Mk E lo ds):Mk E' lo ds:=by
 induction h with
 |nil=>exact .nil
 |cons hI hD hh aI t ih=>exact .cons (hE.gB _ hI).1 hD ((hE.gB _ hI).2.trans hh) aI ih
theorem Mk.Ih (hE:∀b,E.I b->E'.I b/\E'.w.heap[b]? =E.w.heap[b]?) {ds:List Deferred} (h:Mk E lo ds):Mk E' lo ds:=by
 induction h with
 |nil=>exact .nil
 |cons hI hD hh aI t ih=>exact .cons (hE _ hI).1 hD ((hE _ hI).2.trans hh) aI ih
def Env.lt (E:Env) (kb:Nat):Env:={ E with kn:=fun id=>E.kn id/\id<kb }
theorem Env.Le.cut {E0:Env} (h:E0.Le E) (hk:∀id,E0.kn id->id<kb) (k:(E.lt kb).Le E'):E0.Le E':=
 Env.Le.trans (E':=E.lt kb) ⟨fun id hi=>⟨h.kn id hi,hk id hi⟩,h.gB,h.dead,h.loc,h.shape,h.ln,h.rg,h.fx⟩ k
def nb (kb:Nat):Nat->AV->Bool
 |0,_=>false
 |d+1, .agg cs=>cs.all (nb kb d)
 |d+1, .bm cs=>cs.all (nb kb d)
 |d+1, .fn _ cs=>cs.all (nb kb d)
 |d+1, .bf _ cs=>cs.all (nb kb d)
 |d+1, .fw _ cs=>cs.all (nb kb d)
 |_+1, .ref id _ _ _=>Nat.blt id kb
 |_+1, .own id _ _ _=>Nat.blt id kb
 |_+1, .mp id=>Nat.blt id kb
 |_+1,_=>true
theorem aj.P9 (hE:(E.lt kb).Le E'):∀(d:Nat) {v:Value} {a:AV},aj E v a->nb kb d a=true->aj E' v a:=by
 have hI:∀b,E.I b->E'.I b/\∀o,E'.w.cell? ⟨b,o,none⟩=E.w.cell? ⟨b,o,none⟩:=fun b hb=>⟨(hE.gB b hb).1,fun o=>hE.cell (E:=E.lt kb) hb o⟩
 intro d
 induction d with
 |zero=>intro v a _ h;simp [nb] at h
 |succ d ih=>
  have mW:∀{vs:Array Value} {cs:List AV},(∀(i:Nat) v c,vs[i]? =some v->cs[i]? =some c->aj E v c)->cs.all (nb kb d)=true->∀(i:Nat) v c,vs[i]? =some v->cs[i]? =some c->aj E' v c:=by
   intro vs cs h hn i v c hv hc
   simp only [aeJ] at hn
   exact ih (h i v c hv hc) (hn c (afd hc))
  intro v a h hn
  cases a with
  |v x=>exact h.pure hI .v
  |agg cs=>cases h with|agg hl hh=>exact .agg hl (mW hh hn)
  |bm cs=>cases h with|bm hl hh=>exact .bm hl (mW hh hn)
  |fn f cs=>cases h with|fn hl hh=>exact .fn hl (mW hh hn)
  |bf f cs=>cases h with|bf hl hh=>exact .bf hl (mW hh hn)
  |fw r cs=>cases h with|fw h1 h2 h3 hl hh=>exact .fw (hE.rg _ h1) (hE.gB _ h2).1 ((hE.gB _ h2).2.trans h3) hl (mW hh hn)
  |aV sz els=>exact h.pure hI .aV
  |db sz els=>exact h.pure hI .db
  |emp=>exact h.pure hI .emp
  |pim cs o=>exact h.pure hI .pim
  |dP=>exact h.pure hI .dP
  |dead=>exact .dead
  |ref id sz i o=>
   have hlt:id<kb:=afv hn
   have:aj (E.lt kb) v (.ref id sz i o):=by
    cases h with
    |ref hi hd hb hq=>exact .ref (E:=E.lt kb) ⟨hi,hlt⟩ hd hb hq
    |gL hi hd ho=>exact .gL (E:=E.lt kb) ⟨hi,hlt⟩ hd ho
   exact this.step hE
  |mp id=>
   have hlt:id<kb:=afv hn
   have:aj (E.lt kb) v (.mp id):=by
    cases h with
    |mp hi hd hb=>exact .mp (E:=E.lt kb) ⟨hi,hlt⟩ hd hb
    |k8 hi hd ho=>exact .k8 (E:=E.lt kb) ⟨hi,hlt⟩ hd ho
   exact this.step hE
  |own id sz off n=>
   have hlt:id<kb:=afv hn
   have:aj (E.lt kb) v (.own id sz off n):=by
    cases h with
    |own hi hd hb hq hs hm hl hc bJ=>exact .own (E:=E.lt kb) ⟨hi,hlt⟩ hd hb hq hs hm hl hc bJ
    |cK hi hd hb bJ=>exact .cK (E:=E.lt kb) ⟨hi,hlt⟩ hd hb bJ
    |du hi hd ho=>exact .du (E:=E.lt kb) ⟨hi,hlt⟩ hd ho
   exact this.step hE
structure aN where
 dst:Option Nat
 ao:AO
 guard:Option (Nat×Bool)
variable {o:aN} {os full:List aN}
def iS (P:Program) (ops:Array Oper) (o:Oper):Option aN:=
 match cF P o with
 |some ao=>match o.guard with
  |none=>some ⟨o.dst,ao,none⟩
  |some (j,w)=>match (ops[j]?).bind (·.dst) with
   |some t=>some ⟨o.dst,ao,some (t,w)⟩
   |none=>none
 |none=>none
def aR (σ:Nat->AV):Arg->AV
 | .s t=>σ t
 | .c a=>a
def cy (n:Nat) (d:Option Nat) (v:AV) (σ:Nat->AV):Nat->AV:=fun t=>if d=some t/\t<n then v else σ t
def cB (σ:Nat->AV):Option (Nat×Bool)->Option Bool
 |none=>some true
 |some (t,w)=>match σ t with
  | .v (.bool b)=>some (b==w)
  | .v (.tuple _)=>some false
  |_=>none
inductive fa (P:Program) (σ:Nat->AV) (g:Nat->Option Bk) (fresh:Nat) (o:aN):AV->List (Nat×Option Bk)->List Nat->Prop
 |skip (hg:cB σ o.guard=some false):fa P σ g fresh o (.v undef) [] []
 |done {val:AV} {ups:List (Nat×Option Bk)} (hg:cB σ o.guard=some true) (h:(o.ao.aq fresh (aR σ)).run g=some (.done val ups)):
   fa P σ g fresh o val ups ((o.ao.aq fresh (aR σ)).acc g++(o.ao.aq fresh (aR σ)).see g)
 |call {f:FuncId} {as_ cR:List AV} {r:AV} (hg:cB σ o.guard=some true) (h:(o.ao.aq fresh (aR σ)).run g=some (.call f as_)) (hc:aX P f=true)
   (hs:(fF as_).run g=some cR) (hf:Fn P f cR r):fa P σ g fresh o r (rR as_ r) (((o.ao.aq fresh (aR σ)).acc g++(o.ao.aq fresh (aR σ)).see g)++((fF as_).acc g++(fF as_).see g))
 |rU {f:FuncId} {as_ cR:List AV} {sz:Nat} {els:List (List AV)} (hg:cB σ o.guard=some true) (h:(o.ao.aq fresh (aR σ)).run g=some (.call f as_)) (hc:aX P f=true)
   (hs:(fF as_).run g=some cR) (hf:Fo P f cR sz els) (hn:∀cs,cs∈els->∀c,c∈cs->c.ew=true):fa P σ g fresh o (.own fresh sz 0 els.length) [(fresh,some ⟨sz,els⟩)] (((o.ao.aq fresh (aR σ)).acc g++(o.ao.aq fresh (aR σ)).see g)++((fF as_).acc g++(fF as_).see g))
theorem fA.of (hG:gM E) {a:Act} (h:∀t,aj E (a.tmps.getD t undef) (σ t)):fA E a.eval (aR σ):=by
 intro x ax hx
 cases x with
 |tmp t=>simp [cArg] at hx;subst hx;exact h t
 |const v=>
  simp only [cArg] at hx
  cases hc:ofConst v with
  |none=>simp [hc] at hx
  |some c=>simp [hc] at hx;subst hx;exact OC hc
 |func f=>simp [cArg] at hx;subst hx;exact OD f
 |global g=>
  simp only [cArg] at hx
  cases hc:glArg g with
  |none=>simp [hc] at hx
  |some c=>simp [hc] at hx;subst hx;exact hG.arg hc
theorem Ii (h:(snap1 a).run g=some a'):∀id,id∈a.cP->∃B,g id=some B:=by
 intro id hid
 cases a with
 |own dh sz off n=>
  simp only [AV.cP,aeP] at hid
  subst hid
  simp only [snap1] at h
  obtain ⟨els,h1,_⟩:=dW h
  simp only [content,RM.run] at h1
  cases hB:g id with
  |none=>simp [hB] at h1
  |some B=>exact ⟨B,rfl⟩
 |ref dh sz i o=>
  simp only [AV.cP,aeP] at hid
  subst hid
  simp only [snap1,RM.run] at h
  cases hB:g id with
  |none=>simp [hB] at h
  |some B=>exact ⟨B,rfl⟩
 |_=>simp [AV.cP] at hid
theorem yW {g:Nat->Option Bk}:∀{as_ cR:List AV},(jO as_).run g=some cR->∀id,id∈as_.flatMap AV.cP->∃B,g id=some B
 |[],_,_,id,hid=>by simp at hid
 |a::r,cR,h,id,hid=>by
  simp only [jO] at h
  obtain ⟨x,h1,h⟩:=dW h
  obtain ⟨l,h2,h⟩:=dW h
  simp only [afH,afc] at hid
  rcases hid with hid|hid
  ·exact Ii h1 id hid
  ·exact yW h2 id hid
theorem Qa (h:(fp a).run g=some a'):∀id,id∈a.ids->∃B,g id=some B:=by
 intro id hid
 cases a with
 |agg cs=>
  simp only [fp] at h
  obtain ⟨l,h1,_⟩:=dW h
  exact yW h1 id hid
 |fn f cs=>
  simp only [fp] at h
  obtain ⟨l,h1,_⟩:=dW h
  exact yW h1 id hid
 |bf f cs=>
  simp only [fp] at h
  obtain ⟨l,h1,_⟩:=dW h
  exact yW h1 id hid
 |_=>simp only [fp] at h;simp only [AV.ids] at hid;exact Ii h id hid
theorem Ij {g:Nat->Option Bk}:∀{as_ cR:List AV},(fF as_).run g=some cR->∀id,id∈as_.flatMap AV.ids->∃B,g id=some B
 |[],_,_,id,hid=>by simp at hid
 |a::r,cR,h,id,hid=>by
  simp only [fF] at h
  obtain ⟨x,h1,h⟩:=dW h
  obtain ⟨l,h2,h⟩:=dW h
  simp only [afH,afc] at hid
  rcases hid with hid|hid
  ·exact Qa h1 id hid
  ·exact Ij h2 id hid
section
variable {P:Program} {E:Env} {J:Nat->Prop} {base:Nat} {g:Nat->Option Bk} {σ:Nat->AV} {fresh:Nat}
theorem o8 {a:Act} (hs:∀t,aj E (a.tmps.getD t undef) (σ t)) (hc:iS P ops op=some o) {b:Bool} (hg:cB σ o.guard=some b):Region.wanted op (yielded ops a.tmps)=b:=by
 unfold iS at hc
 split at hc
 ·rename_i ao h1
  split at hc
  ·rename_i h2
   simp only [aeF] at hc;subst hc
   simp only [cB,aeF] at hg;subst hg
   simp [Region.wanted,h2]
  ·rename_i j w h2
   split at hc
   ·rename_i t h3
    simp only [aeF] at hc;subst hc
    simp only [cB] at hg
    have ht:=hs t
    simp only [Region.wanted,h2,yielded,h3,afV]
    split at hg
    ·rename_i b' bQ
     rw [bQ] at ht
     have:=ht.l0
     simp only [aeF] at hg;subst hg
     have hlt:t<a.tmps.size:=by
      rcases afq t a.tmps.size with h|h
      ·exact h
      ·simp [Array.getElem?_eq_none h,undef] at this
     have h5:a.tmps[t]? =some (.bool b'):=by
      rw [aeV hlt]
      simpa [aeV hlt] using this
     rw [h5]
     cases b'<;>cases w<;>rfl
    ·rename_i vs bQ
     rw [bQ] at ht
     have:=ht.l0
     simp only [aeF] at hg;subst hg
     have h5:a.tmps[t]? =none\/a.tmps[t]? =some (.tuple vs):=by
      rcases afq t a.tmps.size with h|h
      ·right
       rw [aeV h]
       simpa [aeV h] using this
      ·left;exact Array.getElem?_eq_none h
     rcases h5 with h5|h5<;>rw [h5]<;>rfl
    ·simp at hg
   ·simp at hc
 ·simp at hc
theorem vL (hc:iS P ops op=some o):o.dst=op.dst/\cF P op=some o.ao:=by
 unfold iS at hc
 split at hc
 ·rename_i ao h1
  split at hc
  ·simp only [aeF] at hc;subst hc;exact ⟨rfl,h1⟩
  ·split at hc
   ·simp only [aeF] at hc;subst hc;exact ⟨rfl,h1⟩
   ·simp at hc
 ·simp at hc
theorem CR {a:Act} (hG:gM E) (hs:∀t,aj E (a.tmps.getD t undef) (σ t)) (hm:aS E J base g) (hf:¬E.kn fresh) (hi:ops[i]? =some op) (hc:iS P ops op=some o)
 {acc:List Nat} (hr:fa P σ g fresh o val ups acc) {K:Act->World->Prop}
  (hK:∀v E',E.Le E'->aj E' v val->aS E' J base (aJ g ups)->Below base E.w E'.w->(∀id,E'.kn id->E.kn id\/id∈ups.map Prod.fst)->K (a.put o.dst v) E'.w) {rd:Option Nat}:wpOpIn (dB rd) 0 P ops Q i K a E.w:=by
 have hd:o.dst=op.dst/\cF P op=some o.ao:=by
  unfold iS at hc
  split at hc
  ·rename_i ao h1
   split at hc
   ·simp only [aeF] at hc;subst hc;exact ⟨rfl,h1⟩
   ·split at hc
    ·simp only [aeF] at hc;subst hc;exact ⟨rfl,h1⟩
    ·simp at hc
  ·simp at hc
 have dX:∀e,op.semAt (dB rd).round e=execOp e op:=fun e=>agD (dB rd) _ _ (tt hd.2)
 unfold wpOpIn
 simp only [hi]
 cases hr with
 |skip hg=>
  rw [o8 hs hc hg]
  simp only [afG,ae9]
  rw [<-hd.1]
  exact ⟨nV,hK undef E (Env.Le.refl E) (.v rfl) hm (afy _ _) fun _ h=> .inl h⟩
 |done hg h=>
  rw [o8 hs hc hg,aeG rfl]
  obtain ⟨n,v,E',h1,h2,h3,h4,h5,h6,h7⟩:=PY (fA.of hG hs) (fun _=>rfl) hm hf hd.2 h
  have:=hK v E' h3 h4 h5 h6 h7
  unfold Oper.wpIn
  rw [dX,h1]
  rw [hd.1] at this
  rcases h2 with rfl|⟨rfl,rfl⟩
  ·exact ⟨nV,this⟩
  ·exact ⟨nV,this⟩
 | @call f as_ cR r hg h cX l4 iR=>
  rw [o8 hs hc hg,aeG rfl]
  obtain ⟨vs,h1,h2⟩:=vF (fA.of hG hs) hd.2 h cX
  unfold Oper.wpIn
  rw [dX,h1,Oper.uponIn_enter]
  refine ⟨nV,tr,vK ((P6 hG hm h2 l4 iR fun id hid=> ?_).mono ?_)⟩
  ·obtain ⟨B,hB⟩:=Ij l4 id hid
   exact ((hm.live id).2 ⟨B,hB⟩).1
  ·rintro e w' ⟨v,E',rfl,rfl,k1,k2,k3,k4,k5⟩
   have:=hK v E' k1 k2 k3 k4 fun id h=> .inl (k5 id h)
   rw [hd.1] at this
   exact this
 | @rU f as_ cR sz els hg h cX l4 iR tu=>
  rw [o8 hs hc hg,aeG rfl]
  obtain ⟨vs,h1,h2⟩:=vF (fA.of hG hs) hd.2 h cX
  unfold Oper.wpIn
  rw [dX,h1,Oper.uponIn_enter]
  refine ⟨nV,tr,vK ((P8 hG hm h2 l4 iR tu hf).mono ?_)⟩
  ·rintro e w' ⟨v,E',rfl,rfl,k1,k2,k3,k4,k5⟩
   have:=hK v E' k1 k2 k3 k4 fun id h=>(k5 id h).imp (fun h=>h) fun h=>by simp [h]
   rw [hd.1] at this
   exact this
theorem tv (hE:E.Le E') {a:Act} (hs:∀t,aj E (a.tmps.getD t undef) (σ t)) (hv:aj E' v val) (d:Option Nat):∀t,aj E' ((a.put d v).tmps.getD t undef) (cy a.tmps.size d val σ t):=by
 intro t
 unfold cy
 cases d with
 |none=>simp only [Act.put,reduceCtorEq,false_and,ae9];exact (hs t).step hE
 |some d=>
  simp only [Act.put,aeF]
  by_cases h:d=t/\t<a.tmps.size
  ·rw [aeG h]
   obtain ⟨rfl,hlt⟩:=h
   simpa [hlt] using hv
  ·rw [aeE h]
   have:(a.tmps.setIfInBounds d v).getD t undef=a.tmps.getD t undef:=by
    simp only [agx,agI]
    by_cases eT:d=t
    ·subst eT
     have:¬d<a.tmps.size:=fun hl=>h ⟨rfl,hl⟩
     simp [this]
    ·simp [eT]
   rw [this];exact (hs t).step hE
theorem kG (a:Act) (d:Option Nat) (v:Value):(a.put d v).tmps.size=a.tmps.size/\(a.put d v).defers=a.defers:=by
 cases d<;>simp [Act.put]
end
def Fi (P:Program) (f:FuncId) (as_:List AV) (g:Nat->Option Bk) (k:Nat) (r:AV) (g':Nat->Option Bk) (k':Nat):Prop:=
 ∀(E:Env) (J:Nat->Prop) (base:Nat) (vs:Array Value),gM E->aS E J base g->(∀id,E.kn id->id<k)->RC E vs as_->
  Calls P f vs E.w fun e w'=>∃v E',e= .returned v/\E'.w=w'/\E.Le E'/\aj E' v r/\aS E' J base g'/\Below base E.w w'/\∀id,E'.kn id->id<k'
def Yd (P:Program) (kb:Nat) (r:Loop) (caps as_:List AV) (g:Nat->Option Bk) (k:Nat) (g':Nat->Option Bk) (k':Nat):Prop:=
 r.params.size=as_.length/\∀(E:Env) (J:Nat->Prop) (base l:Nat) (vs:Array Value),gM E->aS E J base g->(∀id,E.kn id->id<k)->E.rg l->RC E vs as_->RC E r.tmps caps->E.I l->E.w.heap[l]? =some (.loop r)->
  RoundIn Fence.wide 0 P l r.fn ((r.params.zip vs).foldl (fun t (p,v)=>t.setIfInBounds p v) r.tmps) r.assign r.body E.w fun e w'=>e= .returned (.bool true)/\∃E',E'.w=w'/\(E.lt kb).Le E'/\aS E' J base g'/\Below base E.w w'/\∀id,E'.kn id->id<k'
theorem Qb {aP:Operand->Value} {l:Nat} {c:Call} {x:Operand} (hc:c.callee= .value x) (hx:aP x= .func (.yield l) #[] #[]) (w:World):
  (do let d<-resolve aP c ty;invoke d.target d.args:Sem Next).run P w=(Instr.yield l (c.args.map aP)).run P w:=by
 simp [resolve,hc,hx,Deferred.ofValue,invoke]
inductive jP (P:Program) (n k0:Nat):List aN->(Nat->AV)->(Nat->Option Bk)->Nat->(Nat->AV)->(Nat->Option Bk)->Nat->Prop
 |nil {σ:Nat->AV} {g:Nat->Option Bk} {k:Nat}:jP P n k0 [] σ g k σ g k
 |cons {o:aN} {os:List aN} {σ σ':Nat->AV} {g g':Nat->Option Bk} {k k1 k':Nat} {val:AV} {ups:List (Nat×Option Bk)} {acc:List Nat} (h:fa P σ g k o val ups acc) (hk:k<=k1) (hu:∀id,id∈ups.map Prod.fst->id<k1)
   (hr:jP P n k0 os (cy n o.dst val σ) (aJ g ups) k1 σ' g' k'):jP P n k0 (o::os) σ g k σ' g' k'
 |inl {o:aN} {os:List aN} {σ σ':Nat->AV} {g g1 g':Nat->Option Bk} {k k1 k':Nat} {f:FuncId} {as_:List AV} {r:AV} (hg:cB σ o.guard=some true) (h:(o.ao.aq k (aR σ)).run g=some (.call f as_)) (hc:aX P f=true)
   (hf:Fi P f as_ g k r g1 k1) (hr:jP P n k0 os (cy n o.dst r σ) g1 k1 σ' g' k'):jP P n k0 (o::os) σ g k σ' g' k'
 |fw {o:aN} {os:List aN} {σ σ':Nat->AV} {g g1 g':Nat->Option Bk} {k k1 k':Nat} {x:Arg} {args:List Arg} {r:Loop} {caps:List AV} (hg:cB σ o.guard=some true) (h:o.ao= .call x args) (hx:aR σ x= .fw r caps)
   {kb:Nat} (yA:k0<=kb) (tu:∀t,nb kb 6 (σ t)=true) (hy:Yd P kb r caps (args.map (aR σ)) g k g1 k1) (hr:jP P n k0 os (cy n o.dst (.v (.bool true)) σ) g1 k1 σ' g' k'):jP P n k0 (o::os) σ g k σ' g' k'
structure ic (E0:Env) (J:Nat->Prop) (base:Nat) (w0:World) (n:Nat) (σ:Nat->AV) (g:Nat->Option Bk) (k:Nat) (a:Act) (w:World):Prop where
 ex:∃E:Env,E.w=w/\E0.Le E/\(∀t,aj E (a.tmps.getD t undef) (σ t))/\aS E J base g/\(∀id,E.kn id->id<k)/\Mk E w0.heap.size a.defers
 size:a.tmps.size=n
 below:Below base w0 w
 gl:gM E0
theorem Ik {rd:Option Nat} {E0:Env} (o7:∀id,E0.kn id->id<k0) {w0:World} (h:jP P n k0 os σ g k σ' g' k'):
  ∀(i:Nat) (a:Act) (w:World),(∀j,j<os.length->∃op,ops[i+j]? =some op/\∃o,os[j]? =some o/\iS P ops op=some o)->ic E0 J base w0 n σ g k a w->(∀a w,ic E0 J base w0 n σ' g' k' a w->Q .normal a w)->wpOpsIn (dB rd) 0 P ops Q (List.range' i os.length) a w:=by
 induction h with
 |nil=>intro i a w _ hr hQ;exact hQ a w hr
 | @cons o os σ σ' g g' k k1 k' val ups acc h hk hu hr ih=>
  intro i a w fP hrel hQ
  rw [agc,List.range'_succ,wpOpsIn_cons]
  obtain ⟨op,h1,o',h2,h3⟩:=fP 0 (by simp)
  simp only [afg,aeF] at h2
  subst h2
  rw [afE] at h1
  obtain ⟨E,rfl,hle,hs,hm,bK,hmk⟩:=hrel.ex
  refine CR (hrel.gl.step hle) hs hm (fun hh=>afL _ (bK k hh)) h1 h3 h fun v E' hE hv hM hB Qc=> ?_
  refine ih (i+1) _ _ (fun j hj=> ?_) ⟨⟨E',rfl,hle.trans hE, ?_,hM,fun id hid=> ?_, ?_⟩, ?_, ?_,hrel.gl⟩ hQ
  ·obtain ⟨vM,m1,o',m2,m3⟩:=fP (j+1) (by simp;omega)
   exact ⟨vM,by rw [show i+1+j=i+(j+1) by omega];exact m1,o',by simpa using m2,m3⟩
  ·have:=tv hE hs hv o.dst
   rw [hrel.size] at this
   exact this
  ·rcases Qc id hid with h|h
   ·exact ae7 (bK id h) hk
   ·exact hu id h
  ·rw [(kG a o.dst v).2];exact hmk.step hE
  ·rw [(kG a o.dst v).1];exact hrel.size
  ·exact hrel.below.trans hB
 | @inl o os σ σ' g g1 g' k k1 k' f as_ r hg h cX hf hr ih=>
  intro i a w fP hrel hQ
  rw [agc,List.range'_succ,wpOpsIn_cons]
  obtain ⟨op,h1,o',h2,h3⟩:=fP 0 (by simp)
  simp only [afg,aeF] at h2
  subst h2
  rw [afE] at h1
  obtain ⟨E,rfl,hle,hs,hm,bK,hmk⟩:=hrel.ex
  have hd:=vL h3
  have dX:∀e,op.semAt (dB rd).round e=execOp e op:=fun e=>agD (dB rd) _ _ (tt hd.2)
  unfold wpOpIn
  simp only [h1]
  rw [o8 hs h3 hg,aeG rfl]
  obtain ⟨vs,e1,e2⟩:=vF (fA.of (hrel.gl.step hle) hs) hd.2 h cX
  unfold Oper.wpIn
  rw [dX,e1,Oper.uponIn_enter]
  refine ⟨nV,tr,vK ((hf E J base vs (hrel.gl.step hle) hm bK e2).mono ?_)⟩
  rintro e w' ⟨v,E',rfl,rfl,q1,q2,q3,q4,q5⟩
  refine ih (i+1) _ _ (fun j hj=> ?_) ⟨⟨E',rfl,hle.trans q1, ?_,q3,q5, ?_⟩, ?_, ?_,hrel.gl⟩ hQ
  ·obtain ⟨vM,m1,o',m2,m3⟩:=fP (j+1) (by simp;omega)
   exact ⟨vM,by rw [show i+1+j=i+(j+1) by omega];exact m1,o',by simpa using m2,m3⟩
  ·have:=tv q1 hs q2 op.dst
   rw [hrel.size] at this
   rw [hd.1]
   exact this
  ·rw [(kG a op.dst v).2];exact hmk.step q1
  ·rw [(kG a op.dst v).1];exact hrel.size
  ·exact hrel.below.trans q4
 | @fw o os σ σ' g g1 g' k k1 k' x args r caps hg h hx kb yA tu hy hr ih=>
  intro i a w fP hrel hQ
  rw [agc,List.range'_succ,wpOpsIn_cons]
  obtain ⟨op,h1,o',h2,h3⟩:=fP 0 (by simp)
  simp only [afg,aeF] at h2
  subst h2
  rw [afE] at h1
  obtain ⟨E,rfl,hle,hs,hm,bK,hmk⟩:=hrel.ex
  have hd:=vL h3
  have dX:∀e,op.semAt (dB rd).round e=execOp e op:=fun e=>agD (dB rd) _ _ (tt hd.2)
  have Il:=hd.2
  rw [h] at Il
  obtain ⟨c,y,c1,c2,c3,c4⟩:=H9 Il
  have hv:=fA.of (hrel.gl.step hle) hs y x c3
  rw [hx] at hv
  obtain ⟨vv,dv⟩:∃vv,vv=a.eval y:=⟨_,rfl⟩
  rw [<-dv] at hv
  cases hv with
  | @fw l _ _ Qd hI hh hl hr'=>
   obtain ⟨al,ar⟩:=(fA.of (hrel.gl.step hle) hs).list c4
   have Im:=run_yield (P:=P) (args:=c.args.map a.eval) hh (by rw [hy.1];simpa using al)
   have e1:(execOp a.eval op).run P E.w= .ok (.round l r.fn ((r.params.zip (c.args.map a.eval)).foldl (fun t (p,v)=>t.setIfInBounds p v) r.tmps) r.assign r.body) E.w:=by
    unfold execOp
    simp only [c1]
    exact (Qb c2 dv.symm E.w).trans Im
   unfold wpOpIn
   simp only [h1]
   rw [o8 hs h3 hg,aeG rfl]
   unfold Oper.wpIn
   rw [dX,e1,Oper.uponIn_round]
   refine ⟨nV,tr,RoundIn.mono (hy.2 E J base l (c.args.map a.eval) (hrel.gl.step hle) hm bK Qd ⟨by simpa using al,fun j u c hu hc=>ar j u c (by simpa using hu) hc⟩ ⟨hl,hr'⟩ hI hh) ?_⟩
   rintro e w' ⟨rfl,E',rfl,q1,q3,q4,q5⟩
   refine ih (i+1) _ _ (fun j hj=> ?_) ⟨⟨E',rfl,hle.cut (fun id hi=>ae7 (o7 id hi) yA) q1, ?_,q3,q5, ?_⟩, ?_, ?_,hrel.gl⟩ hQ
   ·obtain ⟨vM,m1,o',m2,m3⟩:=fP (j+1) (by simp;omega)
    exact ⟨vM,by rw [show i+1+j=i+(j+1) by omega];exact m1,o',by simpa using m2,m3⟩
   ·have:=tv (E:=E') (E':=E') (Env.Le.refl E') (fun t=>(hs t).P9 q1 6 (tu t)) (v:= .bool true) (.v rfl) op.dst
    rw [hrel.size] at this
    rw [hd.1]
    exact this
   ·rw [(kG a op.dst _).2];exact Mk.Ih (E:=E) q1.gB hmk
   ·rw [(kG a op.dst _).1];exact hrel.size
   ·exact hrel.below.trans q4
open Go.RowKit
def Arg.slot:Arg->List Nat
 | .s t=>[t]
 | .c _=>[]
def tw:Option Arg->List Nat
 |none=>[]
 |some x=>x.slot
def AO.vN:AO->List Nat
 | .mov x| .box _ x| .load _ x| .nilc x| .un _ x| .conv _ x| .fad _ x| .fld _ _ x| .ext _ x| .len _ x| .isn _ _ x=>x.slot
 | .pick a b c=>a.slot++b.slot++c.slot
 | .new _=>[]
 | .agg _ ps=>ps.flatMap fun p=>p.2.2.slot
 | .bsl _ _ _ ps=>ps.flatMap fun p=>p.2.slot
 | .store _ x y| .bin _ _ x y| .iad _ x y| .iap _ _ x y| .ixa _ _ _ x y| .mnx _ x y| .eqs _ _ _ x y| .msl _ _ _ x y| .six x y| .app _ _ x y=>x.slot++y.slot
 | .slc _ x l h m=>x.slot++tw l++tw h++tw m
 | .sls x l h=>x.slot++tw l++tw h
 | .mkf _ cs| .mkb _ cs=>cs.flatMap Arg.slot
 | .call x l=>x.slot++l.flatMap Arg.slot
 | .clr _ x| .b2s x| .s2b x=>x.slot
 | .cpy _ x y=>x.slot++y.slot
 | .mkm| .bad=>[]
 | .mup _ x k y=>x.slot++k.slot++y.slot
 | .mlk _ _ x k=>x.slot++k.slot
def AO.allocs:AO->Bool
 | .new _| .box _ _| .bsl _ _ _ _| .msl _ _ _ _ _| .app _ _ _ _| .s2b _| .mkm=>true
 |_=>false
def aN.l5 (o:aN):List Nat:=o.ao.vN++(match o.guard with|some (t,_)=>[t]|none=>[])
theorem cq (h:∀t,t∈x.slot->σ' t=σ t):aR σ' x=aR σ x:=by
 cases x with
 |s t=>exact h t (by simp [Arg.slot])
 |c a=>rfl
theorem vO {x:Option Arg} (h:∀t,t∈tw x->σ' t=σ t):ee (aR σ') x=ee (aR σ) x:=by
 cases x with
 |none=>rfl
 |some a=>simp only [ee,cq h]
theorem map_congr {l:List Arg} (h:∀t,t∈l.flatMap Arg.slot->σ' t=σ t):l.map (aR σ')=l.map (aR σ):=by
 apply afR
 intro x hx
 exact cq fun t ht=>h t (List.mem_flatMap.2 ⟨x,hx,ht⟩)
theorem Io {σ σ':Nat->AV}:∀{ps:List (Nat×Nat×Arg)} {cs:List AV},(∀t,t∈ps.flatMap (fun p=>p.2.2.slot)->σ' t=σ t)->fillA (aR σ') cs ps=fillA (aR σ) cs ps
 |[],cs,_=>rfl
 |(off,n,x)::r,cs,h=>by
  have h1:=cq (x:=x) (σ:=σ) (σ':=σ') fun t ht=>h t (by simp [ht])
  simp only [fillA,h1]
  split
  ·exact Io fun t ht=>h t (by rw [afH];exact afl _ ht)
  ·rfl
theorem Ip {σ σ':Nat->AV} {sz:Nat}:∀{ps:List (Nat×Arg)} {els:List (List AV)},(∀t,t∈ps.flatMap (fun p=>p.2.slot)->σ' t=σ t)->fillE (aR σ') sz els ps=fillE (aR σ) sz els ps
 |[],cs,_=>rfl
 |(i,x)::r,cs,h=>by
  have h1:=cq (x:=x) (σ:=σ) (σ':=σ') fun t ht=>h t (by simp [ht])
  simp only [fillE,h1]
  split
  ·exact Ip fun t ht=>h t (by rw [afH];exact afl _ ht)
  ·rfl
theorem Iq (fresh:Nat) (h:∀t,t∈ao.vN->σ' t=σ t):ao.aq fresh (aR σ')=ao.aq fresh (aR σ):=by
 cases ao<;>simp only [AO.vN,afc] at h<;>simp only [AO.aq]
 case mov x=>rw [cq h]
 case pick a b c=>rw [cq (x:=a) fun t ht=>h t (.inl (.inl ht)),cq (x:=b) fun t ht=>h t (.inl (.inr ht)),cq (x:=c) fun t ht=>h t (.inr ht)]
 case box n x=>rw [cq h]
 case agg zs ps=>rw [Io h]
 case bsl sz ln zs ps=>rw [Ip h]
 case load m x=>rw [cq h]
 case store n x y=>rw [cq (x:=x) fun t ht=>h t (.inl ht),cq (x:=y) fun t ht=>h t (.inr ht)]
 case nilc x=>rw [cq h]
 case bin bt op x y=>rw [cq (x:=x) fun t ht=>h t (.inl ht),cq (x:=y) fun t ht=>h t (.inr ht)]
 case un op x=>rw [cq h]
 case conv k x=>rw [cq h]
 case fad off x=>rw [cq h]
 case fld off m x=>rw [cq h]
 case iad sz x y=>rw [cq (x:=x) fun t ht=>h t (.inl ht),cq (x:=y) fun t ht=>h t (.inr ht)]
 case ext i x=>rw [cq h]
 case len b x=>cases b<;>simp only [AO.aq]<;>rw [cq h]
 case isn kd m x=>cases kd<;>simp only [AO.aq]<;>rw [cq h]
 case mnx m x y=>rw [cq (x:=x) fun t ht=>h t (.inl ht),cq (x:=y) fun t ht=>h t (.inr ht)]
 case eqs ng n L x y=>rw [cq (x:=x) fun t ht=>h t (.inl ht),cq (x:=y) fun t ht=>h t (.inr ht)]
 case msl sz by_ zs x y=>rw [cq (x:=x) fun t ht=>h t (.inl ht),cq (x:=y) fun t ht=>h t (.inr ht)]
 case slc sz x lo hi mx=>rw [cq (x:=x) fun t ht=>h t (.inl (.inl (.inl ht))),vO (x:=lo) fun t ht=>h t (.inl (.inl (.inr ht))),vO (x:=hi) fun t ht=>h t (.inl (.inr ht)),vO (x:=mx) fun t ht=>h t (.inr ht)]
 case sls x lo hi=>rw [cq (x:=x) fun t ht=>h t (.inl (.inl ht)),vO (x:=lo) fun t ht=>h t (.inl (.inr ht)),vO (x:=hi) fun t ht=>h t (.inr ht)]
 case six x y=>rw [cq (x:=x) fun t ht=>h t (.inl ht),cq (x:=y) fun t ht=>h t (.inr ht)]
 case app sz by_ x y=>rw [cq (x:=x) fun t ht=>h t (.inl ht),cq (x:=y) fun t ht=>h t (.inr ht)]
 case mkf f cs=>rw [map_congr h]
 case mkb f cs=>rw [map_congr h]
 case clr zs x=>rw [cq h]
 case b2s x=>rw [cq h]
 case s2b x=>rw [cq h]
 case cpy sz x y=>rw [cq (x:=x) fun t ht=>h t (.inl ht),cq (x:=y) fun t ht=>h t (.inr ht)]
 case mup kd x k y=>rw [cq (x:=x) fun t ht=>h t (.inl (.inl ht)),cq (x:=k) fun t ht=>h t (.inl (.inr ht)),cq (x:=y) fun t ht=>h t (.inr ht)]
 case mlk kd z x k=>rw [cq (x:=x) fun t ht=>h t (.inl ht),cq (x:=k) fun t ht=>h t (.inr ht)]
 case ixa sz ln m x y=>rw [cq (x:=x) fun t ht=>h t (.inl ht),cq (x:=y) fun t ht=>h t (.inr ht)]
 case iap sz ln x y=>rw [cq (x:=x) fun t ht=>h t (.inl ht),cq (x:=y) fun t ht=>h t (.inr ht)]
 case call x l=>rw [cq (x:=x) fun t ht=>h t (.inl ht),map_congr fun t ht=>h t (.inr ht)]
theorem Qe (h:ao.allocs=false) (fresh Qf:Nat) (ρ:Arg->AV):ao.aq Qf ρ=ao.aq fresh ρ:=by
 cases ao<;>simp [AO.allocs] at h<;>first|rfl|skip
 case len b x=>cases b<;>rfl
 case isn kd b x=>cases kd<;>rfl
theorem Qg (h:ao.allocs=true) {ρ:Arg->AV} (hr:(ao.aq fresh ρ).run g=some (.done val ups)):fresh∈ups.map Prod.fst:=by
 cases ao<;>simp [AO.allocs] at h<;>simp only [AO.aq] at hr
 case new zs=>simp [RM.run] at hr;rw [<-hr.2];simp
 case mkm=>simp [RM.run] at hr;rw [<-hr.2];simp
 case box n x=>split at hr<;>simp [RM.run] at hr;rw [<-hr.2];simp
 case bsl sz ln zs ps=>
  cases hf:fillE ρ sz (List.replicate ln zs) ps with
  |none=>simp [hf,RM.opt,RM.run] at hr
  |some els=>simp [hf,RM.opt,RM.run] at hr;rw [<-hr.2];simp
 case msl sz b zs l c=>
  split at hr
  ·split at hr<;>simp [RM.run] at hr;rw [<-hr.2];simp
  ·simp [RM.run] at hr
 case s2b x=>
  split at hr
  ·split at hr<;>simp [RM.run] at hr;rw [<-hr.2];simp
  ·simp [RM.run] at hr
 case app sz b s x=>
  obtain ⟨ys,_,hr⟩:=dW hr
  split at hr
  ·split at hr<;>simp [RM.run] at hr;rw [<-hr.2];simp
  ·split at hr<;>simp [RM.run] at hr;rw [<-hr.2];simp
  ·simp only [RM.run] at hr
   split at hr
   ·split at hr
    ·simp [RM.run] at hr;rw [<-hr.2];simp
    ·split at hr<;>simp [RM.run] at hr;rw [<-hr.2];simp
   ·simp at hr
  ·simp [RM.run] at hr
theorem fa.local {P:Program} {σ σ':Nat->AV} {g g':Nat->Option Bk} {fr jQ:Nat} {o:aN} {val:AV} {ups:List (Nat×Option Bk)} {acc:List Nat} (h:fa P σ g fr o val ups acc)
  (hσ:∀t,t∈o.l5->σ' t=σ t) (hg:∀id,id∈acc->g' id=g id) (gj:fr∈ups.map Prod.fst->jQ=fr):∃CS,fa P σ' g' jQ o val ups CS:=by
 have dj:cB σ' o.guard=cB σ o.guard:=by
  cases hg0:o.guard with
  |none=>rfl
  |some p=>
   obtain ⟨t,w⟩:=p
   simp only [cB,hσ t (by simp [aN.l5,hg0])]
 have dX:∀out,(o.ao.aq fr (aR σ)).run g=some out->(∀id,id∈(o.ao.aq fr (aR σ)).acc g++(o.ao.aq fr (aR σ)).see g->g' id=g id)->(o.ao.allocs=true->jQ=fr)->(o.ao.aq jQ (aR σ')).run g'=some out:=by
  intro out h1 h2 h3
  have e1:o.ao.aq jQ (aR σ')=o.ao.aq fr (aR σ):=by
   rw [Iq jQ fun t ht=>hσ t (by simp [aN.l5,ht])]
   cases hal:o.ao.allocs with
   |false=>exact Qe hal _ _ _
   |true=>rw [h3 hal]
  rw [e1,RM.local _ (fun id hid=>h2 id (afm _ hid)) (fun id hid=>by rw [h2 id (afl _ hid)])]
  exact h1
 cases h with
 |skip hg0=>exact ⟨_, .skip (dj.trans hg0)⟩
 |done hg0 h1=>exact ⟨_, .done (dj.trans hg0) (dX _ h1 hg fun hal=>gj (Qg hal h1))⟩
 | @call f as_ cR r hg0 h1 hc hs hf=>
  have hal:o.ao.allocs=false:=by
   cases hx:o.ao with
   |call x l=>rfl
   |_=>exact absurd h1 (CK (by rw [hx];simp))
  refine ⟨_, .call (dj.trans hg0) (dX _ h1 (fun id hid=>hg id (afm _ hid)) fun h=>by rw [hal] at h;simp at h) hc ?_ hf⟩
  rw [RM.local _ (fun id hid=>hg id (afl _ (afm _ hid))) (fun id hid=>by rw [hg id (afl _ (afl _ hid))])]
  exact hs
 | @rU f as_ cR sz els hg0 h1 hc hs hf hn=>
  have hal:o.ao.allocs=false:=by
   cases hx:o.ao with
   |call x l=>rfl
   |_=>exact absurd h1 (CK (by rw [hx];simp))
  have hfe:jQ=fr:=gj (by simp)
  subst hfe
  refine ⟨_, .rU (dj.trans hg0) (dX _ h1 (fun id hid=>hg id (afm _ hid)) fun _=>rfl) hc ?_ hf hn⟩
  rw [RM.local _ (fun id hid=>hg id (afl _ (afm _ hid))) (fun id hid=>by rw [hg id (afl _ (afl _ hid))])]
  exact hs
structure Rec where
 dst:Option Nat
 val:AV
 ups:List (Nat×Option Bk)
 acc:List Nat
 fr:Nat
variable {rs:List Rec}
def Rec.keys (r:Rec):List Nat:=r.ups.map Prod.fst
inductive kH (P:Program) (n:Nat):List aN->(Nat->AV)->(Nat->Option Bk)->Nat->List Rec->(Nat->AV)->(Nat->Option Bk)->Nat->Prop
 |nil {σ:Nat->AV} {g:Nat->Option Bk} {k:Nat}:kH P n [] σ g k [] σ g k
 |cons {o:aN} {os:List aN} {σ σ':Nat->AV} {g g':Nat->Option Bk} {k k1 k':Nat} {val:AV} {ups:List (Nat×Option Bk)} {acc:List Nat} {rs:List Rec} (h:fa P σ g k o val ups acc) (hk:k<=k1) (hu:∀id,id∈ups.map Prod.fst->id<k1)
   (hr:kH P n os (cy n o.dst val σ) (aJ g ups) k1 rs σ' g' k'):kH P n (o::os) σ g k (⟨o.dst,val,ups,acc,k⟩::rs) σ' g' k'
def eO {β:Type} (L:Nat->Bool) (w:Rec->Option β):Nat->List Rec->β->β
 |_,[],x=>x
 |k,r::rs,x=>eO L w (k+1) rs (if L k=true then (w r).getD x else x)
theorem mX {β:Type} {L L':Nat->Bool} {w:Rec->Option β}:∀(rs:List Rec) (k:Nat) (x:β),(∀(j:Nat) r,rs[j]? =some r->L (k+j)≠L' (k+j)->w r=none)->eO L w k rs x=eO L' w k rs x
 |[],k,x,_=>rfl
 |r::rs,k,x,h=>by
  simp only [eO]
  have h0:=h 0 r rfl
  rw [afE] at h0
  have e:(if L k=true then (w r).getD x else x)=if L' k=true then (w r).getD x else x:=by
   by_cases hl:L k=L' k
   ·rw [hl]
   ·rw [h0 hl];simp
  rw [e]
  exact mX rs (k+1) _ fun j r' hr hl=>h (j+1) r' (by simpa using hr) (by rw [show k+(j+1)=k+1+j by omega];exact hl)
theorem mY {β:Type} {L:Nat->Bool} {w:Rec->Option β}:∀(rs:List Rec) (k:Nat) (x:β),(∀(j:Nat) r,rs[j]? =some r->L (k+j)=true->w r=none)->eO L w k rs x=x
 |[],k,x,_=>rfl
 |r::rs,k,x,h=>by
  simp only [eO]
  have e:(if L k=true then (w r).getD x else x)=x:=by
   split
   ·rename_i hl;rw [h 0 r rfl (by simpa using hl)];rfl
   ·rfl
  rw [e]
  exact mY rs (k+1) _ fun j r' hr hl=>h (j+1) r' (by simpa using hr) (by rw [show k+(j+1)=k+1+j by omega];exact hl)
theorem rV {β:Type} {L L':Nat->Bool} {w:Rec->Option β}:∀(rs:List Rec) (k i:Nat) (x:β) (r:Rec),rs[i]? =some r->L (k+i)=false->(∀j,L' j=if j=k+i then true else L j)->(∀(j:Nat) r',i<j->rs[j]? =some r'->L (k+j)=true->w r'=none\/w r=none)->
  eO L' w k rs x=(w r).getD (eO L w k rs x)
 |[],k,i,x,r,hr,_,_,_=>by simp at hr
 |r0::rs,k,0,x,r,hr,hf,hL,hn=>by
  simp only [afg,aeF] at hr
  subst hr
  simp only [eO,hL k,afE,aeI]
  rw [afE] at hf
  rw [hf]
  simp only [afG,ae9]
  cases hw:w r0 with
  |none=>
   simp only [age]
   refine mX rs (k+1) x fun j r' hr' hl=> ?_
   rw [hL,aeE (by omega)] at hl
   exact absurd rfl hl
  |some y=>
   simp only [afz]
   refine mY rs (k+1) y fun j r' hr' hl=> ?_
   rw [hL,aeE (by omega)] at hl
   exact (hn (j+1) r' (by omega) (by simpa using hr') (by rw [show k+(j+1)=k+1+j by omega];exact hl)).resolve_right (by rw [hw];simp)
 |r0::rs,k,i+1,x,r,hr,hf,hL,hn=>by
  simp only [eO]
  have e:L' k=L k:=by rw [hL k,aeE (by omega)]
  rw [e]
  exact rV rs (k+1) i _ r (by simpa using hr) (by rw [show k+1+i=k+(i+1) by omega];exact hf) (fun j=>by rw [hL j,show k+1+i=k+(i+1) by omega]) fun j r' hj hr' hl=>hn (j+1) r' (by omega) (by simpa using hr') (by rw [show k+(j+1)=k+1+j by omega];exact hl)
theorem lj {β:Type} {L:Nat->Bool} {w:Rec->Option β}:∀(rs:List Rec) (k:Nat) (x:β),eO L w (k+1) rs x=eO (fun j=>L (j+1)) w k rs x
 |[],_,_=>rfl
 |r::rs,k,x=>by
  simp only [eO]
  exact lj rs (k+1) _
def l6 (n t:Nat) (r:Rec):Option AV:=if r.dst=some t/\t<n then some r.val else none
def kv:List (Nat×Option Bk)->Nat->Option (Option Bk)
 |[],_=>none
 |(k,x)::r,id=>match kv r id with
  |some y=>some y
  |none=>if id=k then some x else none
theorem nW:∀(ups:List (Nat×Option Bk)) (g:Nat->Option Bk) (id:Nat),aJ g ups id=(kv ups id).getD (g id)
 |[],g,id=>rfl
 |(k,x)::r,g,id=>by
  simp only [aJ,kv,nW r]
  cases kv r id with
  |some y=>rfl
  |none=>
   simp only [age]
   by_cases h:id=k
   ·simp [h]
   ·simp [h]
theorem o9:∀{ups:List (Nat×Option Bk)} {id:Nat},kv ups id≠none->id∈ups.map Prod.fst
 |[],id,h=>by simp [kv] at h
 |(k,x)::r,id,h=>by
  simp only [kv] at h
  cases hr:kv r id with
  |some y=>simp only [aeR,aeQ];exact .inr (o9 (by rw [hr];simp))
  |none=>
   rw [hr] at h
   by_cases hk:id=k
   ·simp [hk]
   ·simp [hk] at h
def wg (id:Nat) (r:Rec):Option (Option Bk):=kv r.ups id
theorem pa (n t:Nat) (r:Rec) (σ:Nat->AV):cy n r.dst r.val σ t=(l6 n t r).getD (σ t):=by
 unfold cy l6
 split<;>rfl
def upto (i j:Nat):Bool:=decide (j<i)
def cw (n:Nat) (L:Nat->Bool) (rs:List Rec) (σ:Nat->AV) (t:Nat):AV:=eO L (l6 n t) 0 rs (σ t)
def cu (L:Nat->Bool) (rs:List Rec) (g:Nat->Option Bk) (id:Nat):Option Bk:=eO L (wg id) 0 rs (g id)
theorem CT (h:kH P n os σ g k rs σ' g' k'):
  rs.length=os.length/\k<=k'/\(∀(i:Nat) o,os[i]? =some o->∃r,rs[i]? =some r/\r.dst=o.dst/\fa P (cw n (upto i) rs σ) (cu (upto i) rs g) r.fr o r.val r.ups r.acc/\k<=r.fr)/\
   (∀(i j:Nat) ri rj,i<j->rs[i]? =some ri->rs[j]? =some rj->∀id,id∈ri.keys->id<rj.fr)/\(∀(i:Nat) r,rs[i]? =some r->∀id,id∈r.keys->id<k')/\σ'=cw n (fun _=>true) rs σ/\g'=cu (fun _=>true) rs g:=by
 induction h with
 |nil=>exact ⟨rfl,aeO _,fun i o ho=>by simp at ho,fun i j ri rj _ h=>by simp at h,fun i r h=>by simp at h,rfl,rfl⟩
 | @cons o os σ σ' g g' k k1 k' val ups acc rs h hk hu hr ih=>
  obtain ⟨i1,i2,i3,i4,i5,i6,i7⟩:=ih
  have e1:∀i,cw n (upto (i+1)) (⟨o.dst,val,ups,acc,k⟩::rs) σ=cw n (upto i) rs (cy n o.dst val σ):=by
   intro i;funext t
   show eO _ _ 1 rs _=_
   rw [lj]
   unfold cw
   congr 1
   ·funext j;simp [upto]
   ·rw [aeG (by simp [upto])];exact (pa n t ⟨o.dst,val,ups,acc,k⟩ σ).symm
  have e2:∀i,cu (upto (i+1)) (⟨o.dst,val,ups,acc,k⟩::rs) g=cu (upto i) rs (aJ g ups):=by
   intro i;funext id
   show eO _ _ 1 rs _=_
   rw [lj]
   unfold cu
   congr 1
   ·funext j;simp [upto]
   ·rw [aeG (by simp [upto]),nW];rfl
  refine ⟨by simp [i1],afb hk i2,fun i o' ho=> ?_,fun i j ri rj bD hi hj id hid=> ?_,fun i r hr' id hid=> ?_, ?_, ?_⟩
  ·cases i with
   |zero=>
    simp only [afg,aeF] at ho
    subst ho
    refine ⟨_,rfl,rfl, ?_,aeO _⟩
    have s0:cw n (upto 0) (⟨o.dst,val,ups,acc,k⟩::rs) σ=σ:=by funext t;exact mY _ 0 _ fun j r _ hl=>by simp [upto] at hl
    have g0:cu (upto 0) (⟨o.dst,val,ups,acc,k⟩::rs) g=g:=by funext t;exact mY _ 0 _ fun j r _ hl=>by simp [upto] at hl
    rw [s0,g0]
    exact h
   |succ i=>
    obtain ⟨r,r1,r2,r3,r4⟩:=i3 i o' (by simpa using ho)
    exact ⟨r,by simpa using r1,r2,by rw [e1,e2];exact r3,afb hk r4⟩
  ·cases j with
   |zero=>omega
   |succ j=>
    simp only [aft] at hj
    cases i with
    |zero=>
     simp only [afg,aeF] at hi
     subst hi
     have bL:j<os.length:=by rw [<-i1];exact (aeN.1 hj).1
     obtain ⟨r,r1,_,_,r4⟩:=i3 j _ (aeL bL)
     rw [hj] at r1
     simp only [aeF] at r1
     subst r1
     exact ae7 (hu id hid) r4
    |succ i=>exact i4 i j ri rj (by omega) (by simpa using hi) hj id hid
  ·cases i with
   |zero=>
    simp only [afg,aeF] at hr'
    subst hr'
    exact ae7 (hu id hid) i2
   |succ i=>exact i5 i r (by simpa using hr') id hid
  ·rw [i6]
   funext t
   unfold cw
   simp only [eO]
   rw [lj,aeI,pa n t ⟨o.dst,val,ups,acc,k⟩ σ]
  ·rw [i7]
   funext id
   unfold cu
   simp only [eO]
   rw [lj,aeI,nW]
   rfl
def l7 (x y:aN):Bool:=
 (match x.dst with|some d=> !y.l5.contains d&&y.dst !=some d|none=>true)&&(match y.dst with|some d=> !x.l5.contains d|none=>true)
def iT (x y:Rec):Bool:=(x.keys.all fun id=> !y.acc.contains id&& !y.keys.contains id)&&(y.keys.all fun id=> !x.acc.contains id)
def fb (o:Oper):List Nat:=o.after.toList.filterMap fun e=>if Region.binds .any e=true then some e.on else none
def lu (ops:List Oper) (dep:List (List Nat)):Bool:=
 dep.length==ops.length&&(List.range ops.length).all fun j=>((ops[j]?.map fb).getD []).all (· <j)&&
  ((dep[j]?).getD []).all fun i=>i<j&&(((ops[j]?.map fb).getD []).contains i||((ops[j]?.map fb).getD []).any fun e=>((dep[e]?).getD []).contains i)
def iU (os:List aN) (dep:List (List Nat)):Bool:=
 (List.range os.length).all fun j=>(List.range j).all fun i=>((dep[j]?).getD []).contains i||(match os[i]?,os[j]? with|some x,some y=>l7 x y|_,_=>false)
def iC (rs:List Rec) (dep:List (List Nat)):Bool:=
 (List.range rs.length).all fun j=>(List.range j).all fun i=>((dep[j]?).getD []).contains i||(match rs[i]?,rs[j]? with|some x,some y=>iT x y|_,_=>false)
theorem CU:∀(N:Nat) (m:List Nat),m.Nodup->(∀j,j∈m->j<N)->m.length<=N
 |0,m,_,h=>by
  cases m with
  |nil=>simp
  |cons a l=>have:=h a (by simp);omega
 |N+1,m,hn,h=>by
  have ih:=CU N (m.erase N) (hn.erase N) fun j hj=>by
   have Qh:=List.mem_of_mem_erase hj
   have:=h j Qh
   have aI:j≠N:=fun e=>by
    subst e
    exact (List.Nodup.mem_erase_iff hn).1 hj|>.1 rfl
   omega
  rw [List.length_erase] at ih
  split at ih<;>omega
section
variable {P:Program} {E0:Env} {n:Nat} {ops:Array Oper} {J:Nat->Prop} {base:Nat} {w0:World} {Q:Exit->Act->World->Prop} {os:List aN} {dep:List (List Nat)} {σ σ':Nat->AV} {g g':Nat->Option Bk} {k k':Nat} {rs:List Rec}
structure Ir (E0:Env) (n:Nat) (ops:Array Oper) (J:Nat->Prop) (base:Nat) (w0:World) (σ:Nat->AV) (g:Nat->Option Bk) (k:Nat) (rs:List Rec) (listed:Array Bool) (a:Act) (w:World):Prop where
 ex:∃E:Env,E.w=w/\E0.Le E/\(∀t,aj E (a.tmps.getD t undef) (cw n (fun j=>listed.getD j false) rs σ t))/\aS E J base (cu (fun j=>listed.getD j false) rs g)/\
  (∀id,E.kn id->id<k\/∃j r,listed.getD j false=true/\rs[j]? =some r/\id∈r.keys)/\Mk E w0.heap.size a.defers
 size:a.tmps.size=n
 below:Below base w0 w
 gl:gM E0
 jm:listed.size=ops.size
 closed:∀(j:Nat) op,ops[j]? =some op->listed.getD j false=true->∀e,e∈fb op->listed.getD e false=true
theorem tx {e:Nat}:e∈fb op↔∃x,x∈op.after/\Region.binds .any x=true/\x.on=e:=by
 unfold fb
 rw [List.mem_filterMap]
 constructor
 ·rintro ⟨x,hx,h⟩
  split at h
  ·rename_i hb;simp only [aeF] at h;exact ⟨x,by simpa using hx,hb,h⟩
  ·simp at h
 ·rintro ⟨x,hx,hb,he⟩
  exact ⟨x,by simpa using hx,by simp [hb,he]⟩
theorem rW (hd:lu ops.toList dep=true) {listed:Array Bool} (hc:∀(j:Nat) op,ops[j]? =some op->listed.getD j false=true->∀e,e∈fb op->listed.getD e false=true):
  ∀(j:Nat) op,ops[j]? =some op->(∀e,e∈fb op->listed.getD e false=true)->∀i,i∈(dep[j]?).getD []->listed.getD i false=true:=by
 intro j
 induction j using Nat.strongRecOn with
 |_ j ih=>
  intro op cW fq i hi
  have bL:j<ops.toList.length:=by simpa using (afx.1 cW).1
  unfold lu at hd
  simp only [aeH,aeJ,ae6,aff,ae8,afj,afX] at hd
  have hj:=hd.2 j bL
  have rX:ops.toList[j]? =some op:=by simpa using cW
  simp only [rX,aeT,afz] at hj
  obtain ⟨h1,h2⟩:=hj.2 i hi
  rcases h2 with h2|⟨e,he,h2⟩
  ·exact fq i h2
  ·have Qi:e<j:=hj.1 e he
   have ib:e<ops.size:=by simp at bL;omega
   exact ih e Qi ops[e] (aeV ib) (hc e _ (aeV ib) (fq e he)) i h2
end
open Go.RowKit
def qs:aN:=⟨none, .mov (.c (.v undef)),none⟩
def rY (k:Nat):Rec:=⟨none, .v undef,[],[],k⟩
def Is (dep:List (List Nat)) (b N:Nat):Bool:=
 ((List.range b).all fun i=>((dep[b]?).getD []).contains i)&&(List.range N).all fun j=>decide (j<=b)||((dep[j]?).getD []).contains b
section
variable {P:Program} {E0:Env} {n:Nat} {ops:Array Oper} {J:Nat->Prop} {base:Nat} {w0:World} {Q:Exit->Act->World->Prop} {os:List aN} {dep:List (List Nat)} {σ σ':Nat->AV} {g g':Nat->Option Bk} {k k':Nat} {rs:List Rec}
theorem Qj {rd:Option Nat} {i1:Nat} (fo:kH P n os σ g k rs σ' g' k') (hlen:os.length=i1) (hi1:i1<=ops.size) (fP:∀(j:Nat) op,i0<=j->j<i1->ops[j]? =some op->∃o,os[j]? =some o/\iS P ops op=some o)
  (hd:lu ops.toList dep=true) (c8:iU os dep=true) (hid:iC rs dep=true)
  (CV:∀listed:Array Bool,(∀(j:Nat) op,ops[j]? =some op->listed.getD j false=true->∀e,e∈fb op->listed.getD e false=true)->(∀j,listed.getD j false=true->j<i1)->(¬∀j,j<i1->listed.getD j false=true)->∀i op,ops[i]? =some op->(∀e,e∈fb op->listed.getD e false=true)->i<i1)
  (hK:∀fuel listed a w,ic E0 J base w0 n σ' g' k' a w->listed.size=ops.size->(∀j,listed.getD j false=decide (j<i1))->(∀m:List Nat,(∀j,j∈m->j<ops.size/\listed.getD j true=false)->m.Nodup->m.length<=fuel)->wpAnyIn (dB rd) 0 P .any ops Q fuel listed a w):
  ∀(fuel:Nat) (listed:Array Bool) (a:Act) (w:World),Ir E0 n ops J base w0 σ g k rs listed a w->(∀j,j<i0->listed.getD j false=true)->(∀j,listed.getD j false=true->j<i1)->(∀m:List Nat,(∀j,j∈m->j<ops.size/\listed.getD j true=false)->m.Nodup->m.length<=fuel)->wpAnyIn (dB rd) 0 P .any ops Q fuel listed a w:=by
 obtain ⟨c1,c2,c3,c4,c5,c6,c7⟩:=CT fo
 have done:∀(fuel:Nat) (listed:Array Bool) (a:Act) (w:World),Ir E0 n ops J base w0 σ g k rs listed a w->(∀j,listed.getD j false=true->j<i1)->(∀m:List Nat,(∀j,j∈m->j<ops.size/\listed.getD j true=false)->m.Nodup->m.length<=fuel)->(∀j,j<i1->listed.getD j false=true)->wpAnyIn (dB rd) 0 P .any ops Q fuel listed a w:=by
  intro fuel listed a w hI gO iV cA
  obtain ⟨E,rfl,hle,h1,h2,h3,hmk⟩:=hI.ex
  have e6:cw n (fun j=>listed.getD j false) rs σ=σ':=by
   rw [c6];funext t
   refine mX _ 0 _ fun j r hr hl=>absurd ?_ hl
   rw [aeW,cA j (by rw [<-hlen, <-c1];exact (aeN.1 hr).1)]
  have e7:cu (fun j=>listed.getD j false) rs g=g':=by
   rw [c7];funext t
   refine mX _ 0 _ fun j r hr hl=>absurd ?_ hl
   rw [aeW,cA j (by rw [<-hlen, <-c1];exact (aeN.1 hr).1)]
  rw [e6] at h1;rw [e7] at h2
  refine hK fuel listed a E.w ⟨⟨E,rfl,hle,h1,h2,fun id hh=> ?_,hmk⟩,hI.size,hI.below,hI.gl⟩ hI.jm (fun j=> ?_) iV
  ·rcases h3 id hh with h|⟨j,r,_,hr,hk⟩
   ·exact ae7 h c2
   ·exact c5 j r hr id hk
  ·by_cases hj:j<i1
   ·rw [cA j hj];simp [hj]
   ·cases hl:listed.getD j false with
    |true=>exact absurd (gO j hl) hj
    |false=>simp [hj]
 have first:∀(listed:Array Bool),listed.size=ops.size->(∀(j:Nat) op,ops[j]? =some op->listed.getD j false=true->∀e,e∈fb op->listed.getD e false=true)->(¬∀j,j<i1->listed.getD j false=true)->Region.ready .any ops listed≠[]:=by
  intro listed eI cX cA hr
  refine cA fun j=> ?_
  induction j using Nat.strongRecOn with
  |_ j ih=>
   intro hj
   cases hl:listed.getD j false with
   |true=>rfl
   |false=>
    exfalso
    have pb:j<listed.size:=by rw [eI];omega
    have l8:j<ops.size:=by omega
    have:j∈Region.ready .any ops listed:=by
     rw [mem_ready]
     refine ⟨by simp [pb] at hl ⊢; exact hl,ops[j],aeV l8,fun e he hb=> ?_⟩
     have dY:=hd
     unfold lu at dY
     simp only [aeH,aeJ,ae6,aff] at dY
     have eJ:=(dY.2 j (by simpa using l8)).1
     have rX:ops.toList[j]? =some ops[j]:=by simp [l8]
     simp only [rX,aeT,afz] at eJ
     have hlt:=eJ e.on (tx.2 ⟨e,he,hb,rfl⟩)
     exact ih e.on hlt (by omega)
    rw [hr] at this
    simp at this
 intro fuel
 induction fuel with
 |zero=>
  intro listed a w hI jR gO iV
  by_cases cA:∀j,j<i1->listed.getD j false=true
  ·exact done 0 listed a w hI gO iV cA
  ·exfalso
   cases hr:Region.ready .any ops listed with
   |nil=>exact first listed hI.jm hI.closed cA hr
   |cons x xs=>
    have hx:x∈Region.ready .any ops listed:=by rw [hr];simp
    obtain ⟨m1,o,m2,_⟩:=mem_ready.1 hx
    have:=iV [x] (fun j hj=>by simp at hj;subst hj;exact ⟨(afx.1 m2).1,m1⟩) (by simp)
    simp at this
 |succ fuel ih=>
  intro listed a w hI jR gO iV
  by_cases cA:∀j,j<i1->listed.getD j false=true
  ·exact done _ listed a w hI gO iV cA
  refine ⟨fun hr=>absurd hr (first listed hI.jm hI.closed cA),fun i hi=> ?_⟩
  obtain ⟨m1,op,m2,m3⟩:=mem_ready.1 hi
  have cV:i<ops.size:=(afx.1 m2).1
  have dZ:listed.getD i false=false:=by
   have:i<listed.size:=by rw [hI.jm];exact cV
   simp [this] at m1 ⊢; exact m1
  have fq:∀e,e∈fb op->listed.getD e false=true:=fun e he=>by
   obtain ⟨x,hx,hb,rfl⟩:=tx.1 he
   exact m3 x hx hb
  have c9:i<i1:=CV listed hI.closed gO cA i op m2 fq
  have Qk:i0<=i:=by
   rcases afq i i0 with h|h
   ·have:=jR i h;rw [dZ] at this;simp at this
   ·exact h
  obtain ⟨o,ho,l9⟩:=fP i op Qk c9 m2
  obtain ⟨r,dw,da,hrun,gj⟩:=c3 i o ho
  obtain ⟨E,rfl,hle,h1,h2,h3,hmk⟩:=hI.ex
  -- Ql is listed out of bU is free of this one
  have free:∀j rj oj,j≠i->rs[j]? =some rj->os[j]? =some oj->listed.getD j false≠upto i j->(l7 (if i<j then o else oj) (if i<j then oj else o)=true/\iT (if i<j then r else rj) (if i<j then rj else r)=true):=by
   intro j rj oj aI bn bZ hl
   have bL:j<os.length:=(aeN.1 bZ).1
   unfold iU at c8
   unfold iC at hid
   simp only [aeJ,ae6,ae8,afX] at c8 hid
   by_cases bD:i<j
   ·rw [aeG bD,aeG bD,aeG bD,aeG bD]
    have bo:listed.getD j false=true:=by
     have hu:upto i j=false:=by simp [upto];omega
     rw [hu] at hl
     simpa using hl
    have dC:i∉(dep[j]?).getD []:=by
     intro dR
     have l8:j<ops.size:=by omega
     have:=rW hd hI.closed j ops[j] (aeV l8) (hI.closed j _ (aeV l8) bo) i dR
     rw [dZ] at this;simp at this
    have s1:=(c8 j bL i bD).resolve_left dC
    have s2:=(hid j (by rw [c1];exact bL) i bD).resolve_left dC
    rw [ho,bZ] at s1;rw [dw,bn] at s2
    exact ⟨s1,s2⟩
   ·rw [aeE bD,aeE bD,aeE bD,aeE bD]
    have cv:j<i:=by omega
    have bo:listed.getD j false=false:=by
     have hu:upto i j=true:=by simp [upto];omega
     rw [hu] at hl
     simpa using hl
    have dC:j∉(dep[i]?).getD []:=by
     intro dR
     have:=rW hd hI.closed i op m2 fq j dR
     rw [bo] at this;simp at this
    have s1:=(c8 i (by omega) j cv).resolve_left dC
    have s2:=(hid i (by omega) j cv).resolve_left dC
    rw [ho,bZ] at s1;rw [dw,bn] at s2
    exact ⟨s1,s2⟩
  have jS:∀(j:Nat) rj,rs[j]? =some rj->∃oj,os[j]? =some oj/\rj.dst=oj.dst:=fun j rj bn=>by
   have bL:j<os.length:=by rw [<-c1];exact (aeN.1 bn).1
   obtain ⟨r',q1,q2,_,_⟩:=c3 j _ (aeL bL)
   rw [bn] at q1;simp only [aeF] at q1;subst q1
   exact ⟨_,aeL bL,q2⟩
  -- a slot vP it looks at is as it comes one behind mT other
  have hσ:∀t,t∈o.l5->cw n (fun j=>listed.getD j false) rs σ t=cw n (upto i) rs σ t:=by
   intro t ht
   refine mX _ 0 _ fun j rj bn hl=> ?_
   rw [aeW] at hl
   by_cases aI:j=i
   ·subst aI;rw [dZ] at hl;simp [upto] at hl
   ·obtain ⟨oj,bZ,dY⟩:=jS j rj bn
    have hf:=(free j rj oj aI bn bZ hl).1
    unfold l6
    rw [aeE]
    rintro ⟨eT,_⟩
    rw [dY] at eT
    unfold l7 at hf
    by_cases bD:i<j
    ·simp only [aeG bD,eT,aeH,ae1,afn,ae3] at hf
     exact hf.2 ht
    ·simp only [aeE bD,eT,aeH,ae1,afn,ae3] at hf
     exact hf.1.1 ht
  have hg:∀id,id∈r.acc->cu (fun j=>listed.getD j false) rs g id=cu (upto i) rs g id:=by
   intro id vQ
   refine mX _ 0 _ fun j rj bn hl=> ?_
   rw [aeW] at hl
   by_cases aI:j=i
   ·subst aI;rw [dZ] at hl;simp [upto] at hl
   ·obtain ⟨oj,bZ,dY⟩:=jS j rj bn
    have hf:=(free j rj oj aI bn bZ hl).2
    cases hw:wg id rj with
    |none=>rfl
    |some y=>
     exfalso
     have hk:id∈rj.keys:=o9 (by unfold wg at hw;rw [hw];simp)
     unfold iT at hf
     by_cases bD:i<j
     ·simp only [aeG bD,aeH,aeJ,ae1,afn,ae3] at hf
      exact hf.2 id hk vQ
     ·simp only [aeE bD,aeH,aeJ,ae1,afn,ae3] at hf
      exact (hf.1 id hk).1 vQ
  -- a name vP Qm has
  have vD:∃jQ,¬E.kn jQ/\(r.fr∈r.ups.map Prod.fst->jQ=r.fr):=by
   by_cases c9:r.fr∈r.ups.map Prod.fst
   ·refine ⟨r.fr,fun hk=> ?_,fun _=>rfl⟩
    rcases h3 _ hk with h|⟨j,rj,bo,bn,dS⟩
    ·omega
    ·by_cases aI:j=i
     ·subst aI;rw [dZ] at bo;simp at bo
     ·by_cases bD:i<j
      ·obtain ⟨oj,bZ,_⟩:=jS j rj bn
       have hf:=(free j rj oj aI bn bZ (by rw [bo];simp [upto];omega)).2
       unfold iT at hf
       simp only [aeG bD,aeH,aeJ,ae1,afn,ae3] at hf
       exact (hf.1 _ c9).2 dS
      ·have:=c4 j i rj r (by omega) bn dw _ dS
       exact afL _ this
   ·refine ⟨k',fun hk=> ?_,fun h=>absurd h c9⟩
    rcases h3 _ hk with h|⟨j,rj,bo,bn,dS⟩
    ·omega
    ·exact afL _ (c5 j rj bn _ dS)
  obtain ⟨jQ,CW,CX⟩:=vD
  obtain ⟨CS,CY⟩:=hrun.local hσ hg CX
  refine CR (hI.gl.step hle) h1 h2 CW m2 l9 CY fun v E' hE hv hM hB bK=> ?_
  -- it is listed now
  have eL:∀j,(listed.setIfInBounds i true).getD j false=if j=0+i then true else listed.getD j false:=by
   intro j
   rw [aeW]
   have kI:i<listed.size:=by rw [hI.jm];exact cV
   by_cases cv:j=i
   ·subst cv;simp [kI]
   ·rw [aeE cv,getD_set_ne false (Ne.symm cv)]
  have rZ:∀t,cw n (fun j=>(listed.setIfInBounds i true).getD j false) rs σ t=cy n o.dst r.val (cw n (fun j=>listed.getD j false) rs σ) t:=by
   intro t
   rw [<-da,pa]
   refine rV rs 0 i _ r dw (by rw [aeW];exact dZ) eL fun j rj bD bn bo=> ?_
   rw [aeW] at bo
   obtain ⟨oj,bZ,dY⟩:=jS j rj bn
   have hf:=(free j rj oj (by omega) bn bZ (by rw [bo];simp [upto];omega)).1
   unfold l7 at hf
   simp only [aeG bD] at hf
   by_cases iB:r.dst=some t
   ·left
    unfold l6
    rw [aeE]
    rintro ⟨eT,_⟩
    rw [da] at iB
    rw [dY] at eT
    simp only [iB,eT,aeH,bne_iff_ne,ne_eq] at hf
    exact hf.1.2 trivial
   ·right
    unfold l6
    rw [aeE]
    rintro ⟨eT,_⟩
    exact iB eT
  have ng:∀id,cu (fun j=>(listed.setIfInBounds i true).getD j false) rs g id=aJ (cu (fun j=>listed.getD j false) rs g) r.ups id:=by
   intro id
   rw [nW]
   refine rV rs 0 i _ r dw (by rw [aeW];exact dZ) eL fun j rj bD bn bo=> ?_
   rw [aeW] at bo
   obtain ⟨oj,bZ,dY⟩:=jS j rj bn
   have hf:=(free j rj oj (by omega) bn bZ (by rw [bo];simp [upto];omega)).2
   unfold iT at hf
   simp only [aeG bD,aeH,aeJ,ae1,afn,ae3] at hf
   cases hw:wg id r with
   |none=>exact .inr rfl
   |some y=>
    left
    cases hw2:wg id rj with
    |none=>rfl
    |some y2=>
     exfalso
     have k1:id∈r.keys:=o9 (by unfold wg at hw;rw [hw];simp)
     have k2:id∈rj.keys:=o9 (by unfold wg at hw2;rw [hw2];simp)
     exact (hf.1 id k1).2 k2
  refine ih _ _ _ ⟨⟨E',rfl,hle.trans hE,fun t=> ?_, ?_,fun id hh=> ?_, ?_⟩, ?_,hI.below.trans hB,hI.gl,by simpa using hI.jm,fun j oj bZ bo e he=> ?_⟩ (fun j hj=>getD_set_true (jR j hj)) (fun j hj=> ?_) fun m hm dC=> ?_
  ·rw [rZ t]
   have:=tv hE h1 hv o.dst t
   rw [hI.size] at this
   exact this
  ·rw [show cu (fun j=>(listed.setIfInBounds i true).getD j false) rs g=aJ (cu (fun j=>listed.getD j false) rs g) r.ups from funext ng]
   exact hM
  ·rcases bK id hh with h|h
   ·rcases h3 id h with h|⟨j,rj,q1,q2,q3⟩
    ·exact .inl h
    ·exact .inr ⟨j,rj,getD_set_true q1,q2,q3⟩
   ·refine .inr ⟨i,r, ?_,dw,h⟩
    rw [eL i,aeW,aeG rfl]
  ·rw [(kG a o.dst v).2];exact hmk.step hE
  ·rw [(kG a o.dst v).1];exact hI.size
  ·rw [eL j,aeW] at bo
   by_cases cv:j=i
   ·subst cv
    rw [m2] at bZ;simp only [aeF] at bZ;subst bZ
    exact getD_set_true (fq e he)
   ·rw [aeE cv] at bo
    exact getD_set_true (hI.closed j oj bZ bo e he)
  ·rw [eL j,aeW] at hj
   by_cases cv:j=i
   ·rw [cv];exact c9
   ·rw [aeE cv] at hj;exact gO j hj
  ·have qt:i∉m:=fun dR=>by
    have:=(hm i dR).2
    have kI:i<listed.size:=by rw [hI.jm];exact cV
    simp [kI] at this
   have:=iV (i::m) (fun j hj=>by
    rcases aeQ.1 hj with rfl|hj
    ·exact ⟨cV,m1⟩
    ·refine ⟨(hm j hj).1, ?_⟩
     have h5:=(hm j hj).2
     have cv:i≠j:=fun e=>qt (e▸hj)
     rwa [getD_set_ne true cv] at h5) (af6.2 ⟨qt,dC⟩)
   simpa using this
inductive pe (P:Program) (n:Nat) (dep:List (List Nat)):List aN->(Nat->AV)->(Nat->Option Bk)->Nat->List Rec->(Nat->AV)->(Nat->Option Bk)->Nat->Prop
 |nil {σ:Nat->AV} {g:Nat->Option Bk} {k:Nat} {rs:List Rec} (hid:iC rs dep=true):pe P n dep [] σ g k rs σ g k
 |cons {o:aN} {os:List aN} {σ σ':Nat->AV} {g g':Nat->Option Bk} {k k1 k':Nat} {val:AV} {ups:List (Nat×Option Bk)} {acc:List Nat} {rs:List Rec} (h:fa P σ g k o val ups acc) (hk:k<=k1) (hu:∀id,id∈ups.map Prod.fst->id<k1)
   (hr:pe P n dep os (cy n o.dst val σ) (aJ g ups) k1 (rs++[⟨o.dst,val,ups,acc,k⟩]) σ' g' k'):pe P n dep (o::os) σ g k rs σ' g' k'
 |Qn {o:aN} {os:List aN} {σ σ':Nat->AV} {g g1 g':Nat->Option Bk} {k k1 k':Nat} {f:FuncId} {as_:List AV} {r:AV} {rs:List Rec} (hid:iC rs dep=true) (hb:Is dep rs.length (rs.length+1+os.length)=true) (hg:cB σ o.guard=some true)
   (h:(o.ao.aq k (aR σ)).run g=some (.call f as_)) (hc:aX P f=true) (hf:Fi P f as_ g k r g1 k1) (hr:pe P n dep os (cy n o.dst r σ) g1 k1 (List.replicate (rs.length+1) (rY k1)) σ' g' k'):pe P n dep (o::os) σ g k rs σ' g' k'
theorem Qo:fa P σ g k qs (.v undef) [] []:= .done (val:= .v undef) (ups:=[]) rfl rfl
theorem kH.It:∀i,kH P n (List.replicate i qs) σ g k (List.replicate i (rY k)) σ g k
 |0=> .nil
 |i+1=>by
  rw [List.replicate_succ,List.replicate_succ]
  exact .cons (o:=qs) (k1:=k) Qo (aeO _) (by simp) (kH.It i)
theorem kH.snoc {k1:Nat} (h0:kH P n os σ g k rs σ' g' k') (h:fa P σ' g' k' o val ups acc) (hk:k'<=k1) (hu:∀id,id∈ups.map Prod.fst->id<k1):kH P n (os++[o]) σ g k (rs++[⟨o.dst,val,ups,acc,k'⟩]) (cy n o.dst val σ') (aJ g' ups) k1:=by
 induction h0 with
 |nil=>exact .cons h hk hu .nil
 |cons h1 h2 h3 h4 ih=>exact .cons h1 h2 h3 (ih h hk)
theorem Qp {pre:List aN} (h:iU full dep=true) (hl:pre.length<=full.length) (h1:∀j,i0<=j->j<pre.length->pre[j]? =full[j]?) (h2:∀j,j<i0->j<pre.length->pre[j]? =some qs):iU pre dep=true:=by
 unfold iU at h ⊢
 simp only [aeJ,ae6,ae8] at h ⊢
 intro j hj i hi
 rcases h j (by omega) i hi with h|h
 ·exact .inl h
 ·right
  by_cases ma:i0<=i
  ·rw [h1 i ma (by omega),h1 j (by omega) hj];exact h
  ·rw [h2 i (by omega) (by omega)]
   cases hp:pre[j]? with
   |none=>simp [List.getElem?_eq_none_iff] at hp;omega
   |some y=>
    simp only [l7,qs,aN.l5,AO.vN,Arg.slot,Bool.true_and]
    split<;>simp
theorem Qq {rd:Option Nat} (mZ:full.length=ops.size) (fP:∀(j:Nat) op,ops[j]? =some op->∃o,full[j]? =some o/\iS P ops op=some o) (hd:lu ops.toList dep=true) (c8:iU full dep=true)
  (hQ:∀a w,ic E0 J base w0 n σ' g' k' a w->Q .normal a w) (h:pe P n dep os σ g k rs σ' g' k'):
  ∀(i0:Nat) (pre:List aN) (dL:Nat->AV) (g0:Nat->Option Bk) (kk:Nat),kH P n pre dL g0 kk rs σ g k->i0<=pre.length->pre.length+os.length=full.length->(∀j,i0<=j->(pre++os)[j]? =full[j]?)->(∀j,j<i0->pre[j]? =some qs/\∃q,rs[j]? =some (rY q))->
   ∀(fuel:Nat) (listed:Array Bool) (a:Act) (w:World),ic E0 J base w0 n dL g0 kk a w->listed.size=ops.size->(∀j,listed.getD j false=decide (j<i0))->(∀m:List Nat,(∀j,j∈m->j<ops.size/\listed.getD j true=false)->m.Nodup->m.length<=fuel)->wpAnyIn (dB rd) 0 P .any ops Q fuel listed a w:=by
 have CZ:∀(j:Nat) op,ops[j]? =some op->∀e,e∈fb op->e<j:=by
  intro j op cW e he
  have l8:j<ops.size:=(afx.1 cW).1
  have dY:=hd
  unfold lu at dY
  simp only [aeH,aeJ,ae6,aff] at dY
  have eJ:=(dY.2 j (by simpa using l8)).1
  have rX:ops.toList[j]? =some op:=by simpa using cW
  simp only [rX,aeT,afz] at eJ
  exact eJ e he
 -- a phase, given adY comes behind it
 have phase:∀{os:List aN} {σ:Nat->AV} {g:Nat->Option Bk} {k:Nat} {rs:List Rec} (i0:Nat) (pre:List aN) (dL:Nat->AV) (g0:Nat->Option Bk) (kk:Nat),kH P n pre dL g0 kk rs σ g k->i0<=pre.length->pre.length+os.length=full.length->(∀j,i0<=j->(pre++os)[j]? =full[j]?)->(∀j,j<i0->pre[j]? =some qs/\∃q,rs[j]? =some (rY q))->iC rs dep=true->
   (∀listed:Array Bool,(∀(j:Nat) op,ops[j]? =some op->listed.getD j false=true->∀e,e∈fb op->listed.getD e false=true)->(∀j,listed.getD j false=true->j<pre.length)->(¬∀j,j<pre.length->listed.getD j false=true)->∀i op,ops[i]? =some op->(∀e,e∈fb op->listed.getD e false=true)->i<pre.length)->
   (∀fuel listed a w,ic E0 J base w0 n σ g k a w->listed.size=ops.size->(∀j,listed.getD j false=decide (j<pre.length))->(∀m:List Nat,(∀j,j∈m->j<ops.size/\listed.getD j true=false)->m.Nodup->m.length<=fuel)->wpAnyIn (dB rd) 0 P .any ops Q fuel listed a w)->
   ∀(fuel:Nat) (listed:Array Bool) (a:Act) (w:World),ic E0 J base w0 n dL g0 kk a w->listed.size=ops.size->(∀j,listed.getD j false=decide (j<i0))->(∀m:List Nat,(∀j,j∈m->j<ops.size/\listed.getD j true=false)->m.Nodup->m.length<=fuel)->wpAnyIn (dB rd) 0 P .any ops Q fuel listed a w:=by
  intro os σ g k rs i0 pre dL g0 kk fo ma bJ pf qu hid CV hK fuel listed a w hrel eI eL iV
  have Iu:∀j,i0<=j->j<pre.length->pre[j]? =full[j]? :=fun j h1 h2=>by
   have:=pf j h1
   rwa [afk h2] at this
  refine Qj (i0:=i0) fo rfl (by omega) (fun j op h1 h2 cW=> ?_) hd (Qp c8 (by omega) Iu fun j h1 _=>(qu j h1).1) hid CV hK fuel listed a w ?_ (fun j hj=>by rw [eL];simpa using hj) (fun j hj=>by rw [eL] at hj;simp at hj;omega) iV
  ·rw [Iu j h1 h2];exact fP j op cW
  ·obtain ⟨E,rfl,hle,h1,h2,h3,hmk⟩:=hrel.ex
   have z:∀{β:Type} (wt:Rec->Option β) (x:β),(∀q,wt (rY q)=none)->eO (fun j=>listed.getD j false) wt 0 rs x=x:=by
    intro β wt x hw
    refine mY rs 0 x fun j r hr hl=> ?_
    rw [aeW,eL] at hl
    obtain ⟨q,hq⟩:=(qu j (by simpa using hl)).2
    rw [hq] at hr;simp only [aeF] at hr;subst hr
    exact hw q
   have e1:cw n (fun j=>listed.getD j false) rs dL=dL:=by funext t;exact z _ _ fun q=>by simp [l6,rY]
   have e2:cu (fun j=>listed.getD j false) rs g0=g0:=by funext t;exact z _ _ fun q=>by simp [wg,rY,kv]
   refine ⟨⟨E,rfl,hle, ?_, ?_,fun id hh=> .inl (h3 id hh),hmk⟩,hrel.size,hrel.below,hrel.gl,eI,fun j op cW hl e he=> ?_⟩
   ·rw [e1];exact h1
   ·rw [e2];exact h2
   ·rw [eL] at hl ⊢
    have:=CZ j op cW e he
    simp at hl ⊢; omega
 induction h with
 | @nil σ g k rs hid=>
  intro i0 pre dL g0 kk fo ma bJ pf qu
  have yS:pre.length=ops.size:=by simp at bJ;omega
  refine phase i0 pre dL g0 kk fo ma bJ pf qu hid (fun listed _ _ _ i op cW _=> ?_) fun fuel listed a w hrel eI eL iV=> ?_
  ·rw [yS];exact (afx.1 cW).1
  ·have hr:Region.ready .any ops listed=[]:=by
    cases hr:Region.ready .any ops listed with
    |nil=>rfl
    |cons x xs=>
     have hx:x∈Region.ready .any ops listed:=by rw [hr];simp
     obtain ⟨m1,o,m2,_⟩:=mem_ready.1 hx
     have qv:x<ops.size:=(afx.1 m2).1
     have C0:x<listed.size:=by rw [eI];exact qv
     have h5:=eL x
     rw [yS] at h5
     simp [C0,qv] at h5 m1
     rw [h5] at m1;simp at m1
   cases fuel with
   |zero=>exact ⟨hr,hQ a w hrel⟩
   |succ fuel=>exact ⟨fun _=>hQ a w hrel,fun i hi=>by rw [hr] at hi;simp at hi⟩
 | @cons o os σ σ' g g' k k1 k' val ups acc rs h hk hu hr ih=>
  intro i0 pre dL g0 kk fo ma bJ pf qu
  obtain ⟨c1,_⟩:=CT fo
  refine ih hQ i0 (pre++[o]) dL g0 kk (fo.snoc h hk hu) (by simp;omega) (by simp at bJ ⊢; omega) (fun j hj=>by rw [afY];exact pf j hj) fun j hj=> ?_
  obtain ⟨d1,q,d2⟩:=qu j hj
  exact ⟨by rw [afk (by omega)];exact d1,q,by rw [afk (by omega)];exact d2⟩
 | @Qn o os σ σ' g g1 g' k k1 k' f as_ r rs hid hb hg h cX hf hr ih=>
  intro i0 pre dL g0 kk fo ma bJ pf qu
  obtain ⟨c1,_⟩:=CT fo
  obtain ⟨b,jT⟩:∃b,pre.length=b:=⟨_,rfl⟩
  rw [c1,jT] at hb
  have cO:b<ops.size:=by simp at bJ;omega
  have Qr:full[b]? =some o:=by
   have:=pf b (by omega)
   rw [<-this,afr (by omega),jT,Nat.sub_self];rfl
  unfold Is at hb
  simp only [aeH,aeJ,ae6,ae8,aff,afX] at hb
  have Iv:∀listed:Array Bool,(∀(j:Nat) op,ops[j]? =some op->listed.getD j false=true->∀e,e∈fb op->listed.getD e false=true)->(∀j,listed.getD j false=true->j<b)->∀i op,ops[i]? =some op->(∀e,e∈fb op->listed.getD e false=true)->i<=b:=by
   intro listed cX gO i op cW fq
   rcases afq b i with hlt|Iw
   ·exfalso
    have hi:i<ops.size:=(afx.1 cW).1
    have hm:=(hb.2 i (by simp at bJ;omega)).resolve_left (by omega)
    exact afL _ (gO b (rW hd cX i op cW fq b hm))
   ·exact Iw
  refine phase i0 pre dL g0 kk fo ma bJ pf qu hid (fun listed cX gO cA i op cW fq=> ?_) fun fuel listed a w hrel eI eL iV=> ?_
  ·rw [jT] at gO cA ⊢
   have h1:=Iv listed cX gO i op cW fq
   rcases afq i b with h2|h2
   ·exact h2
   ·exfalso
    have e:i=b:=by omega
    subst e
    exact cA fun j hj=>rW hd cX i op cW fq j (hb.1 j hj)
  ·rw [jT] at eL
   have C1:b<listed.size:=by rw [eI];exact cO
   have hcd:∀(j:Nat) op,ops[j]? =some op->listed.getD j false=true->∀e,e∈fb op->listed.getD e false=true:=fun j op cW hl e he=>by
    rw [eL] at hl ⊢
    have:=CZ j op cW e he
    simp at hl ⊢; omega
   have Ix:listed.getD b true=false:=by
    have:=eL b
    simp [C1] at this ⊢; exact this
   cases fuel with
   |zero=>
    have:=iV [b] (fun j hj=>by simp at hj;subst hj;exact ⟨cO,Ix⟩) (by simp)
    simp at this
   |succ fuel=>
    refine ⟨fun hr=> ?_,fun i hi=> ?_⟩
    ·have:b∈Region.ready .any ops listed:=by
      rw [mem_ready]
      refine ⟨Ix,ops[b],aeV cO,fun e he hb=> ?_⟩
      have:=CZ b _ (aeV cO) e.on (tx.2 ⟨e,he,hb,rfl⟩)
      rw [eL];simpa using this
     rw [hr] at this;simp at this
    ·obtain ⟨m1,op,m2,m3⟩:=mem_ready.1 hi
     have cV:i<ops.size:=(afx.1 m2).1
     have fq:∀e,e∈fb op->listed.getD e false=true:=fun e he=>by
      obtain ⟨x,hx,hb,rfl⟩:=tx.1 he
      exact m3 x hx hb
     have Qs:i=b:=by
      have h1:=Iv listed hcd (fun j hj=>by rw [eL] at hj;simpa using hj) i op m2 fq
      rcases afq i b with h2|h2
      ·exfalso
       have Qt:i<listed.size:=by rw [eI];exact cV
       have h5:=eL i
       simp [Qt,h2] at h5 m1
       rw [h5] at m1;simp at m1
      ·omega
     subst Qs
     obtain ⟨o',la,h3⟩:=fP i op m2
     rw [Qr] at la;simp only [aeF] at la;subst la
     obtain ⟨E,rfl,hle,hs,hm,bK,hmk⟩:=hrel.ex
     have hdd:=vL h3
     have dX:∀e,op.semAt (dB rd).round e=execOp e op:=fun e=>agD (dB rd) _ _ (tt hdd.2)
     unfold wpOpIn
     simp only [m2]
     rw [o8 hs h3 hg,aeG rfl]
     obtain ⟨vs,e1,e2⟩:=vF (fA.of (hrel.gl.step hle) hs) hdd.2 h cX
     unfold Oper.wpIn
     rw [dX,e1,Oper.uponIn_enter]
     refine ⟨nV,tr,vK ((hf E J base vs (hrel.gl.step hle) hm bK e2).mono ?_)⟩
     rintro e w' ⟨v,E',rfl,rfl,q1,q2,q3,q4,q5⟩
     refine ih hQ (i+1) (List.replicate (i+1) qs) _ _ _ (by rw [c1,jT];exact kH.It (i+1)) (by simp) (by simp at bJ ⊢; omega) (fun j hj=> ?_) (fun j hj=>⟨by simp [hj],k1,by rw [c1,jT];simp [hj]⟩) fuel _ _ _ ⟨⟨E',rfl,hle.trans q1, ?_,q3,q5, ?_⟩, ?_, ?_,hrel.gl⟩ (by simpa using eI) (fun j=> ?_) fun m mQ dC=> ?_
     ·have h7:=pf j (by omega)
      rw [<-h7,afr (by simp;omega),afr (by omega),jT]
      simp only [afP]
      rw [show j - i=(j - (i+1))+1 by omega,aft]
     ·have:=tv q1 hs q2 op.dst
      rw [hrel.size] at this
      rw [hdd.1]
      exact this
     ·rw [(kG a op.dst v).2];exact hmk.step q1
     ·rw [(kG a op.dst v).1];exact hrel.size
     ·exact hrel.below.trans q4
     ·by_cases cv:j=i
      ·subst cv;simp [C1]
      ·rw [getD_set_ne false (Ne.symm cv),eL j,decide_eq_decide];omega
     ·have qt:i∉m:=fun dR=>by
       have:=(mQ i dR).2
       simp [C1] at this
      have:=iV (i::m) (fun j hj=>by
       rcases aeQ.1 hj with rfl|hj
       ·exact ⟨cV,m1⟩
       ·refine ⟨(mQ j hj).1, ?_⟩
        have h5:=(mQ j hj).2
        have cv:i≠j:=fun e=>qt (e▸hj)
        rwa [getD_set_ne true cv] at h5) (af6.2 ⟨qt,dC⟩)
      simpa using this
theorem Qu {id:Nat} (C2:P.follows .mixedOrders=true) (h:pe P n dep os σ g k [] σ' g' k') (hlen:os.length=ops.size) (fP:∀(j:Nat) op,ops[j]? =some op->∃o,os[j]? =some o/\iS P ops op=some o)
  (hd:lu ops.toList dep=true) (c8:iU os dep=true) (hQ:∀a w,ic E0 J base w0 n σ' g' k' a w->Q .normal a w) {a:Act} (hrel:ic E0 J base w0 n σ g k a w) {rd:Option Nat}:(Code.region id ops true).wpIn (dB rd) 0 P Q a w:=by
 refine wpIn_region_any C2 ?_
 obtain ⟨E,rfl,hle,h1,h2,h3,hmk⟩:=hrel.ex
 obtain ⟨E',hw,hE,hM,_,hk,_,_⟩:=h2.drew
 have dA:∀(j:Nat),(Array.replicate ops.size false).getD j false=false:=by
  intro j
  rcases afq j ops.size with h|h
  ·simp [h]
  ·simp [h]
 refine Qq hlen fP hd c8 hQ h 0 [] σ g k .nil (by simp) (by simp) (fun j _=>by simp) (fun j hj=>by omega) ops.size _ a _ ⟨⟨E',hw,hle.trans hE,fun t=>(h1 t).step hE,hM,fun id hh=>h3 id ((hk id).1 hh),hmk.step hE⟩,hrel.size,hrel.below.drew,hrel.gl⟩ (by simp) (fun j=>by rw [dA];simp) fun m hm dC=> ?_
 exact CU _ _ dC fun j hj=>(hm j hj).1
end
open Go.RowKit
inductive AC where
 |skip
 |cC (os:List aN) (dep:Option (List (List Nat)))
 |seq (a b:AC)
 |cond (c:Arg) (a b:AC)
 |block (id:Nat) (a:AC)
 |loop (a:AC)
 |exit (id:Nat)
 |ret
 |yX (g:Arg) (ps:List Nat) (a b:AC)
variable {b y ac:AC}
def AC.me:AC->Bool
 | .seq a b| .cond _ a b=>a.me||b.me
 | .block _ a| .loop a=>a.me
 | .yX _ _ _ _=>true
 |_=>false
def tz (P:Program) (ops:Array Oper):List Oper->Option (List aN)
 |[]=>some []
 |o::r=>match iS P ops o,tz P ops r with
  |some x,some l=>some (x::l)
  |_,_=>none
def C3 (ops:List Oper):List (List Nat):=
 ops.foldl (fun acc o=>acc++[(fb o++(fb o).flatMap fun e=>(acc[e]?).getD []).eraseDups]) []
def cCode (P:Program):Code->Option AC
 | .skip=>some .skip
 | .region _ ops draw=>match tz P ops ops.toList with
  |some os=>if draw=true then
    (if lu ops.toList (C3 ops.toList)=true/\iU os (C3 ops.toList)=true/\P.follows .mixedOrders=true then some (.cC os (some (C3 ops.toList))) else none)
   else some (.cC os none)
  |none=>none
 | .seq a b=>match cCode P a,cCode P b with
  |some x,some y=>some (.seq x y)
  |_,_=>none
 | .cond c a b=>match cArg c,cCode P a,cCode P b with
  |some c,some x,some y=>some (.cond c x y)
  |_,_,_=>none
 | .block id a=>(cCode P a).map (.block id)
 | .loop a=>(cCode P a).map .loop
 | .exit id=>some (.exit id)
 | .ret=>some .ret
 | .rangeFunc g ps a b=>match cArg g,cCode P a,cCode P b with
  |some g,some x,some y=>some (.yX g ps.toList x y)
  |_,_,_=>none
 |_=>none
structure S3 where
 σ:Nat->AV
 g:Nat->Option Bk
 k:Nat
variable {s':S3}
inductive Ex where
 |normal
 |exit (id:Nat)
 |ret
def Ex.up:Ex->Exit
 | .normal=> .normal
 | .exit id=> .exit id
 | .ret=> .ret
def EW (P:Program) (n k0:Nat) (ac:AC) (s:S3) (Q:Ex->S3->Prop):Prop:=
 ∀(rd:Option Nat) (c:Code) (E0:Env) (J:Nat->Prop) (base:Nat) (w0:World) (a:Act) (w:World),(ac.me=true->rd=none)->cCode P c=some ac->(∀id,E0.kn id->id<k0)->ic E0 J base w0 n s.σ s.g s.k a w->
  c.wpIn (dB rd) 0 P (fun e a' w'=>∃x s',Q x s'/\e=x.up/\ic E0 J base w0 n s'.σ s'.g s'.k a' w') a w
section
variable {P:Program} {n k0:Nat} {s:S3} {Q:Ex->S3->Prop}
theorem EW.kJ {Q':Ex->S3->Prop} (h:EW P n k0 ac s Q) (hq:∀x s,Q x s->Q' x s):EW P n k0 ac s Q':=by
 intro rd c E0 J base w0 a w da hc hk hr
 exact wpIn_mono (h rd c E0 J base w0 a w da hc hk hr) fun e a' w' ⟨x,s',h1,h2,h3⟩=>⟨x,s',hq x s' h1,h2,h3⟩
def S3.Le (k0 n:Nat) (s s':S3):Prop:=∀(E0:Env) (J:Nat->Prop) (base:Nat) (w0:World) (a:Act) (w:World),(∀id,E0.kn id->id<k0)->ic E0 J base w0 n s.σ s.g s.k a w->ic E0 J base w0 n s'.σ s'.g s'.k a w
theorem EW.lx (hs:s.Le k0 n s') (h:EW P n k0 ac s' Q):EW P n k0 ac s Q:=by
 intro rd c E0 J base w0 a w da hc hk hr
 exact h rd c E0 J base w0 a w da hc hk (hs E0 J base w0 a w hk hr)
theorem Qv (h:cCode P c=some .skip):c= .skip:=by
 cases c<;>simp [cCode] at h ⊢
 case region id ops draw=>
  split at h
  ·split at h
   ·split at h<;>simp at h
   ·simp at h
  ·simp at h
 case seq a b=>split at h<;>simp at h
 case cond c a b=>split at h<;>simp at h
 case rangeFunc=>split at h<;>simp at h
theorem EW.skip (h:Q .normal s):EW P n k0 .skip s Q:=by
 intro rd c E0 J base w0 a w da hc hk hr
 rw [Qv hc]
 exact wpIn_skip ⟨.normal,s,h,rfl,hr⟩
theorem Qw (h:cCode P c=some .ret):c= .ret:=by
 cases c<;>simp [cCode] at h ⊢
 case region id ops draw=>
  split at h
  ·split at h
   ·split at h<;>simp at h
   ·simp at h
  ·simp at h
 case seq a b=>split at h<;>simp at h
 case cond c a b=>split at h<;>simp at h
 case rangeFunc=>split at h<;>simp at h
theorem EW.ret (h:Q .ret s):EW P n k0 .ret s Q:=by
 intro rd c E0 J base w0 a w da hc hk hr
 rw [Qw hc]
 exact wpIn_ret ⟨.ret,s,h,rfl,hr⟩
theorem Qx {id:Nat} (h:cCode P c=some (.exit id)):c= .exit id:=by
 cases c<;>simp [cCode] at h ⊢
 case region id ops draw=>
  split at h
  ·split at h
   ·split at h<;>simp at h
   ·simp at h
  ·simp at h
 case seq a b=>split at h<;>simp at h
 case cond c a b=>split at h<;>simp at h
 case rangeFunc=>split at h<;>simp at h
 case exit=>exact h
theorem EW.exit {id:Nat} (h:Q (.exit id) s):EW P n k0 (.exit id) s Q:=by
 intro rd c E0 J base w0 a w da hc hk hr
 rw [Qx hc]
 exact wpIn_exit ⟨.exit id,s,h,rfl,hr⟩
theorem Qy {x:AC} (h:cCode P c=some (.seq x y)):∃a b,c= .seq a b/\cCode P a=some x/\cCode P b=some y:=by
 cases c with
 |seq a b=>
  simp only [cCode] at h
  split at h
  ·rename_i h1 h2
   simp only [aeF,AC.seq.injEq] at h
   obtain ⟨rfl,rfl⟩:=h
   exact ⟨a,b,rfl,h1,h2⟩
  ·simp at h
 |_=>
  exfalso
  simp only [cCode] at h
  repeat' (first|(simp at h;done)|split at h)
def Ex.then (next:S3->Prop) (Q:Ex->S3->Prop):Ex->S3->Prop
 | .normal,s=>next s
 |e,s=>Q e s
theorem EW.seq {x y:AC} (h:EW P n k0 x s (Ex.then (fun s'=>EW P n k0 y s' Q) Q)):EW P n k0 (.seq x y) s Q:=by
 intro rd c E0 J base w0 a w da hc hk hr
 obtain ⟨ca,cb,rfl,h1,h2⟩:=Qy hc
 refine wpIn_seq (wpIn_mono (h rd ca E0 J base w0 a w (fun hh=>da (by simp [AC.me,hh])) h1 hk hr) ?_)
 rintro e a' w' ⟨x,s',hq,rfl,hr'⟩
 cases x with
 |normal=>exact hq rd cb E0 J base w0 a' w' (fun hh=>da (by simp [AC.me,hh])) h2 hk hr'
 |exit id=>exact ⟨.exit id,s',hq,rfl,hr'⟩
 |ret=>exact ⟨.ret,s',hq,rfl,hr'⟩
theorem Iy {b:Arg} {x:AC} (h:cCode P c=some (.cond b x y)):∃o p q,c= .cond o p q/\cArg o=some b/\cCode P p=some x/\cCode P q=some y:=by
 cases c with
 |cond c p q=>
  simp only [cCode] at h
  split at h
  ·rename_i h1 h2 h3
   simp only [aeF,AC.cond.injEq] at h
   obtain ⟨rfl,rfl,rfl⟩:=h
   exact ⟨c,p,q,rfl,h1,h2,h3⟩
  ·simp at h
 |_=>
  exfalso
  simp only [cCode] at h
  repeat' (first|(simp at h;done)|split at h)
theorem EW.cond {b:Arg} {x y:AC} {t:Bool} (hb:aR s.σ b= .v (.bool t)) (h:EW P n k0 (if t=true then x else y) s Q):EW P n k0 (.cond b x y) s Q:=by
 intro rd c E0 J base w0 a w da hc hk hr
 obtain ⟨o,p,q,rfl,h1,h2,h3⟩:=Iy hc
 obtain ⟨E,rfl,hle,hs,hm,bK,hmk⟩:=hr.ex
 have:=fA.of (hr.gl.step hle) hs o b h1
 rw [hb] at this
 refine wpIn_cond this.l0 ?_
 cases t with
 |true=>exact h rd p E0 J base w0 a _ (fun hh=>da (by simp only [aeI] at hh;simp [AC.me,hh])) h2 hk hr
 |false=>exact h rd q E0 J base w0 a _ (fun hh=>da (by simp only [afG,ae9] at hh;simp [AC.me,hh])) h3 hk hr
theorem Qz (h:aj E v .dP):∃t,v= .bool t:=by
 cases h with
 |dP=>exact ⟨_,rfl⟩
theorem EW.C4 {b:Arg} {x:AC} (hb:aR s.σ b= .dP) (oT:EW P n k0 x s Q) (yY:EW P n k0 y s Q):EW P n k0 (.cond b x y) s Q:=by
 intro rd c E0 J base w0 a w da hc hk hr
 obtain ⟨o,p,q,rfl,h1,h2,h3⟩:=Iy hc
 obtain ⟨E,rfl,hle,hs,hm,bK,hmk⟩:=hr.ex
 have:=fA.of (hr.gl.step hle) hs o b h1
 rw [hb] at this
 obtain ⟨t,ht⟩:=Qz this
 refine wpIn_cond ht ?_
 cases t with
 |true=>exact oT rd p E0 J base w0 a _ (fun hh=>da (by simp [AC.me,hh])) h2 hk hr
 |false=>exact yY rd q E0 J base w0 a _ (fun hh=>da (by simp [AC.me,hh])) h3 hk hr
theorem QA {id:Nat} {x:AC} (h:cCode P c=some (.block id x)):∃b,c= .block id b/\cCode P b=some x:=by
 cases c with
 |block i b=>
  simp only [cCode] at h
  cases hb:cCode P b with
  |none=>simp [hb] at h
  |some y=>
   simp only [hb,aeT,aeF,AC.block.injEq] at h
   obtain ⟨rfl,rfl⟩:=h
   exact ⟨b,rfl,hb⟩
 |_=>
  exfalso
  simp only [cCode] at h
  repeat' (first|(simp at h;done)|split at h)
def Ex.inBlock (id:Nat) (Q:Ex->S3->Prop):Ex->S3->Prop
 | .exit i,s=>if i=id then Q .normal s else Q (.exit i) s
 |e,s=>Q e s
theorem EW.block {id:Nat} {x:AC} (h:EW P n k0 x s (Ex.inBlock id Q)):EW P n k0 (.block id x) s Q:=by
 intro rd c E0 J base w0 a w da hc hk hr
 obtain ⟨b,rfl,h1⟩:=QA hc
 refine wpIn_block (wpIn_mono (h rd b E0 J base w0 a w (fun hh=>da (by simp only [AC.me];exact hh)) h1 hk hr) ?_)
 rintro e a' w' ⟨x,s',hq,rfl,hr'⟩
 cases x with
 |normal=>exact ⟨.normal,s',hq,rfl,hr'⟩
 |exit i=>
  simp only [Ex.inBlock] at hq
  simp only [Ex.up,Exit.inBlock]
  split
  ·rename_i hi;rw [aeG hi] at hq;exact ⟨.normal,s',hq,rfl,hr'⟩
  ·rename_i hi;rw [aeE hi] at hq;exact ⟨.exit i,s',hq,rfl,hr'⟩
 |ret=>exact ⟨.ret,s',hq,rfl,hr'⟩
theorem QB {x:AC} (h:cCode P c=some (.loop x)):∃b,c= .loop b/\cCode P b=some x:=by
 cases c with
 |loop b=>
  simp only [cCode] at h
  cases hb:cCode P b with
  |none=>simp [hb] at h
  |some y=>
   simp only [hb,aeT,aeF,AC.loop.injEq] at h
   subst h
   exact ⟨b,rfl,hb⟩
 |_=>
  exfalso
  simp only [cCode] at h
  repeat' (first|(simp at h;done)|split at h)
theorem QC {F:Fence} {nn:Nat} {Q:Exit->Act->World->Prop} {a:Act} (I:Nat->Act->World->Prop) {m:Nat} (QD:I m a w)
  (round:∀m a w,I m a w->c.wpIn F nn P (Exit.then (fun a' w'=>∃m',m'<m/\I m' a' w') Q) a w):(Code.loop c).wpIn F nn P Q a w:=by
 intro b k cs QE hb hr
 have key:∀m a w,I m a w->∃e a' w',Q e a' w'/\ArrivesIn (Machine.fenced P F) P (lone (b.atR a (.code c:: .inLoop c::k)) cs w) b k cs e a' w':=by
  intro m
  induction m using Nat.strongRecOn with
  |_ m ih=>
   intro a w hI
   obtain ⟨e,tA,tC,hq,qw⟩:=round m a w hI b (.inLoop c::k) cs QE hb hr
   cases e with
   |normal=>
    obtain ⟨m',hlt,QF⟩:=hq
    obtain ⟨QG,QH,QI,QJ,QK⟩:=ih m' hlt tA tC QF
    exact ⟨QG,QH,QI,QJ, .of_steps (StepsIn.trans qw (.one (fenced_calm hb hr rfl) stepR_inLoop)) QK⟩
   |exit id=>exact ⟨_,tA,tC,hq, .pass (x:= .inLoop c) rfl (fun _ _=> .inl (by simp)) qw⟩
   |goto l=>exact ⟨_,tA,tC,hq, .pass (x:= .inLoop c) rfl (fun _ _=> .inl (by simp)) qw⟩
   |ret=>exact ⟨_,tA,tC,hq, .pass (x:= .inLoop c) rfl (fun _ _=> .inl (by simp)) qw⟩
   |panic ch=>exact ⟨_,tA,tC,hq, .pass (x:= .inLoop c) rfl (fun _ _=> .inl (by simp)) qw⟩
   |outgrown=>exact ⟨_,tA,tC,hq, .pass (x:= .inLoop c) rfl (fun _ _=> .inl (by simp)) qw⟩
 obtain ⟨e,a',w',hq,qw⟩:=key m a w QD
 exact ⟨e,a',w',hq, .of_steps (.one (fenced_calm hb hr rfl) stepR_loop) qw⟩
theorem EW.loop {x:AC} (I:Nat->S3->Prop) {m:Nat} (h0:I m s) (round:∀m s,I m s->EW P n k0 x s (Ex.then (fun s'=>∃m',m'<m/\I m' s') Q)):EW P n k0 (.loop x) s Q:=by
 intro rd c E0 J base w0 a w da hc hk hr
 obtain ⟨b,rfl,h1⟩:=QB hc
 refine QC (fun m a w=>∃s,I m s/\ic E0 J base w0 n s.σ s.g s.k a w) (m:=m) ⟨s,h0,hr⟩ ?_
 rintro m a w ⟨s,hI,hr⟩
 refine wpIn_mono (round m s hI rd b E0 J base w0 a w (fun hh=>da (by simp only [AC.me];exact hh)) h1 hk hr) ?_
 rintro e a' w' ⟨x,s',hq,rfl,hr'⟩
 cases x with
 |normal=>
  obtain ⟨m',hm,m4⟩:=hq
  exact ⟨m',hm,s',m4,hr'⟩
 |exit id=>exact ⟨.exit id,s',hq,rfl,hr'⟩
 |ret=>exact ⟨.ret,s',hq,rfl,hr'⟩
theorem vR {ops:Array Oper}:∀{l:List Oper} {os:List aN},tz P ops l=some os->l.length=os.length/\∀(j:Nat) op,l[j]? =some op->∃o,os[j]? =some o/\iS P ops op=some o
 |[],os,h=>by simp only [tz,aeF] at h;subst h;exact ⟨rfl,fun j op hj=>by simp at hj⟩
 |o::r,os,h=>by
  simp only [tz] at h
  split at h
  ·rename_i x l h1 h2
   simp only [aeF] at h;subst h
   obtain ⟨k1,k2⟩:=vR h2
   refine ⟨by simp [k1],fun j op hj=> ?_⟩
   cases j with
   |zero=>simp at hj;subst hj;exact ⟨x,rfl,h1⟩
   |succ j=>simp at hj ⊢; exact k2 j op hj
  ·simp at h
theorem yZ {dep:Option (List (List Nat))} (h:cCode P c=some (.cC os dep)):∃id ops draw,c= .region id ops draw/\tz P ops ops.toList=some os/\
  ((draw=false/\dep=none)\/(draw=true/\∃d,dep=some d/\lu ops.toList d=true/\iU os d=true/\P.follows .mixedOrders=true)):=by
 cases c with
 |region id ops draw=>
  simp only [cCode] at h
  split at h
  ·rename_i os' h1
   split at h
   ·rename_i hd
    split at h
    ·rename_i hc
     simp only [aeF,AC.cC.injEq] at h
     obtain ⟨rfl,rfl⟩:=h
     exact ⟨id,ops,draw,rfl,h1, .inr ⟨hd,_,rfl,hc.1,hc.2.1,hc.2.2⟩⟩
    ·simp at h
   ·rename_i hd
    simp only [aeF,AC.cC.injEq] at h
    obtain ⟨rfl,rfl⟩:=h
    exact ⟨id,ops,draw,rfl,h1, .inl ⟨by simpa using hd,rfl⟩⟩
  ·simp at h
 |_=>
  exfalso
  simp only [cCode] at h
  repeat' (first|(simp at h;done)|split at h)
theorem EW.cC {os:List aN} {s':S3} (h:jP P n k0 os s.σ s.g s.k s'.σ s'.g s'.k) (hq:Q .normal s'):EW P n k0 (.cC os none) s Q:=by
 intro rd c E0 J base w0 a w da hc hk hr
 obtain ⟨id,ops,draw,rfl,h1,h2⟩:=yZ hc
 rcases h2 with ⟨rfl,_⟩|⟨_,d,hd,_⟩
 ·obtain ⟨k1,k2⟩:=vR h1
  refine wpIn_region ?_
  have aZ:ops.size=os.length:=by rw [<-k1];simp
  rw [List.range_eq_range',aZ]
  refine Ik (ops:=ops) hk h 0 a w (fun j hj=> ?_) hr fun a' w' hr'=>⟨.normal,s',hq,rfl,hr'⟩
  have pb:j<ops.size:=by omega
  obtain ⟨o,m1,m2⟩:=k2 j ops[j] (by simp [pb])
  exact ⟨ops[j],by rw [aeW];exact aeV pb,o,m1,m2⟩
 ·simp at hd
theorem EW.draw {os:List aN} {dep:List (List Nat)} {s':S3} (h:pe P n dep os s.σ s.g s.k [] s'.σ s'.g s'.k) (hq:Q .normal s'):EW P n k0 (.cC os (some dep)) s Q:=by
 intro rd c E0 J base w0 a w da hc hk hr
 obtain ⟨id,ops,draw,rfl,h1,h2⟩:=yZ hc
 rcases h2 with ⟨rfl,hh⟩|⟨rfl,d,hd,h3,h4,h5⟩
 ·simp at hh
 ·simp only [aeF] at hd
  subst hd
  obtain ⟨k1,k2⟩:=vR h1
  refine Qu h5 h (by rw [<-k1];simp) (fun j op hj=>k2 j op (by simpa using hj)) h3 h4 (fun a' w' hr'=>⟨.normal,s',hq,rfl,hr'⟩) hr
end
open Go.RowKit
inductive m5 where
 |tmp (t:Nat)
 |cell (t:Nat) (m:Option Nat)
structure ba where
 n:Nat
 res:List m5
 code:AC
def cRes (P:Program):List ResultVar->Option (List m5)
 |[]=>some []
 | .tmp t::r=>(cRes P r).map (.tmp t:: ·)
 | .cell a t::r=>match lV P t,cRes P r with
  |some m,some l=>some (.cell a m::l)
  |_,_=>none
def cFunc (P:Program) (f:FuncId):Option ba:=
 match P.funcs[f]? with
 |some fn=>match fn.body with
  |some c=>match cRes P fn.results.toList,cCode P c with
   |some res,some code=>some ⟨fn.ntmps,res,code⟩
   |_,_=>none
  |none=>none
 |none=>none
def vS (m:Option Nat):AV->RM AV
 | .pim cs o=> .opt (getCells cs o m)
 | .ref id sz i o=> .rd id fun B=>if B.sz=sz then .opt (B.els[i]?.bind fun cs=>getCells cs o m) else .fail
 |_=> .fail
def nX (σ:Nat->AV):List m5->RM (List AV)
 |[]=> .ret []
 | .tmp t::r=>(nX σ r).bind fun l=> .ret (σ t::l)
 | .cell t m::r=>(vS m (σ t)).bind fun a=>(nX σ r).bind fun l=> .ret (a::l)
def pg:List AV->AV
 |[a]=>a
 |l=> .bm l
def ig (σ:Nat->AV) (rs:List m5):RM AV:=(nX σ rs).bind fun l=> .ret (pg l)
def ph:AV->RM AV
 | .bm vs=>(fF vs).bind fun l=> .ret (.bm l)
 |a=>fp a
section
variable {P:Program} {E:Env} {J:Nat->Prop} {base:Nat} {g:Nat->Option Bk} {σ:Nat->AV}
theorem QL (hm:aS E J base g) {m:Option Nat} (ht:lV P t=some m) {x:AV} (hv:aj E v x) (h:(vS m x).run g=some a):∃v',(do loadVar t (<-asAddr v):Sem Value).run P E.w= .ok v' E.w/\aj E v' a:=by
 unfold vS at h
 split at h
 ·rename_i cs o
  cases hg:getCells cs o m with
  |none=>simp [hg,RM.opt,RM.run] at h
  |some a'=>
   simp [hg,RM.opt,RM.run] at h
   subst h
   cases hv with
   |pim u hb hq hu iN hr=>
    obtain ⟨v',hl,hr'⟩:=yF (P:=P) ht hq u hu hr hg
    exact ⟨v',by simp [asAddr,hl],hr'⟩
 ·rename_i id sz i o
  simp only [RM.run] at h
  cases hgi:g id with
  |none=>simp [hgi] at h
  |some B=>
   simp only [hgi] at h
   split at h
   ·rename_i aZ
    cases hei:B.els[i]? with
    |none=>simp [hei,RM.opt,RM.run] at h
    |some cs=>
     cases hg:getCells cs o m with
     |none=>simp [hei,hg,RM.opt,RM.run] at h
     |some a'=>
      simp [hei,hg,RM.opt,RM.run] at h
      subst h
      cases hv with
      | @ref _ _ _ _ b q hi hd hb hq=>
       have cL:=hm.at_ id B hgi
       rw [hb] at cL
       have k9:∀(j:Nat) (x:AV),cs[j]? =some x->∃u,E.w.cell? ⟨b,i*B.sz+j,none⟩=some u/\u.oneCell'=true/\aj E u x:=fun j x hj=>cL.cell hei hj
       obtain ⟨v',hl,hr'⟩:=yF (P:=P) (E:=E) (cs:=cs) ht (b:=b) (off:=i*sz) hq (fun j=>(E.w.cell? ⟨b,i*sz+j,none⟩).getD undef)
        (fun j x hj=>by obtain ⟨u,k1,_,_⟩:=k9 j x hj;rw [aZ] at k1;simp [k1])
        (fun j x hj=>by obtain ⟨u,k1,_,k3⟩:=k9 j x hj;rw [aZ] at k1;simpa [k1] using k3) hg
       exact ⟨v',by simp [asAddr,hl],hr'⟩
      |gL hi hd=>exact absurd hd ((hm.live id).2 ⟨B,hgi⟩).2
   ·simp [RM.run] at h
 ·simp [RM.run] at h
def y4 (tmps:Array Value):ResultVar->Sem Value
 | .tmp t=>pure (tmps.getD t undef)
 | .cell a t=>do loadVar t (<-asAddr (tmps.getD a undef))
theorem QM (fn:Func) (tmps:Array Value):results fn tmps=(do
  let vs<-fn.results.mapM (y4 tmps)
  pure (if h:vs.size=1 then vs[0] else .tuple vs)):=by
 unfold results
 congr 1
theorem C5 (hm:aS E J base g) {tmps:Array Value} (hs:∀t,aj E (tmps.getD t undef) (σ t)):∀{rs:List ResultVar} {qx:List m5} {l:List AV},cRes P rs=some qx->(nX σ qx).run g=some l->
  ∃vs:List Value,(rs.mapM (y4 tmps)).run P E.w= .ok vs E.w/\vs.length=l.length/\∀(i:Nat) v c,vs[i]? =some v->l[i]? =some c->aj E v c
 |[],qx,l,hc,h=>by
  simp only [cRes,aeF] at hc;subst hc
  simp only [nX,RM.run,aeF] at h;subst h
  exact ⟨[],by simp,rfl,fun i v c hv=>by simp at hv⟩
 | .tmp t::r,qx,l,hc,h=>by
  simp only [cRes] at hc
  cases hr:cRes P r with
  |none=>simp [hr] at hc
  |some ar=>
   simp only [hr,aeT,aeF] at hc;subst hc
   simp only [nX] at h
   obtain ⟨l',h1,h2⟩:=dW h
   simp only [RM.run,aeF] at h2;subst h2
   obtain ⟨vs,k1,k2,k3⟩:=C5 hm hs hr h1
   refine ⟨tmps.getD t undef::vs,by rw [List.mapM_cons,afs,y4,Sem.run_pure,agn,afs,k1];rfl,by simp [k2],fun i v c hv hc=> ?_⟩
   cases i with
   |zero=>simp at hv hc;subst hv;subst hc;simpa using hs t
   |succ i=>simp at hv hc;exact k3 i v c hv hc
 | .cell a t::r,qx,l,hc,h=>by
  simp only [cRes] at hc
  split at hc
  ·rename_i m ar eZ hr
   simp only [aeF] at hc;subst hc
   simp only [nX] at h
   obtain ⟨x,h1,h⟩:=dW h
   obtain ⟨l',h2,h3⟩:=dW h
   simp only [RM.run,aeF] at h3;subst h3
   obtain ⟨vs,k1,k2,k3⟩:=C5 hm hs hr h2
   obtain ⟨v',e1,e2⟩:=QL (P:=P) hm eZ (hs a) h1
   refine ⟨v'::vs, ?_,by simp [k2],fun i v c hv hc=> ?_⟩
   ·rw [List.mapM_cons,afs,y4,e1,agn,afs,k1]
    rfl
   ·cases i with
    |zero=>simp at hv hc;subst hv;subst hc;exact e2
    |succ i=>simp at hv hc;exact k3 i v c hv hc
  ·simp at hc
theorem Iz (hm:aS E J base g) {tmps:Array Value} (hs:∀t,aj E (tmps.getD t undef) (σ t)) {qx:List m5} (hc:cRes P fn.results.toList=some qx) (h:(ig σ qx).run g=some r):∃v,(results fn tmps).run P E.w= .ok v E.w/\aj E v r:=by
 obtain ⟨l,h1,h2⟩:=dW h
 simp only [RM.run,aeF] at h2
 obtain ⟨vs,k1,k2,k3⟩:=C5 hm hs hc h1
 refine ⟨if h:vs.toArray.size=1 then vs.toArray[0] else .tuple vs.toArray, ?_, ?_⟩
 ·rw [QM,Array.mapM_eq_mapM_toList,afs,Sem.run_map,k1]
  rfl
 ·subst h2
  cases vs with
  |nil=>
   have:l=[]:=afQ (by simpa using k2.symm)
   subst this
   exact .bm rfl (fun i v c hv=>by simp at hv)
  |cons v vs=>
   cases vs with
   |nil=>
    obtain ⟨a,rfl⟩:∃a,l=[a]:=by
     cases l with
     |nil=>simp at k2
     |cons a l=>cases l with
      |nil=>exact ⟨a,rfl⟩
      |cons=>simp at k2
    simpa [pg] using k3 0 v a rfl rfl
   |cons v' vs=>
    rw [dif_neg (by simp)]
    have e:pg l= .bm l:=by
     cases l with
     |nil=>rfl
     |cons a l=>cases l with
      |nil=>simp at k2
      |cons=>rfl
    rw [e]
    exact .bm (by simpa using k2) (fun i v c hv hc=>k3 i v c (by simpa using hv) hc)
end
theorem IA {F:ba} (h:cFunc P f=some F):∃fn c,P.funcs[f]? =some fn/\fn.body=some c/\cRes P fn.results.toList=some F.res/\cCode P c=some F.code/\fn.ntmps=F.n:=by
 unfold cFunc at h
 split at h
 ·rename_i fn h1
  split at h
  ·rename_i c h2
   split at h
   ·rename_i res code h3 h4
    simp only [aeF] at h;subst h
    exact ⟨fn,c,h1,h2,h3,h4,rfl⟩
   ·simp at h
  ·simp at h
 ·simp at h
def dL (as_:List AV) (t:Nat):AV:=(as_[t]?).getD (.v undef)
theorem IB (h:RC E vs as_) (m:Nat):∀t,aj E ((vs++Array.replicate m undef).getD t undef) (dL as_ t):=by
 intro t
 unfold dL
 by_cases ht:t<vs.size
 ·have IC:t<as_.length:=by rw [<-h.1];exact ht
  rw [aeL IC]
  simp only [afz,agx]
  rw [agJ ht,aeV ht]
  exact h.2 t _ _ (aeV ht) (aeL IC)
 ·rw [afM (by rw [<-h.1];omega)]
  simp only [age,agx]
  rw [Array.getElem?_append_right (by omega)]
  have:(Array.replicate m undef)[t - vs.size]?.getD undef=undef:=by
   rcases afq (t - vs.size) m with h|h
   ·simp [h]
   ·simp [h]
  rw [this]
  exact .v rfl
theorem aj.C6 (hc:∀b o,w'.cell? ⟨b,o,none⟩=E.w.cell? ⟨b,o,none⟩) (hs:∀b,w'.shape? b=E.w.shape? b) (hl:∀(b:Nat) r,E.w.heap[b]? =some (.loop r)->w'.heap[b]? =some (.loop r)) (h:aj E v a):aj { E with w:=w' } v a:=by
 induction h with
 |v h=>exact .v h
 |agg hl h ih=>exact .agg hl ih
 |bm hl h ih=>exact .bm hl ih
 |fy hc=>exact .fy hc
 |gA u hn hl hcc hb hz hu h1 h ih=>exact .gA u hn hl hcc hb hz (fun i cs j x hi hj=>(hc _ _).trans (hu i cs j x hi hj)) h1 ih
 |db h ih=>exact .db ih
 |emp=>exact .emp
 |pim u hb hq hu h1 h ih=>exact .pim u hb hq (fun j x hj=>(hc _ _).trans (hu j x hj)) h1 ih
 |ref hi hd hb hq=>exact .ref hi hd hb hq
 |own hi hd hb hq vT hm hl hcc bJ=>exact .own hi hd hb hq ((hs _).trans vT) hm hl hcc bJ
 |cK hi hd hb bJ=>exact .cK hi hd hb bJ
 |gL hi hd ho=>exact .gL hi hd ho
 |du hi hd ho=>exact .du hi hd ho
 |mp hi hd hb=>exact .mp hi hd hb
 |k8 hi hd ho=>exact .k8 hi hd ho
 |fn hl h ih=>exact .fn hl ih
 |bf hl h ih=>exact .bf hl ih
 |fw hg hI hh e8 h ih=>exact .fw hg hI (hl _ _ hh) e8 ih
 |dP=>exact .dP
 |dead=>exact .dead
theorem aS.C6 (hm:aS E J base g) (hR:∀{v a},aj E v a->aj { E with w:=w' } v a) (k9:∀(b:Nat) arr t x,E.w.heap[b]? =some (.cells arr t x)->w'.heap[b]? =some (.cells arr t x)) (C7:∀(b:Nat) es c,E.w.heap[b]? =some (.map es c)->w'.heap[b]? =some (.map es c)) (aZ:w'.heap.size=E.w.heap.size):aS { E with w:=w' } J base g:=by
 refine ⟨hm.live,fun id B hg=> ?_,hm.apart,hm.out,fun b hb=>⟨by show b<w'.heap.size;rw [aZ];exact (hm.low b hb).1,(hm.low b hb).2⟩,by show base<=w'.heap.size;rw [aZ];exact hm.size,hm.len,hm.ku,fun b hb=>⟨by show b<w'.heap.size;rw [aZ];exact (hm.xo b hb).1,(hm.xo b hb).2⟩⟩
 have:=hm.at_ id B hg
 show dJ { E with w:=w' } base B (E.loc id)
 cases hl:E.loc id with
 |none=>rw [hl] at this;exact this
 |some b=>
  rw [hl] at this
  obtain ⟨h1,⟨hz,arr,t,h2,h3,h4⟩|⟨hz,es,c,h2,h3,h4⟩⟩:=this
  ·refine .lU ⟨h1,arr,t,k9 _ _ _ _ h2,h3,fun i cs hi=>⟨(h4 i cs hi).1,fun j x hj=> ?_⟩⟩ hz
   obtain ⟨u,k1,k2,k3⟩:=(h4 i cs hi).2 j x hj
   exact ⟨u,k1,k2,hR k3⟩
  ·refine .ofMap ⟨h1,es,c,C7 _ _ _ h2,h3,fun i e cs he hi=> ?_⟩ hz
   obtain ⟨x,k1,k2,k3⟩:=h4 i e cs he hi
   exact ⟨x,k1,k2,hR k3⟩
structure lA (lo:Nat) (E E':Env):Prop where
 rep:∀{v a},aj E v a->aj E' v a
 mem:∀{J base g},aS E J base g->aS E' J base g
 heap:∀b,b<lo->E'.w.heap[b]? =E.w.heap[b]?
 size:E'.w.heap.size=E.w.heap.size
 shape:∀b,E'.w.shape? b=E.w.shape? b
 eqs:E'.kn=E.kn/\E'.dead=E.dead/\E'.loc=E.loc/\E'.ln=E.ln/\E'.I=E.I/\E'.rg=E.rg/\E'.X=E.X
 below:∀{base w0},base<=lo->Below base w0 E.w->Below base w0 E'.w
theorem lA.refl (lo:Nat) (E:Env):lA lo E E:=⟨fun h=>h,fun h=>h,fun _ _=>rfl,rfl,fun _=>rfl,⟨rfl,rfl,rfl,rfl,rfl,rfl,rfl⟩,fun _ h=>h⟩
theorem lA.le {E0:Env} (h:lA lo E E') (hle:E0.Le E) (hI:∀b,E0.I b->b<lo) (hX:∀b,E0.X b->b<lo):E0.Le E':=by
 obtain ⟨q1,q2,q3,q4,q5,q6,q7⟩:=h.eqs
 refine ⟨fun id hi=>by rw [q1];exact hle.kn id hi,fun b hb=>⟨by rw [q5];exact (hle.gB b hb).1,(h.heap b (hI b hb)).trans (hle.gB b hb).2⟩,fun id hi hd=>by rw [q2];exact hle.dead id hi hd,fun id hi hd=>by rw [q2,q3];exact hle.loc id hi hd,fun id b hi hd hb=>by rw [q2,h.shape];exact hle.shape id b hi hd hb,fun id hi hd=>by rw [q2,q4];exact hle.ln id hi hd,fun l hg=>by rw [q6];exact hle.rg l hg,fun b hb=>⟨by rw [q7];exact (hle.fx b hb).1,(h.heap b (hX b hb)).trans (hle.fx b hb).2⟩⟩
theorem QN {o:Obj} (o':Obj) (hh:w.heap[D]? =some o) (ho:o.isCells=false) (la:o'.isCells=false):
  (∀b k,(w.putObj D o').cell? ⟨b,k,none⟩=w.cell? ⟨b,k,none⟩)/\(∀b,(w.putObj D o').shape? b=w.shape? b)/\∀(b:Nat) arr t x,w.heap[b]? =some (.cells arr t x)->(w.putObj D o').heap[b]? =some (.cells arr t x):=by
 have hlt:=(afx.1 hh).1
 have hs:=World.putObj_heap_same (w:=w) (o:=o') hlt
 refine ⟨fun b k=> ?_,fun b=> ?_,fun b arr t x hb=> ?_⟩
 ·by_cases hb:b=D
  ·subst hb
   unfold World.cell?
   simp only [hs,hh]
   cases o<;>cases o'<;>simp_all [Obj.isCells]
  ·exact World.cell?_of_block (w:=w) (w':=w.putObj D o') (a:=⟨b,k,none⟩) (agq hb)
 ·by_cases hb:b=D
  ·subst hb
   unfold World.shape?
   simp only [hs,hh]
   cases o<;>cases o'<;>simp_all [Obj.isCells]
  ·unfold World.shape?
   rw [agq hb]
 ·by_cases qy:b=D
  ·subst qy
   rw [hh] at hb
   simp only [aeF] at hb
   subst hb
   simp [Obj.isCells] at ho
  ·rw [agq qy];exact hb
theorem lA.one (hD:lo<=D) (hh:E.w.heap[D]? =some (.deferred (some []))):lA lo E { E with w:=E.w.putObj D (.deferred none) }:=by
 obtain ⟨c1,c2,c3⟩:=QN (.deferred none) hh rfl rfl
 have hR:∀{v a},aj E v a->aj { E with w:=E.w.putObj D (.deferred none) } v a:=fun h=>aj.C6 c1 c2 (fun b r hb=>by
  by_cases qy:b=D
  ·subst qy;rw [hh] at hb;simp at hb
  ·rw [agq qy];exact hb) h
 have C7:∀(b:Nat) es c,E.w.heap[b]? =some (.map es c)->(E.w.putObj D (.deferred none)).heap[b]? =some (.map es c):=fun b es c hb=>by
  by_cases qy:b=D
  ·subst qy;rw [hh] at hb;simp at hb
  ·rw [agq qy];exact hb
 refine ⟨hR,fun hm=>hm.C6 hR c3 C7 (by simp),fun b hb=>agq (by omega),by simp,c2,⟨rfl,rfl,rfl,rfl,rfl,rfl,rfl⟩,fun jR hb=>hb.trans ⟨rfl,rfl,rfl,by simp,fun k hk=>agq (by omega)⟩⟩
theorem lA.trans {lo:Nat} {E E' qi:Env} (h:lA lo E E') (k:lA lo E' qi):lA lo E qi:=by
 obtain ⟨q1,q2,q3,q4,q5,q6,q7⟩:=h.eqs
 obtain ⟨p1,p2,p3,p4,p5,p6,p7⟩:=k.eqs
 exact ⟨fun hr=>k.rep (h.rep hr),fun hm=>k.mem (h.mem hm),fun b hb=>(k.heap b hb).trans (h.heap b hb),k.size.trans h.size,fun b=>(k.shape b).trans (h.shape b),⟨p1.trans q1,p2.trans q2,p3.trans q3,p4.trans q4,p5.trans q5,p6.trans q6,p7.trans q7⟩,fun jR hb=>k.below jR (h.below jR hb)⟩
theorem C8 {P:Program} {fn:Func} {tmps:Array Value} {R:Ending->World->Prop} {lo:Nat}:∀(ds:List Deferred) (E:Env),Mk E lo ds->
  (∀E',lA lo E E'->∃v,(results fn tmps).run P E'.w= .ok v E'.w/\R (.returned v) E'.w)->LeavesInM Fence.wide 0 P fn tmps R ds .returning E.w
 |[],E,_,h=>h E (lA.refl lo E)
 |d::ds,E,hmk,h=>by
  cases hmk with
  | @cons D _ hI hD hh aI t=>
   have h1:=lA.one hD hh
   refine ⟨by simp, .inl ⟨D,_,rfl,run_takeDeferred hh, ?_⟩⟩
   refine C8 ds { E with w:=E.w.putObj D (.deferred none) } ?_ fun E' hS=>h E' (h1.trans hS)
   clear h h1 hh
   induction t with
   |nil=>exact .nil
   | @cons D' ds' m4 QO QP QQ t' ih=>
    have QR:D'≠D:=fun e=>aI _ (afo ..) (by rw [e])
    exact .cons m4 QO ((agq QR).trans QP) QQ (ih fun d hd=>aI d (afi _ hd))
theorem ID {c:Code} (hf:P.funcs[f]? =some fn) (hb:fn.body=some c)
  (h:c.wpIn (dB none) 0 P (fun e a' w'=>(e= .normal\/e= .ret)/\LeavesInM Fence.wide 0 P fn a'.tmps R a'.defers .returning w') { tmps:=args++Array.replicate (fn.ntmps - args.size) undef,defers:=[] } w):Calls P f args w R:=
 (callsIn_wide (n:=0)).1 (callsIn_of_wp_marks (F:=Fence.wide) (n:=0) hf hb trivial (wpIn_mono h fun e a' w' ⟨he,hl⟩=>by
  rcases he with rfl|rfl
  ·exact hl
  ·exact hl) rfl)
open Go.RowKit
structure L3 where
 t:List (Nat×AV)
 m:List (Option Bk)
variable {x':L3}
def slot:List (Nat×AV)->Nat->AV
 |[],_=> .dead
 |(j,v)::r,i=>bif Nat.beq i j then v else slot r i
def vU (d:Nat):List (Nat×AV)->List (Nat×AV)
 |[]=>[]
 |(j,v)::r=>bif Nat.beq j d then vU d r else (j,v)::vU d r
def nY (t:List (Nat×AV)):Option Nat->AV->List (Nat×AV)
 |none,_=>t
 |some d,v=>(d,v)::vU d t
def dstOK (n:Nat):Option Nat->Bool
 |none=>true
 |some d=>Nat.blt d n
def look (m:List (Option Bk)) (id:Nat):Option Bk:=(m[id]?).join
def L3.s (x:L3):S3:=⟨slot x.t,look x.m,x.m.length⟩
def iD (m:List (Option Bk)):List (Nat×Option Bk)->List (Option Bk)
 |[]=>m
 |(id,x)::r=>iD (if id<m.length then m.set id x else m++[x]) r
def upsOK (k:Nat):List (Nat×Option Bk)->Bool
 |[]=>true
 |(id,_)::r=>decide (id<=k)&&upsOK (if id<k then k else k+1) r
theorem QS {t:List (Nat×AV)} {d:Nat} (h:i≠d):slot (vU d t) i=slot t i:=by
 induction t with
 |nil=>rfl
 |cons p r ih=>
  obtain ⟨j,v⟩:=p
  simp only [vU,slot]
  cases hj:Nat.beq j d with
  |true=>
   have:=aeU hj
   subst this
   have hi:Nat.beq i j=false:=by
    cases hb:Nat.beq i j with
    |false=>rfl
    |true=>exact absurd (aeU hb) h
   simp [hi,ih]
  |false=>simp only [ae0,slot,ih]
theorem IE (t:List (Nat×AV)) (d:Option Nat) (hd:dstOK n d=true) (v:AV):slot (nY t d v)=cy n d v (slot t):=by
 funext i
 unfold cy
 cases d with
 |none=>simp [nY]
 |some d=>
  simp only [dstOK] at hd
  have mf:=afv hd
  simp only [nY,slot,aeF]
  by_cases h:d=i
  ·subst h
   have:Nat.beq d d=true:=Nat.beq_refl d
   rw [this,aeG ⟨rfl,mf⟩];rfl
  ·have hb:Nat.beq i d=false:=by
    cases hb:Nat.beq i d with
    |false=>rfl
    |true=>exact absurd (aeU hb).symm h
   rw [hb,aeE (fun hh=>h hh.1)]
   exact QS (fun e=>h e.symm)
theorem C9 (m:List (Option Bk)) (id:Nat) (x:Option Bk) (h:id<=m.length):look (if id<m.length then m.set id x else m++[x])=fun k=>if k=id then x else look m k:=by
 funext k
 unfold look
 by_cases hl:id<m.length
 ·rw [aeG hl,List.getElem?_set]
  by_cases hk:id=k
  ·subst hk;simp [hl]
  ·simp [hk,Ne.symm hk]
 ·rw [aeE hl]
  have:id=m.length:=by omega
  subst this
  by_cases hk:k=m.length
  ·subst hk;simp
  ·rw [aeE hk]
   rcases afq k m.length with h1|h1
   ·rw [afk h1]
   ·rw [afM (by simp;omega),afM (by omega)]
theorem Da:∀(ups:List (Nat×Option Bk)) (m:List (Option Bk)),upsOK m.length ups=true->look (iD m ups)=aJ (look m) ups/\m.length<=(iD m ups).length/\∀id,id∈ups.map Prod.fst->id<(iD m ups).length
 |[],m,_=>⟨rfl,aeO _,fun id h=>by simp at h⟩
 |(i,x)::r,m,h=>by
  simp only [upsOK,aeH,aff] at h
  have hlen:(if i<m.length then m.set i x else m++[x]).length=if i<m.length then m.length else m.length+1:=by split<;>simp
  obtain ⟨h1,h2,h3⟩:=Da r (if i<m.length then m.set i x else m++[x]) (by rw [hlen];exact h.2)
  rw [hlen] at h2
  have e1:m.length<=(if i<m.length then m.length else m.length+1):=by split<;>omega
  have e2:i<(if i<m.length then m.length else m.length+1):=by have:=h.1;split<;>omega
  refine ⟨?_, ?_,fun id hid=> ?_⟩
  ·simp only [iD,aJ]
   rw [h1,C9 m i x h.1]
  ·simp only [iD];omega
  ·simp only [iD]
   simp only [aeR,aeQ] at hid
   rcases hid with rfl|hid
   ·omega
   ·exact h3 id hid
inductive Db where
 |done (val:AV) (ups:List (Nat×Option Bk)) (acc:List Nat)
 |call (f:FuncId) (as_:List AV)
 |stuck
def IF (ao:AO) (x:L3):List Nat:=(ao.aq x.m.length (aR (slot x.t))).acc (look x.m)++(ao.aq x.m.length (aR (slot x.t))).see (look x.m)
def fQ (o:aN) (x:L3):Db:=
 match cB (slot x.t) o.guard with
 |some false=> .done (.v undef) [] []
 |some true=>match (o.ao.aq x.m.length (aR (slot x.t))).run (look x.m) with
  |some (.done val ups)=> .done val ups (IF o.ao x)
  |some (.call f as_)=> .call f as_
  |none=> .stuck
 |none=> .stuck
theorem IG {x:L3} (h:fQ o x= .done val ups acc):fa P (slot x.t) (look x.m) x.m.length o val ups acc:=by
 unfold fQ at h
 split at h
 ·rename_i hg
  simp only [Db.done.injEq] at h
  obtain ⟨rfl,rfl,rfl⟩:=h
  exact .skip hg
 ·rename_i hg
  split at h
  ·rename_i h1
   simp only [Db.done.injEq] at h
   obtain ⟨rfl,rfl,rfl⟩:=h
   exact .done hg h1
  ·simp at h
  ·simp at h
 ·simp at h
def OW (P:Program) (n k0:Nat) (os:List aN) (x:L3) (K:L3->Prop):Prop:=∃x':L3,jP P n k0 os (slot x.t) (look x.m) x.m.length (slot x'.t) (look x'.m) x'.m.length/\K x'
def DW (P:Program) (n:Nat) (dep:List (List Nat)) (os:List aN) (x:L3) (rs:List Rec) (K:L3->Prop):Prop:=
 ∃x':L3,pe P n dep os (slot x.t) (look x.m) x.m.length rs (slot x'.t) (look x'.m) x'.m.length/\K x'
section
variable {P:Program} {n k0:Nat} {x:L3} {K:L3->Prop}
theorem OW.nil (h:K x):OW P n k0 [] x K:=⟨x, .nil,h⟩
theorem OW.cons {o:aN} {os:List aN} {val:AV} {ups:List (Nat×Option Bk)} {acc:List Nat} (hd:dstOK n o.dst=true) (h:fQ o x= .done val ups acc) (hu:upsOK x.m.length ups=true) (hr:OW P n k0 os ⟨nY x.t o.dst val,iD x.m ups⟩ K):OW P n k0 (o::os) x K:=by
 obtain ⟨x',h1,h3⟩:=hr
 simp only [IE _ _ hd] at h1
 obtain ⟨m1,m2,m3⟩:=Da ups x.m hu
 rw [m1] at h1
 exact ⟨x', .cons (IG h) m2 m3 h1,h3⟩
theorem DW.nil {dep:List (List Nat)} {rs:List Rec} (hid:iC rs dep=true) (h:K x):DW P n dep [] x rs K:=⟨x, .nil hid,h⟩
theorem DW.cons {dep:List (List Nat)} {rs:List Rec} {o:aN} {os:List aN} {val:AV} {ups:List (Nat×Option Bk)} {acc:List Nat} (hd:dstOK n o.dst=true) (h:fQ o x= .done val ups acc) (hu:upsOK x.m.length ups=true)
  (hr:DW P n dep os ⟨nY x.t o.dst val,iD x.m ups⟩ (rs++[⟨o.dst,val,ups,acc,x.m.length⟩]) K):DW P n dep (o::os) x rs K:=by
 obtain ⟨x',h1,h4⟩:=hr
 simp only [IE _ _ hd] at h1
 obtain ⟨m1,m2,m3⟩:=Da ups x.m hu
 rw [m1] at h1
 exact ⟨x', .cons (IG h) m2 m3 h1,h4⟩
end
def EL (P:Program) (n k0:Nat) (ac:AC) (x:L3) (Q:Ex->L3->Prop):Prop:=EW P n k0 ac x.s fun e s'=>∃x':L3,s'=x'.s/\Q e x'
section
variable {P:Program} {n k0:Nat} {x:L3} {Q:Ex->L3->Prop}
def Ex.vV (next:L3->Prop) (Q:Ex->L3->Prop):Ex->L3->Prop
 | .normal,s=>next s
 |e,s=>Q e s
theorem EL.kJ {ac:AC} {Q':Ex->L3->Prop} (h:EL P n k0 ac x Q) (hq:∀e x,Q e x->Q' e x):EL P n k0 ac x Q':=EW.kJ h fun e s ⟨x',h1,h3⟩=>⟨x',h1,hq e x' h3⟩
theorem EL.lx {ac:AC} {y:L3} (hs:x.s.Le k0 n y.s) (h:EL P n k0 ac y Q):EL P n k0 ac x Q:=EW.lx hs h
theorem EL.skip (h:Q .normal x):EL P n k0 .skip x Q:=EW.skip ⟨x,rfl,h⟩
theorem EL.ret (h:Q .ret x):EL P n k0 .ret x Q:=EW.ret ⟨x,rfl,h⟩
theorem EL.seq {a b:AC} (h:EL P n k0 a x (Ex.vV (fun x'=>EL P n k0 b x' Q) Q)):EL P n k0 (.seq a b) x Q:=
 EW.seq (EW.kJ h fun e s ⟨x',h1,h3⟩=>by
  cases e with
  |normal=>subst h1;exact h3
  |exit id=>exact ⟨x',h1,h3⟩
  |ret=>exact ⟨x',h1,h3⟩)
theorem EL.cond {b:Arg} {y z:AC} {t:Bool} (hb:aR (slot x.t) b= .v (.bool t)) (h1:t=true->EL P n k0 y x Q) (h2:t=false->EL P n k0 z x Q):EL P n k0 (.cond b y z) x Q:=
 EW.cond hb (by
  cases t with
  |true=>exact h1 rfl
  |false=>exact h2 rfl)
theorem EL.C4 {b:Arg} {y z:AC} (hb:aR (slot x.t) b= .dP) (h1:EL P n k0 y x Q) (h2:EL P n k0 z x Q):EL P n k0 (.cond b y z) x Q:=EW.C4 hb h1 h2
theorem EL.cC {os:List aN} (h:OW P n k0 os x (Q .normal)):EL P n k0 (.cC os none) x Q:=by
 obtain ⟨x',h1,h3⟩:=h
 exact EW.cC (s':=x'.s) h1 ⟨x',rfl,h3⟩
theorem EL.draw {os:List aN} {dep:List (List Nat)} (h:DW P n dep os x [] (Q .normal)):EL P n k0 (.cC os (some dep)) x Q:=by
 obtain ⟨x',h1,h4⟩:=h
 exact EW.draw (s':=x'.s) h1 ⟨x',rfl,h4⟩
theorem S3.Dc {s:S3} (hσ:∀t,s'.σ t=s.σ t\/s'.σ t= .dead\/s.σ t= .v undef/\False) (hg:s'.g=s.g) (hk:s'.k=s.k):s.Le k0 n s':=by
 intro E0 J base w0 a w _ hr
 obtain ⟨E,h1,h2,h3,h4,h5,h6⟩:=hr.ex
 refine ⟨⟨E,h1,h2,fun t=> ?_,by rw [hg];exact h4,by rw [hk];exact h5,h6⟩,hr.size,hr.below,hr.gl⟩
 rcases hσ t with h|h|h
 ·rw [h];exact h3 t
 ·rw [h];exact .dead
 ·exact h.2.elim
end
def qz:Nat->List AV->List (Nat×AV)
 |_,[]=>[]
 |i,a::r=>(i,a)::qz (i+1) r
def start (as_:List AV):L3:=⟨qz 0 as_,[]⟩
theorem Dd:∀(as_:List AV) (i t:Nat),slot (qz i as_) t=if i<=t then (as_[t - i]?).getD .dead else .dead
 |[],i,t=>by simp [qz,slot]
 |a::r,i,t=>by
  simp only [qz,slot]
  by_cases h:t=i
  ·subst h
   rw [Nat.beq_refl];simp
  ·have hb:Nat.beq t i=false:=by
    cases hb:Nat.beq t i with
    |false=>rfl
    |true=>exact absurd (aeU hb) h
   rw [hb,ae0,Dd r (i+1) t]
   by_cases h1:i<=t
   ·rw [aeG h1,aeG (by omega),show t - i=(t - (i+1))+1 by omega,aft]
   ·rw [aeE h1,aeE (by omega)]
theorem IH (as_:List AV) (g:Nat->Option Bk) (k:Nat):(⟨dL as_,g,k⟩:S3).Le k0 n ⟨slot (qz 0 as_),g,k⟩:=by
 refine S3.Dc (fun t=> ?_) rfl rfl
 show slot (qz 0 as_) t=dL as_ t\/_
 rw [Dd,aeG (Nat.zero_le _),Nat.sub_zero]
 unfold dL
 cases h:as_[t]? with
 |none=>exact .inr (.inl (by simp [Dd,h]))
 |some a=>exact .inl rfl
open Go.RowKit
abbrev ow (a:AO):aN:=⟨none,a,none⟩
abbrev on (d:Nat) (a:AO) (g:Nat):aN:=⟨some d,a,some (g,false)⟩
section
variable {P:Program} {T:FuncId->Option ba}
end
open Go.RowKit
def De (o:aN) (x:L3):Option (AV×List (Nat×Option Bk)):=
 match fQ o x with
 | .done v u _=>some (v,u)
 |_=>none
def runN (n:Nat):Nat->List aN->L3->Option L3
 |0,_,x=>some x
 |_+1,[],_=>none
 |k+1,o::os,x=>bif dstOK n o.dst then match De o x with
   |some (v,u)=>bif upsOK x.m.length u then runN n k os ⟨nY x.t o.dst v,iD x.m u⟩ else none
   |none=>none
  else none
def tF:Nat->List aN->L3->List Rec
 |0,_,_=>[]
 |_+1,[],_=>[]
 |k+1,o::os,x=>match fQ o x with
  | .done v u acc=>⟨o.dst,v,u,acc,x.m.length⟩::tF k os ⟨nY x.t o.dst v,iD x.m u⟩
  |_=>[]
def ct (live:List Nat):List (Nat×AV)->List (Nat×AV)
 |[]=>[]
 |(j,v)::r=>bif live.any (Nat.beq j) then (j,v)::ct live r else ct live r
def L3.ct (live:List Nat) (x:L3):L3:=⟨Ytboaekdecndckaa.ct live x.t,x.m⟩
theorem y5 (live:List Nat):∀(t:List (Nat×AV)) (i:Nat),slot (ct live t) i=if live.any (Nat.beq i)=true then slot t i else .dead
 |[],i=>by simp [ct,slot]
 |(j,v)::r,i=>by
  simp only [ct,slot]
  cases hb:Nat.beq i j with
  |true=>
   have:=aeU hb
   subst this
   cases hl:live.any (Nat.beq i) with
   |true=>simp [slot]
   |false=>simp [y5 live r,hl]
  |false=>
   cases hl:live.any (Nat.beq j) with
   |true=>simp [slot,hb,y5 live r]
   |false=>simp [y5 live r]
section
variable {P:Program} {n k0:Nat} {x:L3} {K:L3->Prop} {Q:Ex->L3->Prop} {R:List aN} {k:Nat}
theorem EL.prune (live:List Nat) (h:EL P n k0 ac (x.ct live) Q):EL P n k0 ac x Q:=by
 refine EL.lx (y:=x.ct live) (S3.Dc (fun t=> ?_) rfl rfl) h
 show slot (ct live x.t) t=slot x.t t\/slot (ct live x.t) t= .dead\/_
 rw [y5]
 split
 ·exact .inl rfl
 ·exact .inr (.inl rfl)
theorem II {v:AV} (h:De o x=some (v,u)):∃acc,fQ o x= .done v u acc:=by
 unfold De at h
 split at h
 ·rename_i v' u' acc he
  simp only [aeF,aeX] at h
  obtain ⟨rfl,rfl⟩:=h
  exact ⟨acc,he⟩
 ·simp at h
theorem IJ:∀(c:Nat) (os:List aN) (x x':L3),runN n c os x=some x'->OW P n k0 (os.drop c) x' K->OW P n k0 os x K
 |0,os,x,x',h,hr=>by simp only [runN,aeF] at h;subst h;exact hr
 |c+1,[],x,x',h,hr=>by simp [runN] at h
 |c+1,o::os,x,x',h,hr=>by
  simp only [runN] at h
  cases hd:dstOK n o.dst with
  |false=>rw [hd] at h;simp at h
  |true=>
   rw [hd,aeK] at h
   split at h
   ·rename_i v u hv
    obtain ⟨acc,he⟩:=II hv
    cases hu:upsOK x.m.length u with
    |false=>rw [hu] at h;simp at h
    |true=>
     rw [hu,aeK] at h
     exact OW.cons hd he hu (IJ c os _ x' h hr)
   ·simp at h
theorem IM {dep:List (List Nat)}:∀(c:Nat) (os:List aN) (x x':L3) (rs:List Rec),runN n c os x=some x'->DW P n dep (os.drop c) x' (rs++tF c os x) K->DW P n dep os x rs K
 |0,os,x,x',rs,h,hr=>by simp only [runN,aeF] at h;subst h;simpa [tF] using hr
 |c+1,[],x,x',rs,h,hr=>by simp [runN] at h
 |c+1,o::os,x,x',rs,h,hr=>by
  simp only [runN] at h
  cases hd:dstOK n o.dst with
  |false=>rw [hd] at h;simp at h
  |true=>
   rw [hd,aeK] at h
   split at h
   ·rename_i v u hv
    obtain ⟨acc,he⟩:=II hv
    cases hu:upsOK x.m.length u with
    |false=>rw [hu] at h;simp at h
    |true=>
     rw [hu,aeK] at h
     refine DW.cons hd he hu (IM c os _ x' _ h ?_)
     simp only [tF,he] at hr
     simpa using hr
   ·simp at h
def opD (R:List aN) (k:Nat):aN:=(R[k]?).getD ⟨none, .mov (.c .dead),none⟩
theorem IN (h:Nat.blt k R.length=true):R.drop k=opD R k::R.drop (k+1):=by
 have hk:k<R.length:=afv h
 rw [List.drop_eq_getElem_cons hk]
 simp [opD,hk]
theorem OW.run (c:Nat) (h:runN n c (R.drop k) x=some x') (hr:OW P n k0 (R.drop (k+c)) x' K):OW P n k0 (R.drop k) x K:=
 IJ c _ x x' h (by rw [List.drop_drop];exact hr)
theorem OW.last (c:Nat) (live:List Nat) (h:(runN n c (R.drop k) x).map (L3.ct live)=some x') (he:(R.drop (k+c)).isEmpty=true) (hr:EL P n k0 b x' Q):OW P n k0 (R.drop k) x fun y=>EL P n k0 b y Q:=by
 cases hy:runN n c (R.drop k) x with
 |none=>rw [hy] at h;simp at h
 |some y=>
  rw [hy] at h
  simp only [aeT,aeF] at h
  refine OW.run c hy ?_
  rw [afI.1 he]
  exact OW.nil (EL.prune live (by rw [h];exact hr))
theorem EL.qA (h:OW P n k0 (R.drop 0) x fun y=>EL P n k0 b y Q):EL P n k0 (.seq (.cC R none) b) x Q:=EL.seq (EL.cC (by have:=h;rw [agy] at this;exact this))
theorem DW.run (c:Nat) (h:runN n c (R.drop k) x=some x') (hr:DW P n dep (R.drop (k+c)) x' (rs++tF c (R.drop k) x) K):DW P n dep (R.drop k) x rs K:=
 IM c _ x x' rs h (by rw [List.drop_drop];exact hr)
theorem DW.last (c:Nat) (live:List Nat) (h:(runN n c (R.drop k) x).map (L3.ct live)=some x') (he:((R.drop (k+c)).isEmpty&&iC (rs++tF c (R.drop k) x) dep)=true) (hr:EL P n k0 b x' Q):DW P n dep (R.drop k) x rs fun y=>EL P n k0 b y Q:=by
 simp only [aeH] at he
 cases hy:runN n c (R.drop k) x with
 |none=>rw [hy] at h;simp at h
 |some y=>
  rw [hy] at h
  simp only [aeT,aeF] at h
  refine DW.run c hy ?_
  rw [afI.1 he.1]
  exact DW.nil he.2 (EL.prune live (by rw [h];exact hr))
theorem EL.QT (h:DW P n dep (R.drop 0) x [] fun y=>EL P n k0 b y Q):EL P n k0 (.seq (.cC R (some dep)) b) x Q:=EL.seq (EL.draw (by have:=h;rw [agy] at this;exact this))
def L3.ord (live:List Nat) (x:L3):L3:=⟨live.map fun j=>(j,slot x.t j),x.m⟩
theorem IP (t:List (Nat×AV)):∀(live:List Nat) (i:Nat),slot (live.map fun j=>(j,slot t j)) i=slot t i\/slot (live.map fun j=>(j,slot t j)) i= .dead
 |[],i=> .inr rfl
 |j::r,i=>by
  simp only [aeR,slot]
  cases hb:Nat.beq i j with
  |true=>
   have:=aeU hb
   subst this
   exact .inl rfl
  |false=>exact IP t r i
structure Df (I J:L3->Prop):Prop where
 eq:I=J
theorem Df.get {I J:L3->Prop} (h:Df I J) {y:L3} (hy:J y):I y:=h.eq▸hy
theorem EL.QU {a:AC} (live:List Nat) (J:L3->Prop) (h:∀I:L3->Prop,Df I J->EL P n k0 a x (Ex.vV (fun y=>I (L3.ord live y)) Q)) (hb:∀y,J y->EL P n k0 b y Q):EL P n k0 (.seq a b) x Q:=by
 refine EL.seq (EL.kJ (h J ⟨rfl⟩) fun e y hy=> ?_)
 cases e with
 |normal=>
  refine EL.lx (y:=L3.ord live y) (S3.Dc (fun t=> ?_) rfl rfl) (hb _ hy)
  rcases IP y.t live t with h|h
  ·exact .inl h
  ·exact .inr (.inl h)
 |exit i=>exact hy
 |ret=>exact hy
theorem tN {f:L3->Prop} (h:f x):Ex.vV f Q .normal x:=h
theorem tR {f:L3->Prop} (h:Q .ret x):Ex.vV f Q .ret x:=h
theorem EL.IQ {b:Arg} {z:AC} (hb:aR (slot x.t) b= .v (.bool false)) (h:EL P n k0 z x Q):EL P n k0 (.cond b y z) x Q:=EL.cond hb (fun e=>by simp at e) (fun _=>h)
abbrev VI (n:Int):AV:= .v (.int .i64 n)
abbrev LS:=List (Nat×AV)
end
open Go.RowKit
section
variable {P:Program} {n k0:Nat} {x:L3} {K:L3->Prop} {Q:Ex->L3->Prop} {R:List aN} {k:Nat}
theorem OW.m7 {v:AV} (hl:Nat.blt k R.length=true) (h:fQ (opD R k) x= .done v u acc) (hx:(bif dstOK n (opD R k).dst&&upsOK x.m.length u then some (⟨nY x.t (opD R k).dst v,iD x.m u⟩:L3) else none)=some x') (hr:OW P n k0 (R.drop (k+1)) x' K):OW P n k0 (R.drop k) x K:=by
 rw [IN hl]
 cases hd:(dstOK n (opD R k).dst&&upsOK x.m.length u) with
 |false=>rw [hd] at hx;simp at hx
 |true=>
  rw [hd,aeK] at hx
  simp only [aeF] at hx
  subst hx
  simp only [aeH] at hd
  exact OW.cons hd.1 h hd.2 hr
theorem DW.m7 {v:AV} (hl:Nat.blt k R.length=true) (h:fQ (opD R k) x= .done v u acc) (hx:(bif dstOK n (opD R k).dst&&upsOK x.m.length u then some (⟨nY x.t (opD R k).dst v,iD x.m u⟩:L3) else none)=some x') (hr:DW P n dep (R.drop (k+1)) x' (rs++[⟨(opD R k).dst,v,u,acc,x.m.length⟩]) K):DW P n dep (R.drop k) x rs K:=by
 rw [IN hl]
 cases hd:(dstOK n (opD R k).dst&&upsOK x.m.length u) with
 |false=>rw [hd] at hx;simp at hx
 |true=>
  rw [hd,aeK] at hx
  simp only [aeF] at hx
  subst hx
  simp only [aeH] at hd
  exact DW.cons hd.1 h hd.2 hr
end
section
variable {o:aN} {x:L3}
theorem nZ (ao:AO) {v:AV} {see:List Nat} (ho:o.ao=ao) (hg:cB (slot x.t) o.guard=some true) (h:(ao.aq x.m.length (aR (slot x.t))).run (look x.m)=some (.done v u))
  (h2:(ao.aq x.m.length (aR (slot x.t))).acc (look x.m)=acc) (h3:(ao.aq x.m.length (aR (slot x.t))).see (look x.m)=see):fQ o x= .done v u (acc++see):=by
 unfold fQ
 rw [hg]
 simp only [ho,h]
 unfold IF
 rw [h2,h3]
theorem Dg (ao:AO) {v:AV} (ho:o.ao=ao) (hg:cB (slot x.t) o.guard=some true) (h:ao.aq x.m.length (aR (slot x.t))= .ret (.done v u)):fQ o x= .done v u []:=
 nZ ao (acc:=[]) (see:=[]) ho hg (by rw [h];rfl) (by rw [h];rfl) (by rw [h];rfl)
theorem QV (a b:Arg) (q q':IntKind) (m d:Int) (ho:o.ao= .bin false .shr a b) (hg:cB (slot x.t) o.guard=some true) (ha:aR (slot x.t) a= .v (.int q m)) (hb:aR (slot x.t) b= .v (.int q' d)) (hd:¬d<0):fQ o x= .done (.v (.int q (m.fdiv (2^(min d.toNat q.bits))))) [] []:=
 Dg _ ho hg (by simp [AO.aq,ha,hb,binA,hd,RM.opt])
theorem QW (f:α->List AV) (xs:List α) (a:Arg) (sz:Nat) (neg:Bool) (ho:o.ao= .isn .sl neg a) (hg:cB (slot x.t) o.guard=some true) (ha:aR (slot x.t) a= .aV sz (xs.map f)\/aR (slot x.t) a= .db sz (xs.map f)) (he:List.isEmpty xs=false):fQ o x= .done (.v (.bool neg)) [] []:=by
 rcases ha with ha|ha<;>exact Dg _ ho hg (by simp [AO.aq,ha,he])
theorem QX (f:α->List AV) (xs:List α) (a:Arg) (sz:Nat) (neg:Bool) (ho:o.ao= .isn .sl neg a) (hg:cB (slot x.t) o.guard=some true) (ha:aR (slot x.t) a= .aV sz (xs.map f)\/aR (slot x.t) a= .db sz (xs.map f)) (he:List.isEmpty xs=true):fQ o x= .done .dP [] []:=by
 rcases ha with ha|ha<;>exact Dg _ ho hg (by simp [AO.aq,ha,he])
end
section
variable {o:aN} {x:L3}
theorem run_bind {α β:Type} {g:Nat->Option Bk} {f:α->RM β}:∀(m:RM α) {a:α},m.run g=some a->(m.bind f).run g=(f a).run g/\(m.bind f).acc g=m.acc g++(f a).acc g/\(m.bind f).see g=m.see g++(f a).see g
 | .ret b,a,h=>by simp only [RM.run,aeF] at h;subst h;exact ⟨rfl,rfl,rfl⟩
 | .fail,a,h=>by simp [RM.run] at h
 | .rd id k,a,h=>by
  cases hg:g id with
  |none=>simp [RM.run,hg] at h
  |some B=>
   simp only [RM.run,hg] at h
   obtain ⟨h1,h2,h3⟩:=run_bind (f:=f) (k B) h
   exact ⟨by simp [RM.bind,RM.run,hg,h1],by simp [RM.bind,RM.acc,hg,h2],by simp [RM.bind,RM.see,hg,h3]⟩
 | .lv id k,a,h=>by
  cases hg:g id with
  |none=>simp [RM.run,hg] at h
  |some B=>
   simp only [RM.run,hg] at h
   obtain ⟨h1,h2,h3⟩:=run_bind (f:=f) k h
   exact ⟨by simp [RM.bind,RM.run,hg,h1],by simp [RM.bind,RM.acc,h2],by simp [RM.bind,RM.see,h3]⟩
inductive Src {α:Type} (f:α->List AV) (sz:Nat) (g:Nat->Option Bk):AV->List α->List Nat->Prop
 |aV {ys:List α}:Src f sz g (.aV sz (ys.map f)) ys []
 |db {ys:List α}:Src f sz g (.db sz (ys.map f)) ys []
 |emp:Src f sz g .emp [] []
 |own {id off len:Nat} {els:List (List AV)} {ys:List α} (hB:g id=some ⟨sz,els⟩) (hy:(els.drop off).take len=ys.map f) (hl:off+len<=els.length):Src f sz g (.own id sz off len) ys [id]
theorem Src.content {α:Type} {f:α->List AV} {sz:Nat} {g:Nat->Option Bk} {v:AV} {ys:List α} {acc:List Nat} (h:Src f sz g v ys acc):(content sz v).run g=some (ys.map f)/\(content sz v).acc g=acc/\(content sz v).see g=[]:=by
 cases h with
 |aV=>simp [Ytboaekdecndckaa.content,RM.run,RM.acc,RM.see]
 |db=>simp [Ytboaekdecndckaa.content,RM.run,RM.acc,RM.see]
 |emp=>simp [Ytboaekdecndckaa.content,RM.run,RM.acc,RM.see]
 |own hB hy hl=>simp [Ytboaekdecndckaa.content,RM.run,RM.acc,RM.see,hB,hy,hl]
theorem QY (f:α->List AV) (xs ys:List α) (s a:Arg) (sz by_ id:Nat) (w:AV) (acc:List Nat) (ho:o.ao= .app sz by_ s a) (hg:cB (slot x.t) o.guard=some true) (hs:aR (slot x.t) s= .own id sz 0 xs.length) (hB:look x.m id=some ⟨sz,xs.map f⟩) (ha:aR (slot x.t) a=w) (hw:Src f sz (look x.m) w ys acc)
  (hb:(xs.length+ys.length)*by_<=140737488355328):fQ o x= .done (.own x.m.length sz 0 (xs++ys).length) [(id,none),(x.m.length,some ⟨sz,(xs++ys).map f⟩)] (acc++[id]):=by
 obtain ⟨c1,c2,c3⟩:=hw.content
 let F:List (List AV)->RM Out:=fun ys=> .rd id fun B=>if sz=sz/\B.sz=sz/\0=0/\xs.length=B.els.length/\(xs.length+ys.length)*by_<=140737488355328 then .ret (.done (.own x.m.length sz 0 (xs.length+ys.length)) [(id,none),(x.m.length,some ⟨sz,B.els++ys⟩)])
  else if sz=sz/\B.sz=sz/\0+xs.length+ys.length<=B.els.length then .ret (.done (.own id sz 0 (xs.length+ys.length)) [(id,some ⟨B.sz,B.els.take (0+xs.length)++ys++B.els.drop (0+xs.length+ys.length)⟩),(x.m.length,none)]) else .fail
 have dX:(AO.app sz by_ s a).aq x.m.length (aR (slot x.t))=(content sz w).bind F:=by simp [AO.aq,hs,ha,F]
 obtain ⟨r1,r2,r3⟩:=run_bind (f:=F) _ c1
 have:=nZ (AO.app sz by_ s a) (o:=o) (x:=x) (v:= .own x.m.length sz 0 (xs++ys).length) (u:=[(id,none),(x.m.length,some ⟨sz,(xs++ys).map f⟩)]) (acc:=acc++[id]) (see:=[]) ho hg (by rw [dX,r1];simp [F,hb,RM.run,hB]) (by rw [dX,r2,c2];simp [F,hb,RM.acc,hB]) (by rw [dX,r3,c3];simp [F,hb,RM.see,hB])
 simpa using this
end
end Go.Proofs.Ytboaekdecndckaa
