/- The state put in order: blocks renamed or forgotten, slots in a given order. No condition. -/
import Derived.Test.YtpoikkflcpklgaaPAvStr
import Derived.OrdersIn
import Derived.OwnWalkIn
import Derived.RangeFuncOwn
import Derived.RangeFuncLeaves
set_option linter.unusedSimpArgs false
set_option linter.unusedVariables false
namespace Go.Proofs.Ytpoikkflcpklgaa
variable {ao:AO} {val a r a':AV} {x:Arg} {ops:Array Oper} {vs:Array Value} {c:Code} {R:Ending->World->Prop} {E E':Env} {Q:Exit->Act->World->Prop} {fn:Func} {f:FuncId} {dep:List (List Nat)} {ups u:List (Nat×Option Bk)} {m:List (Option Bk)} {as_ bV:List AV} {acc:List Nat} {n lo k k' fresh kb i k0 base i0 D:Nat} {σ σ':Nat->AV} {g g':Nat->Option Bk} {J:Nat->Prop} {op:Oper} {xo:Operand} {ρ:Option Nat} {P:Program} {t ty e:TypeId} {v:Value} {w w':World}
open Go.RowKit
abbrev K2:=@Bool.and_eq_true
abbrev K5:=@cond_true
abbrev K9:=@List.mem_singleton
abbrev Lc:=@List.mem_cons
abbrev Lk:=@Nat.eq_of_beq_eq_true
abbrev Lm:=@Bool.not_eq_true'
abbrev Ln:=@cond_false
abbrev Lo:=@decide_eq_false_iff_not
abbrev Lr:=@Nat.lt_of_lt_of_le
abbrev Ls:=@Bool.or_eq_true
abbrev Ly:=@decide_eq_true_eq
abbrev LD:=@List.mem_append
abbrev LF:=@List.mem_append_right
abbrev LH:=@List.mem_range
abbrev LI:=@List.contains_eq_mem
abbrev LL:=@List.mem_append_left
abbrev LV:=@Nat.le_of_ble_eq_true
abbrev L6:=@List.flatMap_cons
abbrev L7:=@List.mem_cons_self
abbrev L9:=@List.isEmpty_iff
abbrev Mh:=@Nat.lt_irrefl
abbrev Mi:=@List.contains_iff_mem
abbrev Mj:=@List.cons_append
abbrev MC:=@List.getElem?_eq_none
abbrev MD:=@World.putObj_heap_other
abbrev MO:=@Array.toList_inj
abbrev MP:=@Array.getD_eq_getD_getElem?
abbrev MQ:=@List.drop_zero
abbrev MS:=@Oper.semAt_plain
abbrev MT:=@List.any_eq_true
abbrev MY:=@List.map_congr_left
section
variable {P:Program} {E:Env} {J:Nat->Prop} {base:Nat} {g:Nat->Option Bk} {aA:Operand->Value} {ρ:Arg->AV} {fresh:Nat}
theorem xA {cs ds:List AV}:∀{L M:List (Nat×LK)} {b:Bool},eqA cs ds (L++M)=some b->∃x y,eqA cs ds L=some x/\eqA cs ds M=some y/\b=(x&&y)
 |[],M,b,h=>⟨true,b,rfl,h,by simp⟩
 |(o,k)::L,M,b,h=>by
  simp only [Mj,eqA] at h ⊢
  split at h
  ·rename_i a c h1 h2
   split at h
   ·rename_i x y h3 h4
    obtain ⟨x',y',k1,k2,k3⟩:=xA h4
    simp only [KZ] at h
    refine ⟨x&&x',y', ?_,k2,by rw [<-h,k3,Bool.and_assoc]⟩
    simp [h1,h2,h3,k1]
   ·simp at h
  ·simp at h
def partOf (P:Program) (t:TypeId) (vs:Array Value) (off:Nat):Value->Prop:=fun x=>
 match P.underlying t with
 |some (.struct _)=>∃n,szOf P t=some n/\off+n<=vs.size/\x= .agg (vs.extract off (off+n))
 |_=>vs[off]? =some x
theorem CV {ws:Array Value} {cs ds:List AV} (h1:RC E vs cs) (h2:RC E ws ds):∀(d:Nat) (t:TypeId) (off:Nat) (L:List (Nat×LK)) (b:Bool),iM P d t off=some L->eqA cs ds L=some b->∀D,d<=D->∀x y,partOf P t vs off x->partOf P t ws off y->
  (Op.equalIn D t x y).run P E.w= .ok b E.w:=by
 intro d
 induction d with
 |zero=>intro t off L b hL;simp [iM] at hL
 |succ d ih=>
  intro t off L b hL hb D hD x y hx hy
  obtain ⟨D,rfl⟩:∃D',D=D'+1:=⟨D - 1,by omega⟩
  simp only [iM] at hL
  have leaf:∀k,L=[(off,k)]->vs[off]? =some x->ws[off]? =some y->∃a c,cs[off]? =some a/\ds[off]? =some c/\iL k a c=some b/\af E x a/\af E y c:=by
   intro k hk hx hy
   subst hk
   simp only [eqA] at hb
   split at hb
   ·rename_i a c e1 e2
    split at hb
    ·rename_i u v e3 e4
     simp only [KZ] at hb e4
     subst e4
     rw [Bool.and_true] at hb
     subst hb
     exact ⟨a,c,e1,e2,e3,h1.2 _ _ _ hx e1,h2.2 _ _ _ hy e2⟩
    ·simp at hb
   ·simp at hb
  split at hL
  ·rename_i k hu
   simp only [KZ] at hL
   simp only [partOf,hu] at hx hy
   obtain ⟨a,c,e1,e2,e3,e4,e5⟩:=leaf .int hL.symm hx hy
   unfold iL at e3
   split at e3<;>try (simp at e3;done)
   ·rename_i k1 m1 k2 m2 _
    split at e3
    ·rename_i hk;subst hk
     simp only [KZ] at e3;subst e3
     cases e4;cases e5
     exact run_equalIn_int _ D t k1 k m1 m2 hu
    ·simp at e3
   all_goals (rename_i hk;simp at hk)
  ·rename_i hu
   simp only [KZ] at hL
   simp only [partOf,hu] at hx hy
   obtain ⟨a,c,e1,e2,e3,e4,e5⟩:=leaf .str hL.symm hx hy
   unfold iL at e3
   split at e3<;>try (simp at e3;done)
   all_goals try (rename_i hk;simp at hk;done)
   simp only [KZ] at e3;subst e3
   cases e4;cases e5
   rw [wX]
   exact run_equalIn_string _ D t _ _ hu
  ·rename_i hu
   simp only [KZ] at hL
   simp only [partOf,hu] at hx hy
   obtain ⟨a,c,e1,e2,e3,e4,e5⟩:=leaf .bool hL.symm hx hy
   unfold iL at e3
   split at e3<;>try (simp at e3;done)
   all_goals try (rename_i hk;simp at hk;done)
   simp only [KZ] at e3;subst e3
   cases e4;cases e5
   exact run_equalIn_bool' _ D t _ _ hu
  ·rename_i fs hu
   split at hL
   ·simp at hL
   ·rename_i dO
    split at hL
    ·rename_i n hn
     simp only [partOf,hu] at hx hy
     obtain ⟨nx,nU,CW,rfl⟩:=hx
     obtain ⟨ny,xB,CX,rfl⟩:=hy
     obtain rfl:n=nx:=by rw [hn] at nU;simpa using nU
     obtain rfl:n=ny:=by rw [hn] at xB;simpa using xB
     have mz:P.fieldsOf t=fs:=by simp [Program.fieldsOf,hu]
     rw [run_equalIn_struct E.w D t _ _ (by rw [mz];exact hu) (by simpa using dO),mz]
     clear mz dO leaf hu
     generalize fs.toList=l at hL
     induction l generalizing L b with
     |nil=>
      simp only [pR,KZ] at hL
      subst hL
      simp only [eqA,KZ] at hb
      subst hb
      rfl
     |cons f l CY=>
      simp only [pR] at hL
      split at hL
      ·simp at hL
      ·rename_i nV
       split at hL
       ·rename_i k hk
        split at hL
        ·rename_i hfit
         split at hL
         ·rename_i La Lb ea eb
          simp only [KZ] at hL
          subst hL
          obtain ⟨xa,xb,m1,m2,rfl⟩:=xA hb
          have hp:∀(us:Array Value),off+n<=us.size->∃p,(part f.type (us.extract off (off+n)) f.offset).run P E.w= .ok p E.w/\partOf P f.type us (off+f.offset) p:=by
           intro us Kv
           have hsz:=kx hk E.w
           cases hd:P.underlying f.type with
           |none=>
            exfalso
            cases d with
            |zero=>simp [iM] at ea
            |succ d=>simp [iM,hd] at ea
           |some desc=>
            have sW:(isAgg f.type).run P E.w= .ok false E.w->(∀nW,desc≠ .struct nW)->0<k\/True->f.offset<n->∃p,(part f.type (us.extract off (off+n)) f.offset).run P E.w= .ok p E.w/\partOf P f.type us (off+f.offset) p:=by
             intro dF aC _ hlt
             have hg:(us.extract off (off+n))[f.offset]? =us[off+f.offset]? :=by
              rw [Array.getElem?_extract]
              simp;omega
             have qh:off+f.offset<us.size:=by omega
             refine ⟨us[off+f.offset], ?_, ?_⟩
             ·simp [part,dF,hg,Lg qh]
             ·simp only [partOf,hd]
              cases desc<;>first|exact Lg qh|exact absurd rfl (aC _)
            cases desc with
            |struct nW=>
             refine ⟨_,by simp [part,isAgg,run_underlying hd,hsz];rfl, ?_⟩
             simp only [partOf,hd]
             refine ⟨k,hk,by omega, ?_⟩
             congr 1
             apply Array.ext_getElem?
             intro i
             simp only [Array.getElem?_extract]
             by_cases hi:i<k
             ·rw [K1 (by omega),K1 (by omega)]
              try rw [K1 (by omega)]
              try (congr 1;omega)
             ·rw [K0 (by omega),K0 (by omega)]
            |int _=>exact sW (by simp [isAgg,run_underlying hd]) (fun nW h=>by cases h) (.inr trivial) hfit.2
            |string=>exact sW (by simp [isAgg,run_underlying hd]) (fun nW h=>by cases h) (.inr trivial) hfit.2
            |bool=>exact sW (by simp [isAgg,run_underlying hd]) (fun nW h=>by cases h) (.inr trivial) hfit.2
            |_=>
             exfalso
             cases d with
             |zero=>simp [iM] at ea
             |succ d=>simp [iM,hd] at ea
          obtain ⟨p1,r1,q1⟩:=hp vs CW
          obtain ⟨p2,r2,q2⟩:=hp ws CX
          have dj:=ih f.type (off+f.offset) La xa ea m1 D (by omega) p1 p2 q1 q2
          have CZ:=CY Lb xb m2 eb
          simp only [Op.eqFields]
          rw [K1 nV]
          simp only [LO,r1,r2,dj,MA,Sem.run_ite]
          cases xa
          ·simp
          ·simp [CZ]
         ·simp at hL
        ·simp at hL
       ·simp at hL
    ·simp at hL
  ·simp at hL
theorem xC (hm:aD E J base g) {neg:Bool} {op:BinOp} (bK:op=if neg then .neq else .eql) {L:List (Nat×LK)} {fs:Array Field} (hu:P.underlying t=some (.struct fs)) (hn:szOf P t=some n) (hg:P.eqGuardType P.depth t=false) (hL:iM P 8 t 0=some L) {vx vy:Value} {yo:Operand} {y:Arg} (hvx:af E vx (ρ x)) (hvy:af E vy (ρ y))
 (h:((AO.eqs neg n L x y).ae fresh ρ).run g=some (.done val ups)):
  bB E J base g ((do pure (Next.value (<-(do eqGuard op t xo yo vx vy;binOp op t vx vy:Sem Value))):Sem Next).run P E.w) val ups:=by
 simp only [AO.ae] at h
 split at h
 ·rename_i cs ds h1 h2
  split at h
  case isFalse=>simp [RM.run] at h
  rename_i hlen
  cases hb:eqA cs ds L with
  |none=>simp [hb,RM.opt,RM.run] at h
  |some b=>
   simp [hb,RM.opt,RM.run] at h
   obtain ⟨rfl,rfl⟩:=h
   have s1:szOf P t=some cs.length:=by rw [hlen.1];exact hn
   have s2:szOf P t=some ds.length:=by rw [hlen.2];exact hn
   rw [h1] at hvx;rw [h2] at hvy
   cases hvx with
   | @agg xs _ l1 r1=>cases hvy with
    | @agg ys _ l2 r2=>
     have hrun:=CV (P:=P) (E:=E) ⟨l1,r1⟩ ⟨l2,r2⟩ 8 t 0 L b hL hb 10000 (by omega) (.agg xs) (.agg ys) (by
      simp only [partOf,hu];refine ⟨_,s1,by omega, ?_⟩;congr 1;rw [Lh, <-l1];simp) (by
      simp only [partOf,hu];refine ⟨_,s2,by omega, ?_⟩;congr 1;rw [Lh, <-l2];simp)
     cases neg with
     |false=>
      simp only [L4,Lx] at bK ⊢
      subst bK
      refine bj hm (v:= .bool b) ?_ (.v rfl)
      simp [run_eqGuard_agg E.w _ t xo yo xs ys hg,run_eql_struct,hrun]
     |true=>
      simp only [K3] at bK ⊢
      subst bK
      refine bj hm (v:= .bool (!b)) ?_ (.v rfl)
      simp [run_eqGuard_agg E.w _ t xo yo xs ys hg,run_neq_struct,hrun]
 ·simp [RM.run] at h
theorem C0 (ha:dC E aA ρ) (hm:aD E J base g) (hu:P.underlying t=some .string) {x:Operand} {ax:Arg} (hx:cArg x=some ax) {lo hi:Option Operand} {iJ iK:Option Arg} (h1:eC lo=some iJ) (h2:eC hi=some iK)
 (h:((AO.sls ax iJ iK).ae fresh ρ).run g=some (.done val ups)):
  bB E J base g ((do pure (Next.value (<-Instr.sliceAt t (aA x) (lo.map aA) (hi.map aA) none)):Sem Next).run P E.w) val ups:=by
 have hv:=ha x ax hx
 simp only [AO.ae] at h
 split at h
 ·rename_i nlo nhi s k1 k2 cZ
  cases hb:bounds s.size nlo nhi with
  |none=>simp [hb,RM.opt,RM.run] at h
  |some b=>
   simp [hb,RM.opt,RM.run] at h
   obtain ⟨rfl,rfl⟩:=h
   rw [cZ] at hv
   have hvx:aA x= .string s:=by
    obtain ⟨vv,b7⟩:∃vv,vv=aA x:=⟨_,rfl⟩
    rw [<-b7] at hv ⊢
    cases hv with|v=>rfl
   have eY:=lq (P:=P) (E:=E) (isS:=false) (mx:=none) (amx:=none) (nmx:=none) ha (K4 s.size) h1 h2 rfl k1 k2 rfl (by simp) hb (fun m hm=>by simp at hm)
   simp only [Option.map_none,Mv] at eY
   refine bj hm (v:= .string (s.extract b.1 b.2)) ?_ (.v rfl)
   simp [hvx,Instr.sliceAt,Instr.slice,run_underlying hu,eY]
 ·simp [RM.run] at h
theorem C1 (hm:aD E J base g) (hu:P.underlying t=some .string) {vi:Value} {i:Arg} (hv:af E v (ρ x)) (hvi:af E vi (ρ i))
 (h:((AO.six x i).ae fresh ρ).run g=some (.done val ups)):
  bB E J base g ((do pure (Next.value (<-Instr.index t v vi)):Sem Next).run P E.w) val ups:=by
 simp only [AO.ae] at h
 split at h
 ·rename_i s n hx hn
  cases hb:s[n]? with
  |none=>simp [hb,RM.opt,RM.run] at h
  |some b=>
   simp [hb,RM.opt,RM.run] at h
   obtain ⟨rfl,rfl⟩:=h
   obtain ⟨k,rfl⟩:=pX hvi hn
   rw [hx] at hv
   cases hv with
   |v hp=>
    refine bj hm (v:= .int .u8 b.toNat) ?_ (.v rfl)
    simp [Instr.index,asIntOf,run_underlying hu,hb]
 ·simp [RM.run] at h
theorem C2 {caps:Array Value} {c:Call} {x:Operand} (hc:c.callee= .value x) (hx:aA x= .func (.func f) #[] caps) (w:World):
  (do let d<-resolve aA c ty;invoke d.target d.args:Sem Next).run P w=(callFunc f (c.args.map aA++caps)).run P w:=by
 simp [resolve,hc,hx,Deferred.ofValue,invoke]
theorem C3 {first:Array Value} {c:Call} {x:Operand} (hc:c.callee= .value x) (hx:aA x= .func (.func f) first #[]) (w:World):
  (do let d<-resolve aA c ty;invoke d.target d.args:Sem Next).run P w=(callFunc f (first++c.args.map aA)).run P w:=by
 simp [resolve,hc,hx,Deferred.ofValue,invoke]
def bW (P:Program) (f:FuncId):Bool:=
 match P.funcs[f]? with
 |some fn=>fn.body.isSome&&fn.name != "runtime.NumGoroutine"
 |none=>false
theorem xD (h:bW P f=true) (args:Array Value) (w:World):(callFunc f args).run P w= .ok (.enter f args) w:=by
 unfold bW at h
 cases hf:P.funcs[f]? with
 |none=>simp [hf] at h
 |some fn=>
  simp only [hf,K2,bne_iff_ne,ne_eq] at h
  have hb:fn.body.isNone=false:=by cases hbb:fn.body<;>simp [hbb] at h ⊢
  simp only [callFunc,LO,run_program,MA,hf,hb,L4,Lx]
  rw [K0 (by simpa using h.2)]
  rfl
theorem af.fy {a:Value} (h:af E v (.v a)):v=a:=by cases h;rfl
theorem xE {x:Option Operand} {ax:Option Arg} (h:eC x=some ax):ax.isSome=x.isSome:=by
 cases x with
 |none=>simp [eC] at h;subst h;rfl
 |some o=>
  simp only [eC] at h
  cases hc:cArg o<;>simp [hc] at h
  subst h;rfl
theorem sX (hn:∀x args,ao≠ .call x args):(ao.ae fresh ρ).run g≠some (.call f as_):=by
 intro h
 have kA:∀{α:Type} (m:Option α) (k:α->Out),(∀a,∀f as_,k a≠ .call f as_)->∀f as_,RM.run g (RM.opt (m.map k))=some (.call f as_)->False:=by
  intro α m k hk f as_ hh
  cases m with
  |none=>simp [RM.opt,RM.run] at hh
  |some a=>simp [RM.opt,RM.run] at hh;exact hk a _ _ hh
 have xF:∀{α β:Type} (m:Option α) (k:α->Option β) (k2:β->Out),(∀a,∀f as_,k2 a≠ .call f as_)->∀f as_,RM.run g (RM.opt (m.bind fun x=>(k x).map k2))=some (.call f as_)->False:=by
  intro α β m k k2 hk f as_ hh
  cases m with
  |none=>simp [RM.opt,RM.run] at hh
  |some a=>simp only [Mq] at hh;exact kA _ _ hk _ _ hh
 cases ao with
 |call x args=>exact hn x args rfl
 |app sz bytes s x=>
  simp only [AO.ae] at h
  obtain ⟨ys,_,h⟩:=cB h
  split at h
  ·split at h<;>simp [RM.run] at h
  ·split at h<;>simp [RM.run] at h
  ·simp only [RM.run] at h
   split at h
   ·split at h
    ·simp [RM.run] at h
    ·split at h<;>simp [RM.run] at h
   ·simp at h
  ·simp [RM.run] at h
 |clr zs x=>
  simp only [AO.ae] at h
  split at h
  ·simp [RM.run] at h
  ·simp only [RM.run] at h
   split at h
   ·split at h<;>simp [RM.run] at h
   ·simp at h
  ·simp [RM.run] at h
 |cpy sz x y=>
  simp only [AO.ae] at h
  obtain ⟨ys,_,h⟩:=cB h
  split at h
  ·simp only [RM.run] at h
   split at h
   ·split at h<;>simp [RM.run] at h
   ·simp at h
  ·simp [RM.run] at h
 |slc sz x lo hi mx=>
  simp only [AO.ae] at h
  split at h
  ·split at h
   ·split at h
    ·exact xF _ _ _ (by simp) _ _ h
    ·simp [RM.run] at h
   ·split at h
    ·exact xF _ _ _ (by simp) _ _ h
    ·simp [RM.run] at h
   ·generalize bounds 0 _ _=bb at h
    cases bb with
    |none=>simp [RM.opt,RM.run] at h
    |some b=>
     simp only [Mq] at h
     split at h<;>simp [RM.opt,RM.run] at h
   ·obtain ⟨B,_,h⟩:=gv h
    split at h
    ·split at h
     ·split at h
      ·simp [RM.run] at h
      ·simp only [RM.run] at h
       split at h
       ·split at h
        ·exact kA _ _ (by simp) _ _ h
        ·simp [RM.run] at h
       ·simp at h
      ·simp [RM.run] at h
     ·simp [RM.run] at h
    ·simp only [RM.run] at h
     split at h
     ·split at h
      ·generalize bounds _ _ _=bb at h
       cases bb with
       |none=>simp [RM.opt,RM.run] at h
       |some b=>
        simp only [Mq] at h
        split at h<;>simp [RM.opt,RM.run] at h
      ·simp [RM.run] at h
     ·simp at h
   ·simp [RM.run] at h
  ·simp [RM.run] at h
 |mup kd x k y=>
  simp only [AO.ae] at h
  split at h
  ·simp only [RM.run] at h
   split at h
   ·split at h
    ·split at h<;>simp [RM.run] at h
    ·simp [RM.run] at h
   ·simp at h
  ·simp [RM.run] at h
 |mlk kd z x k=>
  simp only [AO.ae] at h
  split at h
  ·simp only [RM.run] at h
   split at h
   ·split at h
    ·exact kA _ _ (by simp) _ _ h
    ·simp [RM.run] at h
   ·simp at h
  ·simp [RM.run] at h
 |b2s x=>
  simp only [AO.ae] at h
  obtain ⟨ys,_,h⟩:=cB h
  exact kA _ _ (by simp) _ _ h
 |isn kd b x=>cases kd<;>simp only [AO.ae] at h<;>split at h<;>first|(simp [RM.run] at h;done)|(obtain ⟨B,_,h⟩:=gv h;simp [RM.run] at h)
 |len b x=>cases b<;>simp only [AO.ae] at h<;>split at h<;>first|(simp [RM.run] at h;done)|(obtain ⟨B,_,h⟩:=gv h;simp [RM.run] at h)
 |_=>
  simp only [AO.ae] at h
  first
  |(simp [RM.run] at h;done)
  |exact kA _ _ (by simp) _ _ h
  |(split at h<;>first
    |(simp [RM.run] at h;done)
    |exact kA _ _ (by simp) _ _ h
    |(obtain ⟨B,_,h⟩:=gv h;simp [RM.run] at h;done)
    |(split at h<;>first
      |(simp [RM.run] at h;done)
      |exact kA _ _ (by simp) _ _ h
      |(obtain ⟨B,_,h⟩:=gv h;simp [RM.run] at h;done))
    |(simp only [RM.run] at h;split at h<;>first
      |(simp at h;done)
      |(split at h<;>first
        |(simp [RM.run] at h;done)
        |exact kA _ _ (by simp) _ _ h
        |(split at h<;>simp [RM.run] at h))))
theorem xG {o:Oper} {args:List Arg} (hc:bA P o=some (.call x args)):∃c y,o.op= .call c/\c.callee= .value y/\cArg y=some x/\ks c.args.toList=some args:=by
 obtain ⟨dst,op,type,pos,after,guard⟩:=o
 cases op with
 |call c=>
  simp only [bA] at hc
  split at hc
  ·rename_i y hy
   split at hc
   ·rename_i ax al h1 h2
    simp only [KZ,AO.call.injEq] at hc
    obtain ⟨rfl,rfl⟩:=hc
    exact ⟨c,y,rfl,hy,h1,h2⟩
   ·simp at hc
  all_goals exfalso
  all_goals (repeat' (first|(simp at hc;done)|split at hc))
 |makeFunc fn first caps=>
  exfalso
  cases fn<;>simp only [bA] at hc
  all_goals (repeat' (first|(simp at hc;done)|split at hc))
 |mapUpdate t m k y=>
  exfalso
  simp only [bA] at hc
  split at hc
  ·cases hk:keyT P _ with
   |none=>rw [hk] at hc;simp at hc
   |some kd=>rw [hk] at hc;simp at hc
  ·simp at hc
 |insert t m k y=>
  exfalso
  simp only [bA] at hc
  split at hc
  ·cases hk:keyT P _ with
   |none=>rw [hk] at hc;simp at hc
   |some kd=>rw [hk] at hc;simp at hc
  ·simp at hc
 |_=>
  exfalso
  simp only [bA] at hc
  all_goals (repeat' (first|(simp at hc;done)|split at hc))
theorem nX (ha:dC E aA ρ) {o:Oper} (hc:bA P o=some ao) (h:(ao.ae fresh ρ).run g=some (.call f as_)) (hf:bW P f=true):
  ∃vs,(execOp aA o).run P E.w= .ok (.enter f vs) E.w/\RC E vs as_:=by
 by_cases hn:∀x args,ao≠ .call x args
 ·exact absurd h (sX hn)
 ·obtain ⟨x,args,rfl⟩:∃x args,ao= .call x args:=by
   simp only [ne_eq] at hn
   cases ao<;>first|exact ⟨_,_,rfl⟩|(exfalso;exact hn (by simp))
  obtain ⟨c,y,h1,h2,h3,h4⟩:=xG hc
  simp only [AO.ae] at h
  split at h
  ·rename_i f' caps hx
   simp only [RM.run,KZ,Out.call.injEq] at h
   obtain ⟨rfl,rfl⟩:=h
   have hv:=ha y x h3
   rw [hx] at hv
   obtain ⟨vv,b7⟩:∃vv,vv=aA y:=⟨_,rfl⟩
   rw [<-b7] at hv
   cases hv with
   | @fn _ us _ hl hr=>
    obtain ⟨al,ar⟩:=ha.list h4
    refine ⟨c.args.map aA++us, ?_, ?_⟩
    ·unfold execOp
     simp only [h1]
     exact (C2 (caps:=us) h2 b7.symm E.w).trans (xD hf _ _)
    ·refine ⟨by simp [hl];rw [<-al];simp,fun j u a hu du=> ?_⟩
     have bS:(c.args.map aA).size=args.length:=by rw [<-al];simp
     by_cases hj:j<args.length
     ·rw [MX (by omega)] at hu
      rw [L5 (by simpa using hj)] at du
      exact ar j u a (by simpa using hu) du
     ·rw [Array.getElem?_append_right (by omega),bS] at hu
      rw [Mg (by simpa using hj)] at du
      simp only [Lq] at du
      exact hr _ u a hu du
  ·rename_i f' caps hx
   simp only [RM.run,KZ,Out.call.injEq] at h
   obtain ⟨rfl,rfl⟩:=h
   have hv:=ha y x h3
   rw [hx] at hv
   obtain ⟨vv,b7⟩:∃vv,vv=aA y:=⟨_,rfl⟩
   rw [<-b7] at hv
   cases hv with
   | @bf _ us _ hl hr=>
    obtain ⟨al,ar⟩:=ha.list h4
    refine ⟨us++c.args.map aA, ?_, ?_⟩
    ·unfold execOp
     simp only [h1]
     exact (C3 (first:=us) h2 b7.symm E.w).trans (xD hf _ _)
    ·refine ⟨by simp [hl];rw [<-al];simp,fun j u a hu du=> ?_⟩
     by_cases hj:j<us.size
     ·rw [MX hj] at hu
      rw [L5 (by omega)] at du
      exact hr _ u a hu du
     ·rw [Array.getElem?_append_right (by omega)] at hu
      rw [Mg (by omega), <-hl] at du
      exact ar _ u a (by simpa using hu) du
  ·simp [RM.run] at h
theorem sY {op:BinOp} {n:Bool} (h:negOf op=some n):op=if n then .neq else .eql:=by
 cases op<;>cases h<;>rfl
theorem C4 (hu:P.underlying t=some (.slice e)) (A:Option Addr) (n c:Nat) (w:World):(Op.equal t (.slice A n c) (.slice none 0 0)).run P w= .ok A.isNone w:=by
 show (Op.equalIn (9999+1) t _ _).run P w=_
 unfold Op.equalIn
 cases A<;>simp [run_underlying hu]
theorem C5 (hu:P.underlying t=some (.pointer e)) (A:Option Addr) (w:World):(Op.equal t (.pointer A) (.pointer none)).run P w= .ok A.isNone w:=by
 show (Op.equalIn (9999+1) t _ _).run P w=_
 unfold Op.equalIn
 cases A<;>simp [run_underlying hu]
theorem sZ {a1 a2 a3} (hu:P.underlying t=some (.func a1 a2 a3)) (f:Go.Fn) (x y:Array Value) (w:World):(Op.equal t (.func f x y) .nilFunc).run P w= .ok false w:=by
 show (Op.equalIn (9999+1) t _ _).run P w=_
 unfold Op.equalIn
 simp [run_underlying hu]
theorem s6 {a1 a2 a3} (hu:P.underlying t=some (.func a1 a2 a3)) (w:World):(Op.equal t .nilFunc .nilFunc).run P w= .ok true w:=by
 show (Op.equalIn (9999+1) t _ _).run P w=_
 unfold Op.equalIn
 simp [run_underlying hu]
theorem C6 (hm:aD E J base g) (mA:∀v,aA (.const v)=v) {op:BinOp} {y:Operand} {q:NK×Bool} (hn:sE P t op y=some q) (hv:af E (aA xo) (ρ x))
  (h:((AO.isn q.1 q.2 x).ae fresh ρ).run g=some (.done val ups)):bB E J base g ((do pure (Next.value (<-(do eqGuard op t xo y (aA xo) (aA y);binOp op t (aA xo) (aA y)))):Sem Next).run P E.w) val ups:=by
 obtain ⟨vx,hvx⟩:∃vx,vx=aA xo:=⟨_,rfl⟩
 rw [<-hvx] at hv ⊢
 unfold sE at hn
 split at hn
 ·-- Kw
  rename_i e hu
  rw [mA]
  cases hng:negOf op with
  |none=>simp [hng] at hn
  |some neg=>
   simp only [hng,Ld,KZ] at hn
   subst hn
   have bK:=sY hng
   have run:∀A n c,vx= .slice A n c->(do pure (Next.value (<-(do eqGuard op t xo (.const (.slice none 0 0)) vx (.slice none 0 0);binOp op t vx (.slice none 0 0)))):Sem Next).run P E.w= .ok (.value (.bool (A.isNone !=neg))) E.w:=by
    rintro A n c rfl
    cases neg<;>simp only [K3,L4,Lx] at bK<;>subst bK<;>cases A<;>simp [eqGuard,binOp,C4 hu]
   have xH:∀A n c,vx= .slice (some A) n c->∀{v},v=AV.v (.bool neg)->bB E J base g ((do pure (Next.value (<-(do eqGuard op t xo (.const (.slice none 0 0)) vx (.slice none 0 0);binOp op t vx (.slice none 0 0)))):Sem Next).run P E.w) v []:=by
    intro A n c hA v hv
    subst hv
    refine bj hm (v:= .bool neg) ?_ (.v rfl)
    rw [run _ _ _ hA];cases neg<;>rfl
   have nY:∀A n c,vx= .slice A n c->bB E J base g ((do pure (Next.value (<-(do eqGuard op t xo (.const (.slice none 0 0)) vx (.slice none 0 0);binOp op t vx (.slice none 0 0)))):Sem Next).run P E.w) .dt []:=by
    intro A n c hA
    exact bj hm (v:= .bool (A.isNone !=neg)) (run _ _ _ hA) .dt
   have aP:∀sz els,af E vx (.aP sz els)->val=(if els.isEmpty=true then .dt else .v (.bool neg))->ups=[]->bB E J base g ((do pure (Next.value (<-(do eqGuard op t xo (.const (.slice none 0 0)) vx (.slice none 0 0);binOp op t vx (.slice none 0 0)))):Sem Next).run P E.w) val ups:=by
    rintro sz els hr rfl rfl
    cases hr with
    |dA hc=>exact nY _ _ _ rfl
    |dR u hn hl hc=>
     by_cases he:els.isEmpty=true
     ·rw [K1 he];exact nY _ _ _ rfl
     ·rw [K0 he];exact xH _ _ _ rfl rfl
   simp only [AO.ae] at h
   split at h
   ·rename_i sz els hx
    simp only [RM.run,KZ,Out.done.injEq] at h
    rw [hx] at hv
    exact aP sz els hv h.1.symm h.2.symm
   ·rename_i sz els hx
    simp only [RM.run,KZ,Out.done.injEq] at h
    rw [hx] at hv
    cases hv with
    |cA hv=>exact aP sz els hv h.1.symm h.2.symm
   ·rename_i hx
    simp only [RM.run,KZ,Out.done.injEq] at h
    obtain ⟨rfl,rfl⟩:=h
    rw [hx] at hv
    cases hv with
    |emp=>exact nY _ _ _ rfl
   ·rename_i id sz off n hx
    obtain ⟨B,hB,h⟩:=gv h
    simp only [RM.run,KZ,Out.done.injEq] at h
    obtain ⟨rfl,rfl⟩:=h
    rw [hx] at hv
    cases hv with
    |own hi hd hb hq hs cV hl hc=>
     by_cases h0:n=0
     ·rw [K1 h0];exact nY _ _ _ rfl
     ·rw [K0 h0];exact xH _ _ _ rfl rfl
    |bP hi hd hb=>rw [K1 rfl];exact nY _ _ _ rfl
    |cr hi hd=>exact absurd hd (alive hm hB)
   ·simp [RM.run] at h
 ·-- Kx
  rename_i a1 a2 a3 hu
  rw [mA]
  cases hng:negOf op with
  |none=>simp [hng] at hn
  |some neg=>
   simp only [hng,Ld,KZ] at hn
   subst hn
   have bK:=sY hng
   simp only [AO.ae] at h
   split at h
   ·rename_i f cs hx
    simp only [RM.run,KZ,Out.done.injEq] at h
    obtain ⟨rfl,rfl⟩:=h
    rw [hx] at hv
    cases hv with
    |fn hl hh=>
     refine bj hm (v:= .bool neg) ?_ (.v rfl)
     cases neg<;>simp only [K3,L4,Lx] at bK<;>subst bK<;>simp [eqGuard,binOp,sZ hu,s6 hu]
   ·rename_i f cs hx
    simp only [RM.run,KZ,Out.done.injEq] at h
    obtain ⟨rfl,rfl⟩:=h
    rw [hx] at hv
    cases hv with
    |bf hl hh=>
     refine bj hm (v:= .bool neg) ?_ (.v rfl)
     cases neg<;>simp only [K3,L4,Lx] at bK<;>subst bK<;>simp [eqGuard,binOp,sZ hu,s6 hu]
   ·rename_i hx
    simp only [RM.run,KZ,Out.done.injEq] at h
    obtain ⟨rfl,rfl⟩:=h
    rw [hx] at hv
    have:=hv.fy
    subst this
    refine bj hm (v:= .bool !neg) ?_ (.v rfl)
    cases neg<;>simp only [K3,L4,Lx] at bK<;>subst bK<;>simp [eqGuard,binOp,sZ hu,s6 hu]
   ·simp [RM.run] at h
 ·-- Ky
  rename_i e hu
  rw [mA]
  cases hng:negOf op with
  |none=>simp [hng] at hn
  |some neg=>
   simp only [hng,Ld,KZ] at hn
   subst hn
   have bK:=sY hng
   have run:∀A,vx= .pointer A->(do pure (Next.value (<-(do eqGuard op t xo (.const (.pointer none)) vx (.pointer none);binOp op t vx (.pointer none)))):Sem Next).run P E.w= .ok (.value (.bool (A.isNone !=neg))) E.w:=by
    rintro A rfl
    cases neg<;>simp only [K3,L4,Lx] at bK<;>subst bK<;>cases A<;>simp [eqGuard,binOp,C5 hu]
   simp only [AO.ae] at h
   split at h
   ·rename_i id sz i o hx
    obtain ⟨B,hB,h⟩:=gv h
    simp only [RM.run,KZ,Out.done.injEq] at h
    obtain ⟨rfl,rfl⟩:=h
    rw [hx] at hv
    cases hv with
    |ref hi hd hb hq=>
     refine bj hm (v:= .bool neg) ?_ (.v rfl)
     rw [run _ rfl];cases neg<;>rfl
    |ef hi hd=>exact absurd hd (alive hm hB)
   ·rename_i cs o hx
    simp only [RM.run,KZ,Out.done.injEq] at h
    obtain ⟨rfl,rfl⟩:=h
    rw [hx] at hv
    cases hv with
    |pim u hb hq Kz eK hr=>
     refine bj hm (v:= .bool neg) ?_ (.v rfl)
     rw [run _ rfl];cases neg<;>rfl
   ·rename_i hx
    simp only [RM.run,KZ,Out.done.injEq] at h
    obtain ⟨rfl,rfl⟩:=h
    rw [hx] at hv
    have:=hv.fy
    refine bj hm (v:= .bool !neg) ?_ (.v rfl)
    rw [run _ this];cases neg<;>rfl
   ·simp [RM.run] at h
 ·simp at hn
theorem C7 (ha:dC E aA ρ) (mA:∀v,aA (.const v)=v) (hm:aD E J base g) (hf:¬E.kn fresh) {o:Oper} (hc:bA P o=some ao) (h:(ao.ae fresh ρ).run g=some (.done val ups)):
  bB E J base g ((execOp aA o).run P E.w) val ups:=by
 obtain ⟨dst,op,type,pos,after,guard⟩:=o
 have omap:∀{α β:Type} {m:Option α} {k:α->β} {y:β},m.map k=some y->∃x,m=some x/\k x=y:=by
  intro α β m k y h
  cases m with
  |none=>simp at h
  |some a=>exact ⟨a,rfl,by simpa using h⟩
 have mov:∀x ax,cArg x=some ax->((AO.mov ax).ae fresh ρ).run g=some (.done val ups)->∀r,r= .ok (.value (aA x)) E.w->bB E J base g r val ups:=by
  intro x ax h1 h2 r hr
  simp only [AO.ae,RM.run,KZ,Out.done.injEq] at h2
  obtain ⟨rfl,rfl⟩:=h2
  exact bj hm hr (ha x ax h1)
 cases op with
 |move x=>simp only [bA] at hc;obtain ⟨ax,h1,rfl⟩:=omap hc;exact mov x ax h1 h _ rfl
 |assign x=>simp only [bA] at hc;obtain ⟨ax,h1,rfl⟩:=omap hc;exact mov x ax h1 h _ rfl
 |pick c a b=>
  simp only [bA] at hc
  split at hc
  ·rename_i ac aa ab h1 h2 h3
   simp only [KZ] at hc;subst hc
   simp only [AO.ae] at h
   split at h
   ·rename_i t ht
    simp only [RM.run,KZ,Out.done.injEq] at h
    obtain ⟨rfl,rfl⟩:=h
    have hv:=ha c ac h1
    rw [ht] at hv
    obtain ⟨vv,b7⟩:∃vv,vv=aA c:=⟨_,rfl⟩
    rw [<-b7] at hv
    cases hv with
    |v hp=>
     refine bj hm (v:=if t then aA a else aA b) ?_ ?_
     ·unfold execOp
      simp only [<-b7]
      cases t<;>simp [asBool]
     ·cases t
      ·exact ha b ab h3
      ·exact ha a aa h2
   ·simp [RM.run] at h
  ·simp at hc
 |alloc t=>
  simp only [bA] at hc
  split at hc
  ·rename_i zs h1
   split at hc
   ·rename_i hz0
    simp only [KZ] at hc;subst hc
    simp only [AO.ae,RM.run,KZ,Out.done.injEq] at h
    obtain ⟨rfl,rfl⟩:=h
    exact BM hm hf h1 hz0
   ·simp at hc
  ·simp at hc
 |panic x=>
  simp only [bA,KZ] at hc
  subst hc
  simp [AO.ae,RM.run] at h
 |makeInterface t x=>
  simp only [bA,KZ] at hc
  subst hc
  simp [AO.ae,RM.run] at h
 |makeMap t r=>
  simp only [bA] at hc
  split at hc
  ·rename_i kt et h1
   simp only [KZ] at hc;subst hc
   simp only [AO.ae,RM.run,KZ,Out.done.injEq] at h
   obtain ⟨rfl,rfl⟩:=h
   exact xt hm hf h1 (.inl rfl)
  ·rename_i kt et k n h1
   simp only [KZ] at hc;subst hc
   simp only [AO.ae,RM.run,KZ,Out.done.injEq] at h
   obtain ⟨rfl,rfl⟩:=h
   have:=xt (P:=P) (r:=some (aA (.const (.int k n)))) hm hf h1 (.inr ⟨k,n,by rw [mA]⟩)
   exact this
  ·simp at hc
 |mapUpdate t x k y=>
  simp only [bA] at hc
  split at hc
  ·rename_i kt et ax ak ay h1 h2 h3 h4
   obtain ⟨kd,h5,rfl⟩:=omap hc
   exact xv hm h1 h5 (ha x ax h2) (ha k ak h3) (ha y ay h4) h
  ·simp at hc
 |insert t x k y=>
  simp only [bA] at hc
  split at hc
  ·rename_i kt et ax ak ay h1 h2 h3 h4
   obtain ⟨kd,h5,rfl⟩:=omap hc
   exact xv hm h1 h5 (ha x ax h2) (ha k ak h3) (ha y ay h4) h
  ·simp at hc
 |lookup t x k ok=>
  simp only [bA] at hc
  split at hc
  ·rename_i kt et ax ak h1 h2 h3
   split at hc
   ·rename_i hok
    subst hok
    split at hc
    ·rename_i z kd h4 h5
     simp only [KZ] at hc;subst hc
     exact CL hm h1 h5 h4 (ha x ax h2) (ha k ak h3) h
    ·simp at hc
   ·simp at hc
  ·simp at hc
 |box t x=>
  simp only [bA] at hc
  split at hc
  ·rename_i n ax h1 h2
   split at hc
   ·rename_i hz0
    simp only [KZ] at hc;subst hc
    simp only [AO.ae] at h
    split at h
    ·rename_i bR
     simp only [RM.run,KZ,Out.done.injEq] at h
     obtain ⟨rfl,rfl⟩:=h
     exact BN hm hf (ha x ax h2) bR.1 bR.2 hz0
    ·simp [RM.run] at h
   ·simp at hc
  ·simp at hc
 |build t parts=>
  simp only [bA] at hc
  split at hc
  ·rename_i zs fields h1 h2
   split at hc
   ·rename_i places h3
    obtain ⟨as_,h4,rfl⟩:=omap hc
    refine wZ ha hm h1 h4 (fun z i hi hz ps=> ?_) h
    unfold placesOf at h3
    simp only [Program.built,hi,h2,hz,h3]
   ·simp at hc
  ·rename_i zs k e h1 h2
   split at hc
   ·rename_i sz h3
    obtain ⟨as_,h4,rfl⟩:=omap hc
    refine wZ ha hm h1 h4 (fun z i hi hz ps=> ?_) h
    unfold szOf at h3
    obtain ⟨ie,C8,hs⟩:=omap h3
    simp only [Program.built,hi,h2,hz,C8,hs]
   ·simp at hc
  ·simp at hc
 |buildSlice t len parts=>
  simp only [bA] at hc
  split at hc
  ·rename_i e h1
   split at hc
   ·rename_i zs h2
    split at hc
    ·rename_i bR
     obtain ⟨as_,h3,rfl⟩:=omap hc
     exact BZ ha hm hf h1 h2 bR.1 bR.2 h3 h
    ·simp at hc
   ·simp at hc
  ·simp at hc
 |load t x=>
  simp only [bA] at hc
  split at hc
  ·rename_i m ax h1 h2
   simp only [KZ] at hc;subst hc
   exact BO hm h1 (ha x ax h2) h
  ·simp at hc
 |store t x y=>
  simp only [bA] at hc
  split at hc
  ·rename_i n ax ay h1 h2 h3
   simp only [KZ] at hc;subst hc
   exact BP hm h1 (ha x ax h2) (ha y ay h3) h
  ·simp at hc
 |nilCheck x=>simp only [bA] at hc;obtain ⟨ax,h1,rfl⟩:=omap hc;exact B6 hm (ha x ax h1) rfl rfl h
 |binOp op t x y yt=>
  simp only [bA] at hc
  split at hc
  ·rename_i q eN
   obtain ⟨ax,h1,rfl⟩:=omap hc
   exact C6 hm mA eN (ha x ax h1) h
  rename_i eN
  clear eN
  split at hc
  ·rename_i ax ay h1 h2
   split at hc
   ·simp only [KZ] at hc;subst hc
    simp only [AO.ae] at h
    split at h
    ·rename_i a b hx hy
     cases hb:binA (boolT P t) op a b with
     |none=>simp [hb,RM.opt,RM.run] at h
     |some v=>
      simp [hb,RM.opt,RM.run] at h
      obtain ⟨rfl,rfl⟩:=h
      have hvx:=ha x ax h1
      have hvy:=ha y ay h2
      rw [hx] at hvx;rw [hy] at hvy
      have ex:aA x=a:=hvx.fy
      have ey:aA y=b:=hvy.fy
      obtain ⟨r1,r2⟩:=BV (P:=P) (x:=x) (y:=y) hb E.w
      refine bj hm (v:=v) ?_ (.v r2)
      show (do pure (Next.value (<-(do eqGuard op t x y (aA x) (aA y);binOp op t (aA x) (aA y)))):Sem Next).run P E.w=_
      rw [ex,ey,LO,r1]
      rfl
    ·simp [RM.run] at h
   ·split at hc
    ·simp at hc
    ·rename_i hg
     split at hc
     ·rename_i fs L n hu hL hn
      simp only [KZ] at hc;subst hc
      exact xC hm (by simp) hu hn (by simpa using hg) hL (ha x ax h1) (ha y ay h2) h
     ·rename_i fs L n hu hL hn
      simp only [KZ] at hc;subst hc
      exact xC hm (by simp) hu hn (by simpa using hg) hL (ha x ax h1) (ha y ay h2) h
     ·simp at hc
  ·simp at hc
 |unOp op t x=>
  simp only [bA] at hc;obtain ⟨ax,h1,rfl⟩:=omap hc
  simp only [AO.ae] at h
  split at h
  ·rename_i a hx
   cases hb:unA op a with
   |none=>simp [hb,RM.opt,RM.run] at h
   |some v=>
    simp [hb,RM.opt,RM.run] at h
    obtain ⟨rfl,rfl⟩:=h
    have hvx:=ha x ax h1
    rw [hx] at hvx
    have ex:aA x=a:=hvx.fy
    obtain ⟨r1,r2⟩:=BW (P:=P) hb E.w
    refine bj hm (v:=v) ?_ (.v r2)
    show (do pure (Next.value (<-Op.unary op (aA x))):Sem Next).run P E.w=_
    rw [ex,LO,r1]
    rfl
  ·simp [RM.run] at h
 |convert s d x=>
  simp only [bA] at hc
  split at hc
  ·rename_i k1 k ax h1 h2 h3
   simp only [KZ] at hc;subst hc
   simp only [AO.ae] at h
   split at h
   ·rename_i k0 n hx
    simp only [RM.run,KZ,Out.done.injEq] at h
    obtain ⟨rfl,rfl⟩:=h
    have hvx:=ha x ax h3
    rw [hx] at hvx
    have ex:aA x= .int k0 n:=hvx.fy
    refine bj hm (v:= .int k (k.wrap n)) ?_ (.v rfl)
    show (do pure (Next.value (<-convert s d (aA x))):Sem Next).run P E.w=_
    rw [ex]
    simp [convert,run_underlying h1,run_underlying h2,Conv.intToInt]
   ·simp [RM.run] at h
  ·rename_i e ax h1 h2 h3
   split at hc
   ·rename_i h4
    simp only [KZ] at hc;subst hc
    exact CT hm h1 h2 h4 (ha x ax h3) h
   ·simp at hc
  ·rename_i e ax h1 h2 h3
   split at hc
   ·rename_i h4
    simp only [KZ] at hc;subst hc
    exact CU hm hf h1 h2 h4 (ha x ax h3) h
   ·simp at hc
  ·simp at hc
 |fieldAddr s x f=>
  simp only [bA] at hc
  split at hc
  ·rename_i fields ax h1 h2
   split at hc
   ·rename_i fd h3
    split at hc
    ·simp at hc
    ·rename_i bR
     simp only [KZ] at hc;subst hc
     cases hz:szOf P fd.type with
     |none=>simp [hz] at bR
     |some n=>exact B7 hm (ha x ax h2) h1 h3 hz (by rw [hz] at bR;simpa using bR) h
   ·simp at hc
  ·simp at hc
 |field s x f=>
  simp only [bA] at hc
  split at hc
  ·rename_i fields ax h1 h2
   split at hc
   ·rename_i fd h3
    obtain ⟨m,h4,rfl⟩:=omap hc
    exact B8 hm (ha x ax h2) h1 h3 h4 h
   ·simp at hc
  ·simp at hc
 |indexAddr t x i=>
  simp only [bA] at hc
  split at hc
  ·rename_i e ax ai h1 h2 h3
   split at hc
   ·rename_i sz h4
    split at hc
    ·rename_i cU
     simp only [KZ] at hc;subst hc
     exact Cc hm (ha x ax h2) (ha i ai h3) h1 h4 cU h
    ·simp at hc
   ·simp at hc
  ·rename_i len e ax ai h1 h2 h3
   split at hc
   ·rename_i sz h4
    split at hc
    ·rename_i cU
     simp only [KZ] at hc;subst hc
     exact B9 hm (ha x ax h2) (ha i ai h3) h1 h4 h
    ·simp at hc
   ·simp at hc
  ·simp at hc
 |index t x i=>
  simp only [bA] at hc
  split at hc
  ·rename_i ax ai h1 h2 h3
   simp only [KZ] at hc;subst hc
   exact C1 hm h1 (ha x ax h2) (ha i ai h3) h
  ·rename_i len e ax ai h1 h2 h3
   split at hc
   ·rename_i sz m h4 h5
    simp only [KZ] at hc;subst hc
    exact Cb hm (ha x ax h2) (ha i ai h3) h1 h4 h5 h
   ·simp at hc
  ·simp at hc
 |extract x i=>simp only [bA] at hc;obtain ⟨ax,h1,rfl⟩:=omap hc;exact Cd hm (ha x ax h1) h
 |makeSlice t l c=>
  simp only [bA] at hc
  split at hc
  ·rename_i e al ac h1 h2 h3
   split at hc
   ·rename_i zs i h4 h5
    split at hc
    ·rename_i bR
     simp only [KZ] at hc;subst hc
     exact Ce hm hf h1 h4 h5 bR.1 bR.2 (ha l al h2) (ha c ac h3) h
    ·simp at hc
   ·simp at hc
  ·simp at hc
 |slice t x lo hi mx=>
  simp only [bA] at hc
  split at hc
  ·rename_i e ax iJ iK amx h1 h2 h3 h4 h5
   split at hc
   ·rename_i sz h6
    split at hc
    ·rename_i bR
     simp only [KZ] at hc;subst hc
     exact Ci ha hm h1 h6 h2 h3 h4 h5 (fun hh=>by rw [<-xE h4];exact bR.2 (by rw [xE h5];exact hh)) h
    ·simp at hc
   ·simp at hc
  ·rename_i ax iJ iK h1 h2 h3 h4 h5
   simp only [KZ] at hc;subst hc
   have fS:mx=none:=by cases mx<;>simp [eC] at h5 ⊢
   subst fS
   exact C0 ha hm h1 h2 h3 h4 h
  ·simp at hc
 |makeFunc fn first caps=>
  cases fn with
  |func f=>
   simp only [bA] at hc
   split at hc
   ·rename_i C9
    obtain ⟨l,h1,rfl⟩:=omap hc
    simp only [AO.ae,RM.run,KZ,Out.done.injEq] at h
    obtain ⟨rfl,rfl⟩:=h
    obtain ⟨e1,e2⟩:=ha.list h1
    have my:first= #[]:=by simpa using C9
    subst my
    refine bj hm (v:= .func (.func f) #[] (caps.map aA)) (by simp [execOp,Instr.makeFunc]) (.fn (by simp;rw [<-e1];simp) (fun i v c hv hc=>e2 i v c (by simpa using hv) hc))
   ·split at hc
    ·rename_i _ Da
     obtain ⟨l,h1,rfl⟩:=omap hc
     simp only [AO.ae,RM.run,KZ,Out.done.injEq] at h
     obtain ⟨rfl,rfl⟩:=h
     obtain ⟨e1,e2⟩:=ha.list h1
     have my:caps= #[]:=by simpa using Da
     subst my
     refine bj hm (v:= .func (.func f) (first.map aA) #[]) (by simp [execOp,Instr.makeFunc]) (.bf (by simp;rw [<-e1];simp) (fun i v c hv hc=>e2 i v c (by simpa using hv) hc))
    ·simp at hc
  |_=>simp [bA] at hc
 |call c=>
  by_cases xI:∃x args,ao= .call x args
  ·obtain ⟨x,args,rfl⟩:=xI
   simp only [AO.ae] at h
   split at h<;>simp [RM.run] at h
  ·simp only [bA] at hc
   split at hc
   ·split at hc
    ·simp only [KZ] at hc;exact absurd ⟨_,_,hc.symm⟩ xI
    ·simp at hc
   all_goals rename_i dX
   all_goals try (simp at hc;done)
   ·split at hc
    ·rename_i x t fA lC
     have iR:c.args= #[x]:=by apply MO.1;rw [fA]
     have lD:∀b,c.callee= .builtin b->b= .len->(execOp aA ⟨dst, .call c,type,pos,after,guard⟩).run P E.w=(do pure (Next.value (<-Builtin.len_ c.argTypes type #[aA x])):Sem Next).run P E.w:=by
      intro b hb hl;subst hl
      simp [execOp,resolve,hb,invoke,builtin,iR]
     have Db:∀v ty,(Builtin.len_ c.argTypes ty #[v])=Builtin.len_ #[t] ty #[v]:=by
      intro v ty
      simp [Builtin.len_,lC]
     rw [lD _ dX rfl,Db]
     split at hc
     ·rename_i e hu
      obtain ⟨ax,h1,rfl⟩:=omap hc
      exact xe hm (by simp;exact ⟨e,hu⟩) (ha x ax h1) type h
     ·rename_i hu
      obtain ⟨ax,h1,rfl⟩:=omap hc
      exact xe hm (by simp;exact hu) (ha x ax h1) type h
     ·simp at hc
    ·simp at hc
   ·split at hc
    ·rename_i s x t u fA lC
     split at hc
     ·rename_i Dc
      subst Dc
      split at hc
      ·rename_i e as_ ax h1 h2 h3
       split at hc
       ·rename_i zs i h4 h5
        split at hc
        ·rename_i bR
         simp only [KZ] at hc;subst hc
         have iR:c.args= #[s,x]:=by apply MO.1;rw [fA]
         have Dd:c.argTypes= #[t,t]:=by apply MO.1;rw [lC]
         have:=CE (P:=P) (ty:=type) hm hf h1 h4 h5 bR.1 bR.2 (ha s as_ h2) (ha x ax h3) h
         have lD:(execOp aA ⟨dst, .call c,type,pos,after,guard⟩).run P E.w=(do pure (Next.value (<-Builtin.append_ #[t,t] type #[aA s,aA x])):Sem Next).run P E.w:=by
          simp [execOp,resolve,dX,invoke,builtin,iR,Dd]
         rw [lD];exact this
        ·simp at hc
       ·simp at hc
      ·simp at hc
     ·simp at hc
    ·simp at hc
   ·split at hc
    ·rename_i x t fA lC
     split at hc
     ·rename_i e ax h1 h2
      split at hc
      ·rename_i zs h4
       split at hc
       ·rename_i bR
        simp only [KZ] at hc;subst hc
        have iR:c.args= #[x]:=by apply MO.1;rw [fA]
        have:=CA (P:=P) (ty:=type) hm h1 h4 bR (ha x ax h2) h
        have lD:(execOp aA ⟨dst, .call c,type,pos,after,guard⟩).run P E.w=(do pure (Next.value (<-Builtin.clear_ #[t] type #[aA x])):Sem Next).run P E.w:=by
         simp [execOp,resolve,dX,invoke,builtin,iR,Builtin.clear_,lC]
        rw [lD];exact this
       ·simp at hc
      ·simp at hc
     ·simp at hc
    ·simp at hc
   ·split at hc
    ·rename_i x y t fA lC
     split at hc
     ·rename_i e ax ay h1 h2 h3
      split at hc
      ·rename_i sz h4
       split at hc
       ·rename_i bR
        simp only [KZ] at hc;subst hc
        have iR:c.args= #[x,y]:=by apply MO.1;rw [fA]
        have:=CB (P:=P) (ty:=type) (u:=t) hm h1 h4 bR (ha x ax h2) (ha y ay h3) h c.argTypes lC
        have lD:(execOp aA ⟨dst, .call c,type,pos,after,guard⟩).run P E.w=(do pure (Next.value (<-Builtin.copy_ c.argTypes type #[aA x,aA y])):Sem Next).run P E.w:=by
         simp [execOp,resolve,dX,invoke,builtin,iR]
        rw [lD];exact this
       ·simp at hc
      ·simp at hc
     ·simp at hc
    ·simp at hc
   all_goals
    split at hc
    ·rename_i x y fA
     split at hc
     ·rename_i ax ay h1 h2
      simp only [KZ] at hc;subst hc
      have iR:c.args= #[x,y]:=by apply MO.1;rw [fA]
      simp only [AO.ae] at h
      split at h
      ·rename_i a b hx hy
       obtain ⟨mx,mb,fS,xf,h⟩:∃mx mb,(mx=false/\c.callee= .builtin .min\/mx=true/\c.callee= .builtin .max)/\nE mx a b=mb/\RM.run g (RM.opt (Option.map (fun v=>Out.done (AV.v v) []) mb))=some (Out.done val ups):=by
        first
        |exact ⟨false,_, .inl ⟨rfl,dX⟩,rfl,h⟩
        |exact ⟨true,_, .inr ⟨rfl,dX⟩,rfl,h⟩
       cases mb with
       |none=>simp [RM.opt,RM.run] at h
       |some v=>
        simp [RM.opt,RM.run] at h
        obtain ⟨rfl,rfl⟩:=h
        have hvx:=ha x ax h1
        have hvy:=ha y ay h2
        rw [hx] at hvx;rw [hy] at hvy
        have ex:aA x=a:=hvx.fy
        have ey:aA y=b:=hvy.fy
        obtain ⟨r1,r2,r3⟩:=BX (P:=P) xf E.w
        refine bj hm (v:=v) ?_ (.v r1)
        rcases fS with ⟨fS,dX⟩|⟨fS,dX⟩
        ·simp [execOp,resolve,dX,invoke,builtin,iR,ex,ey,r2 fS]
        ·simp [execOp,resolve,dX,invoke,builtin,iR,ex,ey,r3 fS]
      ·simp [RM.run] at h
     ·simp at hc
    ·simp at hc
 |_=>simp [bA] at hc
end
open Go.RowKit
def AV.pu1:AV->Bool
 | .v _| .emp| .aP _ _| .cA _ _| .pim _ _| .dead=>true
 | .fn _ caps=>caps.isEmpty
 |_=>false
theorem AV.qi (h:a.pu1=true):Pu a:=by
 cases a<;>simp [AV.pu1] at h<;>try constructor
 subst h;intro c hc;simp at hc
def snap1:AV->RM AV
 | .own id sz off n=>(content sz (.own id sz off n)).bind fun els=>if (els.all fun cs=>cs.all AV.pu1)=true then .ret (.aP sz els) else .fail
 | .ref id sz i o=> .rd id fun B=>if B.sz=sz then (match B.els[i]? with
  |some cs=>if cs.all AV.pu1=true then .ret (.pim cs o) else .fail
  |none=> .fail) else .fail
 |a=>if a.pu1=true then .ret a else .fail
def fB:List AV->RM (List AV)
 |[]=> .ret []
 |a::r=>(snap1 a).bind fun x=>(fB r).bind fun l=> .ret (x::l)
def dk:AV->RM AV
 | .agg cs=>(fB cs).bind fun l=> .ret (.agg l)
 | .fn f cs=>(fB cs).bind fun l=> .ret (.fn f l)
 | .bf f cs=>(fB cs).bind fun l=> .ret (.bf f l)
 |a=>snap1 a
def dw:List AV->RM (List AV)
 |[]=> .ret []
 |a::r=>(dk a).bind fun x=>(dw r).bind fun l=> .ret (x::l)
def AV.bF:AV->List Nat
 | .own id _ _ _=>[id]
 | .ref id _ _ _=>[id]
 |_=>[]
def AV.ids:AV->List Nat
 | .agg cs=>cs.flatMap AV.bF
 | .fn _ cs=>cs.flatMap AV.bF
 | .bf _ cs=>cs.flatMap AV.bF
 |a=>a.bF
def AV.c8:AV->Bool
 | .v _| .emp| .dead=>true
 | .fn _ caps=>caps.isEmpty
 |_=>false
def AV.dx:AV->Bool
 | .agg cs=>cs.all AV.c8
 |a=>a.c8
def AV.nob:AV->Bool
 | .aJ vs=>vs.all AV.dx
 |a=>a.dx
def E0 (w:World) (I:Nat->Prop):Env:=⟨w,fun _=>False,fun _=>none,fun _=>False,I,fun _=>0,fun _=>False,fun _=>False⟩
theorem dT.sub {I:Nat->Prop} (h:dT E) (hw:E.w=w) (hI:∀b,E.I b->I b):dT (E0 w I):=trivial
def Fn (P:Program) (f:FuncId) (as_:List AV) (r:AV):Prop:=
 ∀(w:World) (J:Nat->Prop) (vs:Array Value),(∀b,J b->b<w.heap.size)->dT (E0 w J)->RC (E0 w J) vs as_->
  Calls P f vs w fun e w'=>∃v,e= .returned v/\af (E0 w' fun b=>J b\/(w.heap.size<=b/\b<w'.heap.size)) v r/\Below w.heap.size w w'
section
variable {P:Program} {E:Env} {J:Nat->Prop} {base:Nat} {g:Nat->Option Bk}
theorem af.c8 {E':Env} {v:Value} {a:AV} (h:af E v a) (hn:a.c8=true):af E' v a:=by
 cases h<;>simp [AV.c8] at hn
 ·exact .v (by assumption)
 ·exact .emp
 ·rename_i f vs cs hl h
  subst hn
  exact .fn hl (fun i v c hv hc=>by simp at hc)
 ·exact .dead
theorem af.dx {E':Env} {v:Value} {a:AV} (h:af E v a) (hn:a.dx=true):af E' v a:=by
 cases a with
 |agg cs=>cases h with
  |agg hl h=>
   simp only [AV.dx,K6] at hn
   exact .agg hl fun i v c hv hc=>(h i v c hv hc).c8 (hn c (LJ hc))
 |_=>exact h.c8 (by simpa [AV.dx] using hn)
theorem af.nob {E':Env} {v:Value} {a:AV} (h:af E v a) (hn:a.nob=true):af E' v a:=by
 cases a with
 |aJ cs=>cases h with
  |aJ hl h=>
   simp only [AV.nob,K6] at hn
   exact .aJ hl fun i v c hv hc=>(h i v c hv hc).dx (hn c (LJ hc))
 |_=>exact h.dx (by simpa [AV.nob] using hn)
def Handed (E:Env) (g:Nat->Option Bk) (ids:List Nat) (b:Nat):Prop:=E.I b\/∃id B,id∈ids/\g id=some B/\E.loc id=some b
theorem s7 (hm:aD E J base g) (I:Nat->Prop) (h:af E v a) (hs:(snap1 a).run g=some a') (hI:∀b,Handed E g a.bF b->I b):af (E0 E.w I) v a':=by
 have pure:∀{v:Value} {a:AV},(∀b,E.I b->I b)->af E v a->Pu a->af (E0 E.w I) v a:=fun hI h hp=>h.pure (E':=E0 E.w I) (fun b hb=>⟨hI b hb,fun _=>rfl⟩) hp
 have nZ:∀b,E.I b->I b:=fun b hb=>hI b (.inl hb)
 have other:(if a.pu1=true then RM.ret a else RM.fail).run g=some a'->af (E0 E.w I) v a':=by
  intro hs
  split at hs
  ·rename_i hp
   simp only [RM.run,KZ] at hs;subst hs
   exact pure nZ h (AV.qi hp)
  ·simp [RM.run] at hs
 cases a with
 |own id sz off n=>
  simp only [snap1] at hs
  obtain ⟨els,h1,h2⟩:=cB hs
  split at h2
  ·rename_i bz
   simp only [RM.run,KZ] at h2;subst h2
   simp only [content,RM.run] at h1
   cases hB:g id with
   |none=>simp [hB] at h1
   |some B=>
    simp only [hB] at h1
    split at h1
    ·rename_i hc
     obtain ⟨-, fY,hfit⟩:=hc
     simp only [RM.run,KZ] at h1;subst h1
     have hlen:((B.els.drop off).take n).length=n:=by simp;omega
     cases h with
     |cr hi hd=>exact absurd hd (alive hm hB)
     |bP hi hd hb=>
      have:(B.els.drop 0).take 0=[]:=by simp
      rw [this]
      exact .dA (by omega)
     | @own _ _ _ _ c b q mm t' hi hd hb hq gL cV hl hcc=>
      rcases MM n with h0|h0
      ·subst h0
       rw [List.take_zero]
       exact .dA hcc
      ·have gw:q=off*sz:=by
        rcases hq with hq|hq
        ·exact hq
        ·omega
       subst gw
       have bQ:=hm.at_ id B hB
       rw [hb] at bQ
       obtain ⟨js,arr,t,ha,jv,dv⟩:=bQ.cells (by first|assumption|omega)
       rw [fY] at dv
       have get:∀(i:Nat) cs (j:Nat) x,((B.els.drop off).take n)[i]? =some cs->cs[j]? =some x->∃u,E.w.cell? ⟨b,off*sz+i*sz+j,none⟩=some u/\u.oneCell'=true/\af E u x:=by
        intro i cs j x hi hj
        rw [Me] at hi
        split at hi
        ·rw [Mf] at hi
         obtain ⟨u,k1,k2,k3⟩:=(dv _ cs hi).2 j x hj
         refine ⟨u, ?_,k2,k3⟩
         rw [cell_of_row _ _ _ _ _ _ ha]
         rw [Lt] at k1
         exact k1
        ·simp at hi
       refine .dR (fun i j=>(E.w.cell? ⟨b,off*sz+i*sz+j,none⟩).getD undef) hlen.symm hl hcc (hI b (.inr ⟨id,B,by simp [AV.bF],hB,hb⟩)) (fun i cs hi=> ?_) (fun i cs j x hi hj=> ?_) (fun i cs j x hi hj=> ?_) (fun i cs j x hi hj=> ?_)
       ·rw [Me] at hi
        split at hi
        ·rw [Mf] at hi
         exact (dv _ cs hi).1
        ·simp at hi
       ·obtain ⟨u,k1,_,_⟩:=get i cs j x hi hj
        show E.w.cell? _=_
        rw [k1];rfl
       all_goals
        obtain ⟨u,k1,k2,k3⟩:=get i cs j x hi hj
        have hp:Pu x:=by
         simp only [K6] at bz
         exact AV.qi (bz cs (LJ hi) x (LJ hj))
        simp only [k1,L8]
        first
        |exact ⟨k2,hp⟩
        |exact pure nZ k3 hp
    ·simp [RM.run] at h1
  ·simp [RM.run] at h2
 |ref id sz i o=>
  simp only [snap1,RM.run] at hs
  cases hB:g id with
  |none=>simp [hB] at hs
  |some B=>
   simp only [hB] at hs
   split at hs
   ·rename_i hsz
    split at hs
    ·rename_i cs hcs
     split at hs
     ·rename_i bz
      simp only [RM.run,KZ] at hs;subst hs
      cases h with
      |ef hi hd=>exact absurd hd (alive hm hB)
      | @ref _ _ _ _ b q hi hd hb hq=>
       have bQ:=hm.at_ id B hB
       rw [hb] at bQ
       obtain ⟨js,arr,t,ha,jv,dv⟩:=bQ.cells (by first|assumption|omega)
       rw [hsz] at dv
       have get:∀(j:Nat) x,cs[j]? =some x->∃u,E.w.cell? ⟨b,i*sz+j,none⟩=some u/\af E u x:=by
        intro j x hj
        obtain ⟨u,k1,k2,k3⟩:=(dv i cs hcs).2 j x hj
        exact ⟨u,by rw [cell_of_row _ _ _ _ _ _ ha];exact k1,k3⟩
       have hp:∀(j:Nat) x,cs[j]? =some x->Pu x:=fun j x hj=>by
        simp only [K6] at bz
        exact AV.qi (bz x (LJ hj))
       refine .pim (off:=i*sz) (fun j=>(E.w.cell? ⟨b,i*sz+j,none⟩).getD undef) (hI b (.inr ⟨id,B,by simp [AV.bF],hB,hb⟩)) hq (fun j x hj=> ?_) hp (fun j x hj=> ?_)
       ·obtain ⟨u,k1,_⟩:=get j x hj
        show E.w.cell? _=_
        rw [k1];rfl
       ·obtain ⟨u,k1,k3⟩:=get j x hj
        simp only [k1,L8]
        exact pure nZ k3 (hp j x hj)
     ·simp [RM.run] at hs
    ·simp [RM.run] at hs
   ·simp [RM.run] at hs
 |_=>exact other hs
theorem qj (hm:aD E J base g) (I:Nat->Prop):∀{as_ bV:List AV},(fB as_).run g=some bV->(∀b,Handed E g (as_.flatMap AV.bF) b->I b)->bV.length=as_.length/\∀(i:Nat) v c c',af E v c->as_[i]? =some c->bV[i]? =some c'->af (E0 E.w I) v c'
 |[],bV,h,_=>by
  simp only [fB,RM.run,KZ] at h;subst h
  exact ⟨rfl,fun i v c c' _ hc=>by simp at hc⟩
 |a::r,bV,h,hI=>by
  simp only [fB] at h
  obtain ⟨x,h1,h⟩:=cB h
  obtain ⟨l,h2,h⟩:=cB h
  simp only [RM.run,KZ] at h;subst h
  have mB:∀b,Handed E g a.bF b->I b:=fun b hb=>hI b (hb.imp id fun ⟨id,B,hi,hh⟩=>⟨id,B,by simp [hi],hh⟩)
  have iS:∀b,Handed E g (r.flatMap AV.bF) b->I b:=fun b hb=>hI b (hb.imp id fun ⟨id,B,hi,hh⟩=>⟨id,B,by simp only [L6,LD];exact .inr hi,hh⟩)
  have ih:=qj hm I h2 iS
  refine ⟨by simp [ih.1],fun i v c c' hr hc du=> ?_⟩
  cases i with
  |zero=>simp at hc du;subst hc;subst du;exact s7 hm I hr h1 mB
  |succ i=>simp at hc du;exact ih.2 i v c c' hr hc du
theorem xJ (hm:aD E J base g) (I:Nat->Prop) (h:af E v a) (hs:(dk a).run g=some a') (hI:∀b,Handed E g a.ids b->I b):af (E0 E.w I) v a':=by
 cases a with
 |agg cs=>
  simp only [dk] at hs
  obtain ⟨l,h1,h2⟩:=cB hs
  simp only [RM.run,KZ] at h2;subst h2
  obtain ⟨k1,k2⟩:=qj hm I h1 hI
  cases h with
  |agg hl h=>
   refine .agg (by rw [k1];exact hl) fun i v c hv hc=> ?_
   have hi:i<cs.length:=by rw [<-k1];exact (K8.1 hc).1
   exact k2 i v cs[i] c (h i v _ hv (Lj hi)) (Lj hi) hc
 |fn f cs=>
  simp only [dk] at hs
  obtain ⟨l,h1,h2⟩:=cB hs
  simp only [RM.run,KZ] at h2;subst h2
  obtain ⟨k1,k2⟩:=qj hm I h1 hI
  cases h with
  |fn hl h=>
   refine .fn (by rw [k1];exact hl) fun i v c hv hc=> ?_
   have hi:i<cs.length:=by rw [<-k1];exact (K8.1 hc).1
   exact k2 i v cs[i] c (h i v _ hv (Lj hi)) (Lj hi) hc
 |bf f cs=>
  simp only [dk] at hs
  obtain ⟨l,h1,h2⟩:=cB hs
  simp only [RM.run,KZ] at h2;subst h2
  obtain ⟨k1,k2⟩:=qj hm I h1 hI
  cases h with
  |bf hl h=>
   refine .bf (by rw [k1];exact hl) fun i v c hv hc=> ?_
   have hi:i<cs.length:=by rw [<-k1];exact (K8.1 hc).1
   exact k2 i v cs[i] c (h i v _ hv (Lj hi)) (Lj hi) hc
 |_=>exact s7 hm I h hs hI
theorem ql (hm:aD E J base g) (I:Nat->Prop):∀{as_ bV:List AV},(dw as_).run g=some bV->(∀b,Handed E g (as_.flatMap AV.ids) b->I b)->bV.length=as_.length/\∀(i:Nat) v c c',af E v c->as_[i]? =some c->bV[i]? =some c'->af (E0 E.w I) v c'
 |[],bV,h,_=>by
  simp only [dw,RM.run,KZ] at h;subst h
  exact ⟨rfl,fun i v c c' _ hc=>by simp at hc⟩
 |a::r,bV,h,hI=>by
  simp only [dw] at h
  obtain ⟨x,h1,h⟩:=cB h
  obtain ⟨l,h2,h⟩:=cB h
  simp only [RM.run,KZ] at h;subst h
  have mB:∀b,Handed E g a.ids b->I b:=fun b hb=>hI b (hb.imp id fun ⟨id,B,hi,hh⟩=>⟨id,B,by simp [hi],hh⟩)
  have iS:∀b,Handed E g (r.flatMap AV.ids) b->I b:=fun b hb=>hI b (hb.imp id fun ⟨id,B,hi,hh⟩=>⟨id,B,by simp only [L6,LD];exact .inr hi,hh⟩)
  have ih:=ql hm I h2 iS
  refine ⟨by simp [ih.1],fun i v c c' hr hc du=> ?_⟩
  cases i with
  |zero=>simp at hc du;subst hc;subst du;exact xJ hm I hr h1 mB
  |succ i=>simp at hc du;exact ih.2 i v c c' hr hc du
theorem aD.grow (hm:aD E J base g) (hb:Below E.w.heap.size E.w w'):
  ∃E':Env,E'.w=w'/\E.Le E'/\aD E' J base g/\(∀k,E'.kn k->E.kn k)/\(∀b,E.I b\/(E.w.heap.size<=b/\b<w'.heap.size)->E'.I b):=by
 have hlt:∀id b B,g id=some B->E.loc id=some b->b<E.w.heap.size:=fun id b B hg hb=>by
  have:=hm.at_ id B hg;rw [hb] at this;exact this.lt.2
 let E':Env:={ E with w:=w',I:=fun b=>E.I b\/(E.w.heap.size<=b/\b<w'.heap.size) }
 have hE:E.Le E':=by
  refine ⟨fun _ h=>h,fun b aY=>⟨.inl aY,hb.block b (hm.low b aY).1⟩,fun _ _ h=>h,fun _ _ _=> .inr rfl,fun id b hi hd hl=> .inr ?_,fun _ _ _=> .inr rfl,fun _ h=>h,fun b aY=>⟨aY,hb.block b (hm.xo b aY).1⟩⟩
  obtain ⟨B,hB⟩:=(hm.live id).1 ⟨hi,hd⟩
  show w'.shape? b=_
  simp only [World.shape?,hb.block b (hlt id b B hB hl)]
 refine ⟨E',rfl,hE,⟨hm.live,fun id B hg=>(hm.at_ id B hg).bH hE fun b hl=>hb.block b (hlt id b B hg hl),hm.apart,fun id b B hg hl hI=> ?_,fun b hI=> ?_,Lw hm.size hb.size,hm.len,hm.gq,fun b hX=>⟨Lr (hm.xo b hX).1 hb.size,fun hI=>hI.elim (hm.xo b hX).2.1 fun h=>by have:=(hm.xo b hX).1;omega,(hm.xo b hX).2.2⟩⟩,fun _ h=>h,fun b h=>h⟩
 ·rcases hI with hI|hI
  ·exact hm.out id b B hg hl hI
  ·have:=hlt id b B hg hl;omega
 ·rcases hI with hI|hI
  ·exact ⟨Lr (hm.low b hI).1 hb.size,(hm.low b hI).2⟩
  ·exact ⟨hI.2, .inr (Lw hm.size hI.1)⟩
def lE (as_:List AV) (r:AV):List (Nat×Option Bk):=if r.nob=true then [] else (as_.flatMap AV.ids).map fun id=>(id,none)
theorem De (hG:dT E) (hm:aD E J base g) (hvs:RC E vs as_) (hs:(dw as_).run g=some bV) (hf:Fn P f bV r) (Df:∀id,id∈as_.flatMap AV.ids->E.kn id):
  Calls P f vs E.w fun e w'=>∃v E',e= .returned v/\E'.w=w'/\E.Le E'/\af E' v r/\aD E' J base (au g (lE as_ r))/\Below base E.w w'/\∀id,E'.kn id->E.kn id:=by
 let I:=Handed E g (as_.flatMap AV.ids)
 have s8:∀b,I b->b<E.w.heap.size:=fun b hb=>by
  rcases hb with hb|⟨id,B,_,hg,hl⟩
  ·exact (hm.low b hb).1
  ·have:=hm.at_ id B hg;rw [hl] at this;exact this.lt.2
 have b6:RC (E0 E.w I) vs bV:=by
  obtain ⟨k1,k2⟩:=ql hm I hs (fun b hb=>hb)
  refine ⟨by rw [k1];exact hvs.1,fun j u c hu hc=> ?_⟩
  have hj:j<as_.length:=by rw [<-k1];exact (K8.1 hc).1
  exact k2 j u as_[j] c (hvs.2 j u _ hu (Lj hj)) (Lj hj) hc
 refine (hf E.w I vs s8 (hG.sub rfl fun b hb=> .inl hb) b6).mono ?_
 rintro e w' ⟨v,he,hr,hb⟩
 unfold lE
 by_cases hn:r.nob=true
 ·rw [K1 hn]
  obtain ⟨E',hw,hE,hM,hk,_⟩:=hm.grow hb
  exact ⟨v,E',he,hw,hE,hr.nob hn,hM,hb.mono hm.size,hk⟩
 ·rw [K0 hn]
  obtain ⟨E1,fX,gK,hM1,hk1,mB,iS⟩:=hm.kill (as_.flatMap AV.ids) Df
  have mv:Below E1.w.heap.size E1.w w':=by rw [fX];exact hb
  obtain ⟨E',hw,hE,hM,hk,hI⟩:=hM1.grow mv
  refine ⟨v,E',he,hw,gK.trans hE, ?_,hM,hb.mono hm.size,fun id h=>hk1 _ (hk _ h)⟩
  refine hr.pure (E':=E') (fun b aY=> ?_) ?_
  ·refine ⟨hI b ?_,fun o=>by rw [hw];rfl⟩
   rcases aY with aY|aY
   ·left
    rcases aY with aY|⟨id,B,hid,hg,hl⟩
    ·exact iS b aY
    ·exact mB id b B hid hg hl
   ·right;rw [fX];exact aY
  ·clear hn hI hM hk hE hw mB iS mv hk1 hM1 gK fX hb he
   generalize (fun b=>I b\/E.w.heap.size<=b/\b<w'.heap.size)=I' at hr
   have:∀{E:Env} {v:Value} {a:AV},af E v a->(∀id,¬E.kn id)->(∀l,¬E.rg l)->Pu a:=by
    intro E v a h hk hy
    induction h with
    |v h=>exact .v
    |agg hl h ih=>
     refine .agg fun c hc=> ?_
     obtain ⟨i,hi,rfl⟩:=MK hc
     exact ih i _ _ (Lg (by omega)) (Lj hi)
    |aJ hl h ih=>
     refine .aJ fun c hc=> ?_
     obtain ⟨i,hi,rfl⟩:=MK hc
     exact ih i _ _ (Lg (by omega)) (Lj hi)
    |dA hc=>exact .aP
    |dR=>exact .aP
    |cA h ih=>exact .cA
    |emp=>exact .emp
    |pim=>exact .pim
    |ref hi=>exact absurd hi (hk _)
    |own hi=>exact absurd hi (hk _)
    |bP hi=>exact absurd hi (hk _)
    |ef hi=>exact absurd hi (hk _)
    |cr hi=>exact absurd hi (hk _)
    |mp hi=>exact absurd hi (hk _)
    |gH hi=>exact absurd hi (hk _)
    |fn hl h ih=>
     refine .fn fun c hc=> ?_
     obtain ⟨i,hi,rfl⟩:=MK hc
     exact ih i _ _ (Lg (by omega)) (Lj hi)
    |bf hl h ih=>
     refine .bf fun c hc=> ?_
     obtain ⟨i,hi,rfl⟩:=MK hc
     exact ih i _ _ (Lg (by omega)) (Lj hi)
    |ee hg=>exact absurd hg (hy _)
    |dt=>exact .dt
    |dead=>exact .dead
   exact this hr (fun id h=>h) (fun _ h=>h)
def Fo (P:Program) (f:FuncId) (as_:List AV) (sz:Nat) (els:List (List AV)):Prop:=
 ∀(w:World) (J:Nat->Prop) (vs:Array Value),(∀b,J b->b<w.heap.size)->dT (E0 w J)->RC (E0 w J) vs as_->
  Calls P f vs w fun e w'=>∃v E1,e= .returned v/\E1.w=w'/\Below w.heap.size w w'/\af E1 v (.own 0 sz 0 els.length)/\E1.kn 0/\¬E1.dead 0/\cx E1 w.heap.size ⟨sz,els⟩ (E1.loc 0)/\E1.ln 0=els.length
theorem Dg (hG:dT E) (hm:aD E J base g) {sz:Nat} {els:List (List AV)} (hvs:RC E vs as_) (hs:(dw as_).run g=some bV) (hf:Fo P f bV sz els) (s9:∀cs,cs∈els->∀c,c∈cs->c.c8=true) (dW:¬E.kn fresh):
  Calls P f vs E.w fun e w'=>∃v E',e= .returned v/\E'.w=w'/\E.Le E'/\af E' v (.own fresh sz 0 els.length)/\aD E' J base (au g [(fresh,some ⟨sz,els⟩)])/\Below base E.w w'/\∀id,E'.kn id->E.kn id\/id=fresh:=by
 let I:=Handed E g (as_.flatMap AV.ids)
 have s8:∀b,I b->b<E.w.heap.size:=fun b hb=>by
  rcases hb with hb|⟨id,B,_,hg,hl⟩
  ·exact (hm.low b hb).1
  ·have:=hm.at_ id B hg;rw [hl] at this;exact this.lt.2
 have b6:RC (E0 E.w I) vs bV:=by
  obtain ⟨k1,k2⟩:=ql hm I hs (fun b hb=>hb)
  refine ⟨by rw [k1];exact hvs.1,fun j u c hu hc=> ?_⟩
  have hj:j<as_.length:=by rw [<-k1];exact (K8.1 hc).1
  exact k2 j u as_[j] c (hvs.2 j u _ hu (Lj hj)) (Lj hj) hc
 refine (hf E.w I vs s8 (hG.sub rfl fun b hb=> .inl hb) b6).mono ?_
 rintro e w' ⟨v,E1,he,rfl,hb,hr,hk0,p8,bQ,xK⟩
 have hlt:∀id b B,g id=some B->E.loc id=some b->b<E.w.heap.size:=fun id b B hg hb=>by
  have:=hm.at_ id B hg;rw [hb] at this;exact this.lt.2
 let E':Env:={ w:=E1.w,kn:=fun id=>E.kn id\/id=fresh,loc:=fun id=>if id=fresh then E1.loc 0 else E.loc id,dead:=fun id=>E.dead id/\id≠fresh,I:=E.I,ln:=fun id=>if id=fresh then els.length else E.ln id,rg:=E.rg,X:=E.X }
 have aC:∀id,E.kn id->id≠fresh:=fun id hi he=>dW (he▸hi)
 have hE:E.Le E':=by
  refine ⟨fun id hi=> .inl hi,fun b aY=>⟨aY,hb.block b (hm.low b aY).1⟩,fun id hi hd=>⟨hd,aC id hi⟩,fun id hi hd=> .inr (K0 (aC id hi)),fun id b hi hd hl=> .inr ?_,fun id hi hd=> .inr (K0 (aC id hi)),fun _ h=>h,fun b aY=>⟨aY,hb.block b (hm.xo b aY).1⟩⟩
  obtain ⟨B',aR⟩:=(hm.live id).1 ⟨hi,hd⟩
  show E1.w.shape? b=_
  simp only [World.shape?,hb.block b (hlt id b B' aR hl)]
 have xL:E'.kn fresh:= .inr rfl
 have eL:¬E'.dead fresh:=fun hd=>hd.2 rfl
 have dd:E'.loc fresh=E1.loc 0:=K1 rfl
 have xM:sz≠0:=hr.pO p8
 have iN:∀b,E1.loc 0=some b->E.w.heap.size<=b/\b<E1.w.heap.size:=fun b hl=>by rw [hl] at bQ;exact bQ.lt
 refine ⟨v,E',he,rfl,hE, ?_,⟨fun id=> ?_,fun id B' hg=> ?_,fun id ct b B1 B2 h1 h2 h3 h4=> ?_,fun id b B' hg aY hI=> ?_,fun b aY=>⟨Lr (hm.low b aY).1 hb.size,(hm.low b aY).2⟩,Lw hm.size hb.size,fun id B' hg cG=> ?_,hm.gq,fun b hX=>⟨Lr (hm.xo b hX).1 hb.size,(hm.xo b hX).2.1,fun k B1 hk he=> ?_⟩⟩,hb.mono hm.size,fun id hi=>hi⟩
 ·obtain ⟨n,hn⟩:∃n,n=els.length:=⟨_,rfl⟩
  rw [<-hn] at hr ⊢
  cases hr with
  |own hi hd hl hq hs cV sJ hcc tb=>exact .own xL eL (dd.trans hl) hq hs cV sJ hcc (by rw [show E'.ln fresh=els.length from K1 rfl, <-xK];exact tb)
  |bP hi hd hl tb=>exact .bP xL eL (dd.trans hl) ((show E'.ln fresh=els.length from K1 rfl).trans (xK.symm.trans tb))
  |cr hi hd=>exact absurd hd p8
 ·simp only [au]
  by_cases hid:id=fresh
  ·subst hid;simp [E']
  ·simp only [hid,Lx]
   rw [<-hm.live id]
   simp [E',hid]
 ·simp only [au] at hg
  by_cases hid:id=fresh
  ·subst hid
   simp only [K3,KZ] at hg
   subst hg
   rw [dd]
   cases hl:E1.loc 0 with
   |none=>rw [hl] at bQ;exact bQ
   |some b=>
    rw [hl] at bQ
    obtain ⟨q1,arr,t,q2,q3,q4⟩:=bQ.cells xM
    refine .iI ⟨Lw hm.size q1,arr,t,q2,q3,fun i cs hi=>⟨(q4 i cs hi).1,fun j x hj=> ?_⟩⟩ xM
    obtain ⟨u,u1,u2,u3⟩:=(q4 i cs hi).2 j x hj
    exact ⟨u,u1,u2,u3.c8 (s9 cs (LJ hi) x (LJ hj))⟩
  ·simp only [hid,Lx] at hg
   show cx E' base B' (if id=fresh then _ else _)
   rw [K0 hid]
   exact (hm.at_ id B' hg).bH hE fun b hl=>hb.block b (hlt id b B' hg hl)
 ·simp only [au] at h1 h2
  have e3:(if id=fresh then E1.loc 0 else E.loc id)=some b:=h3
  have e4:(if ct=fresh then E1.loc 0 else E.loc ct)=some b:=h4
  by_cases hid:id=fresh<;>by_cases hH:ct=fresh
  ·rw [hid,hH]
  ·rw [K1 hid] at e3;rw [K0 hH] at e4 h2
   have:=hlt _ _ _ h2 e4
   have:=iN b e3
   omega
  ·rw [K0 hid] at e3 h1;rw [K1 hH] at e4
   have:=hlt _ _ _ h1 e3
   have:=iN b e4
   omega
  ·rw [K0 hid] at e3 h1;rw [K0 hH] at e4 h2
   exact hm.apart id ct b B1 B2 h1 h2 e3 e4
 ·simp only [au] at hg
  have e3:(if id=fresh then E1.loc 0 else E.loc id)=some b:=aY
  have:=(hm.low b hI).1
  by_cases hid:id=fresh
  ·rw [K1 hid] at e3
   have:=iN b e3
   omega
  ·rw [K0 hid] at e3 hg
   exact hm.out id b B' hg e3 hI
 ·simp only [au] at hg
  show _=if id=fresh then _ else _
  by_cases hid:id=fresh
  ·rw [K1 hid] at hg ⊢
   simp only [KZ] at hg;rw [<-hg]
  ·rw [K0 hid] at hg ⊢
   exact hm.len id B' hg cG
 ·simp only [au] at hk
  have e3:(if k=fresh then E1.loc 0 else E.loc k)=some b:=he
  by_cases hid:k=fresh
  ·rw [K1 hid] at e3
   have:=iN b e3
   have:=(hm.xo b hX).1
   omega
  ·rw [K0 hid] at e3 hk
   exact (hm.xo b hX).2.2 k B1 hk e3
end
open Go.RowKit
def cp (ρ:Option Nat):Fence:={ Fence.wide with round:=ρ }
theorem mC:(cp ρ).depth.isSome=true->1<=n:=fun h=>by simp [cp,Fence.wide] at h
theorem iT {o:Oper} {e:Operand->Value}:∀f,o.about P w e=some f->(cp ρ).fn f:=fun _ _=>trivial
theorem n6 {args:Array Value} (h:Calls P f args w R):CallsIn (cp ρ) n P f args w R:=(callsIn_wide (n:=n)).2 h
theorem mD {o:Oper} (h:bA P o=some ao):∀c,o.op≠ .defer c:=by
 intro c hc
 obtain ⟨dst,op,type,pos,after,guard⟩:=o
 simp only at hc
 subst hc
 simp [bA] at h
inductive Mk (E:Env) (lo:Nat):List Deferred->Prop
 |nil:Mk E lo []
 |cons {D:Nat} {ds:List Deferred} (hI:E.I D) (hD:lo<=D) (hh:E.w.heap[D]? =some (.deferred (some []))) (aC:∀d,d∈ds->d.target≠ .collected D) (t:Mk E lo ds):Mk E lo ({ target:= .collected D,args:= #[] }::ds)
theorem Mk.step {E E':Env} (hE:E.Le E') {lo:Nat} {ds:List Deferred} (h:Mk E lo ds):Mk E' lo ds:=by
 induction h with
 |nil=>exact .nil
 |cons hI hD hh aC t ih=>exact .cons (hE.dS _ hI).1 hD ((hE.dS _ hI).2.trans hh) aC ih
theorem Mk.xN (hE:∀b,E.I b->E'.I b/\E'.w.heap[b]? =E.w.heap[b]?) {ds:List Deferred} (h:Mk E lo ds):Mk E' lo ds:=by
 induction h with
 |nil=>exact .nil
 |cons hI hD hh aC t ih=>exact .cons (hE _ hI).1 hD ((hE _ hI).2.trans hh) aC ih
def Env.lt (E:Env) (kb:Nat):Env:={ E with kn:=fun id=>E.kn id/\id<kb }
theorem Env.Le.cut {E0:Env} (h:E0.Le E) (hk:∀id,E0.kn id->id<kb) (k:(E.lt kb).Le E'):E0.Le E':=
 Env.Le.trans (E':=E.lt kb) ⟨fun id hi=>⟨h.kn id hi,hk id hi⟩,h.dS,h.dead,h.loc,h.shape,h.ln,h.rg,h.fx⟩ k
def nb (kb:Nat):Nat->AV->Bool
 |0,_=>false
 |d+1, .agg cs=>cs.all (nb kb d)
 |d+1, .aJ cs=>cs.all (nb kb d)
 |d+1, .fn _ cs=>cs.all (nb kb d)
 |d+1, .bf _ cs=>cs.all (nb kb d)
 |d+1, .ee _ cs=>cs.all (nb kb d)
 |_+1, .ref id _ _ _=>Nat.blt id kb
 |_+1, .own id _ _ _=>Nat.blt id kb
 |_+1, .mp id=>Nat.blt id kb
 |_+1,_=>true
theorem af.Dh (hE:(E.lt kb).Le E'):∀(d:Nat) {v:Value} {a:AV},af E v a->nb kb d a=true->af E' v a:=by
 have hI:∀b,E.I b->E'.I b/\∀o,E'.w.cell? ⟨b,o,none⟩=E.w.cell? ⟨b,o,none⟩:=fun b hb=>⟨(hE.dS b hb).1,fun o=>hE.cell (E:=E.lt kb) hb o⟩
 intro d
 induction d with
 |zero=>intro v a _ h;simp [nb] at h
 |succ d ih=>
  have n7:∀{vs:Array Value} {cs:List AV},(∀(i:Nat) v c,vs[i]? =some v->cs[i]? =some c->af E v c)->cs.all (nb kb d)=true->∀(i:Nat) v c,vs[i]? =some v->cs[i]? =some c->af E' v c:=by
   intro vs cs h hn i v c hv hc
   simp only [K6] at hn
   exact ih (h i v c hv hc) (hn c (LJ hc))
  intro v a h hn
  cases a with
  |v x=>exact h.pure hI .v
  |agg cs=>cases h with|agg hl hh=>exact .agg hl (n7 hh hn)
  |aJ cs=>cases h with|aJ hl hh=>exact .aJ hl (n7 hh hn)
  |fn f cs=>cases h with|fn hl hh=>exact .fn hl (n7 hh hn)
  |bf f cs=>cases h with|bf hl hh=>exact .bf hl (n7 hh hn)
  |ee r cs=>cases h with|ee h1 h2 h3 hl hh=>exact .ee (hE.rg _ h1) (hE.dS _ h2).1 ((hE.dS _ h2).2.trans h3) hl (n7 hh hn)
  |aP sz els=>exact h.pure hI .aP
  |cA sz els=>exact h.pure hI .cA
  |emp=>exact h.pure hI .emp
  |pim cs o=>exact h.pure hI .pim
  |dt=>exact h.pure hI .dt
  |dead=>exact .dead
  |ref id sz i o=>
   have hlt:id<kb:=LV hn
   have:af (E.lt kb) v (.ref id sz i o):=by
    cases h with
    |ref hi hd hb hq=>exact .ref (E:=E.lt kb) ⟨hi,hlt⟩ hd hb hq
    |ef hi hd ho=>exact .ef (E:=E.lt kb) ⟨hi,hlt⟩ hd ho
   exact this.step hE
  |mp id=>
   have hlt:id<kb:=LV hn
   have:af (E.lt kb) v (.mp id):=by
    cases h with
    |mp hi hd hb=>exact .mp (E:=E.lt kb) ⟨hi,hlt⟩ hd hb
    |gH hi hd ho=>exact .gH (E:=E.lt kb) ⟨hi,hlt⟩ hd ho
   exact this.step hE
  |own id sz off n=>
   have hlt:id<kb:=LV hn
   have:af (E.lt kb) v (.own id sz off n):=by
    cases h with
    |own hi hd hb hq hs hm hl hc bh=>exact .own (E:=E.lt kb) ⟨hi,hlt⟩ hd hb hq hs hm hl hc bh
    |bP hi hd hb bh=>exact .bP (E:=E.lt kb) ⟨hi,hlt⟩ hd hb bh
    |cr hi hd ho=>exact .cr (E:=E.lt kb) ⟨hi,hlt⟩ hd ho
   exact this.step hE
structure az where
 dst:Option Nat
 ao:AO
 guard:Option (Nat×Bool)
variable {o:az} {os full:List az}
def eP (P:Program) (ops:Array Oper) (o:Oper):Option az:=
 match bA P o with
 |some ao=>match o.guard with
  |none=>some ⟨o.dst,ao,none⟩
  |some (j,w)=>match (ops[j]?).bind (·.dst) with
   |some t=>some ⟨o.dst,ao,some (t,w)⟩
   |none=>none
 |none=>none
def aE (σ:Nat->AV):Arg->AV
 | .s t=>σ t
 | .c a=>a
def bw (n:Nat) (d:Option Nat) (v:AV) (σ:Nat->AV):Nat->AV:=fun t=>if d=some t/\t<n then v else σ t
def bL (σ:Nat->AV):Option (Nat×Bool)->Option Bool
 |none=>some true
 |some (t,w)=>match σ t with
  | .v (.bool b)=>some (b==w)
  | .v (.tuple _)=>some false
  |_=>none
inductive de (P:Program) (σ:Nat->AV) (g:Nat->Option Bk) (fresh:Nat) (o:az):AV->List (Nat×Option Bk)->List Nat->Prop
 |skip (hg:bL σ o.guard=some false):de P σ g fresh o (.v undef) [] []
 |done {val:AV} {ups:List (Nat×Option Bk)} (hg:bL σ o.guard=some true) (h:(o.ao.ae fresh (aE σ)).run g=some (.done val ups)):
   de P σ g fresh o val ups ((o.ao.ae fresh (aE σ)).acc g++(o.ao.ae fresh (aE σ)).see g)
 |call {f:FuncId} {as_ bV:List AV} {r:AV} (hg:bL σ o.guard=some true) (h:(o.ao.ae fresh (aE σ)).run g=some (.call f as_)) (hc:bW P f=true)
   (hs:(dw as_).run g=some bV) (hf:Fn P f bV r):de P σ g fresh o r (lE as_ r) (((o.ao.ae fresh (aE σ)).acc g++(o.ao.ae fresh (aE σ)).see g)++((dw as_).acc g++(dw as_).see g))
 |lF {f:FuncId} {as_ bV:List AV} {sz:Nat} {els:List (List AV)} (hg:bL σ o.guard=some true) (h:(o.ao.ae fresh (aE σ)).run g=some (.call f as_)) (hc:bW P f=true)
   (hs:(dw as_).run g=some bV) (hf:Fo P f bV sz els) (hn:∀cs,cs∈els->∀c,c∈cs->c.c8=true):de P σ g fresh o (.own fresh sz 0 els.length) [(fresh,some ⟨sz,els⟩)] (((o.ao.ae fresh (aE σ)).acc g++(o.ao.ae fresh (aE σ)).see g)++((dw as_).acc g++(dw as_).see g))
theorem dC.of (hG:dT E) {a:Act} (h:∀t,af E (a.tmps.getD t undef) (σ t)):dC E a.eval (aE σ):=by
 intro x ax hx
 cases x with
 |tmp t=>simp [cArg] at hx;subst hx;exact h t
 |const v=>
  simp only [cArg] at hx
  cases hc:ofConst v with
  |none=>simp [hc] at hx
  |some c=>simp [hc] at hx;subst hx;exact BK hc
 |func f=>simp [cArg] at hx;subst hx;exact BL f
 |global g=>
  simp only [cArg] at hx
  cases hc:glArg g with
  |none=>simp [hc] at hx
  |some c=>simp [hc] at hx;subst hx;exact hG.arg hc
theorem xO (h:(snap1 a).run g=some a'):∀id,id∈a.bF->∃B,g id=some B:=by
 intro id hid
 cases a with
 |own ct sz off n=>
  simp only [AV.bF,K9] at hid
  subst hid
  simp only [snap1] at h
  obtain ⟨els,h1,_⟩:=cB h
  simp only [content,RM.run] at h1
  cases hB:g id with
  |none=>simp [hB] at h1
  |some B=>exact ⟨B,rfl⟩
 |ref ct sz i o=>
  simp only [AV.bF,K9] at hid
  subst hid
  simp only [snap1,RM.run] at h
  cases hB:g id with
  |none=>simp [hB] at h
  |some B=>exact ⟨B,rfl⟩
 |_=>simp [AV.bF] at hid
theorem qm {g:Nat->Option Bk}:∀{as_ bV:List AV},(fB as_).run g=some bV->∀id,id∈as_.flatMap AV.bF->∃B,g id=some B
 |[],_,_,id,hid=>by simp at hid
 |a::r,bV,h,id,hid=>by
  simp only [fB] at h
  obtain ⟨x,h1,h⟩:=cB h
  obtain ⟨l,h2,h⟩:=cB h
  simp only [L6,LD] at hid
  rcases hid with hid|hid
  ·exact xO h1 id hid
  ·exact qm h2 id hid
theorem Di (h:(dk a).run g=some a'):∀id,id∈a.ids->∃B,g id=some B:=by
 intro id hid
 cases a with
 |agg cs=>
  simp only [dk] at h
  obtain ⟨l,h1,_⟩:=cB h
  exact qm h1 id hid
 |fn f cs=>
  simp only [dk] at h
  obtain ⟨l,h1,_⟩:=cB h
  exact qm h1 id hid
 |bf f cs=>
  simp only [dk] at h
  obtain ⟨l,h1,_⟩:=cB h
  exact qm h1 id hid
 |_=>simp only [dk] at h;simp only [AV.ids] at hid;exact xO h id hid
theorem xP {g:Nat->Option Bk}:∀{as_ bV:List AV},(dw as_).run g=some bV->∀id,id∈as_.flatMap AV.ids->∃B,g id=some B
 |[],_,_,id,hid=>by simp at hid
 |a::r,bV,h,id,hid=>by
  simp only [dw] at h
  obtain ⟨x,h1,h⟩:=cB h
  obtain ⟨l,h2,h⟩:=cB h
  simp only [L6,LD] at hid
  rcases hid with hid|hid
  ·exact Di h1 id hid
  ·exact xP h2 id hid
section
variable {P:Program} {E:Env} {J:Nat->Prop} {base:Nat} {g:Nat->Option Bk} {σ:Nat->AV} {fresh:Nat}
theorem jw {a:Act} (hs:∀t,af E (a.tmps.getD t undef) (σ t)) (hc:eP P ops op=some o) {b:Bool} (hg:bL σ o.guard=some b):Region.wanted op (yielded ops a.tmps)=b:=by
 unfold eP at hc
 split at hc
 ·rename_i ao h1
  split at hc
  ·rename_i h2
   simp only [KZ] at hc;subst hc
   simp only [bL,KZ] at hg;subst hg
   simp [Region.wanted,h2]
  ·rename_i j w h2
   split at hc
   ·rename_i t h3
    simp only [KZ] at hc;subst hc
    simp only [bL] at hg
    have ht:=hs t
    simp only [Region.wanted,h2,yielded,h3,Mq]
    split at hg
    ·rename_i b' aY
     rw [aY] at ht
     have:=ht.fy
     simp only [KZ] at hg;subst hg
     have hlt:t<a.tmps.size:=by
      rcases LM t a.tmps.size with h|h
      ·exact h
      ·simp [Array.getElem?_eq_none h,undef] at this
     have h5:a.tmps[t]? =some (.bool b'):=by
      rw [Lg hlt]
      simpa [Lg hlt] using this
     rw [h5]
     cases b'<;>cases w<;>rfl
    ·rename_i vs aY
     rw [aY] at ht
     have:=ht.fy
     simp only [KZ] at hg;subst hg
     have h5:a.tmps[t]? =none\/a.tmps[t]? =some (.tuple vs):=by
      rcases LM t a.tmps.size with h|h
      ·right
       rw [Lg h]
       simpa [Lg h] using this
      ·left;exact Array.getElem?_eq_none h
     rcases h5 with h5|h5<;>rw [h5]<;>rfl
    ·simp at hg
   ·simp at hc
 ·simp at hc
theorem n8 (hc:eP P ops op=some o):o.dst=op.dst/\bA P op=some o.ao:=by
 unfold eP at hc
 split at hc
 ·rename_i ao h1
  split at hc
  ·simp only [KZ] at hc;subst hc;exact ⟨rfl,h1⟩
  ·split at hc
   ·simp only [KZ] at hc;subst hc;exact ⟨rfl,h1⟩
   ·simp at hc
 ·simp at hc
theorem tc {a:Act} (hG:dT E) (hs:∀t,af E (a.tmps.getD t undef) (σ t)) (hm:aD E J base g) (hf:¬E.kn fresh) (hi:ops[i]? =some op) (hc:eP P ops op=some o)
 {acc:List Nat} (hr:de P σ g fresh o val ups acc) {K:Act->World->Prop}
  (hK:∀v E',E.Le E'->af E' v val->aD E' J base (au g ups)->Below base E.w E'.w->(∀id,E'.kn id->E.kn id\/id∈ups.map Prod.fst)->K (a.put o.dst v) E'.w) {rd:Option Nat}:wpOpIn (cp rd) 0 P ops Q i K a E.w:=by
 have hd:o.dst=op.dst/\bA P op=some o.ao:=by
  unfold eP at hc
  split at hc
  ·rename_i ao h1
   split at hc
   ·simp only [KZ] at hc;subst hc;exact ⟨rfl,h1⟩
   ·split at hc
    ·simp only [KZ] at hc;subst hc;exact ⟨rfl,h1⟩
    ·simp at hc
  ·simp at hc
 have cW:∀e,op.semAt (cp rd).round e=execOp e op:=fun e=>MS (cp rd) _ _ (mD hd.2)
 unfold wpOpIn
 simp only [hi]
 cases hr with
 |skip hg=>
  rw [jw hs hc hg]
  simp only [L4,Lx]
  rw [<-hd.1]
  exact ⟨iT,hK undef E (Env.Le.refl E) (.v rfl) hm (LN _ _) fun _ h=> .inl h⟩
 |done hg h=>
  rw [jw hs hc hg,K1 rfl]
  obtain ⟨n,v,E',h1,h2,h3,h4,h5,h6,h7⟩:=C7 (dC.of hG hs) (fun _=>rfl) hm hf hd.2 h
  have:=hK v E' h3 h4 h5 h6 h7
  unfold Oper.wpIn
  rw [cW,h1]
  rw [hd.1] at this
  rcases h2 with rfl|⟨rfl,rfl⟩
  ·exact ⟨iT,this⟩
  ·exact ⟨iT,this⟩
 | @call f as_ bV r hg h bS gN eO=>
  rw [jw hs hc hg,K1 rfl]
  obtain ⟨vs,h1,h2⟩:=nX (dC.of hG hs) hd.2 h bS
  unfold Oper.wpIn
  rw [cW,h1,Oper.uponIn_enter]
  refine ⟨iT,mC,n6 ((De hG hm h2 gN eO fun id hid=> ?_).mono ?_)⟩
  ·obtain ⟨B,hB⟩:=xP gN id hid
   exact ((hm.live id).2 ⟨B,hB⟩).1
  ·rintro e w' ⟨v,E',rfl,rfl,k1,k2,k3,k4,k5⟩
   have:=hK v E' k1 k2 k3 k4 fun id h=> .inl (k5 id h)
   rw [hd.1] at this
   exact this
 | @lF f as_ bV sz els hg h bS gN eO qn=>
  rw [jw hs hc hg,K1 rfl]
  obtain ⟨vs,h1,h2⟩:=nX (dC.of hG hs) hd.2 h bS
  unfold Oper.wpIn
  rw [cW,h1,Oper.uponIn_enter]
  refine ⟨iT,mC,n6 ((Dg hG hm h2 gN eO qn hf).mono ?_)⟩
  ·rintro e w' ⟨v,E',rfl,rfl,k1,k2,k3,k4,k5⟩
   have:=hK v E' k1 k2 k3 k4 fun id h=>(k5 id h).imp (fun h=>h) fun h=>by simp [h]
   rw [hd.1] at this
   exact this
theorem mE (hE:E.Le E') {a:Act} (hs:∀t,af E (a.tmps.getD t undef) (σ t)) (hv:af E' v val) (d:Option Nat):∀t,af E' ((a.put d v).tmps.getD t undef) (bw a.tmps.size d val σ t):=by
 intro t
 unfold bw
 cases d with
 |none=>simp only [Act.put,reduceCtorEq,false_and,Lx];exact (hs t).step hE
 |some d=>
  simp only [Act.put,KZ]
  by_cases h:d=t/\t<a.tmps.size
  ·rw [K1 h]
   obtain ⟨rfl,hlt⟩:=h
   simpa [hlt] using hv
  ·rw [K0 h]
   have:(a.tmps.setIfInBounds d v).getD t undef=a.tmps.getD t undef:=by
    simp only [MP,MV]
    by_cases c9:d=t
    ·subst c9
     have:¬d<a.tmps.size:=fun hl=>h ⟨rfl,hl⟩
     simp [this]
    ·simp [c9]
   rw [this];exact (hs t).step hE
theorem fZ (a:Act) (d:Option Nat) (v:Value):(a.put d v).tmps.size=a.tmps.size/\(a.put d v).defers=a.defers:=by
 cases d<;>simp [Act.put]
end
def Fi (P:Program) (f:FuncId) (as_:List AV) (g:Nat->Option Bk) (k:Nat) (r:AV) (g':Nat->Option Bk) (k':Nat):Prop:=
 ∀(E:Env) (J:Nat->Prop) (base:Nat) (vs:Array Value),dT E->aD E J base g->(∀id,E.kn id->id<k)->RC E vs as_->
  Calls P f vs E.w fun e w'=>∃v E',e= .returned v/\E'.w=w'/\E.Le E'/\af E' v r/\aD E' J base g'/\Below base E.w w'/\∀id,E'.kn id->id<k'
def Yd (P:Program) (kb:Nat) (r:Loop) (caps as_:List AV) (g:Nat->Option Bk) (k:Nat) (g':Nat->Option Bk) (k':Nat):Prop:=
 r.params.size=as_.length/\∀(E:Env) (J:Nat->Prop) (base l:Nat) (vs:Array Value),dT E->aD E J base g->(∀id,E.kn id->id<k)->E.rg l->RC E vs as_->RC E r.tmps caps->E.I l->E.w.heap[l]? =some (.loop r)->
  RoundIn Fence.wide 0 P l r.fn ((r.params.zip vs).foldl (fun t (p,v)=>t.setIfInBounds p v) r.tmps) r.assign r.body E.w fun e w'=>e= .returned (.bool true)/\∃E',E'.w=w'/\(E.lt kb).Le E'/\aD E' J base g'/\Below base E.w w'/\∀id,E'.kn id->id<k'
theorem Dj {aA:Operand->Value} {l:Nat} {c:Call} {x:Operand} (hc:c.callee= .value x) (hx:aA x= .func (.yield l) #[] #[]) (w:World):
  (do let d<-resolve aA c ty;invoke d.target d.args:Sem Next).run P w=(Instr.yield l (c.args.map aA)).run P w:=by
 simp [resolve,hc,hx,Deferred.ofValue,invoke]
inductive fC (P:Program) (n k0:Nat):List az->(Nat->AV)->(Nat->Option Bk)->Nat->(Nat->AV)->(Nat->Option Bk)->Nat->Prop
 |nil {σ:Nat->AV} {g:Nat->Option Bk} {k:Nat}:fC P n k0 [] σ g k σ g k
 |cons {o:az} {os:List az} {σ σ':Nat->AV} {g g':Nat->Option Bk} {k k1 k':Nat} {val:AV} {ups:List (Nat×Option Bk)} {acc:List Nat} (h:de P σ g k o val ups acc) (hk:k<=k1) (hu:∀id,id∈ups.map Prod.fst->id<k1)
   (hr:fC P n k0 os (bw n o.dst val σ) (au g ups) k1 σ' g' k'):fC P n k0 (o::os) σ g k σ' g' k'
 |inl {o:az} {os:List az} {σ σ':Nat->AV} {g g1 g':Nat->Option Bk} {k k1 k':Nat} {f:FuncId} {as_:List AV} {r:AV} (hg:bL σ o.guard=some true) (h:(o.ao.ae k (aE σ)).run g=some (.call f as_)) (hc:bW P f=true)
   (hf:Fi P f as_ g k r g1 k1) (hr:fC P n k0 os (bw n o.dst r σ) g1 k1 σ' g' k'):fC P n k0 (o::os) σ g k σ' g' k'
 |ee {o:az} {os:List az} {σ σ':Nat->AV} {g g1 g':Nat->Option Bk} {k k1 k':Nat} {x:Arg} {args:List Arg} {r:Loop} {caps:List AV} (hg:bL σ o.guard=some true) (h:o.ao= .call x args) (hx:aE σ x= .ee r caps)
   {kb:Nat} (pQ:k0<=kb) (qn:∀t,nb kb 6 (σ t)=true) (hy:Yd P kb r caps (args.map (aE σ)) g k g1 k1) (hr:fC P n k0 os (bw n o.dst (.v (.bool true)) σ) g1 k1 σ' g' k'):fC P n k0 (o::os) σ g k σ' g' k'
structure eg (E0:Env) (J:Nat->Prop) (base:Nat) (w0:World) (n:Nat) (σ:Nat->AV) (g:Nat->Option Bk) (k:Nat) (a:Act) (w:World):Prop where
 ex:∃E:Env,E.w=w/\E0.Le E/\(∀t,af E (a.tmps.getD t undef) (σ t))/\aD E J base g/\(∀id,E.kn id->id<k)/\Mk E w0.heap.size a.defers
 size:a.tmps.size=n
 below:Below base w0 w
 gl:dT E0
theorem xQ {rd:Option Nat} {E0:Env} (hk0:∀id,E0.kn id->id<k0) {w0:World} (h:fC P n k0 os σ g k σ' g' k'):
  ∀(i:Nat) (a:Act) (w:World),(∀j,j<os.length->∃op,ops[i+j]? =some op/\∃o,os[j]? =some o/\eP P ops op=some o)->eg E0 J base w0 n σ g k a w->(∀a w,eg E0 J base w0 n σ' g' k' a w->Q .normal a w)->wpOpsIn (cp rd) 0 P ops Q (List.range' i os.length) a w:=by
 induction h with
 |nil=>intro i a w _ hr hQ;exact hQ a w hr
 | @cons o os σ σ' g g' k k1 k' val ups acc h hk hu hr ih=>
  intro i a w dG hrel hQ
  rw [ML,List.range'_succ,wpOpsIn_cons]
  obtain ⟨op,h1,o',h2,h3⟩:=dG 0 (by simp)
  simp only [LB,KZ] at h2
  subst h2
  rw [L1] at h1
  obtain ⟨E,rfl,hle,hs,hm,ba,hmk⟩:=hrel.ex
  refine tc (hrel.gl.step hle) hs hm (fun hh=>Mh _ (ba k hh)) h1 h3 h fun v E' hE hv hM hB Dk=> ?_
  refine ih (i+1) _ _ (fun j hj=> ?_) ⟨⟨E',rfl,hle.trans hE, ?_,hM,fun id hid=> ?_, ?_⟩, ?_, ?_,hrel.gl⟩ hQ
  ·obtain ⟨n9,m1,o',m2,m3⟩:=dG (j+1) (by simp;omega)
   exact ⟨n9,by rw [show i+1+j=i+(j+1) by omega];exact m1,o',by simpa using m2,m3⟩
  ·have:=mE hE hs hv o.dst
   rw [hrel.size] at this
   exact this
  ·rcases Dk id hid with h|h
   ·exact Lr (ba id h) hk
   ·exact hu id h
  ·rw [(fZ a o.dst v).2];exact hmk.step hE
  ·rw [(fZ a o.dst v).1];exact hrel.size
  ·exact hrel.below.trans hB
 | @inl o os σ σ' g g1 g' k k1 k' f as_ r hg h bS hf hr ih=>
  intro i a w dG hrel hQ
  rw [ML,List.range'_succ,wpOpsIn_cons]
  obtain ⟨op,h1,o',h2,h3⟩:=dG 0 (by simp)
  simp only [LB,KZ] at h2
  subst h2
  rw [L1] at h1
  obtain ⟨E,rfl,hle,hs,hm,ba,hmk⟩:=hrel.ex
  have hd:=n8 h3
  have cW:∀e,op.semAt (cp rd).round e=execOp e op:=fun e=>MS (cp rd) _ _ (mD hd.2)
  unfold wpOpIn
  simp only [h1]
  rw [jw hs h3 hg,K1 rfl]
  obtain ⟨vs,e1,e2⟩:=nX (dC.of (hrel.gl.step hle) hs) hd.2 h bS
  unfold Oper.wpIn
  rw [cW,e1,Oper.uponIn_enter]
  refine ⟨iT,mC,n6 ((hf E J base vs (hrel.gl.step hle) hm ba e2).mono ?_)⟩
  rintro e w' ⟨v,E',rfl,rfl,q1,q2,q3,q4,q5⟩
  refine ih (i+1) _ _ (fun j hj=> ?_) ⟨⟨E',rfl,hle.trans q1, ?_,q3,q5, ?_⟩, ?_, ?_,hrel.gl⟩ hQ
  ·obtain ⟨n9,m1,o',m2,m3⟩:=dG (j+1) (by simp;omega)
   exact ⟨n9,by rw [show i+1+j=i+(j+1) by omega];exact m1,o',by simpa using m2,m3⟩
  ·have:=mE q1 hs q2 op.dst
   rw [hrel.size] at this
   rw [hd.1]
   exact this
  ·rw [(fZ a op.dst v).2];exact hmk.step q1
  ·rw [(fZ a op.dst v).1];exact hrel.size
  ·exact hrel.below.trans q4
 | @ee o os σ σ' g g1 g' k k1 k' x args r caps hg h hx kb pQ qn hy hr ih=>
  intro i a w dG hrel hQ
  rw [ML,List.range'_succ,wpOpsIn_cons]
  obtain ⟨op,h1,o',h2,h3⟩:=dG 0 (by simp)
  simp only [LB,KZ] at h2
  subst h2
  rw [L1] at h1
  obtain ⟨E,rfl,hle,hs,hm,ba,hmk⟩:=hrel.ex
  have hd:=n8 h3
  have cW:∀e,op.semAt (cp rd).round e=execOp e op:=fun e=>MS (cp rd) _ _ (mD hd.2)
  have xR:=hd.2
  rw [h] at xR
  obtain ⟨c,y,c1,c2,c3,c4⟩:=xG xR
  have hv:=dC.of (hrel.gl.step hle) hs y x c3
  rw [hx] at hv
  obtain ⟨vv,b7⟩:∃vv,vv=a.eval y:=⟨_,rfl⟩
  rw [<-b7] at hv
  cases hv with
  | @ee l _ _ Dl hI hh hl hr'=>
   obtain ⟨al,ar⟩:=(dC.of (hrel.gl.step hle) hs).list c4
   have xS:=run_yield (P:=P) (args:=c.args.map a.eval) hh (by rw [hy.1];simpa using al)
   have e1:(execOp a.eval op).run P E.w= .ok (.round l r.fn ((r.params.zip (c.args.map a.eval)).foldl (fun t (p,v)=>t.setIfInBounds p v) r.tmps) r.assign r.body) E.w:=by
    unfold execOp
    simp only [c1]
    exact (Dj c2 b7.symm E.w).trans xS
   unfold wpOpIn
   simp only [h1]
   rw [jw hs h3 hg,K1 rfl]
   unfold Oper.wpIn
   rw [cW,e1,Oper.uponIn_round]
   refine ⟨iT,mC,RoundIn.mono (hy.2 E J base l (c.args.map a.eval) (hrel.gl.step hle) hm ba Dl ⟨by simpa using al,fun j u c hu hc=>ar j u c (by simpa using hu) hc⟩ ⟨hl,hr'⟩ hI hh) ?_⟩
   rintro e w' ⟨rfl,E',rfl,q1,q3,q4,q5⟩
   refine ih (i+1) _ _ (fun j hj=> ?_) ⟨⟨E',rfl,hle.cut (fun id hi=>Lr (hk0 id hi) pQ) q1, ?_,q3,q5, ?_⟩, ?_, ?_,hrel.gl⟩ hQ
   ·obtain ⟨n9,m1,o',m2,m3⟩:=dG (j+1) (by simp;omega)
    exact ⟨n9,by rw [show i+1+j=i+(j+1) by omega];exact m1,o',by simpa using m2,m3⟩
   ·have:=mE (E:=E') (E':=E') (Env.Le.refl E') (fun t=>(hs t).Dh q1 6 (qn t)) (v:= .bool true) (.v rfl) op.dst
    rw [hrel.size] at this
    rw [hd.1]
    exact this
   ·rw [(fZ a op.dst _).2];exact Mk.xN (E:=E) q1.dS hmk
   ·rw [(fZ a op.dst _).1];exact hrel.size
   ·exact hrel.below.trans q4
open Go.RowKit
def Arg.slot:Arg->List Nat
 | .s t=>[t]
 | .c _=>[]
def mF:Option Arg->List Nat
 |none=>[]
 |some x=>x.slot
def AO.oa:AO->List Nat
 | .mov x| .box _ x| .load _ x| .nilc x| .un _ x| .conv _ x| .fad _ x| .fld _ _ x| .ext _ x| .len _ x| .isn _ _ x=>x.slot
 | .pick a b c=>a.slot++b.slot++c.slot
 | .new _=>[]
 | .agg _ ps=>ps.flatMap fun p=>p.2.2.slot
 | .bsl _ _ _ ps=>ps.flatMap fun p=>p.2.slot
 | .store _ x y| .bin _ _ x y| .iad _ x y| .iap _ _ x y| .ixa _ _ _ x y| .mnx _ x y| .eqs _ _ _ x y| .msl _ _ _ x y| .six x y| .app _ _ x y=>x.slot++y.slot
 | .slc _ x l h m=>x.slot++mF l++mF h++mF m
 | .sls x l h=>x.slot++mF l++mF h
 | .mkf _ cs| .mkb _ cs=>cs.flatMap Arg.slot
 | .call x l=>x.slot++l.flatMap Arg.slot
 | .clr _ x| .b2s x| .s2b x=>x.slot
 | .cpy _ x y=>x.slot++y.slot
 | .mkm| .bad=>[]
 | .mup _ x k y=>x.slot++k.slot++y.slot
 | .mlk _ _ x k=>x.slot++k.slot
def AO.allocs:AO->Bool
 | .new _| .box _ _| .bsl _ _ _ _| .msl _ _ _ _ _| .app _ _ _ _| .s2b _| .mkm=>true
 |_=>false
def az.gO (o:az):List Nat:=o.ao.oa++(match o.guard with|some (t,_)=>[t]|none=>[])
theorem bp (h:∀t,t∈x.slot->σ' t=σ t):aE σ' x=aE σ x:=by
 cases x with
 |s t=>exact h t (by simp [Arg.slot])
 |c a=>rfl
theorem oc {x:Option Arg} (h:∀t,t∈mF x->σ' t=σ t):cH (aE σ') x=cH (aE σ) x:=by
 cases x with
 |none=>rfl
 |some a=>simp only [cH,bp h]
theorem map_congr {l:List Arg} (h:∀t,t∈l.flatMap Arg.slot->σ' t=σ t):l.map (aE σ')=l.map (aE σ):=by
 apply MY
 intro x hx
 exact bp fun t ht=>h t (List.mem_flatMap.2 ⟨x,hx,ht⟩)
theorem xT {σ σ':Nat->AV}:∀{ps:List (Nat×Nat×Arg)} {cs:List AV},(∀t,t∈ps.flatMap (fun p=>p.2.2.slot)->σ' t=σ t)->fillA (aE σ') cs ps=fillA (aE σ) cs ps
 |[],cs,_=>rfl
 |(off,n,x)::r,cs,h=>by
  have h1:=bp (x:=x) (σ:=σ) (σ':=σ') fun t ht=>h t (by simp [ht])
  simp only [fillA,h1]
  split
  ·exact xT fun t ht=>h t (by rw [L6];exact LF _ ht)
  ·rfl
theorem xU {σ σ':Nat->AV} {sz:Nat}:∀{ps:List (Nat×Arg)} {els:List (List AV)},(∀t,t∈ps.flatMap (fun p=>p.2.slot)->σ' t=σ t)->fillE (aE σ') sz els ps=fillE (aE σ) sz els ps
 |[],cs,_=>rfl
 |(i,x)::r,cs,h=>by
  have h1:=bp (x:=x) (σ:=σ) (σ':=σ') fun t ht=>h t (by simp [ht])
  simp only [fillE,h1]
  split
  ·exact xU fun t ht=>h t (by rw [L6];exact LF _ ht)
  ·rfl
theorem xV (fresh:Nat) (h:∀t,t∈ao.oa->σ' t=σ t):ao.ae fresh (aE σ')=ao.ae fresh (aE σ):=by
 cases ao<;>simp only [AO.oa,LD] at h<;>simp only [AO.ae]
 case mov x=>rw [bp h]
 case pick a b c=>rw [bp (x:=a) fun t ht=>h t (.inl (.inl ht)),bp (x:=b) fun t ht=>h t (.inl (.inr ht)),bp (x:=c) fun t ht=>h t (.inr ht)]
 case box n x=>rw [bp h]
 case agg zs ps=>rw [xT h]
 case bsl sz ln zs ps=>rw [xU h]
 case load m x=>rw [bp h]
 case store n x y=>rw [bp (x:=x) fun t ht=>h t (.inl ht),bp (x:=y) fun t ht=>h t (.inr ht)]
 case nilc x=>rw [bp h]
 case bin bt op x y=>rw [bp (x:=x) fun t ht=>h t (.inl ht),bp (x:=y) fun t ht=>h t (.inr ht)]
 case un op x=>rw [bp h]
 case conv k x=>rw [bp h]
 case fad off x=>rw [bp h]
 case fld off m x=>rw [bp h]
 case iad sz x y=>rw [bp (x:=x) fun t ht=>h t (.inl ht),bp (x:=y) fun t ht=>h t (.inr ht)]
 case ext i x=>rw [bp h]
 case len b x=>cases b<;>simp only [AO.ae]<;>rw [bp h]
 case isn kd m x=>cases kd<;>simp only [AO.ae]<;>rw [bp h]
 case mnx m x y=>rw [bp (x:=x) fun t ht=>h t (.inl ht),bp (x:=y) fun t ht=>h t (.inr ht)]
 case eqs ng n L x y=>rw [bp (x:=x) fun t ht=>h t (.inl ht),bp (x:=y) fun t ht=>h t (.inr ht)]
 case msl sz by_ zs x y=>rw [bp (x:=x) fun t ht=>h t (.inl ht),bp (x:=y) fun t ht=>h t (.inr ht)]
 case slc sz x lo hi mx=>rw [bp (x:=x) fun t ht=>h t (.inl (.inl (.inl ht))),oc (x:=lo) fun t ht=>h t (.inl (.inl (.inr ht))),oc (x:=hi) fun t ht=>h t (.inl (.inr ht)),oc (x:=mx) fun t ht=>h t (.inr ht)]
 case sls x lo hi=>rw [bp (x:=x) fun t ht=>h t (.inl (.inl ht)),oc (x:=lo) fun t ht=>h t (.inl (.inr ht)),oc (x:=hi) fun t ht=>h t (.inr ht)]
 case six x y=>rw [bp (x:=x) fun t ht=>h t (.inl ht),bp (x:=y) fun t ht=>h t (.inr ht)]
 case app sz by_ x y=>rw [bp (x:=x) fun t ht=>h t (.inl ht),bp (x:=y) fun t ht=>h t (.inr ht)]
 case mkf f cs=>rw [map_congr h]
 case mkb f cs=>rw [map_congr h]
 case clr zs x=>rw [bp h]
 case b2s x=>rw [bp h]
 case s2b x=>rw [bp h]
 case cpy sz x y=>rw [bp (x:=x) fun t ht=>h t (.inl ht),bp (x:=y) fun t ht=>h t (.inr ht)]
 case mup kd x k y=>rw [bp (x:=x) fun t ht=>h t (.inl (.inl ht)),bp (x:=k) fun t ht=>h t (.inl (.inr ht)),bp (x:=y) fun t ht=>h t (.inr ht)]
 case mlk kd z x k=>rw [bp (x:=x) fun t ht=>h t (.inl ht),bp (x:=k) fun t ht=>h t (.inr ht)]
 case ixa sz ln m x y=>rw [bp (x:=x) fun t ht=>h t (.inl ht),bp (x:=y) fun t ht=>h t (.inr ht)]
 case iap sz ln x y=>rw [bp (x:=x) fun t ht=>h t (.inl ht),bp (x:=y) fun t ht=>h t (.inr ht)]
 case call x l=>rw [bp (x:=x) fun t ht=>h t (.inl ht),map_congr fun t ht=>h t (.inr ht)]
theorem Dm (h:ao.allocs=false) (fresh Dn:Nat) (ρ:Arg->AV):ao.ae Dn ρ=ao.ae fresh ρ:=by
 cases ao<;>simp [AO.allocs] at h<;>first|rfl|skip
 case len b x=>cases b<;>rfl
 case isn kd b x=>cases kd<;>rfl
theorem Dp (h:ao.allocs=true) {ρ:Arg->AV} (hr:(ao.ae fresh ρ).run g=some (.done val ups)):fresh∈ups.map Prod.fst:=by
 cases ao<;>simp [AO.allocs] at h<;>simp only [AO.ae] at hr
 case new zs=>simp [RM.run] at hr;rw [<-hr.2];simp
 case mkm=>simp [RM.run] at hr;rw [<-hr.2];simp
 case box n x=>split at hr<;>simp [RM.run] at hr;rw [<-hr.2];simp
 case bsl sz ln zs ps=>
  cases hf:fillE ρ sz (List.replicate ln zs) ps with
  |none=>simp [hf,RM.opt,RM.run] at hr
  |some els=>simp [hf,RM.opt,RM.run] at hr;rw [<-hr.2];simp
 case msl sz b zs l c=>
  split at hr
  ·split at hr<;>simp [RM.run] at hr;rw [<-hr.2];simp
  ·simp [RM.run] at hr
 case s2b x=>
  split at hr
  ·split at hr<;>simp [RM.run] at hr;rw [<-hr.2];simp
  ·simp [RM.run] at hr
 case app sz b s x=>
  obtain ⟨ys,_,hr⟩:=cB hr
  split at hr
  ·split at hr<;>simp [RM.run] at hr;rw [<-hr.2];simp
  ·split at hr<;>simp [RM.run] at hr;rw [<-hr.2];simp
  ·simp only [RM.run] at hr
   split at hr
   ·split at hr
    ·simp [RM.run] at hr;rw [<-hr.2];simp
    ·split at hr<;>simp [RM.run] at hr;rw [<-hr.2];simp
   ·simp at hr
  ·simp [RM.run] at hr
theorem de.local {P:Program} {σ σ':Nat->AV} {g g':Nat->Option Bk} {fr fD:Nat} {o:az} {val:AV} {ups:List (Nat×Option Bk)} {acc:List Nat} (h:de P σ g fr o val ups acc)
  (hσ:∀t,t∈o.gO->σ' t=σ t) (hg:∀id,id∈acc->g' id=g id) (dW:fr∈ups.map Prod.fst->fD=fr):∃td,de P σ' g' fD o val ups td:=by
 have cv:bL σ' o.guard=bL σ o.guard:=by
  cases hg0:o.guard with
  |none=>rfl
  |some p=>
   obtain ⟨t,w⟩:=p
   simp only [bL,hσ t (by simp [az.gO,hg0])]
 have cW:∀out,(o.ao.ae fr (aE σ)).run g=some out->(∀id,id∈(o.ao.ae fr (aE σ)).acc g++(o.ao.ae fr (aE σ)).see g->g' id=g id)->(o.ao.allocs=true->fD=fr)->(o.ao.ae fD (aE σ')).run g'=some out:=by
  intro out h1 h2 h3
  have e1:o.ao.ae fD (aE σ')=o.ao.ae fr (aE σ):=by
   rw [xV fD fun t ht=>hσ t (by simp [az.gO,ht])]
   cases hal:o.ao.allocs with
   |false=>exact Dm hal _ _ _
   |true=>rw [h3 hal]
  rw [e1,RM.local _ (fun id hid=>h2 id (LL _ hid)) (fun id hid=>by rw [h2 id (LF _ hid)])]
  exact h1
 cases h with
 |skip hg0=>exact ⟨_, .skip (cv.trans hg0)⟩
 |done hg0 h1=>exact ⟨_, .done (cv.trans hg0) (cW _ h1 hg fun hal=>dW (Dp hal h1))⟩
 | @call f as_ bV r hg0 h1 hc hs hf=>
  have hal:o.ao.allocs=false:=by
   cases hx:o.ao with
   |call x l=>rfl
   |_=>exact absurd h1 (sX (by rw [hx];simp))
  refine ⟨_, .call (cv.trans hg0) (cW _ h1 (fun id hid=>hg id (LL _ hid)) fun h=>by rw [hal] at h;simp at h) hc ?_ hf⟩
  rw [RM.local _ (fun id hid=>hg id (LF _ (LL _ hid))) (fun id hid=>by rw [hg id (LF _ (LF _ hid))])]
  exact hs
 | @lF f as_ bV sz els hg0 h1 hc hs hf hn=>
  have hal:o.ao.allocs=false:=by
   cases hx:o.ao with
   |call x l=>rfl
   |_=>exact absurd h1 (sX (by rw [hx];simp))
  have hfe:fD=fr:=dW (by simp)
  subst hfe
  refine ⟨_, .lF (cv.trans hg0) (cW _ h1 (fun id hid=>hg id (LL _ hid)) fun _=>rfl) hc ?_ hf hn⟩
  rw [RM.local _ (fun id hid=>hg id (LF _ (LL _ hid))) (fun id hid=>by rw [hg id (LF _ (LF _ hid))])]
  exact hs
structure Rec where
 dst:Option Nat
 val:AV
 ups:List (Nat×Option Bk)
 acc:List Nat
 fr:Nat
variable {rs:List Rec}
def Rec.keys (r:Rec):List Nat:=r.ups.map Prod.fst
inductive ga (P:Program) (n:Nat):List az->(Nat->AV)->(Nat->Option Bk)->Nat->List Rec->(Nat->AV)->(Nat->Option Bk)->Nat->Prop
 |nil {σ:Nat->AV} {g:Nat->Option Bk} {k:Nat}:ga P n [] σ g k [] σ g k
 |cons {o:az} {os:List az} {σ σ':Nat->AV} {g g':Nat->Option Bk} {k k1 k':Nat} {val:AV} {ups:List (Nat×Option Bk)} {acc:List Nat} {rs:List Rec} (h:de P σ g k o val ups acc) (hk:k<=k1) (hu:∀id,id∈ups.map Prod.fst->id<k1)
   (hr:ga P n os (bw n o.dst val σ) (au g ups) k1 rs σ' g' k'):ga P n (o::os) σ g k (⟨o.dst,val,ups,acc,k⟩::rs) σ' g' k'
def cX {β:Type} (L:Nat->Bool) (w:Rec->Option β):Nat->List Rec->β->β
 |_,[],x=>x
 |k,r::rs,x=>cX L w (k+1) rs (if L k=true then (w r).getD x else x)
theorem ik {β:Type} {L L':Nat->Bool} {w:Rec->Option β}:∀(rs:List Rec) (k:Nat) (x:β),(∀(j:Nat) r,rs[j]? =some r->L (k+j)≠L' (k+j)->w r=none)->cX L w k rs x=cX L' w k rs x
 |[],k,x,_=>rfl
 |r::rs,k,x,h=>by
  simp only [cX]
  have h0:=h 0 r rfl
  rw [L1] at h0
  have e:(if L k=true then (w r).getD x else x)=if L' k=true then (w r).getD x else x:=by
   by_cases hl:L k=L' k
   ·rw [hl]
   ·rw [h0 hl];simp
  rw [e]
  exact ik rs (k+1) _ fun j r' hr hl=>h (j+1) r' (by simpa using hr) (by rw [show k+(j+1)=k+1+j by omega];exact hl)
theorem im {β:Type} {L:Nat->Bool} {w:Rec->Option β}:∀(rs:List Rec) (k:Nat) (x:β),(∀(j:Nat) r,rs[j]? =some r->L (k+j)=true->w r=none)->cX L w k rs x=x
 |[],k,x,_=>rfl
 |r::rs,k,x,h=>by
  simp only [cX]
  have e:(if L k=true then (w r).getD x else x)=x:=by
   split
   ·rename_i hl;rw [h 0 r rfl (by simpa using hl)];rfl
   ·rfl
  rw [e]
  exact im rs (k+1) _ fun j r' hr hl=>h (j+1) r' (by simpa using hr) (by rw [show k+(j+1)=k+1+j by omega];exact hl)
theorem lG {β:Type} {L L':Nat->Bool} {w:Rec->Option β}:∀(rs:List Rec) (k i:Nat) (x:β) (r:Rec),rs[i]? =some r->L (k+i)=false->(∀j,L' j=if j=k+i then true else L j)->(∀(j:Nat) r',i<j->rs[j]? =some r'->L (k+j)=true->w r'=none\/w r=none)->
  cX L' w k rs x=(w r).getD (cX L w k rs x)
 |[],k,i,x,r,hr,_,_,_=>by simp at hr
 |r0::rs,k,0,x,r,hr,hf,hL,hn=>by
  simp only [LB,KZ] at hr
  subst hr
  simp only [cX,hL k,L1,K3]
  rw [L1] at hf
  rw [hf]
  simp only [L4,Lx]
  cases hw:w r0 with
  |none=>
   simp only [Mv]
   refine ik rs (k+1) x fun j r' hr' hl=> ?_
   rw [hL,K0 (by omega)] at hl
   exact absurd rfl hl
  |some y=>
   simp only [L8]
   refine im rs (k+1) y fun j r' hr' hl=> ?_
   rw [hL,K0 (by omega)] at hl
   exact (hn (j+1) r' (by omega) (by simpa using hr') (by rw [show k+(j+1)=k+1+j by omega];exact hl)).resolve_right (by rw [hw];simp)
 |r0::rs,k,i+1,x,r,hr,hf,hL,hn=>by
  simp only [cX]
  have e:L' k=L k:=by rw [hL k,K0 (by omega)]
  rw [e]
  exact lG rs (k+1) i _ r (by simpa using hr) (by rw [show k+1+i=k+(i+1) by omega];exact hf) (fun j=>by rw [hL j,show k+1+i=k+(i+1) by omega]) fun j r' hj hr' hl=>hn (j+1) r' (by omega) (by simpa using hr') (by rw [show k+(j+1)=k+1+j by omega];exact hl)
theorem gy {β:Type} {L:Nat->Bool} {w:Rec->Option β}:∀(rs:List Rec) (k:Nat) (x:β),cX L w (k+1) rs x=cX (fun j=>L (j+1)) w k rs x
 |[],_,_=>rfl
 |r::rs,k,x=>by
  simp only [cX]
  exact gy rs (k+1) _
def gP (n t:Nat) (r:Rec):Option AV:=if r.dst=some t/\t<n then some r.val else none
def kv:List (Nat×Option Bk)->Nat->Option (Option Bk)
 |[],_=>none
 |(k,x)::r,id=>match kv r id with
  |some y=>some y
  |none=>if id=k then some x else none
theorem iU:∀(ups:List (Nat×Option Bk)) (g:Nat->Option Bk) (id:Nat),au g ups id=(kv ups id).getD (g id)
 |[],g,id=>rfl
 |(k,x)::r,g,id=>by
  simp only [au,kv,iU r]
  cases kv r id with
  |some y=>rfl
  |none=>
   simp only [Mv]
   by_cases h:id=k
   ·simp [h]
   ·simp [h]
theorem jx:∀{ups:List (Nat×Option Bk)} {id:Nat},kv ups id≠none->id∈ups.map Prod.fst
 |[],id,h=>by simp [kv] at h
 |(k,x)::r,id,h=>by
  simp only [kv] at h
  cases hr:kv r id with
  |some y=>simp only [Lf,Lc];exact .inr (jx (by rw [hr];simp))
  |none=>
   rw [hr] at h
   by_cases hk:id=k
   ·simp [hk]
   ·simp [hk] at h
def wg (id:Nat) (r:Rec):Option (Option Bk):=kv r.ups id
theorem jy (n t:Nat) (r:Rec) (σ:Nat->AV):bw n r.dst r.val σ t=(gP n t r).getD (σ t):=by
 unfold bw gP
 split<;>rfl
def upto (i j:Nat):Bool:=decide (j<i)
def bu (n:Nat) (L:Nat->Bool) (rs:List Rec) (σ:Nat->AV) (t:Nat):AV:=cX L (gP n t) 0 rs (σ t)
def bq (L:Nat->Bool) (rs:List Rec) (g:Nat->Option Bk) (id:Nat):Option Bk:=cX L (wg id) 0 rs (g id)
theorem te (h:ga P n os σ g k rs σ' g' k'):
  rs.length=os.length/\k<=k'/\(∀(i:Nat) o,os[i]? =some o->∃r,rs[i]? =some r/\r.dst=o.dst/\de P (bu n (upto i) rs σ) (bq (upto i) rs g) r.fr o r.val r.ups r.acc/\k<=r.fr)/\
   (∀(i j:Nat) ri rj,i<j->rs[i]? =some ri->rs[j]? =some rj->∀id,id∈ri.keys->id<rj.fr)/\(∀(i:Nat) r,rs[i]? =some r->∀id,id∈r.keys->id<k')/\σ'=bu n (fun _=>true) rs σ/\g'=bq (fun _=>true) rs g:=by
 induction h with
 |nil=>exact ⟨rfl,K4 _,fun i o ho=>by simp at ho,fun i j ri rj _ h=>by simp at h,fun i r h=>by simp at h,rfl,rfl⟩
 | @cons o os σ σ' g g' k k1 k' val ups acc rs h hk hu hr ih=>
  obtain ⟨i1,i2,i3,i4,i5,i6,i7⟩:=ih
  have e1:∀i,bu n (upto (i+1)) (⟨o.dst,val,ups,acc,k⟩::rs) σ=bu n (upto i) rs (bw n o.dst val σ):=by
   intro i;funext t
   show cX _ _ 1 rs _=_
   rw [gy]
   unfold bu
   congr 1
   ·funext j;simp [upto]
   ·rw [K1 (by simp [upto])];exact (jy n t ⟨o.dst,val,ups,acc,k⟩ σ).symm
  have e2:∀i,bq (upto (i+1)) (⟨o.dst,val,ups,acc,k⟩::rs) g=bq (upto i) rs (au g ups):=by
   intro i;funext id
   show cX _ _ 1 rs _=_
   rw [gy]
   unfold bq
   congr 1
   ·funext j;simp [upto]
   ·rw [K1 (by simp [upto]),iU];rfl
  refine ⟨by simp [i1],Lw hk i2,fun i o' ho=> ?_,fun i j ri rj aQ hi hj id hid=> ?_,fun i r hr' id hid=> ?_, ?_, ?_⟩
  ·cases i with
   |zero=>
    simp only [LB,KZ] at ho
    subst ho
    refine ⟨_,rfl,rfl, ?_,K4 _⟩
    have s0:bu n (upto 0) (⟨o.dst,val,ups,acc,k⟩::rs) σ=σ:=by funext t;exact im _ 0 _ fun j r _ hl=>by simp [upto] at hl
    have g0:bq (upto 0) (⟨o.dst,val,ups,acc,k⟩::rs) g=g:=by funext t;exact im _ 0 _ fun j r _ hl=>by simp [upto] at hl
    rw [s0,g0]
    exact h
   |succ i=>
    obtain ⟨r,r1,r2,r3,r4⟩:=i3 i o' (by simpa using ho)
    exact ⟨r,by simpa using r1,r2,by rw [e1,e2];exact r3,Lw hk r4⟩
  ·cases j with
   |zero=>omega
   |succ j=>
    simp only [L2] at hj
    cases i with
    |zero=>
     simp only [LB,KZ] at hi
     subst hi
     have aX:j<os.length:=by rw [<-i1];exact (K8.1 hj).1
     obtain ⟨r,r1,_,_,r4⟩:=i3 j _ (Lj aX)
     rw [hj] at r1
     simp only [KZ] at r1
     subst r1
     exact Lr (hu id hid) r4
    |succ i=>exact i4 i j ri rj (by omega) (by simpa using hi) hj id hid
  ·cases i with
   |zero=>
    simp only [LB,KZ] at hr'
    subst hr'
    exact Lr (hu id hid) i2
   |succ i=>exact i5 i r (by simpa using hr') id hid
  ·rw [i6]
   funext t
   unfold bu
   simp only [cX]
   rw [gy,K3,jy n t ⟨o.dst,val,ups,acc,k⟩ σ]
  ·rw [i7]
   funext id
   unfold bq
   simp only [cX]
   rw [gy,K3,iU]
   rfl
def gQ (x y:az):Bool:=
 (match x.dst with|some d=> !y.gO.contains d&&y.dst !=some d|none=>true)&&(match y.dst with|some d=> !x.gO.contains d|none=>true)
def eQ (x y:Rec):Bool:=(x.keys.all fun id=> !y.acc.contains id&& !y.keys.contains id)&&(y.keys.all fun id=> !x.acc.contains id)
def dg (o:Oper):List Nat:=o.after.toList.filterMap fun e=>if Region.binds .any e=true then some e.on else none
def gz (ops:List Oper) (dep:List (List Nat)):Bool:=
 dep.length==ops.length&&(List.range ops.length).all fun j=>((ops[j]?.map dg).getD []).all (· <j)&&
  ((dep[j]?).getD []).all fun i=>i<j&&(((ops[j]?.map dg).getD []).contains i||((ops[j]?.map dg).getD []).any fun e=>((dep[e]?).getD []).contains i)
def eR (os:List az) (dep:List (List Nat)):Bool:=
 (List.range os.length).all fun j=>(List.range j).all fun i=>((dep[j]?).getD []).contains i||(match os[i]?,os[j]? with|some x,some y=>gQ x y|_,_=>false)
def eE (rs:List Rec) (dep:List (List Nat)):Bool:=
 (List.range rs.length).all fun j=>(List.range j).all fun i=>((dep[j]?).getD []).contains i||(match rs[i]?,rs[j]? with|some x,some y=>eQ x y|_,_=>false)
theorem tg:∀(N:Nat) (m:List Nat),m.Nodup->(∀j,j∈m->j<N)->m.length<=N
 |0,m,_,h=>by
  cases m with
  |nil=>simp
  |cons a l=>have:=h a (by simp);omega
 |N+1,m,hn,h=>by
  have ih:=tg N (m.erase N) (hn.erase N) fun j hj=>by
   have Dq:=List.mem_of_mem_erase hj
   have:=h j Dq
   have aC:j≠N:=fun e=>by
    subst e
    exact (List.Nodup.mem_erase_iff hn).1 hj|>.1 rfl
   omega
  rw [List.length_erase] at ih
  split at ih<;>omega
section
variable {P:Program} {E0:Env} {n:Nat} {ops:Array Oper} {J:Nat->Prop} {base:Nat} {w0:World} {Q:Exit->Act->World->Prop} {os:List az} {dep:List (List Nat)} {σ σ':Nat->AV} {g g':Nat->Option Bk} {k k':Nat} {rs:List Rec}
structure xW (E0:Env) (n:Nat) (ops:Array Oper) (J:Nat->Prop) (base:Nat) (w0:World) (σ:Nat->AV) (g:Nat->Option Bk) (k:Nat) (rs:List Rec) (listed:Array Bool) (a:Act) (w:World):Prop where
 ex:∃E:Env,E.w=w/\E0.Le E/\(∀t,af E (a.tmps.getD t undef) (bu n (fun j=>listed.getD j false) rs σ t))/\aD E J base (bq (fun j=>listed.getD j false) rs g)/\
  (∀id,E.kn id->id<k\/∃j r,listed.getD j false=true/\rs[j]? =some r/\id∈r.keys)/\Mk E w0.heap.size a.defers
 size:a.tmps.size=n
 below:Below base w0 w
 gl:dT E0
 eZ:listed.size=ops.size
 closed:∀(j:Nat) op,ops[j]? =some op->listed.getD j false=true->∀e,e∈dg op->listed.getD e false=true
theorem mG {e:Nat}:e∈dg op↔∃x,x∈op.after/\Region.binds .any x=true/\x.on=e:=by
 unfold dg
 rw [List.mem_filterMap]
 constructor
 ·rintro ⟨x,hx,h⟩
  split at h
  ·rename_i hb;simp only [KZ] at h;exact ⟨x,by simpa using hx,hb,h⟩
  ·simp at h
 ·rintro ⟨x,hx,hb,he⟩
  exact ⟨x,by simpa using hx,by simp [hb,he]⟩
theorem lH (hd:gz ops.toList dep=true) {listed:Array Bool} (hc:∀(j:Nat) op,ops[j]? =some op->listed.getD j false=true->∀e,e∈dg op->listed.getD e false=true):
  ∀(j:Nat) op,ops[j]? =some op->(∀e,e∈dg op->listed.getD e false=true)->∀i,i∈(dep[j]?).getD []->listed.getD i false=true:=by
 intro j
 induction j using Nat.strongRecOn with
 |_ j ih=>
  intro op bK dm i hi
  have aX:j<ops.toList.length:=by simpa using (LQ.1 bK).1
  unfold gz at hd
  simp only [K2,K6,LH,Ly,Ls,MT,Mi] at hd
  have hj:=hd.2 j aX
  have lI:ops.toList[j]? =some op:=by simpa using bK
  simp only [lI,Ld,L8] at hj
  obtain ⟨h1,h2⟩:=hj.2 i hi
  rcases h2 with h2|⟨e,he,h2⟩
  ·exact dm i h2
  ·have Dr:e<j:=hj.1 e he
   have fv:e<ops.size:=by simp at aX;omega
   exact ih e Dr ops[e] (Lg fv) (hc e _ (Lg fv) (dm e he)) i h2
end
open Go.RowKit
def kB:az:=⟨none, .mov (.c (.v undef)),none⟩
def lJ (k:Nat):Rec:=⟨none, .v undef,[],[],k⟩
def xX (dep:List (List Nat)) (b N:Nat):Bool:=
 ((List.range b).all fun i=>((dep[b]?).getD []).contains i)&&(List.range N).all fun j=>decide (j<=b)||((dep[j]?).getD []).contains b
section
variable {P:Program} {E0:Env} {n:Nat} {ops:Array Oper} {J:Nat->Prop} {base:Nat} {w0:World} {Q:Exit->Act->World->Prop} {os:List az} {dep:List (List Nat)} {σ σ':Nat->AV} {g g':Nat->Option Bk} {k k':Nat} {rs:List Rec}
theorem Ds {rd:Option Nat} {i1:Nat} (dj:ga P n os σ g k rs σ' g' k') (hlen:os.length=i1) (hi1:i1<=ops.size) (dG:∀(j:Nat) op,i0<=j->j<i1->ops[j]? =some op->∃o,os[j]? =some o/\eP P ops op=some o)
  (hd:gz ops.toList dep=true) (cd:eR os dep=true) (hid:eE rs dep=true)
  (ti:∀listed:Array Bool,(∀(j:Nat) op,ops[j]? =some op->listed.getD j false=true->∀e,e∈dg op->listed.getD e false=true)->(∀j,listed.getD j false=true->j<i1)->(¬∀j,j<i1->listed.getD j false=true)->∀i op,ops[i]? =some op->(∀e,e∈dg op->listed.getD e false=true)->i<i1)
  (hK:∀fuel listed a w,eg E0 J base w0 n σ' g' k' a w->listed.size=ops.size->(∀j,listed.getD j false=decide (j<i1))->(∀m:List Nat,(∀j,j∈m->j<ops.size/\listed.getD j true=false)->m.Nodup->m.length<=fuel)->wpAnyIn (cp rd) 0 P .any ops Q fuel listed a w):
  ∀(fuel:Nat) (listed:Array Bool) (a:Act) (w:World),xW E0 n ops J base w0 σ g k rs listed a w->(∀j,j<i0->listed.getD j false=true)->(∀j,listed.getD j false=true->j<i1)->(∀m:List Nat,(∀j,j∈m->j<ops.size/\listed.getD j true=false)->m.Nodup->m.length<=fuel)->wpAnyIn (cp rd) 0 P .any ops Q fuel listed a w:=by
 obtain ⟨c1,c2,c3,c4,c5,c6,c7⟩:=te dj
 have done:∀(fuel:Nat) (listed:Array Bool) (a:Act) (w:World),xW E0 n ops J base w0 σ g k rs listed a w->(∀j,listed.getD j false=true->j<i1)->(∀m:List Nat,(∀j,j∈m->j<ops.size/\listed.getD j true=false)->m.Nodup->m.length<=fuel)->(∀j,j<i1->listed.getD j false=true)->wpAnyIn (cp rd) 0 P .any ops Q fuel listed a w:=by
  intro fuel listed a w hI dU eS bz
  obtain ⟨E,rfl,hle,h1,h2,h3,hmk⟩:=hI.ex
  have e6:bu n (fun j=>listed.getD j false) rs σ=σ':=by
   rw [c6];funext t
   refine ik _ 0 _ fun j r hr hl=>absurd ?_ hl
   rw [Lh,bz j (by rw [<-hlen, <-c1];exact (K8.1 hr).1)]
  have e7:bq (fun j=>listed.getD j false) rs g=g':=by
   rw [c7];funext t
   refine ik _ 0 _ fun j r hr hl=>absurd ?_ hl
   rw [Lh,bz j (by rw [<-hlen, <-c1];exact (K8.1 hr).1)]
  rw [e6] at h1;rw [e7] at h2
  refine hK fuel listed a E.w ⟨⟨E,rfl,hle,h1,h2,fun id hh=> ?_,hmk⟩,hI.size,hI.below,hI.gl⟩ hI.eZ (fun j=> ?_) eS
  ·rcases h3 id hh with h|⟨j,r,_,hr,hk⟩
   ·exact Lr h c2
   ·exact c5 j r hr id hk
  ·by_cases hj:j<i1
   ·rw [bz j hj];simp [hj]
   ·cases hl:listed.getD j false with
    |true=>exact absurd (dU j hl) hj
    |false=>simp [hj]
 have first:∀(listed:Array Bool),listed.size=ops.size->(∀(j:Nat) op,ops[j]? =some op->listed.getD j false=true->∀e,e∈dg op->listed.getD e false=true)->(¬∀j,j<i1->listed.getD j false=true)->Region.ready .any ops listed≠[]:=by
  intro listed cQ bS bz hr
  refine bz fun j=> ?_
  induction j using Nat.strongRecOn with
  |_ j ih=>
   intro hj
   cases hl:listed.getD j false with
   |true=>rfl
   |false=>
    exfalso
    have jz:j<listed.size:=by rw [cQ];omega
    have gR:j<ops.size:=by omega
    have:j∈Region.ready .any ops listed:=by
     rw [mem_ready]
     refine ⟨by simp [jz] at hl ⊢; exact hl,ops[j],Lg gR,fun e he hb=> ?_⟩
     have cC:=hd
     unfold gz at cC
     simp only [K2,K6,LH,Ly] at cC
     have gS:=(cC.2 j (by simpa using gR)).1
     have lI:ops.toList[j]? =some ops[j]:=by simp [gR]
     simp only [lI,Ld,L8] at gS
     have hlt:=gS e.on (mG.2 ⟨e,he,hb,rfl⟩)
     exact ih e.on hlt (by omega)
    rw [hr] at this
    simp at this
 intro fuel
 induction fuel with
 |zero=>
  intro listed a w hI fE dU eS
  by_cases bz:∀j,j<i1->listed.getD j false=true
  ·exact done 0 listed a w hI dU eS bz
  ·exfalso
   cases hr:Region.ready .any ops listed with
   |nil=>exact first listed hI.eZ hI.closed bz hr
   |cons x xs=>
    have hx:x∈Region.ready .any ops listed:=by rw [hr];simp
    obtain ⟨m1,o,m2,_⟩:=mem_ready.1 hx
    have:=eS [x] (fun j hj=>by simp at hj;subst hj;exact ⟨(LQ.1 m2).1,m1⟩) (by simp)
    simp at this
 |succ fuel ih=>
  intro listed a w hI fE dU eS
  by_cases bz:∀j,j<i1->listed.getD j false=true
  ·exact done _ listed a w hI dU eS bz
  refine ⟨fun hr=>absurd hr (first listed hI.eZ hI.closed bz),fun i hi=> ?_⟩
  obtain ⟨m1,op,m2,m3⟩:=mem_ready.1 hi
  have cm:i<ops.size:=(LQ.1 m2).1
  have cD:listed.getD i false=false:=by
   have:i<listed.size:=by rw [hI.eZ];exact cm
   simp [this] at m1 ⊢; exact m1
  have dm:∀e,e∈dg op->listed.getD e false=true:=fun e he=>by
   obtain ⟨x,hx,hb,rfl⟩:=mG.1 he
   exact m3 x hx hb
  have fW:i<i1:=ti listed hI.closed dU bz i op m2 dm
  have Dt:i0<=i:=by
   rcases LM i i0 with h|h
   ·have:=fE i h;rw [cD] at this;simp at this
   ·exact h
  obtain ⟨o,ho,gT⟩:=dG i op Dt fW m2
  obtain ⟨r,cg,bX,hrun,dW⟩:=c3 i o ho
  obtain ⟨E,rfl,hle,h1,h2,h3,hmk⟩:=hI.ex
  -- Du is listed out of turn is free of this one
  have free:∀j rj oj,j≠i->rs[j]? =some rj->os[j]? =some oj->listed.getD j false≠upto i j->(gQ (if i<j then o else oj) (if i<j then oj else o)=true/\eQ (if i<j then r else rj) (if i<j then rj else r)=true):=by
   intro j rj oj aC aI bd hl
   have aX:j<os.length:=(K8.1 bd).1
   unfold eR at cd
   unfold eE at hid
   simp only [K6,LH,Ls,Mi] at cd hid
   by_cases aQ:i<j
   ·rw [K1 aQ,K1 aQ,K1 aQ,K1 aQ]
    have aK:listed.getD j false=true:=by
     have hu:upto i j=false:=by simp [upto];omega
     rw [hu] at hl
     simpa using hl
    have cy:i∉(dep[j]?).getD []:=by
     intro cN
     have gR:j<ops.size:=by omega
     have:=lH hd hI.closed j ops[j] (Lg gR) (hI.closed j _ (Lg gR) aK) i cN
     rw [cD] at this;simp at this
    have s1:=(cd j aX i aQ).resolve_left cy
    have s2:=(hid j (by rw [c1];exact aX) i aQ).resolve_left cy
    rw [ho,bd] at s1;rw [cg,aI] at s2
    exact ⟨s1,s2⟩
   ·rw [K0 aQ,K0 aQ,K0 aQ,K0 aQ]
    have br:j<i:=by omega
    have aK:listed.getD j false=false:=by
     have hu:upto i j=true:=by simp [upto];omega
     rw [hu] at hl
     simpa using hl
    have cy:j∉(dep[i]?).getD []:=by
     intro cN
     have:=lH hd hI.closed i op m2 dm j cN
     rw [aK] at this;simp at this
    have s1:=(cd i (by omega) j br).resolve_left cy
    have s2:=(hid i (by omega) j br).resolve_left cy
    rw [ho,bd] at s1;rw [cg,aI] at s2
    exact ⟨s1,s2⟩
  have fF:∀(j:Nat) rj,rs[j]? =some rj->∃oj,os[j]? =some oj/\rj.dst=oj.dst:=fun j rj aI=>by
   have aX:j<os.length:=by rw [<-c1];exact (K8.1 aI).1
   obtain ⟨r',q1,q2,_,_⟩:=c3 j _ (Lj aX)
   rw [aI] at q1;simp only [KZ] at q1;subst q1
   exact ⟨_,Lj aX,q2⟩
  -- a slot od it looks at is as it comes one behind ig other
  have hσ:∀t,t∈o.gO->bu n (fun j=>listed.getD j false) rs σ t=bu n (upto i) rs σ t:=by
   intro t ht
   refine ik _ 0 _ fun j rj aI hl=> ?_
   rw [Lh] at hl
   by_cases aC:j=i
   ·subst aC;rw [cD] at hl;simp [upto] at hl
   ·obtain ⟨oj,bd,cC⟩:=fF j rj aI
    have hf:=(free j rj oj aC aI bd hl).1
    unfold gP
    rw [K0]
    rintro ⟨c9,_⟩
    rw [cC] at c9
    unfold gQ at hf
    by_cases aQ:i<j
    ·simp only [K1 aQ,c9,K2,Lm,LI,Lo] at hf
     exact hf.2 ht
    ·simp only [K0 aQ,c9,K2,Lm,LI,Lo] at hf
     exact hf.1.1 ht
  have hg:∀id,id∈r.acc->bq (fun j=>listed.getD j false) rs g id=bq (upto i) rs g id:=by
   intro id oe
   refine ik _ 0 _ fun j rj aI hl=> ?_
   rw [Lh] at hl
   by_cases aC:j=i
   ·subst aC;rw [cD] at hl;simp [upto] at hl
   ·obtain ⟨oj,bd,cC⟩:=fF j rj aI
    have hf:=(free j rj oj aC aI bd hl).2
    cases hw:wg id rj with
    |none=>rfl
    |some y=>
     exfalso
     have hk:id∈rj.keys:=jx (by unfold wg at hw;rw [hw];simp)
     unfold eQ at hf
     by_cases aQ:i<j
     ·simp only [K1 aQ,K2,K6,Lm,LI,Lo] at hf
      exact hf.2 id hk oe
     ·simp only [K0 aQ,K2,K6,Lm,LI,Lo] at hf
      exact (hf.1 id hk).1 oe
  -- a name od Dv has
  have nV:∃fD,¬E.kn fD/\(r.fr∈r.ups.map Prod.fst->fD=r.fr):=by
   by_cases fW:r.fr∈r.ups.map Prod.fst
   ·refine ⟨r.fr,fun hk=> ?_,fun _=>rfl⟩
    rcases h3 _ hk with h|⟨j,rj,aK,aI,cz⟩
    ·omega
    ·by_cases aC:j=i
     ·subst aC;rw [cD] at aK;simp at aK
     ·by_cases aQ:i<j
      ·obtain ⟨oj,bd,_⟩:=fF j rj aI
       have hf:=(free j rj oj aC aI bd (by rw [aK];simp [upto];omega)).2
       unfold eQ at hf
       simp only [K1 aQ,K2,K6,Lm,LI,Lo] at hf
       exact (hf.1 _ fW).2 cz
      ·have:=c4 j i rj r (by omega) aI cg _ cz
       exact Mh _ this
   ·refine ⟨k',fun hk=> ?_,fun h=>absurd h fW⟩
    rcases h3 _ hk with h|⟨j,rj,aK,aI,cz⟩
    ·omega
    ·exact Mh _ (c5 j rj aI _ cz)
  obtain ⟨fD,tj,tl⟩:=nV
  obtain ⟨td,tm⟩:=hrun.local hσ hg tl
  refine tc (hI.gl.step hle) h1 h2 tj m2 gT tm fun v E' hE hv hM hB ba=> ?_
  -- it is listed now
  have cR:∀j,(listed.setIfInBounds i true).getD j false=if j=0+i then true else listed.getD j false:=by
   intro j
   rw [Lh]
   have gf:i<listed.size:=by rw [hI.eZ];exact cm
   by_cases br:j=i
   ·subst br;simp [gf]
   ·rw [K0 br,getD_set_ne false (Ne.symm br)]
  have lK:∀t,bu n (fun j=>(listed.setIfInBounds i true).getD j false) rs σ t=bw n o.dst r.val (bu n (fun j=>listed.getD j false) rs σ) t:=by
   intro t
   rw [<-bX,jy]
   refine lG rs 0 i _ r cg (by rw [Lh];exact cD) cR fun j rj aQ aI aK=> ?_
   rw [Lh] at aK
   obtain ⟨oj,bd,cC⟩:=fF j rj aI
   have hf:=(free j rj oj (by omega) aI bd (by rw [aK];simp [upto];omega)).1
   unfold gQ at hf
   simp only [K1 aQ] at hf
   by_cases gx:r.dst=some t
   ·left
    unfold gP
    rw [K0]
    rintro ⟨c9,_⟩
    rw [bX] at gx
    rw [cC] at c9
    simp only [gx,c9,K2,bne_iff_ne,ne_eq] at hf
    exact hf.1.2 trivial
   ·right
    unfold gP
    rw [K0]
    rintro ⟨c9,_⟩
    exact gx c9
  have ng:∀id,bq (fun j=>(listed.setIfInBounds i true).getD j false) rs g id=au (bq (fun j=>listed.getD j false) rs g) r.ups id:=by
   intro id
   rw [iU]
   refine lG rs 0 i _ r cg (by rw [Lh];exact cD) cR fun j rj aQ aI aK=> ?_
   rw [Lh] at aK
   obtain ⟨oj,bd,cC⟩:=fF j rj aI
   have hf:=(free j rj oj (by omega) aI bd (by rw [aK];simp [upto];omega)).2
   unfold eQ at hf
   simp only [K1 aQ,K2,K6,Lm,LI,Lo] at hf
   cases hw:wg id r with
   |none=>exact .inr rfl
   |some y=>
    left
    cases hw2:wg id rj with
    |none=>rfl
    |some y2=>
     exfalso
     have k1:id∈r.keys:=jx (by unfold wg at hw;rw [hw];simp)
     have k2:id∈rj.keys:=jx (by unfold wg at hw2;rw [hw2];simp)
     exact (hf.1 id k1).2 k2
  refine ih _ _ _ ⟨⟨E',rfl,hle.trans hE,fun t=> ?_, ?_,fun id hh=> ?_, ?_⟩, ?_,hI.below.trans hB,hI.gl,by simpa using hI.eZ,fun j oj bd aK e he=> ?_⟩ (fun j hj=>getD_set_true (fE j hj)) (fun j hj=> ?_) fun m hm cy=> ?_
  ·rw [lK t]
   have:=mE hE h1 hv o.dst t
   rw [hI.size] at this
   exact this
  ·rw [show bq (fun j=>(listed.setIfInBounds i true).getD j false) rs g=au (bq (fun j=>listed.getD j false) rs g) r.ups from funext ng]
   exact hM
  ·rcases ba id hh with h|h
   ·rcases h3 id h with h|⟨j,rj,q1,q2,q3⟩
    ·exact .inl h
    ·exact .inr ⟨j,rj,getD_set_true q1,q2,q3⟩
   ·refine .inr ⟨i,r, ?_,cg,h⟩
    rw [cR i,Lh,K1 rfl]
  ·rw [(fZ a o.dst v).2];exact hmk.step hE
  ·rw [(fZ a o.dst v).1];exact hI.size
  ·rw [cR j,Lh] at aK
   by_cases br:j=i
   ·subst br
    rw [m2] at bd;simp only [KZ] at bd;subst bd
    exact getD_set_true (dm e he)
   ·rw [K0 br] at aK
    exact getD_set_true (hI.closed j oj bd aK e he)
  ·rw [cR j,Lh] at hj
   by_cases br:j=i
   ·rw [br];exact fW
   ·rw [K0 br] at hj;exact dU j hj
  ·have kC:i∉m:=fun cN=>by
    have:=(hm i cN).2
    have gf:i<listed.size:=by rw [hI.eZ];exact cm
    simp [gf] at this
   have:=eS (i::m) (fun j hj=>by
    rcases Lc.1 hj with rfl|hj
    ·exact ⟨cm,m1⟩
    ·refine ⟨(hm j hj).1, ?_⟩
     have h5:=(hm j hj).2
     have br:i≠j:=fun e=>kC (e▸hj)
     rwa [getD_set_ne true br] at h5) (List.nodup_cons.2 ⟨kC,cy⟩)
   simpa using this
inductive jA (P:Program) (n:Nat) (dep:List (List Nat)):List az->(Nat->AV)->(Nat->Option Bk)->Nat->List Rec->(Nat->AV)->(Nat->Option Bk)->Nat->Prop
 |nil {σ:Nat->AV} {g:Nat->Option Bk} {k:Nat} {rs:List Rec} (hid:eE rs dep=true):jA P n dep [] σ g k rs σ g k
 |cons {o:az} {os:List az} {σ σ':Nat->AV} {g g':Nat->Option Bk} {k k1 k':Nat} {val:AV} {ups:List (Nat×Option Bk)} {acc:List Nat} {rs:List Rec} (h:de P σ g k o val ups acc) (hk:k<=k1) (hu:∀id,id∈ups.map Prod.fst->id<k1)
   (hr:jA P n dep os (bw n o.dst val σ) (au g ups) k1 (rs++[⟨o.dst,val,ups,acc,k⟩]) σ' g' k'):jA P n dep (o::os) σ g k rs σ' g' k'
 |Dw {o:az} {os:List az} {σ σ':Nat->AV} {g g1 g':Nat->Option Bk} {k k1 k':Nat} {f:FuncId} {as_:List AV} {r:AV} {rs:List Rec} (hid:eE rs dep=true) (hb:xX dep rs.length (rs.length+1+os.length)=true) (hg:bL σ o.guard=some true)
   (h:(o.ao.ae k (aE σ)).run g=some (.call f as_)) (hc:bW P f=true) (hf:Fi P f as_ g k r g1 k1) (hr:jA P n dep os (bw n o.dst r σ) g1 k1 (List.replicate (rs.length+1) (lJ k1)) σ' g' k'):jA P n dep (o::os) σ g k rs σ' g' k'
theorem Dx:de P σ g k kB (.v undef) [] []:= .done (val:= .v undef) (ups:=[]) rfl rfl
theorem ga.xY:∀i,ga P n (List.replicate i kB) σ g k (List.replicate i (lJ k)) σ g k
 |0=> .nil
 |i+1=>by
  rw [List.replicate_succ,List.replicate_succ]
  exact .cons (o:=kB) (k1:=k) Dx (K4 _) (by simp) (ga.xY i)
theorem ga.snoc {k1:Nat} (h0:ga P n os σ g k rs σ' g' k') (h:de P σ' g' k' o val ups acc) (hk:k'<=k1) (hu:∀id,id∈ups.map Prod.fst->id<k1):ga P n (os++[o]) σ g k (rs++[⟨o.dst,val,ups,acc,k'⟩]) (bw n o.dst val σ') (au g' ups) k1:=by
 induction h0 with
 |nil=>exact .cons h hk hu .nil
 |cons h1 h2 h3 h4 ih=>exact .cons h1 h2 h3 (ih h hk)
theorem Dy {pre:List az} (h:eR full dep=true) (hl:pre.length<=full.length) (h1:∀j,i0<=j->j<pre.length->pre[j]? =full[j]?) (h2:∀j,j<i0->j<pre.length->pre[j]? =some kB):eR pre dep=true:=by
 unfold eR at h ⊢
 simp only [K6,LH,Ls] at h ⊢
 intro j hj i hi
 rcases h j (by omega) i hi with h|h
 ·exact .inl h
 ·right
  by_cases hi0:i0<=i
  ·rw [h1 i hi0 (by omega),h1 j (by omega) hj];exact h
  ·rw [h2 i (by omega) (by omega)]
   cases hp:pre[j]? with
   |none=>simp [List.getElem?_eq_none_iff] at hp;omega
   |some y=>
    simp only [gQ,kB,az.gO,AO.oa,Arg.slot,Bool.true_and]
    split<;>simp
theorem Dz {rd:Option Nat} (iq:full.length=ops.size) (dG:∀(j:Nat) op,ops[j]? =some op->∃o,full[j]? =some o/\eP P ops op=some o) (hd:gz ops.toList dep=true) (cd:eR full dep=true)
  (hQ:∀a w,eg E0 J base w0 n σ' g' k' a w->Q .normal a w) (h:jA P n dep os σ g k rs σ' g' k'):
  ∀(i0:Nat) (pre:List az) (cJ:Nat->AV) (g0:Nat->Option Bk) (kk:Nat),ga P n pre cJ g0 kk rs σ g k->i0<=pre.length->pre.length+os.length=full.length->(∀j,i0<=j->(pre++os)[j]? =full[j]?)->(∀j,j<i0->pre[j]? =some kB/\∃q,rs[j]? =some (lJ q))->
   ∀(fuel:Nat) (listed:Array Bool) (a:Act) (w:World),eg E0 J base w0 n cJ g0 kk a w->listed.size=ops.size->(∀j,listed.getD j false=decide (j<i0))->(∀m:List Nat,(∀j,j∈m->j<ops.size/\listed.getD j true=false)->m.Nodup->m.length<=fuel)->wpAnyIn (cp rd) 0 P .any ops Q fuel listed a w:=by
 have tn:∀(j:Nat) op,ops[j]? =some op->∀e,e∈dg op->e<j:=by
  intro j op bK e he
  have gR:j<ops.size:=(LQ.1 bK).1
  have cC:=hd
  unfold gz at cC
  simp only [K2,K6,LH,Ly] at cC
  have gS:=(cC.2 j (by simpa using gR)).1
  have lI:ops.toList[j]? =some op:=by simpa using bK
  simp only [lI,Ld,L8] at gS
  exact gS e he
 -- a phase, given KA comes behind it
 have phase:∀{os:List az} {σ:Nat->AV} {g:Nat->Option Bk} {k:Nat} {rs:List Rec} (i0:Nat) (pre:List az) (cJ:Nat->AV) (g0:Nat->Option Bk) (kk:Nat),ga P n pre cJ g0 kk rs σ g k->i0<=pre.length->pre.length+os.length=full.length->(∀j,i0<=j->(pre++os)[j]? =full[j]?)->(∀j,j<i0->pre[j]? =some kB/\∃q,rs[j]? =some (lJ q))->eE rs dep=true->
   (∀listed:Array Bool,(∀(j:Nat) op,ops[j]? =some op->listed.getD j false=true->∀e,e∈dg op->listed.getD e false=true)->(∀j,listed.getD j false=true->j<pre.length)->(¬∀j,j<pre.length->listed.getD j false=true)->∀i op,ops[i]? =some op->(∀e,e∈dg op->listed.getD e false=true)->i<pre.length)->
   (∀fuel listed a w,eg E0 J base w0 n σ g k a w->listed.size=ops.size->(∀j,listed.getD j false=decide (j<pre.length))->(∀m:List Nat,(∀j,j∈m->j<ops.size/\listed.getD j true=false)->m.Nodup->m.length<=fuel)->wpAnyIn (cp rd) 0 P .any ops Q fuel listed a w)->
   ∀(fuel:Nat) (listed:Array Bool) (a:Act) (w:World),eg E0 J base w0 n cJ g0 kk a w->listed.size=ops.size->(∀j,listed.getD j false=decide (j<i0))->(∀m:List Nat,(∀j,j∈m->j<ops.size/\listed.getD j true=false)->m.Nodup->m.length<=fuel)->wpAnyIn (cp rd) 0 P .any ops Q fuel listed a w:=by
  intro os σ g k rs i0 pre cJ g0 kk dj hi0 bh jB kD hid ti hK fuel listed a w hrel cQ cR eS
  have xZ:∀j,i0<=j->j<pre.length->pre[j]? =full[j]? :=fun j h1 h2=>by
   have:=jB j h1
   rwa [L5 h2] at this
  refine Ds (i0:=i0) dj rfl (by omega) (fun j op h1 h2 bK=> ?_) hd (Dy cd (by omega) xZ fun j h1 _=>(kD j h1).1) hid ti hK fuel listed a w ?_ (fun j hj=>by rw [cR];simpa using hj) (fun j hj=>by rw [cR] at hj;simp at hj;omega) eS
  ·rw [xZ j h1 h2];exact dG j op bK
  ·obtain ⟨E,rfl,hle,h1,h2,h3,hmk⟩:=hrel.ex
   have z:∀{β:Type} (wt:Rec->Option β) (x:β),(∀q,wt (lJ q)=none)->cX (fun j=>listed.getD j false) wt 0 rs x=x:=by
    intro β wt x hw
    refine im rs 0 x fun j r hr hl=> ?_
    rw [Lh,cR] at hl
    obtain ⟨q,hq⟩:=(kD j (by simpa using hl)).2
    rw [hq] at hr;simp only [KZ] at hr;subst hr
    exact hw q
   have e1:bu n (fun j=>listed.getD j false) rs cJ=cJ:=by funext t;exact z _ _ fun q=>by simp [gP,lJ]
   have e2:bq (fun j=>listed.getD j false) rs g0=g0:=by funext t;exact z _ _ fun q=>by simp [wg,lJ,kv]
   refine ⟨⟨E,rfl,hle, ?_, ?_,fun id hh=> .inl (h3 id hh),hmk⟩,hrel.size,hrel.below,hrel.gl,cQ,fun j op bK hl e he=> ?_⟩
   ·rw [e1];exact h1
   ·rw [e2];exact h2
   ·rw [cR] at hl ⊢
    have:=tn j op bK e he
    simp at hl ⊢; omega
 induction h with
 | @nil σ g k rs hid=>
  intro i0 pre cJ g0 kk dj hi0 bh jB kD
  have qg:pre.length=ops.size:=by simp at bh;omega
  refine phase i0 pre cJ g0 kk dj hi0 bh jB kD hid (fun listed _ _ _ i op bK _=> ?_) fun fuel listed a w hrel cQ cR eS=> ?_
  ·rw [qg];exact (LQ.1 bK).1
  ·have hr:Region.ready .any ops listed=[]:=by
    cases hr:Region.ready .any ops listed with
    |nil=>rfl
    |cons x xs=>
     have hx:x∈Region.ready .any ops listed:=by rw [hr];simp
     obtain ⟨m1,o,m2,_⟩:=mem_ready.1 hx
     have x1:x<ops.size:=(LQ.1 m2).1
     have DA:x<listed.size:=by rw [cQ];exact x1
     have h5:=cR x
     rw [qg] at h5
     simp [DA,x1] at h5 m1
     rw [h5] at m1;simp at m1
   cases fuel with
   |zero=>exact ⟨hr,hQ a w hrel⟩
   |succ fuel=>exact ⟨fun _=>hQ a w hrel,fun i hi=>by rw [hr] at hi;simp at hi⟩
 | @cons o os σ σ' g g' k k1 k' val ups acc rs h hk hu hr ih=>
  intro i0 pre cJ g0 kk dj hi0 bh jB kD
  obtain ⟨c1,_⟩:=te dj
  refine ih hQ i0 (pre++[o]) cJ g0 kk (dj.snoc h hk hu) (by simp;omega) (by simp at bh ⊢; omega) (fun j hj=>by rw [Ml];exact jB j hj) fun j hj=> ?_
  obtain ⟨d1,q,d2⟩:=kD j hj
  exact ⟨by rw [L5 (by omega)];exact d1,q,by rw [L5 (by omega)];exact d2⟩
 | @Dw o os σ σ' g g1 g' k k1 k' f as_ r rs hid hb hg h bS hf hr ih=>
  intro i0 pre cJ g0 kk dj hi0 bh jB kD
  obtain ⟨c1,_⟩:=te dj
  obtain ⟨b,fG⟩:∃b,pre.length=b:=⟨_,rfl⟩
  rw [c1,fG] at hb
  have hbl:b<ops.size:=by simp at bh;omega
  have DB:full[b]? =some o:=by
   have:=jB b (by omega)
   rw [<-this,Mg (by omega),fG,Nat.sub_self];rfl
  unfold xX at hb
  simp only [K2,K6,LH,Ls,Ly,Mi] at hb
  have x4:∀listed:Array Bool,(∀(j:Nat) op,ops[j]? =some op->listed.getD j false=true->∀e,e∈dg op->listed.getD e false=true)->(∀j,listed.getD j false=true->j<b)->∀i op,ops[i]? =some op->(∀e,e∈dg op->listed.getD e false=true)->i<=b:=by
   intro listed bS dU i op bK dm
   rcases LM b i with hlt|hge
   ·exfalso
    have hi:i<ops.size:=(LQ.1 bK).1
    have hm:=(hb.2 i (by simp at bh;omega)).resolve_left (by omega)
    exact Mh _ (dU b (lH hd bS i op bK dm b hm))
   ·exact hge
  refine phase i0 pre cJ g0 kk dj hi0 bh jB kD hid (fun listed bS dU bz i op bK dm=> ?_) fun fuel listed a w hrel cQ cR eS=> ?_
  ·rw [fG] at dU bz ⊢
   have h1:=x4 listed bS dU i op bK dm
   rcases LM i b with h2|h2
   ·exact h2
   ·exfalso
    have e:i=b:=by omega
    subst e
    exact bz fun j hj=>lH hd bS i op bK dm j (hb.1 j hj)
  ·rw [fG] at cR
   have tp:b<listed.size:=by rw [cQ];exact hbl
   have hcd:∀(j:Nat) op,ops[j]? =some op->listed.getD j false=true->∀e,e∈dg op->listed.getD e false=true:=fun j op bK hl e he=>by
    rw [cR] at hl ⊢
    have:=tn j op bK e he
    simp at hl ⊢; omega
   have x5:listed.getD b true=false:=by
    have:=cR b
    simp [tp] at this ⊢; exact this
   cases fuel with
   |zero=>
    have:=eS [b] (fun j hj=>by simp at hj;subst hj;exact ⟨hbl,x5⟩) (by simp)
    simp at this
   |succ fuel=>
    refine ⟨fun hr=> ?_,fun i hi=> ?_⟩
    ·have:b∈Region.ready .any ops listed:=by
      rw [mem_ready]
      refine ⟨x5,ops[b],Lg hbl,fun e he hb=> ?_⟩
      have:=tn b _ (Lg hbl) e.on (mG.2 ⟨e,he,hb,rfl⟩)
      rw [cR];simpa using this
     rw [hr] at this;simp at this
    ·obtain ⟨m1,op,m2,m3⟩:=mem_ready.1 hi
     have cm:i<ops.size:=(LQ.1 m2).1
     have dm:∀e,e∈dg op->listed.getD e false=true:=fun e he=>by
      obtain ⟨x,hx,hb,rfl⟩:=mG.1 he
      exact m3 x hx hb
     have DC:i=b:=by
      have h1:=x4 listed hcd (fun j hj=>by rw [cR] at hj;simpa using hj) i op m2 dm
      rcases LM i b with h2|h2
      ·exfalso
       have DD:i<listed.size:=by rw [cQ];exact cm
       have h5:=cR i
       simp [DD,h2] at h5 m1
       rw [h5] at m1;simp at m1
      ·omega
     subst DC
     obtain ⟨o',gu,h3⟩:=dG i op m2
     rw [DB] at gu;simp only [KZ] at gu;subst gu
     obtain ⟨E,rfl,hle,hs,hm,ba,hmk⟩:=hrel.ex
     have hdd:=n8 h3
     have cW:∀e,op.semAt (cp rd).round e=execOp e op:=fun e=>MS (cp rd) _ _ (mD hdd.2)
     unfold wpOpIn
     simp only [m2]
     rw [jw hs h3 hg,K1 rfl]
     obtain ⟨vs,e1,e2⟩:=nX (dC.of (hrel.gl.step hle) hs) hdd.2 h bS
     unfold Oper.wpIn
     rw [cW,e1,Oper.uponIn_enter]
     refine ⟨iT,mC,n6 ((hf E J base vs (hrel.gl.step hle) hm ba e2).mono ?_)⟩
     rintro e w' ⟨v,E',rfl,rfl,q1,q2,q3,q4,q5⟩
     refine ih hQ (i+1) (List.replicate (i+1) kB) _ _ _ (by rw [c1,fG];exact ga.xY (i+1)) (by simp) (by simp at bh ⊢; omega) (fun j hj=> ?_) (fun j hj=>⟨by simp [hj],k1,by rw [c1,fG];simp [hj]⟩) fuel _ _ _ ⟨⟨E',rfl,hle.trans q1, ?_,q3,q5, ?_⟩, ?_, ?_,hrel.gl⟩ (by simpa using cQ) (fun j=> ?_) fun m ib cy=> ?_
     ·have h7:=jB j (by omega)
      rw [<-h7,Mg (by simp;omega),Mg (by omega),fG]
      simp only [MW]
      rw [show j - i=(j - (i+1))+1 by omega,L2]
     ·have:=mE q1 hs q2 op.dst
      rw [hrel.size] at this
      rw [hdd.1]
      exact this
     ·rw [(fZ a op.dst v).2];exact hmk.step q1
     ·rw [(fZ a op.dst v).1];exact hrel.size
     ·exact hrel.below.trans q4
     ·by_cases br:j=i
      ·subst br;simp [tp]
      ·rw [getD_set_ne false (Ne.symm br),cR j,decide_eq_decide];omega
     ·have kC:i∉m:=fun cN=>by
       have:=(ib i cN).2
       simp [tp] at this
      have:=eS (i::m) (fun j hj=>by
       rcases Lc.1 hj with rfl|hj
       ·exact ⟨cm,m1⟩
       ·refine ⟨(ib j hj).1, ?_⟩
        have h5:=(ib j hj).2
        have br:i≠j:=fun e=>kC (e▸hj)
        rwa [getD_set_ne true br] at h5) (List.nodup_cons.2 ⟨kC,cy⟩)
      simpa using this
theorem DE {id:Nat} (tq:P.follows .mixedOrders=true) (h:jA P n dep os σ g k [] σ' g' k') (hlen:os.length=ops.size) (dG:∀(j:Nat) op,ops[j]? =some op->∃o,os[j]? =some o/\eP P ops op=some o)
  (hd:gz ops.toList dep=true) (cd:eR os dep=true) (hQ:∀a w,eg E0 J base w0 n σ' g' k' a w->Q .normal a w) {a:Act} (hrel:eg E0 J base w0 n σ g k a w) {rd:Option Nat}:(Code.region id ops true).wpIn (cp rd) 0 P Q a w:=by
 refine wpIn_region_any tq ?_
 obtain ⟨E,rfl,hle,h1,h2,h3,hmk⟩:=hrel.ex
 obtain ⟨E',hw,hE,hM,_,hk,_,_⟩:=h2.drew
 have cI:∀(j:Nat),(Array.replicate ops.size false).getD j false=false:=by
  intro j
  rcases LM j ops.size with h|h
  ·simp [h]
  ·simp [h]
 refine Dz hlen dG hd cd hQ h 0 [] σ g k .nil (by simp) (by simp) (fun j _=>by simp) (fun j hj=>by omega) ops.size _ a _ ⟨⟨E',hw,hle.trans hE,fun t=>(h1 t).step hE,hM,fun id hh=>h3 id ((hk id).1 hh),hmk.step hE⟩,hrel.size,hrel.below.drew,hrel.gl⟩ (by simp) (fun j=>by rw [cI];simp) fun m hm cy=> ?_
 exact tg _ _ cy fun j hj=>(hm j hj).1
end
open Go.RowKit
inductive AC where
 |skip
 |bM (os:List az) (dep:Option (List (List Nat)))
 |seq (a b:AC)
 |cond (c:Arg) (a b:AC)
 |block (id:Nat) (a:AC)
 |loop (a:AC)
 |exit (id:Nat)
 |ret
 |qo (g:Arg) (ps:List Nat) (a b:AC)
variable {b ac y:AC}
def AC.iV:AC->Bool
 | .seq a b| .cond _ a b=>a.iV||b.iV
 | .block _ a| .loop a=>a.iV
 | .qo _ _ _ _=>true
 |_=>false
def mH (P:Program) (ops:Array Oper):List Oper->Option (List az)
 |[]=>some []
 |o::r=>match eP P ops o,mH P ops r with
  |some x,some l=>some (x::l)
  |_,_=>none
def tr (ops:List Oper):List (List Nat):=
 ops.foldl (fun acc o=>acc++[(dg o++(dg o).flatMap fun e=>(acc[e]?).getD []).eraseDups]) []
def cCode (P:Program):Code->Option AC
 | .skip=>some .skip
 | .region _ ops draw=>match mH P ops ops.toList with
  |some os=>if draw=true then
    (if gz ops.toList (tr ops.toList)=true/\eR os (tr ops.toList)=true/\P.follows .mixedOrders=true then some (.bM os (some (tr ops.toList))) else none)
   else some (.bM os none)
  |none=>none
 | .seq a b=>match cCode P a,cCode P b with
  |some x,some y=>some (.seq x y)
  |_,_=>none
 | .cond c a b=>match cArg c,cCode P a,cCode P b with
  |some c,some x,some y=>some (.cond c x y)
  |_,_,_=>none
 | .block id a=>(cCode P a).map (.block id)
 | .loop a=>(cCode P a).map .loop
 | .exit id=>some (.exit id)
 | .ret=>some .ret
 | .rangeFunc g ps a b=>match cArg g,cCode P a,cCode P b with
  |some g,some x,some y=>some (.qo g ps.toList x y)
  |_,_,_=>none
 |_=>none
structure S3 where
 σ:Nat->AV
 g:Nat->Option Bk
 k:Nat
variable {s':S3}
inductive Ex where
 |normal
 |exit (id:Nat)
 |ret
def Ex.up:Ex->Exit
 | .normal=> .normal
 | .exit id=> .exit id
 | .ret=> .ret
def EW (P:Program) (n k0:Nat) (ac:AC) (s:S3) (Q:Ex->S3->Prop):Prop:=
 ∀(rd:Option Nat) (c:Code) (E0:Env) (J:Nat->Prop) (base:Nat) (w0:World) (a:Act) (w:World),(ac.iV=true->rd=none)->cCode P c=some ac->(∀id,E0.kn id->id<k0)->eg E0 J base w0 n s.σ s.g s.k a w->
  c.wpIn (cp rd) 0 P (fun e a' w'=>∃x s',Q x s'/\e=x.up/\eg E0 J base w0 n s'.σ s'.g s'.k a' w') a w
section
variable {P:Program} {n k0:Nat} {s:S3} {Q:Ex->S3->Prop}
theorem EW.jC {Q':Ex->S3->Prop} (h:EW P n k0 ac s Q) (hq:∀x s,Q x s->Q' x s):EW P n k0 ac s Q':=by
 intro rd c E0 J base w0 a w bX hc hk hr
 exact wpIn_mono (h rd c E0 J base w0 a w bX hc hk hr) fun e a' w' ⟨x,s',h1,h2,h3⟩=>⟨x,s',hq x s' h1,h2,h3⟩
def S3.Le (k0 n:Nat) (s s':S3):Prop:=∀(E0:Env) (J:Nat->Prop) (base:Nat) (w0:World) (a:Act) (w:World),(∀id,E0.kn id->id<k0)->eg E0 J base w0 n s.σ s.g s.k a w->eg E0 J base w0 n s'.σ s'.g s'.k a w
theorem EW.iW (hs:s.Le k0 n s') (h:EW P n k0 ac s' Q):EW P n k0 ac s Q:=by
 intro rd c E0 J base w0 a w bX hc hk hr
 exact h rd c E0 J base w0 a w bX hc hk (hs E0 J base w0 a w hk hr)
theorem DF (h:cCode P c=some .skip):c= .skip:=by
 cases c<;>simp [cCode] at h ⊢
 case region id ops draw=>
  split at h
  ·split at h
   ·split at h<;>simp at h
   ·simp at h
  ·simp at h
 case seq a b=>split at h<;>simp at h
 case cond c a b=>split at h<;>simp at h
 case rangeFunc=>split at h<;>simp at h
theorem EW.skip (h:Q .normal s):EW P n k0 .skip s Q:=by
 intro rd c E0 J base w0 a w bX hc hk hr
 rw [DF hc]
 exact wpIn_skip ⟨.normal,s,h,rfl,hr⟩
theorem DG (h:cCode P c=some .ret):c= .ret:=by
 cases c<;>simp [cCode] at h ⊢
 case region id ops draw=>
  split at h
  ·split at h
   ·split at h<;>simp at h
   ·simp at h
  ·simp at h
 case seq a b=>split at h<;>simp at h
 case cond c a b=>split at h<;>simp at h
 case rangeFunc=>split at h<;>simp at h
theorem EW.ret (h:Q .ret s):EW P n k0 .ret s Q:=by
 intro rd c E0 J base w0 a w bX hc hk hr
 rw [DG hc]
 exact wpIn_ret ⟨.ret,s,h,rfl,hr⟩
theorem DH {id:Nat} (h:cCode P c=some (.exit id)):c= .exit id:=by
 cases c<;>simp [cCode] at h ⊢
 case region id ops draw=>
  split at h
  ·split at h
   ·split at h<;>simp at h
   ·simp at h
  ·simp at h
 case seq a b=>split at h<;>simp at h
 case cond c a b=>split at h<;>simp at h
 case rangeFunc=>split at h<;>simp at h
 case exit=>exact h
theorem EW.exit {id:Nat} (h:Q (.exit id) s):EW P n k0 (.exit id) s Q:=by
 intro rd c E0 J base w0 a w bX hc hk hr
 rw [DH hc]
 exact wpIn_exit ⟨.exit id,s,h,rfl,hr⟩
theorem DI {x:AC} (h:cCode P c=some (.seq x y)):∃a b,c= .seq a b/\cCode P a=some x/\cCode P b=some y:=by
 cases c with
 |seq a b=>
  simp only [cCode] at h
  split at h
  ·rename_i h1 h2
   simp only [KZ,AC.seq.injEq] at h
   obtain ⟨rfl,rfl⟩:=h
   exact ⟨a,b,rfl,h1,h2⟩
  ·simp at h
 |_=>
  exfalso
  simp only [cCode] at h
  repeat' (first|(simp at h;done)|split at h)
def Ex.then (next:S3->Prop) (Q:Ex->S3->Prop):Ex->S3->Prop
 | .normal,s=>next s
 |e,s=>Q e s
theorem EW.seq {x y:AC} (h:EW P n k0 x s (Ex.then (fun s'=>EW P n k0 y s' Q) Q)):EW P n k0 (.seq x y) s Q:=by
 intro rd c E0 J base w0 a w bX hc hk hr
 obtain ⟨ca,cb,rfl,h1,h2⟩:=DI hc
 refine wpIn_seq (wpIn_mono (h rd ca E0 J base w0 a w (fun hh=>bX (by simp [AC.iV,hh])) h1 hk hr) ?_)
 rintro e a' w' ⟨x,s',hq,rfl,hr'⟩
 cases x with
 |normal=>exact hq rd cb E0 J base w0 a' w' (fun hh=>bX (by simp [AC.iV,hh])) h2 hk hr'
 |exit id=>exact ⟨.exit id,s',hq,rfl,hr'⟩
 |ret=>exact ⟨.ret,s',hq,rfl,hr'⟩
theorem DJ {b:Arg} {x:AC} (h:cCode P c=some (.cond b x y)):∃o p q,c= .cond o p q/\cArg o=some b/\cCode P p=some x/\cCode P q=some y:=by
 cases c with
 |cond c p q=>
  simp only [cCode] at h
  split at h
  ·rename_i h1 h2 h3
   simp only [KZ,AC.cond.injEq] at h
   obtain ⟨rfl,rfl,rfl⟩:=h
   exact ⟨c,p,q,rfl,h1,h2,h3⟩
  ·simp at h
 |_=>
  exfalso
  simp only [cCode] at h
  repeat' (first|(simp at h;done)|split at h)
theorem EW.cond {b:Arg} {x y:AC} {t:Bool} (hb:aE s.σ b= .v (.bool t)) (h:EW P n k0 (if t=true then x else y) s Q):EW P n k0 (.cond b x y) s Q:=by
 intro rd c E0 J base w0 a w bX hc hk hr
 obtain ⟨o,p,q,rfl,h1,h2,h3⟩:=DJ hc
 obtain ⟨E,rfl,hle,hs,hm,ba,hmk⟩:=hr.ex
 have:=dC.of (hr.gl.step hle) hs o b h1
 rw [hb] at this
 refine wpIn_cond this.fy ?_
 cases t with
 |true=>exact h rd p E0 J base w0 a _ (fun hh=>bX (by simp only [K3] at hh;simp [AC.iV,hh])) h2 hk hr
 |false=>exact h rd q E0 J base w0 a _ (fun hh=>bX (by simp only [L4,Lx] at hh;simp [AC.iV,hh])) h3 hk hr
theorem DK {id:Nat} {x:AC} (h:cCode P c=some (.block id x)):∃b,c= .block id b/\cCode P b=some x:=by
 cases c with
 |block i b=>
  simp only [cCode] at h
  cases hb:cCode P b with
  |none=>simp [hb] at h
  |some y=>
   simp only [hb,Ld,KZ,AC.block.injEq] at h
   obtain ⟨rfl,rfl⟩:=h
   exact ⟨b,rfl,hb⟩
 |_=>
  exfalso
  simp only [cCode] at h
  repeat' (first|(simp at h;done)|split at h)
def Ex.inBlock (id:Nat) (Q:Ex->S3->Prop):Ex->S3->Prop
 | .exit i,s=>if i=id then Q .normal s else Q (.exit i) s
 |e,s=>Q e s
theorem EW.block {id:Nat} {x:AC} (h:EW P n k0 x s (Ex.inBlock id Q)):EW P n k0 (.block id x) s Q:=by
 intro rd c E0 J base w0 a w bX hc hk hr
 obtain ⟨b,rfl,h1⟩:=DK hc
 refine wpIn_block (wpIn_mono (h rd b E0 J base w0 a w (fun hh=>bX (by simp only [AC.iV];exact hh)) h1 hk hr) ?_)
 rintro e a' w' ⟨x,s',hq,rfl,hr'⟩
 cases x with
 |normal=>exact ⟨.normal,s',hq,rfl,hr'⟩
 |exit i=>
  simp only [Ex.inBlock] at hq
  simp only [Ex.up,Exit.inBlock]
  split
  ·rename_i hi;rw [K1 hi] at hq;exact ⟨.normal,s',hq,rfl,hr'⟩
  ·rename_i hi;rw [K0 hi] at hq;exact ⟨.exit i,s',hq,rfl,hr'⟩
 |ret=>exact ⟨.ret,s',hq,rfl,hr'⟩
theorem DL {x:AC} (h:cCode P c=some (.loop x)):∃b,c= .loop b/\cCode P b=some x:=by
 cases c with
 |loop b=>
  simp only [cCode] at h
  cases hb:cCode P b with
  |none=>simp [hb] at h
  |some y=>
   simp only [hb,Ld,KZ,AC.loop.injEq] at h
   subst h
   exact ⟨b,rfl,hb⟩
 |_=>
  exfalso
  simp only [cCode] at h
  repeat' (first|(simp at h;done)|split at h)
theorem DM {F:Fence} {nn:Nat} {Q:Exit->Act->World->Prop} {a:Act} (I:Nat->Act->World->Prop) {m:Nat} (DN:I m a w)
  (round:∀m a w,I m a w->c.wpIn F nn P (Exit.then (fun a' w'=>∃m',m'<m/\I m' a' w') Q) a w):(Code.loop c).wpIn F nn P Q a w:=by
 intro b k cs DO hb hr
 have key:∀m a w,I m a w->∃e a' w',Q e a' w'/\ArrivesIn (Machine.fenced P F) P (lone (b.atR a (.code c:: .inLoop c::k)) cs w) b k cs e a' w':=by
  intro m
  induction m using Nat.strongRecOn with
  |_ m ih=>
   intro a w hI
   obtain ⟨e,mI,mJ,hq,kE⟩:=round m a w hI b (.inLoop c::k) cs DO hb hr
   cases e with
   |normal=>
    obtain ⟨m',hlt,DP⟩:=hq
    obtain ⟨DQ,DR,DS,DT,DU⟩:=ih m' hlt mI mJ DP
    exact ⟨DQ,DR,DS,DT, .of_steps (StepsIn.trans kE (.one (fenced_calm hb hr rfl) stepR_inLoop)) DU⟩
   |exit id=>exact ⟨_,mI,mJ,hq, .pass (x:= .inLoop c) rfl (fun _ _=> .inl (by simp)) kE⟩
   |goto l=>exact ⟨_,mI,mJ,hq, .pass (x:= .inLoop c) rfl (fun _ _=> .inl (by simp)) kE⟩
   |ret=>exact ⟨_,mI,mJ,hq, .pass (x:= .inLoop c) rfl (fun _ _=> .inl (by simp)) kE⟩
   |panic ch=>exact ⟨_,mI,mJ,hq, .pass (x:= .inLoop c) rfl (fun _ _=> .inl (by simp)) kE⟩
   |outgrown=>exact ⟨_,mI,mJ,hq, .pass (x:= .inLoop c) rfl (fun _ _=> .inl (by simp)) kE⟩
 obtain ⟨e,a',w',hq,kE⟩:=key m a w DN
 exact ⟨e,a',w',hq, .of_steps (.one (fenced_calm hb hr rfl) stepR_loop) kE⟩
theorem EW.loop {x:AC} (I:Nat->S3->Prop) {m:Nat} (h0:I m s) (round:∀m s,I m s->EW P n k0 x s (Ex.then (fun s'=>∃m',m'<m/\I m' s') Q)):EW P n k0 (.loop x) s Q:=by
 intro rd c E0 J base w0 a w bX hc hk hr
 obtain ⟨b,rfl,h1⟩:=DL hc
 refine DM (fun m a w=>∃s,I m s/\eg E0 J base w0 n s.σ s.g s.k a w) (m:=m) ⟨s,h0,hr⟩ ?_
 rintro m a w ⟨s,hI,hr⟩
 refine wpIn_mono (round m s hI rd b E0 J base w0 a w (fun hh=>bX (by simp only [AC.iV];exact hh)) h1 hk hr) ?_
 rintro e a' w' ⟨x,s',hq,rfl,hr'⟩
 cases x with
 |normal=>
  obtain ⟨m',hm,ir⟩:=hq
  exact ⟨m',hm,s',ir,hr'⟩
 |exit id=>exact ⟨.exit id,s',hq,rfl,hr'⟩
 |ret=>exact ⟨.ret,s',hq,rfl,hr'⟩
theorem og {ops:Array Oper}:∀{l:List Oper} {os:List az},mH P ops l=some os->l.length=os.length/\∀(j:Nat) op,l[j]? =some op->∃o,os[j]? =some o/\eP P ops op=some o
 |[],os,h=>by simp only [mH,KZ] at h;subst h;exact ⟨rfl,fun j op hj=>by simp at hj⟩
 |o::r,os,h=>by
  simp only [mH] at h
  split at h
  ·rename_i x l h1 h2
   simp only [KZ] at h;subst h
   obtain ⟨k1,k2⟩:=og h2
   refine ⟨by simp [k1],fun j op hj=> ?_⟩
   cases j with
   |zero=>simp at hj;subst hj;exact ⟨x,rfl,h1⟩
   |succ j=>simp at hj ⊢; exact k2 j op hj
  ·simp at h
theorem qp {dep:Option (List (List Nat))} (h:cCode P c=some (.bM os dep)):∃id ops draw,c= .region id ops draw/\mH P ops ops.toList=some os/\
  ((draw=false/\dep=none)\/(draw=true/\∃d,dep=some d/\gz ops.toList d=true/\eR os d=true/\P.follows .mixedOrders=true)):=by
 cases c with
 |region id ops draw=>
  simp only [cCode] at h
  split at h
  ·rename_i KB h1
   split at h
   ·rename_i hd
    split at h
    ·rename_i hc
     simp only [KZ,AC.bM.injEq] at h
     obtain ⟨rfl,rfl⟩:=h
     exact ⟨id,ops,draw,rfl,h1, .inr ⟨hd,_,rfl,hc.1,hc.2.1,hc.2.2⟩⟩
    ·simp at h
   ·rename_i hd
    simp only [KZ,AC.bM.injEq] at h
    obtain ⟨rfl,rfl⟩:=h
    exact ⟨id,ops,draw,rfl,h1, .inl ⟨by simpa using hd,rfl⟩⟩
  ·simp at h
 |_=>
  exfalso
  simp only [cCode] at h
  repeat' (first|(simp at h;done)|split at h)
theorem EW.bM {os:List az} {s':S3} (h:fC P n k0 os s.σ s.g s.k s'.σ s'.g s'.k) (hq:Q .normal s'):EW P n k0 (.bM os none) s Q:=by
 intro rd c E0 J base w0 a w bX hc hk hr
 obtain ⟨id,ops,draw,rfl,h1,h2⟩:=qp hc
 rcases h2 with ⟨rfl,_⟩|⟨_,d,hd,_⟩
 ·obtain ⟨k1,k2⟩:=og h1
  refine wpIn_region ?_
  have hsz:ops.size=os.length:=by rw [<-k1];simp
  rw [List.range_eq_range',hsz]
  refine xQ (ops:=ops) hk h 0 a w (fun j hj=> ?_) hr fun a' w' hr'=>⟨.normal,s',hq,rfl,hr'⟩
  have jz:j<ops.size:=by omega
  obtain ⟨o,m1,m2⟩:=k2 j ops[j] (by simp [jz])
  exact ⟨ops[j],by rw [Lh];exact Lg jz,o,m1,m2⟩
 ·simp at hd
theorem EW.draw {os:List az} {dep:List (List Nat)} {s':S3} (h:jA P n dep os s.σ s.g s.k [] s'.σ s'.g s'.k) (hq:Q .normal s'):EW P n k0 (.bM os (some dep)) s Q:=by
 intro rd c E0 J base w0 a w bX hc hk hr
 obtain ⟨id,ops,draw,rfl,h1,h2⟩:=qp hc
 rcases h2 with ⟨rfl,hh⟩|⟨rfl,d,hd,h3,h4,h5⟩
 ·simp at hh
 ·simp only [KZ] at hd
  subst hd
  obtain ⟨k1,k2⟩:=og h1
  refine DE h5 h (by rw [<-k1];simp) (fun j op hj=>k2 j op (by simpa using hj)) h3 h4 (fun a' w' hr'=>⟨.normal,s',hq,rfl,hr'⟩) hr
end
open Go.RowKit
inductive jD where
 |tmp (t:Nat)
 |cell (t:Nat) (m:Option Nat)
structure da where
 n:Nat
 res:List jD
 code:AC
variable {F:da}
def cRes (P:Program):List ResultVar->Option (List jD)
 |[]=>some []
 | .tmp t::r=>(cRes P r).map (.tmp t:: ·)
 | .cell a t::r=>match gJ P t,cRes P r with
  |some m,some l=>some (.cell a m::l)
  |_,_=>none
def cFunc (P:Program) (f:FuncId):Option da:=
 match P.funcs[f]? with
 |some fn=>match fn.body with
  |some c=>match cRes P fn.results.toList,cCode P c with
   |some res,some code=>some ⟨fn.ntmps,res,code⟩
   |_,_=>none
  |none=>none
 |none=>none
def oi (m:Option Nat):AV->RM AV
 | .pim cs o=> .opt (getCells cs o m)
 | .ref id sz i o=> .rd id fun B=>if B.sz=sz then .opt (B.els[i]?.bind fun cs=>getCells cs o m) else .fail
 |_=> .fail
def iX (σ:Nat->AV):List jD->RM (List AV)
 |[]=> .ret []
 | .tmp t::r=>(iX σ r).bind fun l=> .ret (σ t::l)
 | .cell t m::r=>(oi m (σ t)).bind fun a=>(iX σ r).bind fun l=> .ret (a::l)
def jE:List AV->AV
 |[a]=>a
 |l=> .aJ l
def iu (σ:Nat->AV) (rs:List jD):RM AV:=(iX σ rs).bind fun l=> .ret (jE l)
def oo:AV->RM AV
 | .aJ vs=>(dw vs).bind fun l=> .ret (.aJ l)
 |a=>dk a
section
variable {P:Program} {E:Env} {J:Nat->Prop} {base:Nat} {g:Nat->Option Bk} {σ:Nat->AV}
theorem DV (hm:aD E J base g) {m:Option Nat} (ht:gJ P t=some m) {x:AV} (hv:af E v x) (h:(oi m x).run g=some a):∃v',(do loadVar t (<-asAddr v):Sem Value).run P E.w= .ok v' E.w/\af E v' a:=by
 unfold oi at h
 split at h
 ·rename_i cs o
  cases hg:getCells cs o m with
  |none=>simp [hg,RM.opt,RM.run] at h
  |some a'=>
   simp [hg,RM.opt,RM.run] at h
   subst h
   cases hv with
   |pim u hb hq hu eK hr=>
    obtain ⟨v',hl,hr'⟩:=pU (P:=P) ht hq u hu hr hg
    exact ⟨v',by simp [asAddr,hl],hr'⟩
 ·rename_i id sz i o
  simp only [RM.run] at h
  cases hgi:g id with
  |none=>simp [hgi] at h
  |some B=>
   simp only [hgi] at h
   split at h
   ·rename_i hsz
    cases hei:B.els[i]? with
    |none=>simp [hei,RM.opt,RM.run] at h
    |some cs=>
     cases hg:getCells cs o m with
     |none=>simp [hei,hg,RM.opt,RM.run] at h
     |some a'=>
      simp [hei,hg,RM.opt,RM.run] at h
      subst h
      cases hv with
      | @ref _ _ _ _ b q hi hd hb hq=>
       have bQ:=hm.at_ id B hgi
       rw [hb] at bQ
       have hU:∀(j:Nat) (x:AV),cs[j]? =some x->∃u,E.w.cell? ⟨b,i*B.sz+j,none⟩=some u/\u.oneCell'=true/\af E u x:=fun j x hj=>bQ.cell hei hj
       obtain ⟨v',hl,hr'⟩:=pU (P:=P) (E:=E) (cs:=cs) ht (b:=b) (off:=i*sz) hq (fun j=>(E.w.cell? ⟨b,i*sz+j,none⟩).getD undef)
        (fun j x hj=>by obtain ⟨u,k1,_,_⟩:=hU j x hj;rw [hsz] at k1;simp [k1])
        (fun j x hj=>by obtain ⟨u,k1,_,k3⟩:=hU j x hj;rw [hsz] at k1;simpa [k1] using k3) hg
       exact ⟨v',by simp [asAddr,hl],hr'⟩
      |ef hi hd=>exact absurd hd ((hm.live id).2 ⟨B,hgi⟩).2
   ·simp [RM.run] at h
 ·simp [RM.run] at h
def qq (tmps:Array Value):ResultVar->Sem Value
 | .tmp t=>pure (tmps.getD t undef)
 | .cell a t=>do loadVar t (<-asAddr (tmps.getD a undef))
theorem DX (fn:Func) (tmps:Array Value):results fn tmps=(do
  let vs<-fn.results.mapM (qq tmps)
  pure (if h:vs.size=1 then vs[0] else .tuple vs)):=by
 unfold results
 congr 1
theorem tt (hm:aD E J base g) {tmps:Array Value} (hs:∀t,af E (tmps.getD t undef) (σ t)):∀{rs:List ResultVar} {kF:List jD} {l:List AV},cRes P rs=some kF->(iX σ kF).run g=some l->
  ∃vs:List Value,(rs.mapM (qq tmps)).run P E.w= .ok vs E.w/\vs.length=l.length/\∀(i:Nat) v c,vs[i]? =some v->l[i]? =some c->af E v c
 |[],kF,l,hc,h=>by
  simp only [cRes,KZ] at hc;subst hc
  simp only [iX,RM.run,KZ] at h;subst h
  exact ⟨[],by simp,rfl,fun i v c hv=>by simp at hv⟩
 | .tmp t::r,kF,l,hc,h=>by
  simp only [cRes] at hc
  cases hr:cRes P r with
  |none=>simp [hr] at hc
  |some ar=>
   simp only [hr,Ld,KZ] at hc;subst hc
   simp only [iX] at h
   obtain ⟨l',h1,h2⟩:=cB h
   simp only [RM.run,KZ] at h2;subst h2
   obtain ⟨vs,k1,k2,k3⟩:=tt hm hs hr h1
   refine ⟨tmps.getD t undef::vs,by rw [List.mapM_cons,LO,qq,Sem.run_pure,MA,LO,k1];rfl,by simp [k2],fun i v c hv hc=> ?_⟩
   cases i with
   |zero=>simp at hv hc;subst hv;subst hc;simpa using hs t
   |succ i=>simp at hv hc;exact k3 i v c hv hc
 | .cell a t::r,kF,l,hc,h=>by
  simp only [cRes] at hc
  split at hc
  ·rename_i m ar dc hr
   simp only [KZ] at hc;subst hc
   simp only [iX] at h
   obtain ⟨x,h1,h⟩:=cB h
   obtain ⟨l',h2,h3⟩:=cB h
   simp only [RM.run,KZ] at h3;subst h3
   obtain ⟨vs,k1,k2,k3⟩:=tt hm hs hr h2
   obtain ⟨v',e1,e2⟩:=DV (P:=P) hm dc (hs a) h1
   refine ⟨v'::vs, ?_,by simp [k2],fun i v c hv hc=> ?_⟩
   ·rw [List.mapM_cons,LO,qq,e1,MA,LO,k1]
    rfl
   ·cases i with
    |zero=>simp at hv hc;subst hv;subst hc;exact e2
    |succ i=>simp at hv hc;exact k3 i v c hv hc
  ·simp at hc
theorem x6 (hm:aD E J base g) {tmps:Array Value} (hs:∀t,af E (tmps.getD t undef) (σ t)) {kF:List jD} (hc:cRes P fn.results.toList=some kF) (h:(iu σ kF).run g=some r):∃v,(results fn tmps).run P E.w= .ok v E.w/\af E v r:=by
 obtain ⟨l,h1,h2⟩:=cB h
 simp only [RM.run,KZ] at h2
 obtain ⟨vs,k1,k2,k3⟩:=tt hm hs hc h1
 refine ⟨if h:vs.toArray.size=1 then vs.toArray[0] else .tuple vs.toArray, ?_, ?_⟩
 ·rw [DX,Array.mapM_eq_mapM_toList,LO,Sem.run_map,k1]
  rfl
 ·subst h2
  cases vs with
  |nil=>
   have:l=[]:=Mr (by simpa using k2.symm)
   subst this
   exact .aJ rfl (fun i v c hv=>by simp at hv)
  |cons v vs=>
   cases vs with
   |nil=>
    obtain ⟨a,rfl⟩:∃a,l=[a]:=by
     cases l with
     |nil=>simp at k2
     |cons a l=>cases l with
      |nil=>exact ⟨a,rfl⟩
      |cons=>simp at k2
    simpa [jE] using k3 0 v a rfl rfl
   |cons v' vs=>
    rw [dif_neg (by simp)]
    have e:jE l= .aJ l:=by
     cases l with
     |nil=>rfl
     |cons a l=>cases l with
      |nil=>simp at k2
      |cons=>rfl
    rw [e]
    exact .aJ (by simpa using k2) (fun i v c hv hc=>k3 i v c (by simpa using hv) hc)
end
theorem x7 (h:cFunc P f=some F):∃fn c,P.funcs[f]? =some fn/\fn.body=some c/\cRes P fn.results.toList=some F.res/\cCode P c=some F.code/\fn.ntmps=F.n:=by
 unfold cFunc at h
 split at h
 ·rename_i fn h1
  split at h
  ·rename_i c h2
   split at h
   ·rename_i res code h3 h4
    simp only [KZ] at h;subst h
    exact ⟨fn,c,h1,h2,h3,h4,rfl⟩
   ·simp at h
  ·simp at h
 ·simp at h
def cJ (as_:List AV) (t:Nat):AV:=(as_[t]?).getD (.v undef)
theorem x8 (h:RC E vs as_) (m:Nat):∀t,af E ((vs++Array.replicate m undef).getD t undef) (cJ as_ t):=by
 intro t
 unfold cJ
 by_cases ht:t<vs.size
 ·have hta:t<as_.length:=by rw [<-h.1];exact ht
  rw [Lj hta]
  simp only [L8,MP]
  rw [MX ht,Lg ht]
  exact h.2 t _ _ (Lg ht) (Lj hta)
 ·rw [MC (by rw [<-h.1];omega)]
  simp only [Mv,MP]
  rw [Array.getElem?_append_right (by omega)]
  have:(Array.replicate m undef)[t - vs.size]?.getD undef=undef:=by
   rcases LM (t - vs.size) m with h|h
   ·simp [h]
   ·simp [h]
  rw [this]
  exact .v rfl
theorem af.tu (hc:∀b o,w'.cell? ⟨b,o,none⟩=E.w.cell? ⟨b,o,none⟩) (hs:∀b,w'.shape? b=E.w.shape? b) (hl:∀(b:Nat) r,E.w.heap[b]? =some (.loop r)->w'.heap[b]? =some (.loop r)) (h:af E v a):af { E with w:=w' } v a:=by
 induction h with
 |v h=>exact .v h
 |agg hl h ih=>exact .agg hl ih
 |aJ hl h ih=>exact .aJ hl ih
 |dA hc=>exact .dA hc
 |dR u hn hl hcc hb hz hu h1 h ih=>exact .dR u hn hl hcc hb hz (fun i cs j x hi hj=>(hc _ _).trans (hu i cs j x hi hj)) h1 ih
 |cA h ih=>exact .cA ih
 |emp=>exact .emp
 |pim u hb hq hu h1 h ih=>exact .pim u hb hq (fun j x hj=>(hc _ _).trans (hu j x hj)) h1 ih
 |ref hi hd hb hq=>exact .ref hi hd hb hq
 |own hi hd hb hq oq hm hl hcc bh=>exact .own hi hd hb hq ((hs _).trans oq) hm hl hcc bh
 |bP hi hd hb bh=>exact .bP hi hd hb bh
 |ef hi hd ho=>exact .ef hi hd ho
 |cr hi hd ho=>exact .cr hi hd ho
 |mp hi hd hb=>exact .mp hi hd hb
 |gH hi hd ho=>exact .gH hi hd ho
 |fn hl h ih=>exact .fn hl ih
 |bf hl h ih=>exact .bf hl ih
 |ee hg hI hh dd h ih=>exact .ee hg hI (hl _ _ hh) dd ih
 |dt=>exact .dt
 |dead=>exact .dead
theorem aD.tu (hm:aD E J base g) (hR:∀{v a},af E v a->af { E with w:=w' } v a) (hU:∀(b:Nat) arr t x,E.w.heap[b]? =some (.cells arr t x)->w'.heap[b]? =some (.cells arr t x)) (tv:∀(b:Nat) es c,E.w.heap[b]? =some (.map es c)->w'.heap[b]? =some (.map es c)) (hsz:w'.heap.size=E.w.heap.size):aD { E with w:=w' } J base g:=by
 refine ⟨hm.live,fun id B hg=> ?_,hm.apart,hm.out,fun b hb=>⟨by show b<w'.heap.size;rw [hsz];exact (hm.low b hb).1,(hm.low b hb).2⟩,by show base<=w'.heap.size;rw [hsz];exact hm.size,hm.len,hm.gq,fun b hb=>⟨by show b<w'.heap.size;rw [hsz];exact (hm.xo b hb).1,(hm.xo b hb).2⟩⟩
 have:=hm.at_ id B hg
 show cx { E with w:=w' } base B (E.loc id)
 cases hl:E.loc id with
 |none=>rw [hl] at this;exact this
 |some b=>
  rw [hl] at this
  obtain ⟨h1,⟨hz,arr,t,h2,h3,h4⟩|⟨hz,es,c,h2,h3,h4⟩⟩:=this
  ·refine .iI ⟨h1,arr,t,hU _ _ _ _ h2,h3,fun i cs hi=>⟨(h4 i cs hi).1,fun j x hj=> ?_⟩⟩ hz
   obtain ⟨u,k1,k2,k3⟩:=(h4 i cs hi).2 j x hj
   exact ⟨u,k1,k2,hR k3⟩
  ·refine .ofMap ⟨h1,es,c,tv _ _ _ h2,h3,fun i e cs he hi=> ?_⟩ hz
   obtain ⟨x,k1,k2,k3⟩:=h4 i e cs he hi
   exact ⟨x,k1,k2,hR k3⟩
structure gA (lo:Nat) (E E':Env):Prop where
 rep:∀{v a},af E v a->af E' v a
 mem:∀{J base g},aD E J base g->aD E' J base g
 heap:∀b,b<lo->E'.w.heap[b]? =E.w.heap[b]?
 size:E'.w.heap.size=E.w.heap.size
 shape:∀b,E'.w.shape? b=E.w.shape? b
 eqs:E'.kn=E.kn/\E'.dead=E.dead/\E'.loc=E.loc/\E'.ln=E.ln/\E'.I=E.I/\E'.rg=E.rg/\E'.X=E.X
 below:∀{base w0},base<=lo->Below base w0 E.w->Below base w0 E'.w
theorem gA.refl (lo:Nat) (E:Env):gA lo E E:=⟨fun h=>h,fun h=>h,fun _ _=>rfl,rfl,fun _=>rfl,⟨rfl,rfl,rfl,rfl,rfl,rfl,rfl⟩,fun _ h=>h⟩
theorem gA.le {E0:Env} (h:gA lo E E') (hle:E0.Le E) (hI:∀b,E0.I b->b<lo) (hX:∀b,E0.X b->b<lo):E0.Le E':=by
 obtain ⟨q1,q2,q3,q4,q5,q6,q7⟩:=h.eqs
 refine ⟨fun id hi=>by rw [q1];exact hle.kn id hi,fun b hb=>⟨by rw [q5];exact (hle.dS b hb).1,(h.heap b (hI b hb)).trans (hle.dS b hb).2⟩,fun id hi hd=>by rw [q2];exact hle.dead id hi hd,fun id hi hd=>by rw [q2,q3];exact hle.loc id hi hd,fun id b hi hd hb=>by rw [q2,h.shape];exact hle.shape id b hi hd hb,fun id hi hd=>by rw [q2,q4];exact hle.ln id hi hd,fun l hg=>by rw [q6];exact hle.rg l hg,fun b hb=>⟨by rw [q7];exact (hle.fx b hb).1,(h.heap b (hX b hb)).trans (hle.fx b hb).2⟩⟩
theorem DY {o:Obj} (o':Obj) (hh:w.heap[D]? =some o) (ho:o.isCells=false) (gu:o'.isCells=false):
  (∀b k,(w.putObj D o').cell? ⟨b,k,none⟩=w.cell? ⟨b,k,none⟩)/\(∀b,(w.putObj D o').shape? b=w.shape? b)/\∀(b:Nat) arr t x,w.heap[b]? =some (.cells arr t x)->(w.putObj D o').heap[b]? =some (.cells arr t x):=by
 have hlt:=(LQ.1 hh).1
 have hs:=World.putObj_heap_same (w:=w) (o:=o') hlt
 refine ⟨fun b k=> ?_,fun b=> ?_,fun b arr t x hb=> ?_⟩
 ·by_cases hb:b=D
  ·subst hb
   unfold World.cell?
   simp only [hs,hh]
   cases o<;>cases o'<;>simp_all [Obj.isCells]
  ·exact World.cell?_of_block (w:=w) (w':=w.putObj D o') (a:=⟨b,k,none⟩) (MD hb)
 ·by_cases hb:b=D
  ·subst hb
   unfold World.shape?
   simp only [hs,hh]
   cases o<;>cases o'<;>simp_all [Obj.isCells]
  ·unfold World.shape?
   rw [MD hb]
 ·by_cases kG:b=D
  ·subst kG
   rw [hh] at hb
   simp only [KZ] at hb
   subst hb
   simp [Obj.isCells] at ho
  ·rw [MD kG];exact hb
theorem gA.one (hD:lo<=D) (hh:E.w.heap[D]? =some (.deferred (some []))):gA lo E { E with w:=E.w.putObj D (.deferred none) }:=by
 obtain ⟨c1,c2,c3⟩:=DY (.deferred none) hh rfl rfl
 have hR:∀{v a},af E v a->af { E with w:=E.w.putObj D (.deferred none) } v a:=fun h=>af.tu c1 c2 (fun b r hb=>by
  by_cases kG:b=D
  ·subst kG;rw [hh] at hb;simp at hb
  ·rw [MD kG];exact hb) h
 have tv:∀(b:Nat) es c,E.w.heap[b]? =some (.map es c)->(E.w.putObj D (.deferred none)).heap[b]? =some (.map es c):=fun b es c hb=>by
  by_cases kG:b=D
  ·subst kG;rw [hh] at hb;simp at hb
  ·rw [MD kG];exact hb
 refine ⟨hR,fun hm=>hm.tu hR c3 tv (by simp),fun b hb=>MD (by omega),by simp,c2,⟨rfl,rfl,rfl,rfl,rfl,rfl,rfl⟩,fun fE hb=>hb.trans ⟨rfl,rfl,rfl,by simp,fun k hk=>MD (by omega)⟩⟩
theorem gA.trans {lo:Nat} {E E' kr:Env} (h:gA lo E E') (k:gA lo E' kr):gA lo E kr:=by
 obtain ⟨q1,q2,q3,q4,q5,q6,q7⟩:=h.eqs
 obtain ⟨p1,p2,p3,p4,p5,p6,p7⟩:=k.eqs
 exact ⟨fun hr=>k.rep (h.rep hr),fun hm=>k.mem (h.mem hm),fun b hb=>(k.heap b hb).trans (h.heap b hb),k.size.trans h.size,fun b=>(k.shape b).trans (h.shape b),⟨p1.trans q1,p2.trans q2,p3.trans q3,p4.trans q4,p5.trans q5,p6.trans q6,p7.trans q7⟩,fun fE hb=>k.below fE (h.below fE hb)⟩
theorem tw {P:Program} {fn:Func} {tmps:Array Value} {R:Ending->World->Prop} {lo:Nat}:∀(ds:List Deferred) (E:Env),Mk E lo ds->
  (∀E',gA lo E E'->∃v,(results fn tmps).run P E'.w= .ok v E'.w/\R (.returned v) E'.w)->LeavesInM Fence.wide 0 P fn tmps R ds .returning E.w
 |[],E,_,h=>h E (gA.refl lo E)
 |d::ds,E,hmk,h=>by
  cases hmk with
  | @cons D _ hI hD hh aC t=>
   have h1:=gA.one hD hh
   refine ⟨by simp, .inl ⟨D,_,rfl,run_takeDeferred hh, ?_⟩⟩
   refine tw ds { E with w:=E.w.putObj D (.deferred none) } ?_ fun E' hS=>h E' (h1.trans hS)
   clear h h1 hh
   induction t with
   |nil=>exact .nil
   | @cons D' KC ir DZ D0 D1 t' ih=>
    have D2:D'≠D:=fun e=>aC _ (L7 ..) (by rw [e])
    exact .cons ir DZ ((MD D2).trans D0) D1 (ih fun d hd=>aC d (LS _ hd))
theorem x9 {c:Code} {args:Array Value} (hf:P.funcs[f]? =some fn) (hb:fn.body=some c)
  (h:c.wpIn (cp none) 0 P (fun e a' w'=>(e= .normal\/e= .ret)/\LeavesInM Fence.wide 0 P fn a'.tmps R a'.defers .returning w') { tmps:=args++Array.replicate (fn.ntmps - args.size) undef,defers:=[] } w):Calls P f args w R:=
 (callsIn_wide (n:=0)).1 (callsIn_of_wp_marks (F:=Fence.wide) (n:=0) hf hb trivial (wpIn_mono h fun e a' w' ⟨he,hl⟩=>by
  rcases he with rfl|rfl
  ·exact hl
  ·exact hl) rfl)
open Go.RowKit
structure L3 where
 t:List (Nat×AV)
 m:List (Option Bk)
variable {x':L3}
def slot:List (Nat×AV)->Nat->AV
 |[],_=> .dead
 |(j,v)::r,i=>bif Nat.beq i j then v else slot r i
def ot (d:Nat):List (Nat×AV)->List (Nat×AV)
 |[]=>[]
 |(j,v)::r=>bif Nat.beq j d then ot d r else (j,v)::ot d r
def jF (t:List (Nat×AV)):Option Nat->AV->List (Nat×AV)
 |none,_=>t
 |some d,v=>(d,v)::ot d t
def dstOK (n:Nat):Option Nat->Bool
 |none=>true
 |some d=>Nat.blt d n
def look (m:List (Option Bk)) (id:Nat):Option Bk:=(m[id]?).join
def L3.s (x:L3):S3:=⟨slot x.t,look x.m,x.m.length⟩
def eT (m:List (Option Bk)):List (Nat×Option Bk)->List (Option Bk)
 |[]=>m
 |(id,x)::r=>eT (if id<m.length then m.set id x else m++[x]) r
def upsOK (k:Nat):List (Nat×Option Bk)->Bool
 |[]=>true
 |(id,_)::r=>decide (id<=k)&&upsOK (if id<k then k else k+1) r
theorem D3 {t:List (Nat×AV)} {d:Nat} (h:i≠d):slot (ot d t) i=slot t i:=by
 induction t with
 |nil=>rfl
 |cons p r ih=>
  obtain ⟨j,v⟩:=p
  simp only [ot,slot]
  cases hj:Nat.beq j d with
  |true=>
   have:=Lk hj
   subst this
   have hi:Nat.beq i j=false:=by
    cases hb:Nat.beq i j with
    |false=>rfl
    |true=>exact absurd (Lk hb) h
   simp [hi,ih]
  |false=>simp only [Ln,slot,ih]
theorem ya (t:List (Nat×AV)) (d:Option Nat) (hd:dstOK n d=true) (v:AV):slot (jF t d v)=bw n d v (slot t):=by
 funext i
 unfold bw
 cases d with
 |none=>simp [jF]
 |some d=>
  simp only [dstOK] at hd
  have tx:=LV hd
  simp only [jF,slot,KZ]
  by_cases h:d=i
  ·subst h
   have:Nat.beq d d=true:=Nat.beq_refl d
   rw [this,K1 ⟨rfl,tx⟩];rfl
  ·have hb:Nat.beq i d=false:=by
    cases hb:Nat.beq i d with
    |false=>rfl
    |true=>exact absurd (Lk hb).symm h
   rw [hb,K0 (fun hh=>h hh.1)]
   exact D3 (fun e=>h e.symm)
theorem tz (m:List (Option Bk)) (id:Nat) (x:Option Bk) (h:id<=m.length):look (if id<m.length then m.set id x else m++[x])=fun k=>if k=id then x else look m k:=by
 funext k
 unfold look
 by_cases hl:id<m.length
 ·rw [K1 hl,List.getElem?_set]
  by_cases hk:id=k
  ·subst hk;simp [hl]
  ·simp [hk,Ne.symm hk]
 ·rw [K0 hl]
  have:id=m.length:=by omega
  subst this
  by_cases hk:k=m.length
  ·subst hk;simp
  ·rw [K0 hk]
   rcases LM k m.length with h1|h1
   ·rw [L5 h1]
   ·rw [MC (by simp;omega),MC (by omega)]
theorem tA:∀(ups:List (Nat×Option Bk)) (m:List (Option Bk)),upsOK m.length ups=true->look (eT m ups)=au (look m) ups/\m.length<=(eT m ups).length/\∀id,id∈ups.map Prod.fst->id<(eT m ups).length
 |[],m,_=>⟨rfl,K4 _,fun id h=>by simp at h⟩
 |(i,x)::r,m,h=>by
  simp only [upsOK,K2,Ly] at h
  have hlen:(if i<m.length then m.set i x else m++[x]).length=if i<m.length then m.length else m.length+1:=by split<;>simp
  obtain ⟨h1,h2,h3⟩:=tA r (if i<m.length then m.set i x else m++[x]) (by rw [hlen];exact h.2)
  rw [hlen] at h2
  have e1:m.length<=(if i<m.length then m.length else m.length+1):=by split<;>omega
  have e2:i<(if i<m.length then m.length else m.length+1):=by have:=h.1;split<;>omega
  refine ⟨?_, ?_,fun id hid=> ?_⟩
  ·simp only [eT,au]
   rw [h1,tz m i x h.1]
  ·simp only [eT];omega
  ·simp only [eT]
   simp only [Lf,Lc] at hid
   rcases hid with rfl|hid
   ·omega
   ·exact h3 id hid
inductive tB where
 |done (val:AV) (ups:List (Nat×Option Bk)) (acc:List Nat)
 |call (f:FuncId) (as_:List AV)
 |stuck
def yb (ao:AO) (x:L3):List Nat:=(ao.ae x.m.length (aE (slot x.t))).acc (look x.m)++(ao.ae x.m.length (aE (slot x.t))).see (look x.m)
def e8 (o:az) (x:L3):tB:=
 match bL (slot x.t) o.guard with
 |some false=> .done (.v undef) [] []
 |some true=>match (o.ao.ae x.m.length (aE (slot x.t))).run (look x.m) with
  |some (.done val ups)=> .done val ups (yb o.ao x)
  |some (.call f as_)=> .call f as_
  |none=> .stuck
 |none=> .stuck
theorem yc {x:L3} (h:e8 o x= .done val ups acc):de P (slot x.t) (look x.m) x.m.length o val ups acc:=by
 unfold e8 at h
 split at h
 ·rename_i hg
  simp only [tB.done.injEq] at h
  obtain ⟨rfl,rfl,rfl⟩:=h
  exact .skip hg
 ·rename_i hg
  split at h
  ·rename_i h1
   simp only [tB.done.injEq] at h
   obtain ⟨rfl,rfl,rfl⟩:=h
   exact .done hg h1
  ·simp at h
  ·simp at h
 ·simp at h
def OW (P:Program) (n k0:Nat) (os:List az) (x:L3) (K:L3->Prop):Prop:=∃x':L3,fC P n k0 os (slot x.t) (look x.m) x.m.length (slot x'.t) (look x'.m) x'.m.length/\K x'
def DW (P:Program) (n:Nat) (dep:List (List Nat)) (os:List az) (x:L3) (rs:List Rec) (K:L3->Prop):Prop:=
 ∃x':L3,jA P n dep os (slot x.t) (look x.m) x.m.length rs (slot x'.t) (look x'.m) x'.m.length/\K x'
section
variable {P:Program} {n k0:Nat} {x:L3} {K:L3->Prop}
theorem OW.nil (h:K x):OW P n k0 [] x K:=⟨x, .nil,h⟩
theorem OW.cons {o:az} {os:List az} {val:AV} {ups:List (Nat×Option Bk)} {acc:List Nat} (hd:dstOK n o.dst=true) (h:e8 o x= .done val ups acc) (hu:upsOK x.m.length ups=true) (hr:OW P n k0 os ⟨jF x.t o.dst val,eT x.m ups⟩ K):OW P n k0 (o::os) x K:=by
 obtain ⟨x',h1,h3⟩:=hr
 simp only [ya _ _ hd] at h1
 obtain ⟨m1,m2,m3⟩:=tA ups x.m hu
 rw [m1] at h1
 exact ⟨x', .cons (yc h) m2 m3 h1,h3⟩
theorem DW.nil {dep:List (List Nat)} {rs:List Rec} (hid:eE rs dep=true) (h:K x):DW P n dep [] x rs K:=⟨x, .nil hid,h⟩
theorem DW.cons {dep:List (List Nat)} {rs:List Rec} {o:az} {os:List az} {val:AV} {ups:List (Nat×Option Bk)} {acc:List Nat} (hd:dstOK n o.dst=true) (h:e8 o x= .done val ups acc) (hu:upsOK x.m.length ups=true)
  (hr:DW P n dep os ⟨jF x.t o.dst val,eT x.m ups⟩ (rs++[⟨o.dst,val,ups,acc,x.m.length⟩]) K):DW P n dep (o::os) x rs K:=by
 obtain ⟨x',h1,h4⟩:=hr
 simp only [ya _ _ hd] at h1
 obtain ⟨m1,m2,m3⟩:=tA ups x.m hu
 rw [m1] at h1
 exact ⟨x', .cons (yc h) m2 m3 h1,h4⟩
end
def EL (P:Program) (n k0:Nat) (ac:AC) (x:L3) (Q:Ex->L3->Prop):Prop:=EW P n k0 ac x.s fun e s'=>∃x':L3,s'=x'.s/\Q e x'
section
variable {P:Program} {n k0:Nat} {x:L3} {Q:Ex->L3->Prop}
def Ex.yd (next:L3->Prop) (Q:Ex->L3->Prop):Ex->L3->Prop
 | .normal,s=>next s
 |e,s=>Q e s
theorem EL.iW {ac:AC} {y:L3} (hs:x.s.Le k0 n y.s) (h:EL P n k0 ac y Q):EL P n k0 ac x Q:=EW.iW hs h
theorem EL.skip (h:Q .normal x):EL P n k0 .skip x Q:=EW.skip ⟨x,rfl,h⟩
theorem EL.ret (h:Q .ret x):EL P n k0 .ret x Q:=EW.ret ⟨x,rfl,h⟩
theorem EL.seq {a b:AC} (h:EL P n k0 a x (Ex.yd (fun x'=>EL P n k0 b x' Q) Q)):EL P n k0 (.seq a b) x Q:=
 EW.seq (EW.jC h fun e s ⟨x',h1,h3⟩=>by
  cases e with
  |normal=>subst h1;exact h3
  |exit id=>exact ⟨x',h1,h3⟩
  |ret=>exact ⟨x',h1,h3⟩)
theorem EL.cond {b:Arg} {y z:AC} {t:Bool} (hb:aE (slot x.t) b= .v (.bool t)) (h1:t=true->EL P n k0 y x Q) (h2:t=false->EL P n k0 z x Q):EL P n k0 (.cond b y z) x Q:=
 EW.cond hb (by
  cases t with
  |true=>exact h1 rfl
  |false=>exact h2 rfl)
theorem EL.bM {os:List az} (h:OW P n k0 os x (Q .normal)):EL P n k0 (.bM os none) x Q:=by
 obtain ⟨x',h1,h3⟩:=h
 exact EW.bM (s':=x'.s) h1 ⟨x',rfl,h3⟩
theorem EL.draw {os:List az} {dep:List (List Nat)} (h:DW P n dep os x [] (Q .normal)):EL P n k0 (.bM os (some dep)) x Q:=by
 obtain ⟨x',h1,h4⟩:=h
 exact EW.draw (s':=x'.s) h1 ⟨x',rfl,h4⟩
theorem S3.ye {s:S3} (hσ:∀t,s'.σ t=s.σ t\/s'.σ t= .dead\/s.σ t= .v undef/\False) (hg:s'.g=s.g) (hk:s'.k=s.k):s.Le k0 n s':=by
 intro E0 J base w0 a w _ hr
 obtain ⟨E,h1,h2,h3,h4,h5,h6⟩:=hr.ex
 refine ⟨⟨E,h1,h2,fun t=> ?_,by rw [hg];exact h4,by rw [hk];exact h5,h6⟩,hr.size,hr.below,hr.gl⟩
 rcases hσ t with h|h|h
 ·rw [h];exact h3 t
 ·rw [h];exact .dead
 ·exact h.2.elim
end
def kH:Nat->List AV->List (Nat×AV)
 |_,[]=>[]
 |i,a::r=>(i,a)::kH (i+1) r
def start (as_:List AV):L3:=⟨kH 0 as_,[]⟩
theorem tC:∀(as_:List AV) (i t:Nat),slot (kH i as_) t=if i<=t then (as_[t - i]?).getD .dead else .dead
 |[],i,t=>by simp [kH,slot]
 |a::r,i,t=>by
  simp only [kH,slot]
  by_cases h:t=i
  ·subst h
   rw [Nat.beq_refl];simp
  ·have hb:Nat.beq t i=false:=by
    cases hb:Nat.beq t i with
    |false=>rfl
    |true=>exact absurd (Lk hb) h
   rw [hb,Ln,tC r (i+1) t]
   by_cases h1:i<=t
   ·rw [K1 h1,K1 (by omega),show t - i=(t - (i+1))+1 by omega,L2]
   ·rw [K0 h1,K0 (by omega)]
theorem D4 (as_:List AV) (g:Nat->Option Bk) (k:Nat):(⟨cJ as_,g,k⟩:S3).Le k0 n ⟨slot (kH 0 as_),g,k⟩:=by
 refine S3.ye (fun t=> ?_) rfl rfl
 show slot (kH 0 as_) t=cJ as_ t\/_
 rw [tC,K1 (Nat.zero_le _),Nat.sub_zero]
 unfold cJ
 cases h:as_[t]? with
 |none=>exact .inr (.inl (by simp [tC,h]))
 |some a=>exact .inl rfl
open Go.RowKit
abbrev ow (a:AO):az:=⟨none,a,none⟩
abbrev on (d:Nat) (a:AO) (g:Nat):az:=⟨some d,a,some (g,false)⟩
section
variable {P:Program} {T:FuncId->Option da}
end
open Go.RowKit
def tF (o:az) (x:L3):Option (AV×List (Nat×Option Bk)):=
 match e8 o x with
 | .done v u _=>some (v,u)
 |_=>none
def runN (n:Nat):Nat->List az->L3->Option L3
 |0,_,x=>some x
 |_+1,[],_=>none
 |k+1,o::os,x=>bif dstOK n o.dst then match tF o x with
   |some (v,u)=>bif upsOK x.m.length u then runN n k os ⟨jF x.t o.dst v,eT x.m u⟩ else none
   |none=>none
  else none
def mK:Nat->List az->L3->List Rec
 |0,_,_=>[]
 |_+1,[],_=>[]
 |k+1,o::os,x=>match e8 o x with
  | .done v u acc=>⟨o.dst,v,u,acc,x.m.length⟩::mK k os ⟨jF x.t o.dst v,eT x.m u⟩
  |_=>[]
def bH (live:List Nat):List (Nat×AV)->List (Nat×AV)
 |[]=>[]
 |(j,v)::r=>bif live.any (Nat.beq j) then (j,v)::bH live r else bH live r
def L3.bH (live:List Nat) (x:L3):L3:=⟨Ytpoikkflcpklgaa.bH live x.t,x.m⟩
theorem qs (live:List Nat):∀(t:List (Nat×AV)) (i:Nat),slot (bH live t) i=if live.any (Nat.beq i)=true then slot t i else .dead
 |[],i=>by simp [bH,slot]
 |(j,v)::r,i=>by
  simp only [bH,slot]
  cases hb:Nat.beq i j with
  |true=>
   have:=Lk hb
   subst this
   cases hl:live.any (Nat.beq i) with
   |true=>simp [slot]
   |false=>simp [qs live r,hl]
  |false=>
   cases hl:live.any (Nat.beq j) with
   |true=>simp [slot,hb,qs live r]
   |false=>simp [qs live r]
section
variable {P:Program} {n k0:Nat} {x:L3} {K:L3->Prop} {Q:Ex->L3->Prop} {R:List az} {k:Nat}
theorem EL.prune (live:List Nat) (h:EL P n k0 ac (x.bH live) Q):EL P n k0 ac x Q:=by
 refine EL.iW (y:=x.bH live) (S3.ye (fun t=> ?_) rfl rfl) h
 show slot (bH live x.t) t=slot x.t t\/slot (bH live x.t) t= .dead\/_
 rw [qs]
 split
 ·exact .inl rfl
 ·exact .inr (.inl rfl)
theorem yf {v:AV} (h:tF o x=some (v,u)):∃acc,e8 o x= .done v u acc:=by
 unfold tF at h
 split at h
 ·rename_i v' u' acc he
  simp only [KZ,Li] at h
  obtain ⟨rfl,rfl⟩:=h
  exact ⟨acc,he⟩
 ·simp at h
theorem yg:∀(c:Nat) (os:List az) (x x':L3),runN n c os x=some x'->OW P n k0 (os.drop c) x' K->OW P n k0 os x K
 |0,os,x,x',h,hr=>by simp only [runN,KZ] at h;subst h;exact hr
 |c+1,[],x,x',h,hr=>by simp [runN] at h
 |c+1,o::os,x,x',h,hr=>by
  simp only [runN] at h
  cases hd:dstOK n o.dst with
  |false=>rw [hd] at h;simp at h
  |true=>
   rw [hd,K5] at h
   split at h
   ·rename_i v u hv
    obtain ⟨acc,he⟩:=yf hv
    cases hu:upsOK x.m.length u with
    |false=>rw [hu] at h;simp at h
    |true=>
     rw [hu,K5] at h
     exact OW.cons hd he hu (yg c os _ x' h hr)
   ·simp at h
theorem yh {dep:List (List Nat)}:∀(c:Nat) (os:List az) (x x':L3) (rs:List Rec),runN n c os x=some x'->DW P n dep (os.drop c) x' (rs++mK c os x) K->DW P n dep os x rs K
 |0,os,x,x',rs,h,hr=>by simp only [runN,KZ] at h;subst h;simpa [mK] using hr
 |c+1,[],x,x',rs,h,hr=>by simp [runN] at h
 |c+1,o::os,x,x',rs,h,hr=>by
  simp only [runN] at h
  cases hd:dstOK n o.dst with
  |false=>rw [hd] at h;simp at h
  |true=>
   rw [hd,K5] at h
   split at h
   ·rename_i v u hv
    obtain ⟨acc,he⟩:=yf hv
    cases hu:upsOK x.m.length u with
    |false=>rw [hu] at h;simp at h
    |true=>
     rw [hu,K5] at h
     refine DW.cons hd he hu (yh c os _ x' _ h ?_)
     simp only [mK,he] at hr
     simpa using hr
   ·simp at h
def opD (R:List az) (k:Nat):az:=(R[k]?).getD ⟨none, .mov (.c .dead),none⟩
theorem yi (h:Nat.blt k R.length=true):R.drop k=opD R k::R.drop (k+1):=by
 have hk:k<R.length:=LV h
 rw [List.drop_eq_getElem_cons hk]
 simp [opD,hk]
theorem OW.run (c:Nat) (h:runN n c (R.drop k) x=some x') (hr:OW P n k0 (R.drop (k+c)) x' K):OW P n k0 (R.drop k) x K:=
 yg c _ x x' h (by rw [List.drop_drop];exact hr)
theorem OW.last (c:Nat) (live:List Nat) (h:(runN n c (R.drop k) x).map (L3.bH live)=some x') (he:(R.drop (k+c)).isEmpty=true) (hr:EL P n k0 b x' Q):OW P n k0 (R.drop k) x fun y=>EL P n k0 b y Q:=by
 cases hy:runN n c (R.drop k) x with
 |none=>rw [hy] at h;simp at h
 |some y=>
  rw [hy] at h
  simp only [Ld,KZ] at h
  refine OW.run c hy ?_
  rw [L9.1 he]
  exact OW.nil (EL.prune live (by rw [h];exact hr))
theorem EL.mL (h:OW P n k0 (R.drop 0) x fun y=>EL P n k0 b y Q):EL P n k0 (.seq (.bM R none) b) x Q:=EL.seq (EL.bM (by have:=h;rw [MQ] at this;exact this))
theorem DW.run (c:Nat) (h:runN n c (R.drop k) x=some x') (hr:DW P n dep (R.drop (k+c)) x' (rs++mK c (R.drop k) x) K):DW P n dep (R.drop k) x rs K:=
 yh c _ x x' rs h (by rw [List.drop_drop];exact hr)
theorem DW.last (c:Nat) (live:List Nat) (h:(runN n c (R.drop k) x).map (L3.bH live)=some x') (he:((R.drop (k+c)).isEmpty&&eE (rs++mK c (R.drop k) x) dep)=true) (hr:EL P n k0 b x' Q):DW P n dep (R.drop k) x rs fun y=>EL P n k0 b y Q:=by
 simp only [K2] at he
 cases hy:runN n c (R.drop k) x with
 |none=>rw [hy] at h;simp at h
 |some y=>
  rw [hy] at h
  simp only [Ld,KZ] at h
  refine DW.run c hy ?_
  rw [L9.1 he.1]
  exact DW.nil he.2 (EL.prune live (by rw [h];exact hr))
theorem EL.D5 (h:DW P n dep (R.drop 0) x [] fun y=>EL P n k0 b y Q):EL P n k0 (.seq (.bM R (some dep)) b) x Q:=EL.seq (EL.draw (by have:=h;rw [MQ] at this;exact this))
theorem tN {f:L3->Prop} (h:f x):Ex.yd f Q .normal x:=h
theorem EL.D6 {b:Arg} {z:AC} (hb:aE (slot x.t) b= .v (.bool false)) (h:EL P n k0 z x Q):EL P n k0 (.cond b y z) x Q:=EL.cond hb (fun e=>by simp at e) (fun _=>h)
abbrev VI (n:Int):AV:= .v (.int .i64 n)
end
open Go.RowKit
section
variable {P:Program} {n k0:Nat} {x:L3} {K:L3->Prop} {Q:Ex->L3->Prop} {R:List az} {k:Nat}
theorem OW.iY {v:AV} (hl:Nat.blt k R.length=true) (h:e8 (opD R k) x= .done v u acc) (hx:(bif dstOK n (opD R k).dst&&upsOK x.m.length u then some (⟨jF x.t (opD R k).dst v,eT x.m u⟩:L3) else none)=some x') (hr:OW P n k0 (R.drop (k+1)) x' K):OW P n k0 (R.drop k) x K:=by
 rw [yi hl]
 cases hd:(dstOK n (opD R k).dst&&upsOK x.m.length u) with
 |false=>rw [hd] at hx;simp at hx
 |true=>
  rw [hd,K5] at hx
  simp only [KZ] at hx
  subst hx
  simp only [K2] at hd
  exact OW.cons hd.1 h hd.2 hr
theorem DW.iY {v:AV} (hl:Nat.blt k R.length=true) (h:e8 (opD R k) x= .done v u acc) (hx:(bif dstOK n (opD R k).dst&&upsOK x.m.length u then some (⟨jF x.t (opD R k).dst v,eT x.m u⟩:L3) else none)=some x') (hr:DW P n dep (R.drop (k+1)) x' (rs++[⟨(opD R k).dst,v,u,acc,x.m.length⟩]) K):DW P n dep (R.drop k) x rs K:=by
 rw [yi hl]
 cases hd:(dstOK n (opD R k).dst&&upsOK x.m.length u) with
 |false=>rw [hd] at hx;simp at hx
 |true=>
  rw [hd,K5] at hx
  simp only [KZ] at hx
  subst hx
  simp only [K2] at hd
  exact DW.cons hd.1 h hd.2 hr
end
section
variable {o:az} {x:L3}
theorem kI (ao:AO) {v:AV} {see:List Nat} (ho:o.ao=ao) (hg:bL (slot x.t) o.guard=some true) (h:(ao.ae x.m.length (aE (slot x.t))).run (look x.m)=some (.done v u))
  (h2:(ao.ae x.m.length (aE (slot x.t))).acc (look x.m)=acc) (h3:(ao.ae x.m.length (aE (slot x.t))).see (look x.m)=see):e8 o x= .done v u (acc++see):=by
 unfold e8
 rw [hg]
 simp only [ho,h]
 unfold yb
 rw [h2,h3]
end
section
variable {o:az} {x:L3}
theorem run_bind {α β:Type} {g:Nat->Option Bk} {f:α->RM β}:∀(m:RM α) {a:α},m.run g=some a->(m.bind f).run g=(f a).run g/\(m.bind f).acc g=m.acc g++(f a).acc g/\(m.bind f).see g=m.see g++(f a).see g
 | .ret b,a,h=>by simp only [RM.run,KZ] at h;subst h;exact ⟨rfl,rfl,rfl⟩
 | .fail,a,h=>by simp [RM.run] at h
 | .rd id k,a,h=>by
  cases hg:g id with
  |none=>simp [RM.run,hg] at h
  |some B=>
   simp only [RM.run,hg] at h
   obtain ⟨h1,h2,h3⟩:=run_bind (f:=f) (k B) h
   exact ⟨by simp [RM.bind,RM.run,hg,h1],by simp [RM.bind,RM.acc,hg,h2],by simp [RM.bind,RM.see,hg,h3]⟩
 | .lv id k,a,h=>by
  cases hg:g id with
  |none=>simp [RM.run,hg] at h
  |some B=>
   simp only [RM.run,hg] at h
   obtain ⟨h1,h2,h3⟩:=run_bind (f:=f) k h
   exact ⟨by simp [RM.bind,RM.run,hg,h1],by simp [RM.bind,RM.acc,h2],by simp [RM.bind,RM.see,h3]⟩
end
open Go.RowKit
theorem tG (h:af E v .emp):∃A,v= .slice A 0 0:=by
 cases h with
 |emp=>exact ⟨_,rfl⟩
section
variable {E E':Env} {ρ:Nat->Option Nat}
end
abbrev D7 (m:List (Option Bk)) (id:Nat):Prop:=∃(α:Type) (f:α->List AV) (xs:List α) (sz:Nat),look m id=some ⟨sz,xs.map f⟩/\∀y,(f y).all AV.pu1=true
theorem pu {α:Type} {id:Nat} (sz:Nat) (f:α->List AV) (xs:List α) (h:look m id=some ⟨sz,xs.map f⟩) (hp:∀y,(f y).all AV.pu1=true):D7 m id:=⟨α,f,xs,sz,h,hp⟩
section
variable {P:Program} {n k0:Nat} {x:L3} {Q:Ex->L3->Prop}
end
section
variable {g:Nat->Option Bk}
end
def bN (a b:AV):Prop:=∀(E:Env) (v:Value),af E v a->af E v b
theorem bN.refl:bN a a:=fun _ _ h=>h
theorem bN.of_eq {b:AV} (h:a=b):bN a b:=h▸bN.refl
theorem bN.trans {b c:AV} (h:bN a b) (k:bN b c):bN a c:=fun E v r=>k E v (h E v r)
theorem bN.emp {sz:Nat}:bN .emp (.aP sz []):=fun E v h=>by
 obtain ⟨A,rfl⟩:=tG h
 exact .dA (by omega)
inductive dy:List AV->List AV->Prop
 |nil:dy [] []
 |cons {a b:AV} {r s:List AV} (h:bN a b) (t:dy r s):dy (a::r) (b::s)
theorem dy.get {r s:List AV} (h:dy r s):r.length=s.length/\∀(i:Nat) b,s[i]? =some b->∃a,r[i]? =some a/\bN a b:=by
 induction h with
 |nil=>exact ⟨rfl,fun i b h=>by simp at h⟩
 |cons h t ih=>
  refine ⟨by simp [ih.1],fun i b hb=> ?_⟩
  cases i with
  |zero=>simp only [LB,KZ] at hb;subst hb;exact ⟨_,by simp,h⟩
  |succ i=>exact ih.2 i b (by simpa using hb)
theorem bN.aJ {r s:List AV} (h:dy r s):bN (.aJ r) (.aJ s):=fun E v hv=>by
 cases hv with
 |aJ hl hh=>exact .aJ (hl.trans h.get.1) fun i u c hu hc=>let ⟨a,ha,tH⟩:=h.get.2 i c hc;tH _ _ (hh i u a hu ha)
theorem bN.agg {r s:List AV} (h:dy r s):bN (.agg r) (.agg s):=fun E v hv=>by
 cases hv with
 |agg hl hh=>exact .agg (hl.trans h.get.1) fun i u c hu hc=>let ⟨a,ha,tH⟩:=h.get.2 i c hc;tH _ _ (hh i u a hu ha)
theorem Fn.args (h:Fn P f as_ r) (ha:dy bV as_):Fn P f bV r:=fun w J vs hJ hG b6=>
 h w J vs hJ hG ⟨b6.1.trans ha.get.1,fun i u c hu hc=>let ⟨a,h1,h2⟩:=ha.get.2 i c hc;h2 _ _ (b6.2 i u a hu h1)⟩
theorem D8 (hF:cFunc P f=some F) (hl:as_.length<=F.n)
  (h:EW P F.n 0 F.code ⟨cJ as_,fun _=>none,0⟩ fun x s'=>(x= .normal\/x= .ret)/\∃r',((iu s'.σ F.res).bind oo).run s'.g=some r'/\bN r' r):Fn P f as_ r:=by
 intro w J vs hJ hG b6
 obtain ⟨fn,c,h1,h2,h3,h4,h5⟩:=x7 hF
 have hm:aD (E0 w J) J w.heap.size (fun _=>none):=⟨fun id=>by simp [E0],fun id B hg=>by simp at hg,fun id ct b B B' hg=>by simp at hg,fun id b B hg=>by simp at hg,fun b hb=>⟨hJ b hb, .inl hb⟩,K4 _,fun id B hg=>by simp at hg,fun _ h=>h.elim,fun _ h=>h.elim⟩
 refine x9 h1 h2 (wpIn_mono (h none c (E0 w J) J w.heap.size w _ w (fun _=>rfl) h4 (fun id hid=>hid.elim) ⟨⟨E0 w J,rfl,Env.Le.refl _,x8 b6 _,hm,fun id hid=>hid.elim, .nil⟩, ?_,LN _ _,hG⟩) ?_)
 ·simp only [Array.size_append,Array.size_replicate,b6.1];omega
 ·rintro e a' w' ⟨x,s',⟨hx,r',hr,D9⟩,rfl,hrel⟩
  obtain ⟨E1,rfl,hle,hs1,hM1,hk,hmk⟩:=hrel.ex
  refine ⟨by rcases hx with rfl|rfl<;>simp [Ex.up],tw _ E1 hmk fun E' hS=> ?_⟩
  have hM:=hS.mem hM1
  have hs:=fun t=>hS.rep (hs1 t)
  obtain ⟨r0,eK,dh⟩:=cB hr
  obtain ⟨v,e1,e2⟩:=x6 hM hs h3 eK
  have hI:∀ids b,Handed E' s'.g ids b->J b\/(w.heap.size<=b/\b<E'.w.heap.size):=by
   intro ids b hb
   rcases hb with hb|⟨id,B,_,hg,hl⟩
   ·have:=hM.low b hb
    rcases this.2 with h|h
    ·exact .inl h
    ·exact .inr ⟨h,this.1⟩
   ·have:=hM.at_ id B hg
    rw [hl] at this
    exact .inr this.lt
  have cI:af (Proofs.Ytpoikkflcpklgaa.E0 E'.w fun b=>J b\/(w.heap.size<=b/\b<E'.w.heap.size)) v r:=by
   refine D9 _ _ ?_
   cases r0 with
   |aJ us=>
    simp only [oo] at dh
    obtain ⟨l,m1,m2⟩:=cB dh
    simp only [RM.run,KZ] at m2;subst m2
    obtain ⟨k1,k2⟩:=ql hM _ m1 (hI _)
    cases e2 with
    |aJ hl h=>
     refine .aJ (by rw [k1];exact hl) fun i v c hv hc=> ?_
     have hi:i<us.length:=by rw [<-k1];exact (K8.1 hc).1
     exact k2 i v us[i] c (h i v _ hv (Lj hi)) (Lj hi) hc
   |_=>exact xJ hM _ e2 dh (hI _)
  exact ⟨v,e1,v,rfl,cI,hS.below (K4 _) hrel.below⟩
theorem yj (hF:cFunc P f=some F) (hl:as_.length<=F.n)
  (h:EW P F.n k F.code ⟨cJ as_,g,k⟩ fun x s'=>(x= .normal\/x= .ret)/\∃y:S3,s'.Le k F.n y/\(iu y.σ F.res).run y.g=some r/\y.g=g'/\y.k=k'):Fi P f as_ g k r g' k':=by
 intro E J base vs hG hm ba b6
 obtain ⟨fn,c,h1,h2,h3,h4,h5⟩:=x7 hF
 refine x9 h1 h2 (wpIn_mono (h none c E J base E.w _ E.w (fun _=>rfl) h4 ba ⟨⟨E,rfl,Env.Le.refl E,x8 b6 _,hm,ba, .nil⟩, ?_,LN _ _,hG⟩) ?_)
 ·simp only [Array.size_append,Array.size_replicate,b6.1];omega
 ·rintro e a' w' ⟨x,s',⟨hx,y,hy,hr,rfl,rfl⟩,rfl,Ea⟩
  have hrel:=hy E J base E.w a' w' ba Ea
  obtain ⟨E',rfl,hle,hs,hM,hk,hmk⟩:=hrel.ex
  refine ⟨by rcases hx with rfl|rfl<;>simp [Ex.up],tw _ E' hmk fun E2 hS=> ?_⟩
  have hM2:=hS.mem hM
  obtain ⟨v,e1,e2⟩:=x6 hM2 (fun t=>hS.rep (hs t)) h3 hr
  exact ⟨v,e1,v,E2,rfl,rfl,hS.le hle (fun b hb=>(hm.low b hb).1) (fun b hb=>(hm.xo b hb).1),e2,hM2,hS.below hm.size hrel.below,fun id hid=>hk id (by rw [<-hS.eqs.1];exact hid)⟩
theorem fV (hF:cFunc P f=some F) (hl:as_.length<=F.n) {m':List (Option Bk)}
  (h:EL P F.n m.length F.code ⟨kH 0 as_,m⟩ fun e x=>(e= .normal\/e= .ret)/\∃y:L3,x.s.Le m.length F.n y.s/\(iu (slot y.t) F.res).run (look y.m)=some r/\y.m=m'):Fi P f as_ (look m) m.length r (look m') m'.length:=by
 refine yj hF hl (EW.iW (D4 as_ _ _) (EW.jC h ?_))
 rintro e s ⟨x',rfl,h1,y,h2,h3,rfl⟩
 exact ⟨h1,y.s,h2,h3,rfl,rfl⟩
section
variable {P:Program} {n k0:Nat} {x:L3} {K:L3->Prop} {R:List az} {k:Nat}
end
section
variable {o:az} {x:L3}
end
end Go.Proofs.Ytpoikkflcpklgaa
