/- Ranges over functions, upon abstract values: a round is a call upon the same own memory. No condition. -/
import Derived.Test.YtimomnfobfjggaaPAvRun
import Derived.Test.YtimomnfobfjggaaRows
set_option linter.unusedSimpArgs false
set_option linter.unusedVariables false
set_option maxRecDepth 100000
namespace Go.Proofs.Ytimomnfobfjggaa
variable {b y ac z:AC} {F:cQ} {o:az} {r v a:AV} {K:Act->World->Prop} {listed:Array Bool} {E:Env} {f:FuncId} {x' x:L3} {dep:List (List Nat)} {u ups:List (Nat×Option Bk)} {m m':List (Option Bk)} {as_ s caps:List AV} {acc ps:List Nat} {rs:List Rec} {n jn i k k' kb k0 k1:Nat} {σ:Nat->AV} {g g':Nat->Option Bk} {op:Oper} {P:Program} {w:World}
open Go.RowKit
abbrev Ou:=@Option.map_eq_some_iff
abbrev OR:=@List.mem_map
abbrev Pe:=@List.isEmpty_iff
abbrev Po:=@List.map_append
abbrev PO:=@List.take_of_length_le
abbrev PW:=@List.all_cons
abbrev P7:=@List.drop_zero
def wV (o:az) (x:L3):Option (AV×List (Nat×Option Bk)):=
 match di o x with
 | .done v u _=>some (v,u)
 |_=>none
def runN (n:Nat):Nat->List az->L3->Option L3
 |0,_,x=>some x
 |_+1,[],_=>none
 |k+1,o::os,x=>bif dstOK n o.dst then match wV o x with
   |some (v,u)=>bif upsOK x.m.length u then runN n k os ⟨eB x.t o.dst v,dD x.m u⟩ else none
   |none=>none
  else none
def nF:Nat->List az->L3->List Rec
 |0,_,_=>[]
 |_+1,[],_=>[]
 |k+1,o::os,x=>match di o x with
  | .done v u acc=>⟨o.dst,v,u,acc,x.m.length⟩::nF k os ⟨eB x.t o.dst v,dD x.m u⟩
  |_=>[]
def bL (live:List Nat):List (Nat×AV)->List (Nat×AV)
 |[]=>[]
 |(j,v)::r=>bif live.any (Nat.beq j) then (j,v)::bL live r else bL live r
def L3.bL (live:List Nat) (x:L3):L3:=⟨Ytimomnfobfjggaa.bL live x.t,x.m⟩
theorem sO (live:List Nat):∀(t:List (Nat×AV)) (i:Nat),slot (bL live t) i=if live.any (Nat.beq i)=true then slot t i else .dead
 |[],i=>by simp [bL,slot]
 |(j,v)::r,i=>by
  simp only [bL,slot]
  cases hb:Nat.beq i j with
  |true=>
   have:=Oy hb
   subst this
   cases hl:live.any (Nat.beq i) with
   |true=>simp [slot]
   |false=>simp [sO live r,hl]
  |false=>
   cases hl:live.any (Nat.beq j) with
   |true=>simp [slot,hb,sO live r]
   |false=>simp [sO live r]
section
variable {P:Program} {n k0:Nat} {x:L3} {K:L3->Prop} {Q:Ex->L3->Prop} {R:List az} {k:Nat}
theorem EL.prune (live:List Nat) (h:EL P n k0 ac (x.bL live) Q):EL P n k0 ac x Q:=by
 refine EL.fL (y:=x.bL live) (S3.wT (fun t=> ?_) rfl rfl) h
 show slot (bL live x.t) t=slot x.t t\/slot (bL live x.t) t= .dead\/_
 rw [sO]
 split
 ·exact .inl rfl
 ·exact .inr (.inl rfl)
theorem AY (h:wV o x=some (v,u)):∃acc,di o x= .done v u acc:=by
 unfold wV at h
 split at h
 ·rename_i v' u' acc he
  simp only [Oj,OA] at h
  obtain ⟨rfl,rfl⟩:=h
  exact ⟨acc,he⟩
 ·simp at h
theorem AZ:∀(c:Nat) (os:List az) (x x':L3),runN n c os x=some x'->OW P n k0 (os.drop c) x' K->OW P n k0 os x K
 |0,os,x,x',h,hr=>by simp only [runN,Oj] at h;subst h;exact hr
 |c+1,[],x,x',h,hr=>by simp [runN] at h
 |c+1,o::os,x,x',h,hr=>by
  simp only [runN] at h
  cases hd:dstOK n o.dst with
  |false=>rw [hd] at h;simp at h
  |true=>
   rw [hd,Oq] at h
   split at h
   ·rename_i v u hv
    obtain ⟨acc,he⟩:=AY hv
    cases hu:upsOK x.m.length u with
    |false=>rw [hu] at h;simp at h
    |true=>
     rw [hu,Oq] at h
     exact OW.cons hd he hu (AZ c os _ x' h hr)
   ·simp at h
theorem A3 {dep:List (List Nat)}:∀(c:Nat) (os:List az) (x x':L3) (rs:List Rec),runN n c os x=some x'->DW P n dep (os.drop c) x' (rs++nF c os x) K->DW P n dep os x rs K
 |0,os,x,x',rs,h,hr=>by simp only [runN,Oj] at h;subst h;simpa [nF] using hr
 |c+1,[],x,x',rs,h,hr=>by simp [runN] at h
 |c+1,o::os,x,x',rs,h,hr=>by
  simp only [runN] at h
  cases hd:dstOK n o.dst with
  |false=>rw [hd] at h;simp at h
  |true=>
   rw [hd,Oq] at h
   split at h
   ·rename_i v u hv
    obtain ⟨acc,he⟩:=AY hv
    cases hu:upsOK x.m.length u with
    |false=>rw [hu] at h;simp at h
    |true=>
     rw [hu,Oq] at h
     refine DW.cons hd he hu (A3 c os _ x' _ h ?_)
     simp only [nF,he] at hr
     simpa using hr
   ·simp at h
def opD (R:List az) (k:Nat):az:=(R[k]?).getD ⟨none, .mov (.c .dead),none⟩
theorem sP (h:Nat.blt k R.length=true):R.drop k=opD R k::R.drop (k+1):=by
 have hk:k<R.length:=O3 h
 rw [List.drop_eq_getElem_cons hk]
 simp [opD,hk]
theorem OW.run (c:Nat) (h:runN n c (R.drop k) x=some x') (hr:OW P n k0 (R.drop (k+c)) x' K):OW P n k0 (R.drop k) x K:=
 AZ c _ x x' h (by rw [List.drop_drop];exact hr)
theorem OW.last (c:Nat) (live:List Nat) (h:(runN n c (R.drop k) x).map (L3.bL live)=some x') (he:(R.drop (k+c)).isEmpty=true) (hr:EL P n k0 b x' Q):OW P n k0 (R.drop k) x fun y=>EL P n k0 b y Q:=by
 cases hy:runN n c (R.drop k) x with
 |none=>rw [hy] at h;simp at h
 |some y=>
  rw [hy] at h
  simp only [Oz,Oj] at h
  refine OW.run c hy ?_
  rw [Pe.1 he]
  exact OW.nil (EL.prune live (by rw [h];exact hr))
theorem OW.end (c:Nat) (h:runN n c (R.drop k) x=some x') (he:(R.drop (k+c)).isEmpty=true) (hr:K x'):OW P n k0 (R.drop k) x K:=by
 refine OW.run c h ?_
 rw [Pe.1 he]
 exact OW.nil hr
theorem OW.fn {f:FuncId} {ar bs:List AV} {r:AV} {x':L3} (hl:Nat.blt k R.length=true) (h:di (opD R k) x= .call f ar) (hc:bI P f=true) (hf:Fn P f bs r) (hs:(cP ar).run (look x.m)=some bs)
  (hx:(bif dstOK n (opD R k).dst&&upsOK x.m.length (callUps ar r) then some (⟨eB x.t (opD R k).dst r,dD x.m (callUps ar r)⟩:L3) else none)=some x') (hr:OW P n k0 (R.drop (k+1)) x' K):OW P n k0 (R.drop k) x K:=by
 rw [sP hl]
 cases hd:(dstOK n (opD R k).dst&&upsOK x.m.length (callUps ar r)) with
 |false=>rw [hd] at hx;simp at hx
 |true=>
  rw [hd,Oq] at hx
  simp only [Oj] at hx
  subst hx
  simp only [On] at hd
  exact OW.call hd.1 h hc hs hf hd.2 hr
theorem EL.eqv (h:x=x') (hr:EL P n k0 ac x' Q):EL P n k0 ac x Q:=h▸hr
theorem EL.aq (h:OW P n k0 (R.drop 0) x fun y=>EL P n k0 b y Q):EL P n k0 (.seq (.bH R none) b) x Q:=EL.seq (EL.bH (by have:=h;rw [P7] at this;exact this))
theorem EL.aF (h:OW P n k0 (R.drop 0) x (Q .normal)):EL P n k0 (.bH R none) x Q:=EL.bH (by simpa using h)
theorem DW.run (c:Nat) (h:runN n c (R.drop k) x=some x') (hr:DW P n dep (R.drop (k+c)) x' (rs++nF c (R.drop k) x) K):DW P n dep (R.drop k) x rs K:=
 A3 c _ x x' rs h (by rw [List.drop_drop];exact hr)
theorem DW.last (c:Nat) (live:List Nat) (h:(runN n c (R.drop k) x).map (L3.bL live)=some x') (he:((R.drop (k+c)).isEmpty&&ed (rs++nF c (R.drop k) x) dep)=true) (hr:EL P n k0 b x' Q):DW P n dep (R.drop k) x rs fun y=>EL P n k0 b y Q:=by
 simp only [On] at he
 cases hy:runN n c (R.drop k) x with
 |none=>rw [hy] at h;simp at h
 |some y=>
  rw [hy] at h
  simp only [Oz,Oj] at h
  refine DW.run c hy ?_
  rw [Pe.1 he.1]
  exact DW.nil he.2 (EL.prune live (by rw [h];exact hr))
theorem DW.end (c:Nat) (h:runN n c (R.drop k) x=some x') (he:((R.drop (k+c)).isEmpty&&ed (rs++nF c (R.drop k) x) dep)=true) (hr:K x'):DW P n dep (R.drop k) x rs K:=by
 simp only [On] at he
 refine DW.run c h ?_
 rw [Pe.1 he.1]
 exact DW.nil he.2 hr
theorem EL.A4 (h:DW P n dep (R.drop 0) x [] fun y=>EL P n k0 b y Q):EL P n k0 (.seq (.bH R (some dep)) b) x Q:=EL.seq (EL.draw (by have:=h;rw [P7] at this;exact this))
theorem EL.eU (h:DW P n dep (R.drop 0) x [] (Q .normal)):EL P n k0 (.bH R (some dep)) x Q:=EL.draw (by simpa using h)
theorem tN {f:L3->Prop} (h:f x):Ex.nC f Q .normal x:=h
theorem tX {f:L3->Prop} (h:Q (.exit i) x):Ex.nC f Q (.exit i) x:=h
theorem tR {f:L3->Prop} (h:Q .ret x):Ex.nC f Q .ret x:=h
theorem iN {id:Nat} (h:Q .normal x):Ex.nD id Q .normal x:=h
theorem iR {id:Nat} (h:Q .ret x):Ex.nD id Q .ret x:=h
theorem iH {id:Nat} (h:Q .normal x):Ex.nD id Q (.exit id) x:=by simp only [Ex.nD,Oo];exact h
theorem EL.aH {b:Arg} (hb:aG (slot x.t) b= .v (.bool true)) (h:EL P n k0 y x Q):EL P n k0 (.cond b y z) x Q:=EL.cond hb (fun _=>h) (fun e=>by simp at e)
theorem EL.aJ {b:Arg} (hb:aG (slot x.t) b= .v (.bool false)) (h:EL P n k0 z x Q):EL P n k0 (.cond b y z) x Q:=EL.cond hb (fun e=>by simp at e) (fun _=>h)
abbrev VI (n:Int):AV:= .v (.int .i64 n)
abbrev OB:=Option Bk
abbrev LB:=List (Option Bk)
abbrev LS:=List (Nat×AV)
end
open Go.RowKit
section
variable {P:Program} {n k0:Nat} {x:L3} {K:L3->Prop} {Q:Ex->L3->Prop} {R:List az} {k:Nat}
def JU (P:Program) (n k0:Nat) (a:AC) (Q:Ex->L3->Prop):Nat->L3->Prop
 |0,_=>False
 |m+1,x=>EL P n k0 a x (Ex.nC (JU P n k0 a Q m) Q)
theorem EL.sQ {a:AC} (m:Nat) (h:JU P n k0 a Q m x):EL P n k0 (.loop a) x Q:=
 EL.loop (fun m x=>JU P n k0 a Q m x) h fun m x h=>by
  cases m with
  |zero=>exact h.elim
  |succ m=>
   refine EL.cM h fun e y hy=> ?_
   cases e with
   |normal=>exact ⟨m,by omega,hy⟩
   |exit id=>exact hy
   |ret=>exact hy
theorem JU.step {a:AC} {m:Nat} (h:EL P n k0 a x (Ex.nC (JU P n k0 a Q m) Q)):JU P n k0 a Q (m+1) x:=h
theorem OW.fw (hl:Nat.blt k R.length=true) (h:di (opD R k) x= .done v u acc) (hx:(bif dstOK n (opD R k).dst&&upsOK x.m.length u then some (⟨eB x.t (opD R k).dst v,dD x.m u⟩:L3) else none)=some x') (hr:OW P n k0 (R.drop (k+1)) x' K):OW P n k0 (R.drop k) x K:=by
 rw [sP hl]
 cases hd:(dstOK n (opD R k).dst&&upsOK x.m.length u) with
 |false=>rw [hd] at hx;simp at hx
 |true=>
  rw [hd,Oq] at hx
  simp only [Oj] at hx
  subst hx
  simp only [On] at hd
  exact OW.cons hd.1 h hd.2 hr
theorem DW.fw (hl:Nat.blt k R.length=true) (h:di (opD R k) x= .done v u acc) (hx:(bif dstOK n (opD R k).dst&&upsOK x.m.length u then some (⟨eB x.t (opD R k).dst v,dD x.m u⟩:L3) else none)=some x') (hr:DW P n dep (R.drop (k+1)) x' (rs++[⟨(opD R k).dst,v,u,acc,x.m.length⟩]) K):DW P n dep (R.drop k) x rs K:=by
 rw [sP hl]
 cases hd:(dstOK n (opD R k).dst&&upsOK x.m.length u) with
 |false=>rw [hd] at hx;simp at hx
 |true=>
  rw [hd,Oq] at hx
  simp only [Oj] at hx
  subst hx
  simp only [On] at hd
  exact DW.cons hd.1 h hd.2 hr
end
section
variable {o:az} {x:L3}
theorem kX (ao:AO) {see:List Nat} (ho:o.ao=ao) (hg:bO (slot x.t) o.guard=some true) (h:(ao.au x.m.length (aG (slot x.t))).run (look x.m)=some (.done v u))
  (h2:(ao.au x.m.length (aG (slot x.t))).acc (look x.m)=acc) (h3:(ao.au x.m.length (aG (slot x.t))).see (look x.m)=see):di o x= .done v u (acc++see):=by
 unfold di
 rw [hg]
 simp only [ho,h]
 unfold wR
 rw [h2,h3]
theorem A5 (ao:AO) (ho:o.ao=ao) (hg:bO (slot x.t) o.guard=some true) (h:ao.au x.m.length (aG (slot x.t))= .ret (.done v u)):di o x= .done v u []:=
 kX ao (acc:=[]) (see:=[]) ho hg (by rw [h];rfl) (by rw [h];rfl) (by rw [h];rfl)
theorem sR (a b:Arg) (q q':IntKind) (m d:Int) (ho:o.ao= .bin false .shl a b) (hg:bO (slot x.t) o.guard=some true) (ha:aG (slot x.t) a= .v (.int q m)) (hb:aG (slot x.t) b= .v (.int q' d)) (hd:¬d<0):di o x= .done (.v (.int q (q.wrap (m*2^(min d.toNat q.bits))))) [] []:=
 A5 _ ho hg (by simp [AO.au,ha,hb,binA,hd,RM.opt])
theorem wW (a b:Arg) (q q':IntKind) (m d:Int) (ho:o.ao= .bin false .shr a b) (hg:bO (slot x.t) o.guard=some true) (ha:aG (slot x.t) a= .v (.int q m)) (hb:aG (slot x.t) b= .v (.int q' d)) (hd:¬d<0):di o x= .done (.v (.int q (m.fdiv (2^(min d.toNat q.bits))))) [] []:=
 A5 _ ho hg (by simp [AO.au,ha,hb,binA,hd,RM.opt])
end
section
variable {o:az} {x:L3}
theorem run_bind {α β:Type} {g:Nat->Option Bk} {f:α->RM β}:∀(m:RM α) {a:α},m.run g=some a->(m.bind f).run g=(f a).run g/\(m.bind f).acc g=m.acc g++(f a).acc g/\(m.bind f).see g=m.see g++(f a).see g
 | .ret b,a,h=>by simp only [RM.run,Oj] at h;subst h;exact ⟨rfl,rfl,rfl⟩
 | .fail,a,h=>by simp [RM.run] at h
 | .rd id k,a,h=>by
  cases hg:g id with
  |none=>simp [RM.run,hg] at h
  |some B=>
   simp only [RM.run,hg] at h
   obtain ⟨h1,h2,h3⟩:=run_bind (f:=f) (k B) h
   exact ⟨by simp [RM.bind,RM.run,hg,h1],by simp [RM.bind,RM.acc,hg,h2],by simp [RM.bind,RM.see,hg,h3]⟩
 | .lv id k,a,h=>by
  cases hg:g id with
  |none=>simp [RM.run,hg] at h
  |some B=>
   simp only [RM.run,hg] at h
   obtain ⟨h1,h2,h3⟩:=run_bind (f:=f) k h
   exact ⟨by simp [RM.bind,RM.run,hg,h1],by simp [RM.bind,RM.acc,h2],by simp [RM.bind,RM.see,h3]⟩
end
open Go.RowKit
inductive fy where
 |old (id:Nat) (raw:Bool)
 |new (sz:Nat)
def newOf:List fy->Nat->Nat->Option Nat
 |[],_,_=>none
 | .old i _::r,j,id=>bif Nat.beq i id then some j else newOf r (j+1) id
 | .new _::r,j,id=>newOf r (j+1) id
def fN (ρ:Nat->Option Nat):Nat->AV->AV
 |0,_=> .dead
 |d+1, .agg cs=> .agg (cs.map (fN ρ d))
 |d+1, .aK cs=> .aK (cs.map (fN ρ d))
 |d+1, .fn f cs=> .fn f (cs.map (fN ρ d))
 |d+1, .bf f cs=> .bf f (cs.map (fN ρ d))
 |d+1, .af r cs=> .af r (cs.map (fN ρ d))
 |_+1, .ref id sz i o=>match ρ id with
  |some j=> .ref j sz i o
  |none=> .dead
 |_+1, .own id sz off n=>match ρ id with
  |some j=> .own j sz off n
  |none=> .dead
 |_+1, .mp id=>match ρ id with
  |some j=> .mp j
  |none=> .dead
 |_+1,a=>a
def nG (ρ:Nat->Option Nat) (B:Bk):Bk:=⟨B.sz,B.els.map fun cs=>cs.map (fN ρ 3)⟩
def kr (m:List (Option Bk)) (src:List fy) (id:Nat):Option Nat:=bif (look m id).isSome then newOf src 0 id else none
def sS (ρ:Nat->Option Nat) (src:List fy) (es:List (Nat×Nat)) (j:Nat) (a:AV):AV:=
 match a,es.lookup j with
 | .emp,some i=>match src[i]? with
  |some (.new sz)=> .own i sz 0 0
  |_=> .emp
 |a,_=>fN ρ 4 a
def jI (m:List (Option Bk)) (src:List fy):fy->Option Bk
 | .old i raw=>(look m i).map fun B=>bif raw then B else nG (kr m src) B
 | .new sz=>some ⟨sz,[]⟩
def srcOK (k0:Nat) (src:List fy):Bool:=
 (List.range src.length).all (fun i=>match src[i]? with
  |some (.old id _)=>match newOf src 0 id with
   |some j=>Nat.beq j i
   |none=>false
  |some (.new sz)=>Nat.ble 1 sz
  |_=>true)&&(List.range k0).all fun i=>match src[i]? with
  |some (.old id _)=>Nat.beq id i
  |_=>false
def wX (k0:Nat) (live:List Nat) (src:List fy) (es:List (Nat×Nat)) (x:L3):Option L3:=
 bif srcOK k0 src then some ⟨live.map fun j=>(j,sS (kr x.m src) src es j (slot x.t j)),src.map (jI x.m src)⟩ else none
def qF (ln:Nat->Nat):Option fy->Nat
 |some (.old id _)=>ln id
 |_=>0
def oR (loc:Nat->Option Nat):Option fy->Option Nat
 |some (.old id _)=>loc id
 |_=>none
theorem qG {v:Value} (h:aj E v .emp):∃A,v= .slice A 0 0:=by
 cases h with
 |emp=>exact ⟨_,rfl⟩
theorem wY:∀(src:List fy) (k id j:Nat),newOf src k id=some j->k<=j/\∃raw,src[j - k]? =some (.old id raw)
 |[],k,id,j,h=>by simp [newOf] at h
 | .old i raw::r,k,id,j,h=>by
  simp only [newOf] at h
  cases hb:Nat.beq i id with
  |true=>
   rw [hb] at h
   simp only [Oq,Oj] at h
   subst h
   have:=Oy hb
   subst this
   exact ⟨by omega,raw,by simp⟩
  |false=>
   rw [hb,OH] at h
   obtain ⟨h1,h2⟩:=wY r (k+1) id j h
   refine ⟨by omega, ?_⟩
   rw [show j - k=(j - (k+1))+1 by omega,Pc]
   exact h2
 | .new _::r,k,id,j,h=>by
  simp only [newOf] at h
  obtain ⟨h1,h2⟩:=wY r (k+1) id j h
  refine ⟨by omega, ?_⟩
  rw [show j - k=(j - (k+1))+1 by omega,Pc]
  exact h2
theorem A6 (G:Nat->AV):∀(live:List Nat) (i:Nat),slot (live.map fun j=>(j,G j)) i=G i\/slot (live.map fun j=>(j,G j)) i= .dead
 |[],i=> .inr rfl
 |j::r,i=>by
  simp only [OD,slot]
  cases hb:Nat.beq i j with
  |true=>
   have:=Oy hb
   subst this
   exact .inl rfl
  |false=>exact A6 G r i
theorem qH (m:List (Option Bk)) (src:List fy) (i:Nat):look (src.map (jI m src)) i=(src[i]?).bind (jI m src):=by
 unfold look
 rw [OM]
 cases src[i]? <;>simp
section
variable {E E':Env} {ρ:Nat->Option Nat}
theorem Hu (hI:E'.I=E.I) (hw:E'.w=E.w) (hg:∀l,E.rg l->E'.rg l) (fO:∀id j,ρ id=some j->E'.kn j/\¬E'.dead j/\E'.loc j=E.loc id/\¬E.dead id/\E'.ln j=E.ln id):∀(d:Nat) {v:Value} {a:AV},aj E v a->aj E' v (fN ρ d a):=by
 have hp:∀{v:Value} {a:AV},aj E v a->Pu a->aj E' v a:=fun h hp=>h.pure (fun b hb=>⟨by rw [hI];exact hb,fun o=>by rw [hw]⟩) hp
 intro d
 induction d with
 |zero=>intro v a h;exact .dead
 |succ d ih=>
  have fI:∀{vs:Array Value} {cs:List AV},vs.size=cs.length->(∀(i:Nat) v c,vs[i]? =some v->cs[i]? =some c->aj E v c)->vs.size=(cs.map (fN ρ d)).length/\∀(i:Nat) v c,vs[i]? =some v->(cs.map (fN ρ d))[i]? =some c->aj E' v c:=by
   intro vs cs hl h
   refine ⟨by simpa using hl,fun i v c hv hc=> ?_⟩
   rw [OM,Ou] at hc
   obtain ⟨c0,j7,rfl⟩:=hc
   exact ih (h i v c0 hv j7)
  intro v a h
  cases a with
  |v x=>exact hp h .v
  |agg cs=>cases h with|agg hl hh=>obtain ⟨q1,q2⟩:=fI hl hh;exact .agg q1 q2
  |aK cs=>cases h with|aK hl hh=>obtain ⟨q1,q2⟩:=fI hl hh;exact .aK q1 q2
  |fn f cs=>cases h with|fn hl hh=>obtain ⟨q1,q2⟩:=fI hl hh;exact .fn q1 q2
  |bf f cs=>cases h with|bf hl hh=>obtain ⟨q1,q2⟩:=fI hl hh;exact .bf q1 q2
  |af r cs=>cases h with|af h1 h2 h3 hl hh=>obtain ⟨q1,q2⟩:=fI hl hh;exact .af (hg _ h1) (by rw [hI];exact h2) (by rw [hw];exact h3) q1 q2
  |aU sz els=>exact hp h .aU
  |cp sz els=>exact hp h .cp
  |emp=>exact hp h .emp
  |pim cs o=>exact hp h .pim
  |c8=>exact hp h .c8
  |dead=>exact .dead
  |ref id sz i o=>
   simp only [fN]
   cases hr:ρ id with
   |none=>exact .dead
   |some j=>
    obtain ⟨r1,r2,r3,r4,r5⟩:=fO id j hr
    cases h with
    |ref hi hd hb hq=>exact .ref r1 r2 (r3.trans hb) hq
    |dP hi hd ho=>exact absurd hd r4
  |own id sz off n=>
   simp only [fN]
   cases hr:ρ id with
   |none=>exact .dead
   |some j=>
    obtain ⟨r1,r2,r3,r4,r5⟩:=fO id j hr
    cases h with
    |own hi hd hb hq hs hm hl hc bj=>exact .own r1 r2 (r3.trans hb) hq (by rw [hw];exact hs) hm hl hc (by rw [r5];exact bj)
    |bQ hi hd hb bj=>exact .bQ r1 r2 (r3.trans hb) (r5.trans bj)
    |ck hi hd ho=>exact absurd hd r4
  |mp id=>
   simp only [fN]
   cases hr:ρ id with
   |none=>exact .dead
   |some j=>
    obtain ⟨r1,r2,r3,r4,r5⟩:=fO id j hr
    cases h with
    |mp hi hd hb=>exact .mp r1 r2 (r3.trans hb)
    |gn hi hd ho=>exact absurd hd r4
end
def kY (m:List (Option Bk)):List fy->Prop
 |[]=>True
 | .old id true::r=>(∃(α:Type) (f:α->List AV) (xs:List α) (sz:Nat),look m id=some ⟨sz,xs.map f⟩/\∀y,(f y).all AV.pu1=true)/\kY m r
 |_::r=>kY m r
abbrev Hv (m:List (Option Bk)) (id:Nat):Prop:=∃(α:Type) (f:α->List AV) (xs:List α) (sz:Nat),look m id=some ⟨sz,xs.map f⟩/\∀y,(f y).all AV.pu1=true
theorem pu {α:Type} {id:Nat} (sz:Nat) (f:α->List AV) (xs:List α) (h:look m id=some ⟨sz,xs.map f⟩) (hp:∀y,(f y).all AV.pu1=true):Hv m id:=⟨α,f,xs,sz,h,hp⟩
theorem kY.get {m:List (Option Bk)}:∀{src:List fy},kY m src->∀(i id:Nat),src[i]? =some (.old id true)->∀B,look m id=some B->∀cs,cs∈B.els->∀c,c∈cs->Pu c
 |[],_,i,id,h,B,hB,cs,hcs,c,hc=>by simp at h
 | .new _::r,hp,i,id,h,B,hB,cs,hcs,c,hc=>by
  cases i with
  |zero=>simp at h
  |succ i=>exact kY.get (src:=r) hp i id (by simpa using h) B hB cs hcs c hc
 | .old _ false::r,hp,i,id,h,B,hB,cs,hcs,c,hc=>by
  cases i with
  |zero=>simp at h
  |succ i=>exact kY.get (src:=r) hp i id (by simpa using h) B hB cs hcs c hc
 | .old _ true::r,hp,i,id,h,B,hB,cs,hcs,c,hc=>by
  cases i with
  |zero=>
   simp only [OV,Oj,fy.old.injEq,and_true] at h
   subst h
   obtain ⟨⟨α,f,xs,sz,h1,h2⟩,_⟩:=hp
   rw [h1] at hB
   simp only [Oj] at hB
   subst hB
   simp only [OR] at hcs
   obtain ⟨y,_,rfl⟩:=hcs
   have:=h2 y
   simp only [Ot] at this
   exact AV.qi (this c hc)
  |succ i=>exact kY.get (src:=r) hp.2 i id (by simpa using h) B hB cs hcs c hc
theorem Mk.same {E':Env} (hI:E'.I=E.I) (hw:E'.w=E.w) {lo:Nat} {ds:List Deferred} (h:Mk E lo ds):Mk E' lo ds:=by
 induction h with
 |nil=>exact .nil
 |cons h1 hD hh hne t ih=>exact .cons (by rw [hI];exact h1) hD (by rw [hw];exact hh) hne ih
theorem norm_le {live:List Nat} {src:List fy} {es:List (Nat×Nat)} {y:L3} (h:wX k0 live src es x=some y) (qI:kY x.m src):x.s.Le k0 n y.s:=by
 have hp:=qI.get
 unfold wX at h
 cases hok:srcOK k0 src with
 |false=>rw [hok] at h;simp at h
 |true=>
 rw [hok,Oq,Oj] at h
 subst h
 simp only [srcOK,On,Ot,OZ] at hok
 obtain ⟨A7,Hw⟩:=hok
 have inj:∀i id raw,src[i]? =some (.old id raw)->newOf src 0 id=some i:=by
  intro i id raw hi
  have hlt:i<src.length:=(Ov.1 hi).1
  have:=A7 i hlt
  rw [hi] at this
  simp only at this
  cases hn:newOf src 0 id with
  |none=>rw [hn] at this;simp at this
  |some j=>rw [hn] at this;simp only at this;rw [Oy this]
 have low:∀i,i<k0->∃raw,src[i]? =some (.old i raw):=by
  intro i hi
  have:=Hw i hi
  cases hs:src[i]? with
  |none=>rw [hs] at this;simp at this
  |some q=>
   cases q with
   |old id raw=>rw [hs] at this;simp only at this;exact ⟨raw,by rw [Oy this]⟩
   |new sz=>rw [hs] at this;simp at this
 intro E0 J base w0 a w hk hr
 obtain ⟨E,rfl,hle,hs,hm,aY,hmk⟩:=hr.ex
 let E':Env:={ w:=E.w,kn:=fun i=>i<src.length,loc:=fun i=>oR E.loc (src[i]?),dead:=fun i=>look (src.map (jI x.m src)) i=none,I:=E.I,ln:=fun i=>qF E.ln (src[i]?),rg:=E.rg,X:=E.X }
 have mg:∀id,look x.m id≠none->E.kn id/\¬E.dead id:=fun id hid=>by
  obtain ⟨B,hB⟩:=Option.ne_none_iff_exists'.1 hid
  exact (hm.live id).2 ⟨B,hB⟩
 have fO:∀id j,kr x.m src id=some j->E'.kn j/\¬E'.dead j/\E'.loc j=E.loc id/\¬E.dead id/\E'.ln j=E.ln id:=by
  intro id j hj
  unfold kr at hj
  cases hB:look x.m id with
  |none=>rw [hB] at hj;simp at hj
  |some B=>
   rw [hB] at hj
   simp only [Option.isSome_some,Oq] at hj
   obtain ⟨_,raw,h2⟩:=wY src 0 id j hj
   simp only [Nat.sub_zero] at h2
   refine ⟨(Ov.1 h2).1, ?_, ?_,(mg id (by rw [hB];simp)).2,by show qF E.ln (src[j]?)=_;rw [h2];rfl⟩
   ·show ¬look _ j=none
    rw [qH,h2];simp [jI,hB]
   ·show oR E.loc (src[j]?)=_
    rw [h2];rfl
 have hR:∀(d:Nat) {v:Value} {a:AV},aj E v a->aj E' v (fN (kr x.m src) d a):=Hu (E:=E) (E':=E') rfl rfl (fun _ h=>h) fO
 have eQ:∀i B',look (src.map (jI x.m src)) i=some B'->(∃id raw B,src[i]? =some (.old id raw)/\look x.m id=some B/\B'=(bif raw then B else nG (kr x.m src) B)/\E'.loc i=E.loc id)\/(∃sz,src[i]? =some (.new sz)/\B'=⟨sz,[]⟩/\E'.loc i=none):=by
  intro i B' aN
  rw [qH] at aN
  cases hsi:src[i]? with
  |none=>rw [hsi] at aN;simp at aN
  |some q=>
   rw [hsi] at aN
   cases q with
   |old id raw=>
    simp only [Pw,jI,Ou] at aN
    obtain ⟨B,hB,rfl⟩:=aN
    refine .inl ⟨id,raw,B,rfl,hB,rfl, ?_⟩
    show oR E.loc (src[i]?)=_
    rw [hsi];rfl
   |new sz=>
    simp only [Pw,jI,Oj] at aN
    subst aN
    refine .inr ⟨sz,rfl,rfl, ?_⟩
    show oR E.loc (src[i]?)=_
    rw [hsi];rfl
 have hM:aE E' J base (look (src.map (jI x.m src))):=by
  refine ⟨fun i=> ?_,fun i B' aN=> ?_,fun i i' b B1 B2 h1 h2 h3 h4=> ?_,fun i b B' aN hl=> ?_,hm.low,hm.size,fun i B' aN cG=> ?_,hm.fc,fun b hb=>⟨(hm.xo b hb).1,(hm.xo b hb).2.1,fun i B' aN he=> ?_⟩⟩
  ·show (i<src.length/\¬look _ i=none)↔_
   constructor
   ·rintro ⟨_,h2⟩
    exact Option.ne_none_iff_exists'.1 h2
   ·rintro ⟨B,hB⟩
    refine ⟨?_,by rw [hB];simp⟩
    rw [qH] at hB
    cases hsi:src[i]? with
    |none=>rw [hsi] at hB;simp at hB
    |some q=>exact (Ov.1 hsi).1
  ·rcases eQ i B' aN with ⟨id,raw,B,e1,e2,kQ,e4⟩|⟨sz,e1,rfl,e3⟩
   ·rw [e4]
    have:=hm.at_ id B e2
    have hsz:B'.sz=B.sz/\B'.els.length=B.els.length:=by subst kQ;cases raw<;>simp [nG]
    have fk:∀(i:Nat) fg,B'.els[i]? =some fg->∃cs,B.els[i]? =some cs/\fg.length=cs.length/\∀(j:Nat) c',fg[j]? =some c'->∃c,cs[j]? =some c/\∀u,aj E u c->aj E' u c':=by
     subst kQ
     cases raw with
     |true=>
      intro i' cs hi
      refine ⟨cs,hi,rfl,fun j c hj=>⟨c,hj,fun u hu=> ?_⟩⟩
      exact aj.pure (E:=E) (E':=E') (fun b hb=>⟨hb,fun _=>rfl⟩) hu (hp i id e1 B e2 cs (OT hi) c (OT hj))
     |false=>
      intro i' fg hi
      simp only [OH,nG,OM,Ou] at hi
      obtain ⟨cs,hcs,rfl⟩:=hi
      refine ⟨cs,hcs,by simp,fun j c' hj=> ?_⟩
      rw [OM,Ou] at hj
      obtain ⟨c,hc,rfl⟩:=hj
      exact ⟨c,hc,fun u hu=>hR 3 hu⟩
    cases hl:E.loc id with
    |none=>
     rw [hl] at this
     show B'.els=[]
     have h0:B.els=[]:=this
     have:=hsz.2
     rw [h0] at this
     exact Py this
    |some b=>
     rw [hl] at this
     obtain ⟨q1,⟨hz,arr,t,q2,q3,q4⟩|⟨hz,Hx,clock,q2,q3,q4⟩⟩:=this
     ·refine .iL ⟨q1,arr,t,q2,by rw [hsz.1,hsz.2];exact q3,fun i fg hi=> ?_⟩ (by rw [hsz.1];exact hz)
      obtain ⟨cs,hcs,hlen,fG⟩:=fk i fg hi
      obtain ⟨p1,p2⟩:=q4 i cs hcs
      refine ⟨by rw [hlen,hsz.1];exact p1,fun j c' hj=> ?_⟩
      obtain ⟨c,hc,cx⟩:=fG j c' hj
      obtain ⟨u,u1,u2,u3⟩:=p2 j c hc
      exact ⟨u,by rw [hsz.1];exact u1,u2,cx u u3⟩
     ·refine .ofMap ⟨q1,Hx,clock,q2,by rw [hsz.2];exact q3,fun i' e fg he hi=> ?_⟩ (by rw [hsz.1];exact hz)
      subst kQ
      cases raw with
      |true=>
       obtain ⟨y,k1,k2,k3⟩:=q4 i' e fg he hi
       refine ⟨y,k1,k2,aj.pure (E:=E) (E':=E') (fun b hb=>⟨hb,fun _=>rfl⟩) k3 (hp i id e1 B e2 fg (OT hi) y (by rw [k1];simp))⟩
      |false=>
       simp only [OH,nG,OM,Ou] at hi
       obtain ⟨cs,hcs,rfl⟩:=hi
       obtain ⟨y,rfl,k2,k3⟩:=q4 i' e cs he hcs
       exact ⟨fN (kr x.m src) 3 y,rfl,k2,hR 3 k3⟩
   ·rw [e3];rfl
  ·rcases eQ i B1 h1 with ⟨id,raw,B,e1,e2,_,e4⟩|⟨sz,_,_,e3⟩
   ·rcases eQ i' B2 h2 with ⟨b7,Hy,B',f1,f2,_,f4⟩|⟨sz,_,_,f3⟩
    ·rw [e4] at h3;rw [f4] at h4
     have:=hm.apart id b7 b B B' e2 f2 h3 h4
     subst this
     have a1:=inj i id raw e1
     have a2:=inj i' id Hy f1
     rw [a1] at a2
     exact Option.some.inj a2
    ·rw [f3] at h4;simp at h4
   ·rw [e3] at h3;simp at h3
  ·rcases eQ i B' aN with ⟨id,raw,B,e1,e2,_,e4⟩|⟨sz,_,_,e3⟩
   ·rw [e4] at hl;exact hm.out id b B e2 hl
   ·rw [e3] at hl;simp at hl
  ·show _=qF E.ln (src[i]?)
   rcases eQ i B' aN with ⟨id,raw,B,e1,e2,e3,e4⟩|⟨sz,e1,e2,e3⟩
   ·rw [e1];show _=E.ln id
    rw [<-hm.len id B e2 (by subst e3;cases raw<;>simpa [nG] using cG),e3];cases raw<;>simp [nG]
   ·rw [e1,e2];rfl
  ·rcases eQ i B' aN with ⟨id,raw,B,e1,e2,_,e4⟩|⟨sz,_,_,e3⟩
   ·rw [e4] at he;exact (hm.xo b hb).2.2 id B e2 he
   ·rw [e3] at he;simp at he
 have Hz:E0.Le E':=by
  have HA:∀id,E0.kn id->E'.loc id=E.loc id:=fun id hid=>by
   show oR E.loc (src[id]?)=_
   obtain ⟨raw,hl⟩:=low id (hk id hid)
   rw [hl];rfl
  have sT:∀id,E0.kn id->E.dead id->E'.dead id:=fun id hid hd=>by
   show look _ id=none
   obtain ⟨raw,hl⟩:=low id (hk id hid)
   rw [qH,hl]
   cases hB:look x.m id with
   |none=>simp [jI,hB]
   |some B=>exact absurd hd (mg id (by rw [hB];simp)).2
  refine ⟨fun id hid=>(low id (hk id hid)).elim fun _ hl=>(Ov.1 hl).1,hle.cB,fun id hid hd=>sT id hid (hle.dead id hid hd),fun id hid hd=> ?_,fun id b hid hd hb=> ?_,fun id hid hd=> ?_,hle.rg,hle.fx⟩
  ·rcases hle.loc id hid hd with h|h
   ·exact .inl (sT id hid h)
   ·exact .inr ((HA id hid).trans h)
  ·rcases hle.shape id b hid hd hb with h|h
   ·exact .inl (sT id hid h)
   ·exact .inr h
  ·rcases hle.ln id hid hd with h|h
   ·exact .inl (sT id hid h)
   ·refine .inr (Eq.trans ?_ h)
    show qF E.ln (src[id]?)=_
    obtain ⟨raw,hl⟩:=low id (hk id hid)
    rw [hl];rfl
 have HB:Mk E' w0.heap.size a.defers:=Mk.same (E:=E) (E':=E') rfl rfl hmk
 refine ⟨⟨E',rfl,Hz,fun t=> ?_,hM,fun id hid=> ?_,HB⟩,hr.size,hr.below,hr.gl⟩
 ·show aj E' _ (slot (live.map fun j=>(j,sS (kr x.m src) src es j (slot x.t j))) t)
  rcases A6 (fun j=>sS (kr x.m src) src es j (slot x.t j)) live t with h|h
  ·rw [h]
   have ht:=hs t
   have sU:aj E (a.tmps.getD t undef) (slot x.t t):=ht
   have HC:aj E' (a.tmps.getD t undef) (fN (kr x.m src) 4 (slot x.t t)):=hR 4 sU
   unfold sS
   split
   ·rename_i i he hl
    rw [he] at sU
    split
    ·rename_i sz hsz
     obtain ⟨A,hA⟩:=qG sU
     rw [hA]
     have aN:look (src.map (jI x.m src)) i=some ⟨sz,[]⟩:=by rw [qH,hsz];rfl
     have hz:sz≠0:=by
      have:=A7 i (Ov.1 hsz).1
      rw [hsz] at this
      have:=O3 this
      omega
     refine .bQ (Ov.1 hsz).1 (by show ¬look _ i=none;rw [aN];simp) ?_ ?_
     ·show oR E.loc (src[i]?)=_
      rw [hsz];rfl
     ·show qF E.ln (src[i]?)=_
      rw [hsz];rfl
    ·obtain ⟨A,hA⟩:=qG sU
     rw [hA]
     exact .emp
   ·exact HC
  ·rw [h];exact .dead
 ·show id<(src.map _).length
  rw [OL];exact hid
section
variable {P:Program} {n k0:Nat} {x:L3} {Q:Ex->L3->Prop}
theorem EL.norm {y:L3} (live:List Nat) (src:List fy) (es:List (Nat×Nat)) (h:wX k0 live src es x=some y) (qI:kY x.m src) (hy:EL P n k0 ac y Q):EL P n k0 ac x Q:=EL.fL (norm_le h qI) hy
end
section
variable {g:Nat->Option Bk}
end
def aQ (a b:AV):Prop:=∀(E:Env) (v:Value),aj E v a->aj E v b
theorem aQ.refl:aQ a a:=fun _ _ h=>h
theorem aQ.of_eq {b:AV} (h:a=b):aQ a b:=h▸aQ.refl
theorem aQ.trans {b c:AV} (h:aQ a b) (k:aQ b c):aQ a c:=fun E v r=>k E v (h E v r)
theorem aQ.emp {sz:Nat}:aQ .emp (.aU sz []):=fun E v h=>by
 obtain ⟨A,rfl⟩:=qG h
 exact .dG (by omega)
inductive ee:List AV->List AV->Prop
 |nil:ee [] []
 |cons {a b:AV} {r s:List AV} (h:aQ a b) (t:ee r s):ee (a::r) (b::s)
theorem ee.get {r:List AV} (h:ee r s):r.length=s.length/\∀(i:Nat) b,s[i]? =some b->∃a,r[i]? =some a/\aQ a b:=by
 induction h with
 |nil=>exact ⟨rfl,fun i b h=>by simp at h⟩
 |cons h t ih=>
  refine ⟨by simp [ih.1],fun i b hb=> ?_⟩
  cases i with
  |zero=>simp only [OV,Oj] at hb;subst hb;exact ⟨_,by simp,h⟩
  |succ i=>exact ih.2 i b (by simpa using hb)
theorem aQ.aK {r s:List AV} (h:ee r s):aQ (.aK r) (.aK s):=fun E v hv=>by
 cases hv with
 |aK hl hh=>exact .aK (hl.trans h.get.1) fun i u c hu hc=>let ⟨a,ha,wZ⟩:=h.get.2 i c hc;wZ _ _ (hh i u a hu ha)
theorem aQ.agg {r s:List AV} (h:ee r s):aQ (.agg r) (.agg s):=fun E v hv=>by
 cases hv with
 |agg hl hh=>exact .agg (hl.trans h.get.1) fun i u c hu hc=>let ⟨a,ha,wZ⟩:=h.get.2 i c hc;wZ _ _ (hh i u a hu ha)
theorem Fn.args {bu:List AV} (h:Fn P f as_ r) (ha:ee bu as_):Fn P f bu r:=fun w J vs hJ hG bG=>
 h w J vs hJ hG ⟨bG.1.trans ha.get.1,fun i u c hu hc=>let ⟨a,h1,h2⟩:=ha.get.2 i c hc;h2 _ _ (bG.2 i u a hu h1)⟩
theorem A8 (hF:cFunc P f=some F) (hl:as_.length<=F.n)
  (h:EW P F.n 0 F.code ⟨cd as_,fun _=>none,0⟩ fun x s'=>(x= .normal\/x= .ret)/\∃r',((resR s'.σ F.res).bind gE).run s'.g=some r'/\aQ r' r):Fn P f as_ r:=by
 intro w J vs hJ hG bG
 obtain ⟨fn,c,h1,h2,h3,h4,h5⟩:=qy hF
 have hm:aE (E0 w J) J w.heap.size (fun _=>none):=⟨fun id=>by simp [E0],fun id B hg=>by simp at hg,fun id b7 b B B' hg=>by simp at hg,fun id b B hg=>by simp at hg,fun b hb=>⟨hJ b hb, .inl hb⟩,Ox _,fun id B hg=>by simp at hg,fun _ h=>h.elim,fun _ h=>h.elim⟩
 refine qB h1 h2 (wpIn_mono (h none c (E0 w J) J w.heap.size w _ w (fun _=>rfl) h4 (fun id hid=>hid.elim) ⟨⟨E0 w J,rfl,Env.Le.refl _,oO bG _,hm,fun id hid=>hid.elim, .nil⟩, ?_,OY _ _,hG⟩) ?_)
 ·simp only [P9,Qh,bG.1];omega
 ·rintro e a' w' ⟨x,s',⟨hx,r',hr,HD⟩,rfl,hrel⟩
  obtain ⟨E1,rfl,hle,hs1,iu,hk,hmk⟩:=hrel.ex
  refine ⟨by rcases hx with rfl|rfl<;>simp [Ex.up],oP _ E1 hmk fun E' hS=> ?_⟩
  have hM:=hS.mem iu
  have hs:=fun t=>hS.rep (hs1 t)
  obtain ⟨r0,eF,cU⟩:=cC hr
  obtain ⟨v,e1,e2⟩:=qx hM hs h3 eF
  have hI:∀ids b,Handed E' s'.g ids b->J b\/(w.heap.size<=b/\b<E'.w.heap.size):=by
   intro ids b hb
   rcases hb with hb|⟨id,B,_,hg,hl⟩
   ·have:=hM.low b hb
    rcases this.2 with h|h
    ·exact .inl h
    ·exact .inr ⟨h,this.1⟩
   ·have:=hM.at_ id B hg
    rw [hl] at this
    exact .inr this.lt
  have cx:aj (Proofs.Ytimomnfobfjggaa.E0 E'.w fun b=>J b\/(w.heap.size<=b/\b<E'.w.heap.size)) v r:=by
   refine HD _ _ ?_
   cases r0 with
   |aK us=>
    simp only [gE] at cU
    obtain ⟨l,m1,m2⟩:=cC cU
    simp only [RM.run,Oj] at m2;subst m2
    obtain ⟨k1,k2⟩:=ql hM _ m1 (hI _)
    cases e2 with
    |aK hl h=>
     refine .aK (by rw [k1];exact hl) fun i v c hv hc=> ?_
     have hi:i<us.length:=by rw [<-k1];exact (Ov.1 hc).1
     exact k2 i v us[i] c (h i v _ hv (OG hi)) (OG hi) hc
   |_=>exact wu hM _ e2 cU (hI _)
  exact ⟨v,e1,v,rfl,cx,hS.below (Ox _) hrel.below⟩
theorem fW (hF:cFunc P f=some F) (hl:as_.length<=F.n)
  (h:EL P F.n 0 F.code (start as_) fun e x=>(e= .normal\/e= .ret)/\∃r',((resR (slot x.t) F.res).bind gE).run (look x.m)=some r'/\aQ r' r):Fn P f as_ r:=by
 refine A8 hF hl (EW.fL (qE as_ _ _) (EW.cM h ?_))
 rintro e s ⟨x',rfl,h1,h2⟩
 exact ⟨h1,h2⟩
theorem A9 (hF:cFunc P f=some F) (hl:as_.length<=F.n)
  (h:EW P F.n k F.code ⟨cd as_,g,k⟩ fun x s'=>(x= .normal\/x= .ret)/\∃y:S3,s'.Le k F.n y/\(resR y.σ F.res).run y.g=some r/\y.g=g'/\y.k=k'):Fi P f as_ g k r g' k':=by
 intro E J base vs hG hm aY bG
 obtain ⟨fn,c,h1,h2,h3,h4,h5⟩:=qy hF
 refine qB h1 h2 (wpIn_mono (h none c E J base E.w _ E.w (fun _=>rfl) h4 aY ⟨⟨E,rfl,Env.Le.refl E,oO bG _,hm,aY, .nil⟩, ?_,OY _ _,hG⟩) ?_)
 ·simp only [P9,Qh,bG.1];omega
 ·rintro e a' w' ⟨x,s',⟨hx,y,hy,hr,rfl,rfl⟩,rfl,w8⟩
  have hrel:=hy E J base E.w a' w' aY w8
  obtain ⟨E',rfl,hle,hs,hM,hk,hmk⟩:=hrel.ex
  refine ⟨by rcases hx with rfl|rfl<;>simp [Ex.up],oP _ E' hmk fun E2 hS=> ?_⟩
  have ko:=hS.mem hM
  obtain ⟨v,e1,e2⟩:=qx ko (fun t=>hS.rep (hs t)) h3 hr
  exact ⟨v,e1,v,E2,rfl,rfl,hS.le hle (fun b hb=>(hm.low b hb).1) (fun b hb=>(hm.xo b hb).1),e2,ko,hS.below hm.size hrel.below,fun id hid=>hk id (by rw [<-hS.eqs.1];exact hid)⟩
theorem fV (hF:cFunc P f=some F) (hl:as_.length<=F.n)
  (h:EL P F.n m.length F.code ⟨gF 0 as_,m⟩ fun e x=>(e= .normal\/e= .ret)/\∃y:L3,x.s.Le m.length F.n y.s/\(resR (slot y.t) F.res).run (look y.m)=some r/\y.m=m'):Fi P f as_ (look m) m.length r (look m') m'.length:=by
 refine A9 hF hl (EW.fL (qE as_ _ _) (EW.cM h ?_))
 rintro e s ⟨x',rfl,h1,y,h2,h3,rfl⟩
 exact ⟨h1,y.s,h2,h3,rfl,rfl⟩
section
variable {P:Program} {n k0:Nat} {x:L3} {K:L3->Prop} {R:List az} {k:Nat}
end
section
variable {o:az} {x:L3}
end
open Go.RowKit
def sV (sz:Nat):List az:=[⟨some 8, .mov (.s 0),none⟩,⟨some 9, .mov (.s 1),none⟩,⟨some 10, .mov (.s 2),none⟩,⟨some 11, .mov (.s 0),none⟩,⟨some 12, .len false (.s 11),none⟩,⟨some 13, .slc sz (.s 8) (some (.s 9)) (some (.s 10)) (some (.s 12)),none⟩]
def HE:List az:=[⟨some 14, .mov (.s 1),none⟩,⟨some 15, .mov (.s 2),none⟩,⟨some 16, .bin false .eql (.s 14) (.s 15),none⟩]
def HF:List az:=[⟨some 17, .mov (.s 0),none⟩,⟨some 6, .mov (.s 17),none⟩]
def sW:List az:=[⟨some 18, .mov (.s 0),none⟩,⟨some 19, .len false (.s 18),none⟩,⟨some 7, .mov (.s 19),none⟩]
def HG (sz by_:Nat):List az:=[⟨some 20, .mov (.s 0),none⟩,⟨some 21, .mov (.s 1),none⟩,⟨some 22, .slc sz (.s 20) none (some (.s 21)) none,none⟩,⟨some 23, .mov (.s 0),none⟩,⟨some 24, .mov (.s 2),none⟩,⟨some 25, .slc sz (.s 23) (some (.s 24)) none none,none⟩,⟨some 26, .app sz by_ (.s 22) (.s 25),none⟩,⟨some 0, .mov (.s 26),none⟩]
def sX (sz:Nat) (zs:List AV):List az:=[⟨some 27, .mov (.s 0),none⟩,⟨some 28, .mov (.s 0),none⟩,⟨some 29, .len false (.s 28),none⟩,⟨some 30, .mov (.s 7),none⟩,⟨some 31, .slc sz (.s 27) (some (.s 29)) (some (.s 30)) none,none⟩,⟨none, .clr zs (.s 31),none⟩]
def HH:List az:=[⟨some 32, .mov (.s 0),none⟩,⟨some 6, .mov (.s 32),none⟩]
def HI:List (List Nat):=[[],[],[0,1],[],[],[3,4],[2,5,0,1,3,4],[6,0,1,2,3,4,5]]
def w9 (sz by_:Nat) (zs:List AV):cQ:=⟨33,[.tmp 6],
 .seq (.bH [⟨some 6, .mov (.c .emp),none⟩] none)
 (.seq (.bH (sV sz) none)
 (.seq (.seq (.bH HE none)
 (.cond (.s 16)
  (.seq (.bH HF none)
  (.ret))
  (.skip)))
 (.seq (.bH sW none)
 (.seq (.bH (HG sz by_) (some HI))
 (.seq (.bH (sX sz zs) none)
 (.seq (.bH HH none)
 (.ret)))))))⟩
def kZ (m:List (Option Bk)) (id:Nat) (B:Bk):List (Option Bk):=m.set id none++[none,some B]
theorem HJ {id sz c t0:Nat} {els:List (List AV)} (hB:look x.m id=some ⟨sz,els⟩) (hc:c<=els.length) (hs:slot x.t t0= .own id sz 0 c) {y:L3} (hy:y.t=[(t0, .own x.m.length sz 0 c)]) (hm:y.m=x.m.set id none++[some ⟨sz,els.take c⟩]):x.s.Le k0 n y.s:=by
 intro E0 J base w0 a w hk hr
 obtain ⟨E,rfl,hle,cq,da,aY,hmk⟩:=hr.ex
 have hid:id<x.m.length:=by
  rcases O8 id x.m.length with h|h
  ·exact h
  ·unfold look at hB;rw [PV h] at hB;simp at hB
 have hf:¬E.kn x.m.length:=fun hh=>PA _ (aY _ hh)
 have hz0:sz≠0:=(show aj E (a.tmps.getD t0 undef) (.own id sz 0 c) by rw [<-hs];exact cq t0).sf ((da.live id).2 ⟨_,hB⟩).2
 obtain ⟨E',hw,hE,hM,k1,k2,k3,k4,k5⟩:=da.move hf id ⟨sz,els⟩ ⟨sz,els.take c⟩ hB E.w (fun _ _=>rfl) rfl (fun _ _=>rfl) (fun E' hE hw=>by
  have:=(da.at_ id _ hB)
  cases hl:E.loc id with
  |none=>
   rw [hl] at this
   have h0:els=[]:=this
   show els.take c=[]
   rw [h0];simp
  |some b=>
   rw [hl] at this
   obtain ⟨q1,arr,t,q2,q3,q4⟩:=this.cells hz0
   refine .iL ⟨q1,arr,t,by rw [hw];exact q2, ?_,fun i cs hi=> ?_⟩ hz0
   ·refine OS (OP _ ?_) q3
    simp only [PG];omega
   ·have aO:els[i]? =some cs:=by
     simp only [Ps] at hi
     split at hi
     ·exact hi
     ·simp at hi
    refine ⟨(q4 i cs aO).1,fun j x hj=> ?_⟩
    obtain ⟨u,u1,u2,u3⟩:=(q4 i cs aO).2 j x hj
    exact ⟨u,u1,u2,u3.step hE⟩)
 have hg:aA (look x.m) [(id,none),(x.m.length,some ⟨sz,els.take c⟩)]=look y.m:=by
  rw [hm]
  have e1:=wQ x.m id none (by omega)
  rw [Om hid] at e1
  have e2:=wQ (x.m.set id none) x.m.length (some ⟨sz,els.take c⟩) (by simp)
  rw [Ol (by simp)] at e2
  rw [e2,e1]
  rfl
 have hM:=hg▸(show aE E' J base (aA (look x.m) [(id,none),(x.m.length,some ⟨sz,els.take c⟩)]) from hM)
 refine ⟨⟨E',hw,hle.trans hE,fun t=> ?_,hM,fun j hj=> ?_,hmk.step hE⟩,hr.size,hr.below,hr.gl⟩
 ·show aj E' _ (slot y.t t)
  rw [hy]
  simp only [slot]
  cases hb:Nat.beq t t0 with
  |false=>exact .dead
  |true=>
   have:=Oy hb
   subst this
   have hv:=cq t
   have hv':aj E (a.tmps.getD t undef) (.own id sz 0 c):=by rw [<-hs];exact hv
   have mg:=(da.live id).2 ⟨_,hB⟩
   have hlen:c<=els.length:=hc
   simp only [Oq]
   obtain ⟨vv,b8⟩:∃vv,vv=a.tmps.getD t undef:=⟨_,rfl⟩
   rw [<-b8] at hv' ⊢
   cases hv' with
   |ck hi hd=>exact absurd hd mg.2
   |own hi hd hb hq nA dj hl hcc bj=>
    refine .own k1 k2 (k3.trans hb) hq (by rw [hw];exact nA) dj hl hcc (by rw [k5];simp only [PG];omega)
   |bQ hi hd hb bj=>exact .bQ k1 k2 (k3.trans hb) (by rw [k5];simp)
 ·show j<y.m.length
  rw [hm]
  simp only [Pz,List.length_set,List.length_cons,List.length_nil]
  rcases k4 j hj with h|h
  ·have h':j<x.m.length:=aY j h
   omega
  ·omega
section
variable {o:az} {x:L3}
theorem nH {a:Arg} (h:aG σ a=VI n):cO (aG σ) (some a)=some (some n):=by
 simp only [cO,h,natOf]
 rw [Om (by omega)];simp
theorem Ba (a:Arg) (lo hi:Option Arg) (sz id off n l h:Nat) (jJ aO:Option Nat) (B:Bk) (ho:o.ao= .slc sz a lo hi none) (hg:bO (slot x.t) o.guard=some true) (ha:aG (slot x.t) a= .own id sz off n) (gz:cO (aG (slot x.t)) lo=some jJ) (er:cO (aG (slot x.t)) hi=some aO) (gC:bounds n jJ aO=some (l,h)) (hB:look x.m id=some B):
  di o x= .done (.own id sz (off+l) (h - l)) [] [id]:=by
 have hn:cO (aG (slot x.t)) none=some none:=rfl
 have hs:(AO.slc sz a lo hi none).au x.m.length (aG (slot x.t))= .lv id (.ret (.done (.own id sz (off+l) (h - l)) [])):=by simp [AO.au,ha,gz,er,hn,gC,RM.opt]
 exact kX _ (acc:=[]) (see:=[id]) ho hg (by rw [hs];simp [RM.run,hB]) (by rw [hs];rfl) (by rw [hs];rfl)
theorem HK (a:Arg) (lo hi:Option Arg) (mx:Arg) (sz id off n l h mm:Nat) (jJ aO:Option Nat) (B:Bk) (ho:o.ao= .slc sz a lo hi (some mx)) (hg:bO (slot x.t) o.guard=some true) (ha:aG (slot x.t) a= .own id sz off n) (gz:cO (aG (slot x.t)) lo=some jJ) (er:cO (aG (slot x.t)) hi=some aO) (gS:cO (aG (slot x.t)) (some mx)=some (some mm)) (gC:bounds n jJ aO=some (l,h)) (hB:look x.m id=some B) (h1:B.els.length<=off+mm) (h2:h<=mm/\mm<=n) (h3:mm≠l) (j6:B.sz=sz:=by rfl):
  di o x= .done (.own id sz (off+l) (h - l)) [] [id,id]:=by
 have hs:(AO.slc sz a lo hi (some mx)).au x.m.length (aG (slot x.t))= .lv id (.rd id fun B=>if B.sz=sz/\B.els.length<=off+mm then .ret (.done (.own id sz (off+l) (h - l)) []) else .fail):=by
  simp [AO.au,ha,gz,er,gS,gC,RM.opt,h2,h3]
 exact kX _ (acc:=[id]) (see:=[id]) ho hg (by rw [hs];simp [RM.run,hB,h1,j6]) (by rw [hs];simp [RM.acc,hB,h1,j6]) (by rw [hs];simp [RM.see,hB,h1,j6])
theorem HL (a:Arg) (lo hi:Option Arg) (sz id off n l h:Nat) (jJ:Option Nat) (hh:Nat) (B:Bk) (ho:o.ao= .slc sz a lo hi none) (hg:bO (slot x.t) o.guard=some true) (ha:aG (slot x.t) a= .own id sz off n) (gz:cO (aG (slot x.t)) lo=some jJ) (er:cO (aG (slot x.t)) hi=some (some hh)) (eH:bounds n jJ (some hh)=none) (hB:look x.m id=some B) (gC:bounds (B.els.length - off) jJ (some hh)=some (l,h)) (j6:B.sz=sz:=by rfl):
  di o x= .done (.own id sz (off+l) (h - l)) [] [id,id]:=by
 have hn:cO (aG (slot x.t)) none=some none:=rfl
 have hs:(AO.slc sz a lo hi none).au x.m.length (aG (slot x.t))= .lv id (.rd id fun B=>if B.sz=sz then .opt ((bounds (B.els.length - off) jJ (some hh)).map fun b=> .done (.own id sz (off+b.1) (b.2 - b.1)) []) else .fail):=by simp [AO.au,ha,gz,er,hn,eH]
 exact kX _ (acc:=[id]) (see:=[id]) ho hg (by rw [hs];simp [RM.run,RM.opt,hB,gC,j6]) (by rw [hs];simp [RM.acc,RM.opt,hB,gC,j6]) (by rw [hs];simp [RM.see,RM.opt,hB,gC,j6])
theorem HM (s a:Arg) (sz by_ id off n:Nat) (els ys:List (List AV)) (w:AV) (acc:List Nat) (ho:o.ao= .app sz by_ s a) (hg:bO (slot x.t) o.guard=some true) (hs:aG (slot x.t) s= .own id sz off n) (ha:aG (slot x.t) a=w) (c1:(content sz w).run (look x.m)=some ys) (c2:(content sz w).acc (look x.m)=acc) (c3:(content sz w).see (look x.m)=[])
  (hB:look x.m id=some ⟨sz,els⟩) (eH:¬(off=0/\n=els.length)) (hfit:off+n+ys.length<=els.length):
  di o x= .done (.own id sz off (n+ys.length)) [(id,some ⟨sz,els.take (off+n)++ys++els.drop (off+n+ys.length)⟩),(x.m.length,none)] (acc++[id]):=by
 let F:List (List AV)->RM Out:=fun ys=> .rd id fun B=>if sz=sz/\B.sz=sz/\off=0/\n=B.els.length/\(n+ys.length)*by_<=140737488355328 then .ret (.done (.own x.m.length sz 0 (n+ys.length)) [(id,none),(x.m.length,some ⟨sz,B.els++ys⟩)])
  else if sz=sz/\B.sz=sz/\off+n+ys.length<=B.els.length then .ret (.done (.own id sz off (n+ys.length)) [(id,some ⟨B.sz,B.els.take (off+n)++ys++B.els.drop (off+n+ys.length)⟩),(x.m.length,none)]) else .fail
 have db:(AO.app sz by_ s a).au x.m.length (aG (slot x.t))=(content sz w).bind F:=by simp [AO.au,hs,ha,F]
 obtain ⟨r1,r2,r3⟩:=run_bind (f:=F) _ c1
 have xc:¬(off=0/\n=els.length/\(n+ys.length)*by_<=140737488355328):=fun h=>eH ⟨h.1,h.2.1⟩
 have HN:(F ys).run (look x.m)=some (.done (.own id sz off (n+ys.length)) [(id,some ⟨sz,els.take (off+n)++ys++els.drop (off+n+ys.length)⟩),(x.m.length,none)]):=by
  simp only [F,RM.run,hB,true_and];rw [Ol xc,Om hfit];rfl
 have HO:(F ys).acc (look x.m)=[id]:=by
  simp only [F,RM.acc,hB,true_and];rw [Ol xc,Om hfit];rfl
 have HP:(F ys).see (look x.m)=[]:=by
  simp only [F,RM.see,hB,true_and];rw [Ol xc,Om hfit];rfl
 have:=kX (AO.app sz by_ s a) (o:=o) (x:=x) (acc:=acc++[id]) (see:=[]) ho hg (by rw [db,r1];exact HN) (by rw [db,r2,c2,HO]) (by rw [db,r3,c3,HP];rfl)
 simpa using this
theorem HQ (zs:List AV) (a:Arg) (sz id off n:Nat) (els:List (List AV)) (ho:o.ao= .clr zs a) (hg:bO (slot x.t) o.guard=some true) (hz:zs.length=sz) (ha:aG (slot x.t) a= .own id sz off n) (hB:look x.m id=some ⟨sz,els⟩) (hfit:off+n<=els.length):
  di o x= .done (.v undef) [(id,some ⟨sz,els.take off++List.replicate n zs++els.drop (off+n)⟩)] [id]:=by
 subst hz
 have hs:(AO.clr zs a).au x.m.length (aG (slot x.t))= .rd id fun B=>if B.sz=zs.length/\off+n<=B.els.length then .ret (.done (.v undef) [(id,some ⟨B.sz,B.els.take off++List.replicate n zs++B.els.drop (off+n)⟩)]) else .fail:=by simp [AO.au,ha]
 exact kX _ (acc:=[id]) (see:=[]) ho hg (by rw [hs];simp [RM.run,hB,hfit]) (by rw [hs];simp [RM.acc,hB,hfit]) (by rw [hs];simp [RM.see,hB,hfit])
end
section
variable {P:Program} {sz by_:Nat} {zs:List AV} {m:List (Option Bk)} {id i:Nat} {els:List (List AV)}
theorem HR {B:Bk} (hB:look m id=some B):id<m.length:=by
 rcases O8 id m.length with h|h
 ·exact h
 ·unfold look at hB;rw [PV h] at hB;simp at hB
theorem HS (hF:cFunc P f=some (w9 sz by_ zs)) (hz:zs.length=sz) (hB:look m id=some ⟨sz,els⟩) (hi:i<els.length) (hb:els.length<=4611686018427387904):
  Fi P f [.own id sz 0 els.length,VI i,VI (i+1:Nat)] (look m) m.length (.own (m.length+1) sz 0 (els.length - 1)) (look (kZ m id ⟨sz,els.eraseIdx i⟩)) (kZ m id ⟨sz,els.eraseIdx i⟩).length:=by
 have hid:=HR hB
 have e1:((i:Int)).toNat=i:=by omega
 have e2:(((i+1:Nat):Int)).toNat=i+1:=by omega
 have e3:((els.length:Int)).toNat=els.length:=by omega
 have p1:(0:Int)<=(i:Int):=by omega
 have p2:(0:Int)<=((i+1:Nat):Int):=by omega
 have p3:(0:Int)<=(els.length:Int):=by omega
 refine fV hF (by show 3<=33;omega) ?_
 refine EL.aq ?_
 refine OW.last 1 [0,1,2] (x':=⟨[(0, .own id sz 0 els.length),(1,VI i),(2,VI (i+1:Nat))],m⟩) (by kernel_rfl) (by kernel_rfl) ?_
 refine EL.aq ?_
 refine OW.run 4 (x':=⟨[(11, .own id sz 0 els.length),(10,VI (i+1:Nat)),(9,VI i),(8, .own id sz 0 els.length),(0, .own id sz 0 els.length),(1,VI i),(2,VI (i+1:Nat))],m⟩) (by kernel_rfl) ?_
 refine OW.fw (v:=VI els.length) (u:=[]) (acc:=[id]) (x':=⟨[(12,VI els.length),(11, .own id sz 0 els.length),(10,VI (i+1:Nat)),(9,VI i),(8, .own id sz 0 els.length),(0, .own id sz 0 els.length),(1,VI i),(2,VI (i+1:Nat))],m⟩) (by kernel_rfl) (kX _ (acc:=[]) (see:=[id]) rfl rfl (by simp [opD,sV,AO.au,aG,slot,RM.run,hB,goInt]) (by simp [opD,sV,AO.au,aG,slot,RM.acc]) (by simp [opD,sV,AO.au,aG,slot,RM.see])) (by kernel_rfl) ?_
 refine OW.fw (v:= .own id sz (0+i) (i+1 - i)) (u:=[]) (acc:=[id,id]) (x':=⟨[(13, .own id sz (0+i) (i+1 - i)),(12,VI els.length),(11, .own id sz 0 els.length),(10,VI (i+1:Nat)),(9,VI i),(8, .own id sz 0 els.length),(0, .own id sz 0 els.length),(1,VI i),(2,VI (i+1:Nat))],m⟩) (by kernel_rfl)
  (HK (.s 8) (some (.s 9)) (some (.s 10)) (.s 12) sz id 0 els.length i (i+1) els.length (some i) (some (i+1)) ⟨sz,els⟩ rfl rfl rfl (nH (by rfl)) (nH (by rfl)) (nH (by rfl)) (by simp [bounds];omega) hB (by simp) ⟨by omega,by omega⟩ (by omega)) (by kernel_rfl) ?_
 refine OW.last 0 [0,1,2] (x':=⟨[(0, .own id sz 0 els.length),(1,VI i),(2,VI (i+1:Nat))],m⟩) (by kernel_rfl) (by kernel_rfl) ?_
 refine EL.seq ?_
 refine EL.aq ?_
 refine OW.last 3 [0,1,2,16] (x':=⟨[(16, .v (.bool ((i:Int)==((i+1:Nat):Int)))),(0, .own id sz 0 els.length),(1,VI i),(2,VI (i+1:Nat))],m⟩) (by kernel_rfl) (by kernel_rfl) ?_
 have hne:((i:Int)==((i+1:Nat):Int))=false:=by simp;omega
 rw [hne]
 refine EL.aJ (by kernel_rfl) ?_
 refine EL.skip ?_
 refine tN ?_
 refine EL.aq ?_
 refine OW.run 1 (x':=⟨[(18, .own id sz 0 els.length),(16, .v (.bool false)),(0, .own id sz 0 els.length),(1,VI i),(2,VI (i+1:Nat))],m⟩) (by kernel_rfl) ?_
 refine OW.fw (v:=VI els.length) (u:=[]) (acc:=[id]) (x':=⟨[(19,VI els.length),(18, .own id sz 0 els.length),(16, .v (.bool false)),(0, .own id sz 0 els.length),(1,VI i),(2,VI (i+1:Nat))],m⟩) (by kernel_rfl) (kX _ (acc:=[]) (see:=[id]) rfl rfl (by simp [opD,sW,AO.au,aG,slot,RM.run,hB,goInt]) (by simp [opD,sW,AO.au,aG,slot,RM.acc]) (by simp [opD,sW,AO.au,aG,slot,RM.see])) (by kernel_rfl) ?_
 refine OW.last 1 [0,1,2,7] (x':=⟨[(7,VI els.length),(0, .own id sz 0 els.length),(1,VI i),(2,VI (i+1:Nat))],m⟩) (by kernel_rfl) (by kernel_rfl) ?_
 refine EL.A4 ?_
 refine DW.run 2 (x':=⟨[(21,VI i),(20, .own id sz 0 els.length),(7,VI els.length),(0, .own id sz 0 els.length),(1,VI i),(2,VI (i+1:Nat))],m⟩) (by kernel_rfl) ?_
 refine DW.fw (v:= .own id sz (0+0) (i - 0)) (u:=[]) (acc:=[id]) (x':=⟨[(22, .own id sz (0+0) (i - 0)),(21,VI i),(20, .own id sz 0 els.length),(7,VI els.length),(0, .own id sz 0 els.length),(1,VI i),(2,VI (i+1:Nat))],m⟩) (by kernel_rfl)
  (Ba (.s 20) none (some (.s 21)) sz id 0 els.length 0 i none (some i) ⟨sz,els⟩ rfl rfl rfl rfl (nH (by rfl)) (by simp [bounds];omega) hB) (by kernel_rfl) ?_
 refine DW.run 2 (x':=⟨[(24,VI (i+1:Nat)),(23, .own id sz 0 els.length),(22, .own id sz (0+0) (i - 0)),(21,VI i),(20, .own id sz 0 els.length),(7,VI els.length),(0, .own id sz 0 els.length),(1,VI i),(2,VI (i+1:Nat))],m⟩) (by kernel_rfl) ?_
 refine DW.fw (v:= .own id sz (0+(i+1)) (els.length - (i+1))) (u:=[]) (acc:=[id]) (x':=⟨[(25, .own id sz (0+(i+1)) (els.length - (i+1))),(24,VI (i+1:Nat)),(23, .own id sz 0 els.length),(22, .own id sz (0+0) (i - 0)),(21,VI i),(20, .own id sz 0 els.length),(7,VI els.length),(0, .own id sz 0 els.length),(1,VI i),(2,VI (i+1:Nat))],m⟩) (by kernel_rfl)
  (Ba (.s 23) (some (.s 24)) none sz id 0 els.length (i+1) els.length (some (i+1)) none ⟨sz,els⟩ rfl rfl rfl (nH (by rfl)) rfl (by simp [bounds];omega) hB) (by kernel_rfl) ?_
 obtain ⟨ys,j8⟩:∃ys,ys=(els.drop (0+(i+1))).take (els.length - (i+1)):=⟨_,rfl⟩
 have AD:ys.length=els.length - (i+1):=by rw [j8];simp
 obtain ⟨gG,xd⟩:∃gG,gG=els.take (0+0+(i - 0))++ys++els.drop (0+0+(i - 0)+ys.length):=⟨_,rfl⟩
 have oS:gG.length=els.length:=by rw [xd];simp;omega
 obtain ⟨m2,gr⟩:∃m2,m2=m.set id (some ⟨sz,gG⟩)++[none]:=⟨_,rfl⟩
 have eu:dD m [(id,some ⟨sz,gG⟩),(m.length,none)]=m2:=by
  simp only [dD]
  rw [Om hid,Ol (by simp),gr]
 have oT:m2.length=m.length+1:=by rw [gr];simp
 have xe:look m2 id=some ⟨sz,gG⟩:=by
  rw [gr];unfold look
  rw [Pg (by simpa using hid)]
  simp [hid]
 have nI:(content sz (.own id sz (0+(i+1)) (els.length - (i+1)))).run (look m)=some ys:=by
  simp only [content,RM.run,hB,true_and];rw [Om (by omega),j8];rfl
 have xf:(content sz (.own id sz (0+(i+1)) (els.length - (i+1)))).acc (look m)=[id]:=by
  simp only [content,RM.acc,hB,true_and];rw [Om (by omega)];rfl
 have xg:(content sz (.own id sz (0+(i+1)) (els.length - (i+1)))).see (look m)=[]:=by
  simp only [content,RM.see,hB,true_and];rw [Om (by omega)];rfl
 have oV:upsOK m.length [(id,some (⟨sz,gG⟩:Bk)),(m.length,none)]=true:=by
  simp only [upsOK];rw [Om hid];simp;omega
 refine DW.fw (v:= .own id sz (0+0) (i - 0+ys.length)) (u:=[(id,some ⟨sz,gG⟩),(m.length,none)]) (acc:=[id]++[id]) (x':=⟨[(26, .own id sz (0+0) (i - 0+ys.length)),(25, .own id sz (0+(i+1)) (els.length - (i+1))),(24,VI (i+1:Nat)),(23, .own id sz 0 els.length),(22, .own id sz (0+0) (i - 0)),(21,VI i),(20, .own id sz 0 els.length),(7,VI els.length),(0, .own id sz 0 els.length),(1,VI i),(2,VI (i+1:Nat))],m2⟩) (by kernel_rfl)
  (by rw [xd];exact HM (.s 22) (.s 25) sz by_ id (0+0) (i - 0) els ys _ [id] rfl rfl rfl rfl nI xf xg hB (by rintro ⟨_,h⟩;omega) (by omega)) (by
   show (bif dstOK 33 (some 26)&&upsOK m.length [(id,some (⟨sz,gG⟩:Bk)),(m.length,none)] then _ else _)=_
   rw [oV,eu];rfl) ?_
 obtain ⟨t3,NL⟩:∃t3:List (Nat×AV),t3=[(0, .own id sz (0+0) (i - 0+ys.length)),(2,VI (i+1:Nat)),(7,VI els.length)]:=⟨_,rfl⟩
 refine DW.last 1 [0,7] (x':=⟨[(0, .own id sz (0+0) (i - 0+ys.length)),(7,VI els.length)],m2⟩) (by kernel_rfl) (by kernel_rfl) ?_
 have q1:i - 0+ys.length=els.length - 1:=by omega
 rw [q1]
 refine EL.aq ?_
 refine OW.run 2 (x':=⟨[(28, .own id sz (0+0) (els.length - 1)),(27, .own id sz (0+0) (els.length - 1)),(0, .own id sz (0+0) (els.length - 1)),(7,VI els.length)],m2⟩) (by kernel_rfl) ?_
 refine OW.fw (v:=VI (els.length - 1:Nat)) (u:=[]) (acc:=[id]) (x':=⟨[(29,VI (els.length - 1:Nat)),(28, .own id sz (0+0) (els.length - 1)),(27, .own id sz (0+0) (els.length - 1)),(0, .own id sz (0+0) (els.length - 1)),(7,VI els.length)],m2⟩) (by kernel_rfl) (kX _ (acc:=[]) (see:=[id]) rfl rfl (by simp [opD,sX,AO.au,aG,slot,RM.run,xe,goInt]) (by simp [opD,sX,AO.au,aG,slot,RM.acc]) (by simp [opD,sX,AO.au,aG,slot,RM.see])) (by kernel_rfl) ?_
 refine OW.run 1 (x':=⟨[(30,VI els.length),(29,VI (els.length - 1:Nat)),(28, .own id sz (0+0) (els.length - 1)),(27, .own id sz (0+0) (els.length - 1)),(0, .own id sz (0+0) (els.length - 1)),(7,VI els.length)],m2⟩) (by kernel_rfl) ?_
 refine OW.fw (v:= .own id sz (0+0+(els.length - 1)) (els.length - (els.length - 1))) (u:=[]) (acc:=[id,id]) (x':=⟨[(31, .own id sz (0+0+(els.length - 1)) (els.length - (els.length - 1))),(30,VI els.length),(29,VI (els.length - 1:Nat)),(28, .own id sz (0+0) (els.length - 1)),(27, .own id sz (0+0) (els.length - 1)),(0, .own id sz (0+0) (els.length - 1)),(7,VI els.length)],m2⟩) (by kernel_rfl)
  (HL (.s 27) (some (.s 29)) (some (.s 30)) sz id (0+0) (els.length - 1) (els.length - 1) els.length (some (els.length - 1)) els.length ⟨sz,gG⟩ rfl rfl rfl (nH (by rfl)) (nH (by rfl)) (by simp only [bounds,Pm];rw [Ol (by omega)]) xe (by simp only [bounds,Pm];rw [Om ⟨by omega,by show _<=gG.length - (0+0);omega⟩])) (by kernel_rfl) ?_
 obtain ⟨eV,xh⟩:∃eV,eV=gG.take (0+0+(els.length - 1))++List.replicate (els.length - (els.length - 1)) zs++gG.drop (0+0+(els.length - 1)+(els.length - (els.length - 1))):=⟨_,rfl⟩
 have Bb:id<m2.length:=by omega
 have HT:dD m2 [(id,some ⟨sz,eV⟩)]=m2.set id (some ⟨sz,eV⟩):=by
  simp only [dD];rw [Om Bb]
 have HU:upsOK m2.length [(id,some (⟨sz,eV⟩:Bk))]=true:=by simp [upsOK];omega
 refine OW.fw (v:= .v undef) (u:=[(id,some ⟨sz,eV⟩)]) (acc:=[id]) (x':=⟨[(31, .own id sz (0+0+(els.length - 1)) (els.length - (els.length - 1))),(30,VI els.length),(29,VI (els.length - 1:Nat)),(28, .own id sz (0+0) (els.length - 1)),(27, .own id sz (0+0) (els.length - 1)),(0, .own id sz (0+0) (els.length - 1)),(7,VI els.length)],m2.set id (some ⟨sz,eV⟩)⟩) (by kernel_rfl)
  (by rw [xh];exact HQ zs (.s 31) sz id (0+0+(els.length - 1)) (els.length - (els.length - 1)) gG rfl rfl hz rfl xe (by omega)) (by
   show (bif dstOK 33 none&&upsOK m2.length [(id,some (⟨sz,eV⟩:Bk))] then _ else _)=_
   rw [HU,HT];rfl) ?_
 refine OW.last 0 [0] (x':=⟨[(0, .own id sz (0+0) (els.length - 1))],m2.set id (some ⟨sz,eV⟩)⟩) (by kernel_rfl) (by kernel_rfl) ?_
 refine EL.aq ?_
 refine OW.last 2 [6] (x':=⟨[(6, .own id sz (0+0) (els.length - 1))],m2.set id (some ⟨sz,eV⟩)⟩) (by kernel_rfl) (by kernel_rfl) ?_
 refine EL.ret ?_
 have NM:eV.length=els.length:=by rw [xh];simp;omega
 have HV:look (m2.set id (some ⟨sz,eV⟩)) id=some ⟨sz,eV⟩:=by
  unfold look;simp [Bb]
 have mu:eV.take (els.length - 1)=els.eraseIdx i:=by
  have h1:eV.take (els.length - 1)=gG.take (els.length - 1):=by
   rw [xh,PF,List.take_append_of_le_length (by simp;omega),Pd,OF,List.take_take,Nat.min_self]
  rw [h1,xd]
  have h2:els.length - 1=i+ys.length:=by omega
  rw [h2,List.take_append_of_le_length (by simp;omega)]
  rw [PO (by simp;omega)]
  rw [List.eraseIdx_eq_take_drop_succ,j8]
  congr 1
  ·simp
  ·rw [OF]
   exact PO (by simp)
 refine ⟨.inr rfl,⟨[(6, .own (m2.set id (some ⟨sz,eV⟩)).length sz 0 (els.length - 1))],(m2.set id (some ⟨sz,eV⟩)).set id none++[some ⟨sz,eV.take (els.length - 1)⟩]⟩,HJ (t0:=6) HV (by omega) rfl rfl rfl, ?_, ?_⟩
 ·simp only [List.length_set,oT];rfl
 ·rw [mu,gr]
  simp only [kZ]
  rw [List.set_set,List.set_append,Om (by simpa using hid),List.set_set]
  simp
theorem HW {α:Type} {fe:α->List AV} {xs:List α} (hF:cFunc P f=some (w9 sz by_ zs)) (hz:zs.length=sz) (hB:look m id=some ⟨sz,xs.map fe⟩) {n:Int} (h0:0<=n) (h1:n<xs.length) (hb:xs.length<=1000000):
  Fi P f [.own id sz 0 xs.length,VI n,VI (n+1)] (look m) m.length (.own (m.length+1) sz 0 (xs.eraseIdx n.toNat).length) (look (kZ m id ⟨sz,(xs.eraseIdx n.toNat).map fe⟩)) (kZ m id ⟨sz,(xs.eraseIdx n.toNat).map fe⟩).length:=by
 have e0:((n.toNat:Nat):Int)=n:=by omega
 have e1:((n.toNat+1:Nat):Int)=n+1:=by omega
 have h:=HS (P:=P) (f:=f) (i:=n.toNat) (els:=xs.map fe) hF hz hB (by simp;omega) (by simp;omega)
 rw [e0,e1,OL] at h
 have e2:(xs.map fe).eraseIdx n.toNat=(xs.eraseIdx n.toNat).map fe:=by
  rw [List.eraseIdx_eq_take_drop_succ,List.eraseIdx_eq_take_drop_succ,Po,List.map_take,List.map_drop]
 have e3:(xs.eraseIdx n.toNat).length=xs.length - 1:=by rw [List.length_eraseIdx,Om (by omega)]
 rw [e2] at h
 rw [e3]
 exact h
end
open Go.RowKit
section
variable {o:az} {x:L3}
end
open Go.RowKit
def cv (hs:List (Option Nat)) (i:Nat):Bool:=match hs[i]? with|some (some _)=>true|_=>false
inductive eI (P:Program) (n:Nat):List az->(Nat->AV)->(Nat->Option Bk)->Nat->List Rec->List (Option Nat)->(Nat->AV)->(Nat->Option Bk)->Nat->Prop
 |nil {σ:Nat->AV} {g:Nat->Option Bk} {k:Nat}:eI P n [] σ g k [] [] σ g k
 |cons {o:az} {os:List az} {σ σ':Nat->AV} {g g':Nat->Option Bk} {k k1 k':Nat} {val:AV} {ups:List (Nat×Option Bk)} {acc:List Nat} {rs:List Rec} {hs:List (Option Nat)} (h:dm P σ g k o val ups acc) (hk:k<=k1) (hu:∀id,id∈ups.map Prod.fst->id<k1)
   (hr:eI P n os (bE n o.dst val σ) (aA g ups) k1 rs hs σ' g' k'):eI P n (o::os) σ g k (⟨o.dst,val,ups,acc,k⟩::rs) (none::hs) σ' g' k'
 |fi {o:az} {os:List az} {σ σ':Nat->AV} {g g':Nat->Option Bk} {k k1 k':Nat} {r:AV} {f:FuncId} {as_:List AV} {ups:List (Nat×Option Bk)} {rs:List Rec} {hs:List (Option Nat)} (hg:bO σ o.guard=some true) (hal:o.ao.allocs=false) (h:(o.ao.au k (aG σ)).run g=some (.call f as_)) (hc:bI P f=true) (hf:Fi P f as_ g k r (aA g ups) k1) (hk:k<=k1) (hu:∀id,id∈ups.map Prod.fst->id<k1)
   (hr:eI P n os (bE n o.dst r σ) (aA g ups) k1 rs hs σ' g' k'):eI P n (o::os) σ g k (⟨o.dst,r,ups,[],k⟩::rs) (some k1::hs) σ' g' k'
def qJ (P:Program) (n:Nat) (σ:Nat->AV) (g:Nat->Option Bk) (rs:List Rec) (hs:List (Option Nat)) (i:Nat) (o:az) (r:Rec):Prop:=
 (hs[i]? =some none/\dm P (bF n (upto i) rs σ) (bC (upto i) rs g) r.fr o r.val r.ups r.acc)\/
 ∃f as_ k1,hs[i]? =some (some k1)/\bO (bF n (upto i) rs σ) o.guard=some true/\o.ao.allocs=false/\(o.ao.au r.fr (aG (bF n (upto i) rs σ))).run (bC (upto i) rs g)=some (.call f as_)/\bI P f=true/\Fi P f as_ (bC (upto i) rs g) r.fr r.val (aA (bC (upto i) rs g) r.ups) k1
theorem sY {os:List az} {σ':Nat->AV} {hs:List (Option Nat)} (h:eI P n os σ g k rs hs σ' g' k'):
  (rs.length=os.length/\hs.length=os.length)/\k<=k'/\(∀(i:Nat) o,os[i]? =some o->∃r,rs[i]? =some r/\r.dst=o.dst/\qJ P n σ g rs hs i o r/\k<=r.fr)/\
   (∀(i j:Nat) ri rj,i<j->rs[i]? =some ri->rs[j]? =some rj->(∀id,id∈ri.keys->id<rj.fr)/\∀k1,hs[i]? =some (some k1)->k1<=rj.fr)/\(∀(i:Nat) r,rs[i]? =some r->(∀id,id∈r.keys->id<k')/\∀k1,hs[i]? =some (some k1)->k1<=k')/\σ'=bF n (fun _=>true) rs σ/\g'=bC (fun _=>true) rs g:=by
 induction h with
 |nil=>exact ⟨⟨rfl,rfl⟩,Ox _,fun i o ho=>by simp at ho,fun i j ri rj _ h=>by simp at h,fun i r h=>by simp at h,rfl,rfl⟩
 | @cons o os σ σ' g g' k k1 k' val ups acc rs hs h hk hu hr ih=>
  obtain ⟨⟨i1,xi⟩,i2,i3,i4,i5,i6,i7⟩:=ih
  have e1:∀i,bF n (upto (i+1)) (⟨o.dst,val,ups,acc,k⟩::rs) σ=bF n (upto i) rs (bE n o.dst val σ):=by
   intro i;funext t
   show dc _ _ 1 rs _=_
   rw [ix]
   unfold bF
   congr 1
   ·funext j;simp [upto]
   ·rw [Om (by simp [upto])];exact (kT n t ⟨o.dst,val,ups,acc,k⟩ σ).symm
  have e2:∀i,bC (upto (i+1)) (⟨o.dst,val,ups,acc,k⟩::rs) g=bC (upto i) rs (aA g ups):=by
   intro i;funext id
   show dc _ _ 1 rs _=_
   rw [ix]
   unfold bC
   congr 1
   ·funext j;simp [upto]
   ·rw [Om (by simp [upto]),kg];rfl
  refine ⟨⟨by simp [i1],by simp [xi]⟩,OS hk i2,fun i o' ho=> ?_,fun i j ri rj aX hi hj=> ?_,fun i r' hr'=> ?_, ?_, ?_⟩
  ·cases i with
   |zero=>
    simp only [OV,Oj] at ho
    subst ho
    refine ⟨_,rfl,rfl, ?_,Ox _⟩
    have s0:bF n (upto 0) (⟨o.dst,val,ups,acc,k⟩::rs) σ=σ:=by funext t;exact jF _ 0 _ fun j r _ hl=>by simp [upto] at hl
    have g0:bC (upto 0) (⟨o.dst,val,ups,acc,k⟩::rs) g=g:=by funext t;exact jF _ 0 _ fun j r _ hl=>by simp [upto] at hl
    unfold qJ
    rw [s0,g0]
    exact .inl ⟨rfl,h⟩
   |succ i=>
    obtain ⟨r',r1,r2,r3,r4⟩:=i3 i o' (by simpa using ho)
    refine ⟨r',by simpa using r1,r2, ?_,OS hk r4⟩
    unfold qJ
    rw [e1,e2,Pc];exact r3
  ·cases j with
   |zero=>omega
   |succ j=>
    simp only [Pc] at hj
    cases i with
    |zero=>
     simp only [OV,Oj] at hi
     subst hi
     have bk:j<os.length:=by rw [<-i1];exact (Ov.1 hj).1
     obtain ⟨r',r1,_,_,r4⟩:=i3 j _ (OG bk)
     rw [hj] at r1
     simp only [Oj] at r1
     subst r1
     exact ⟨fun id hid=>ON (hu id hid) r4,fun x hx=>by first|(simp at hx;done)|(simp at hx;subst hx;exact r4)⟩
    |succ i=>simp only [Pc] at hi ⊢; exact i4 i j ri rj (by omega) hi hj
  ·cases i with
   |zero=>
    simp only [OV,Oj] at hr'
    subst hr'
    exact ⟨fun id hid=>ON (hu id hid) i2,fun x hx=>by first|(simp at hx;done)|(simp at hx;subst hx;exact i2)⟩
   |succ i=>simp only [Pc] at hr' ⊢; exact i5 i r' hr'
  ·rw [i6]
   funext t
   unfold bF
   simp only [dc]
   rw [ix,Oo,kT n t ⟨o.dst,val,ups,acc,k⟩ σ]
  ·rw [i7]
   funext id
   unfold bC
   simp only [dc]
   rw [ix,Oo,kg]
   rfl
 | @fi o os σ σ' g g' k k1 k' r f as_ ups rs hs hg hal h hc hf hk hu hr ih=>
  obtain ⟨⟨i1,xi⟩,i2,i3,i4,i5,i6,i7⟩:=ih
  have e1:∀i,bF n (upto (i+1)) (⟨o.dst,r,ups,[],k⟩::rs) σ=bF n (upto i) rs (bE n o.dst r σ):=by
   intro i;funext t
   show dc _ _ 1 rs _=_
   rw [ix]
   unfold bF
   congr 1
   ·funext j;simp [upto]
   ·rw [Om (by simp [upto])];exact (kT n t ⟨o.dst,r,ups,[],k⟩ σ).symm
  have e2:∀i,bC (upto (i+1)) (⟨o.dst,r,ups,[],k⟩::rs) g=bC (upto i) rs (aA g ups):=by
   intro i;funext id
   show dc _ _ 1 rs _=_
   rw [ix]
   unfold bC
   congr 1
   ·funext j;simp [upto]
   ·rw [Om (by simp [upto]),kg];rfl
  refine ⟨⟨by simp [i1],by simp [xi]⟩,OS hk i2,fun i o' ho=> ?_,fun i j ri rj aX hi hj=> ?_,fun i r' hr'=> ?_, ?_, ?_⟩
  ·cases i with
   |zero=>
    simp only [OV,Oj] at ho
    subst ho
    refine ⟨_,rfl,rfl, ?_,Ox _⟩
    have s0:bF n (upto 0) (⟨o.dst,r,ups,[],k⟩::rs) σ=σ:=by funext t;exact jF _ 0 _ fun j r _ hl=>by simp [upto] at hl
    have g0:bC (upto 0) (⟨o.dst,r,ups,[],k⟩::rs) g=g:=by funext t;exact jF _ 0 _ fun j r _ hl=>by simp [upto] at hl
    unfold qJ
    rw [s0,g0]
    exact .inr ⟨f,as_,k1,rfl,hg,hal,h,hc,hf⟩
   |succ i=>
    obtain ⟨r',r1,r2,r3,r4⟩:=i3 i o' (by simpa using ho)
    refine ⟨r',by simpa using r1,r2, ?_,OS hk r4⟩
    unfold qJ
    rw [e1,e2,Pc];exact r3
  ·cases j with
   |zero=>omega
   |succ j=>
    simp only [Pc] at hj
    cases i with
    |zero=>
     simp only [OV,Oj] at hi
     subst hi
     have bk:j<os.length:=by rw [<-i1];exact (Ov.1 hj).1
     obtain ⟨r',r1,_,_,r4⟩:=i3 j _ (OG bk)
     rw [hj] at r1
     simp only [Oj] at r1
     subst r1
     exact ⟨fun id hid=>ON (hu id hid) r4,fun x hx=>by first|(simp at hx;done)|(simp at hx;subst hx;exact r4)⟩
    |succ i=>simp only [Pc] at hi ⊢; exact i4 i j ri rj (by omega) hi hj
  ·cases i with
   |zero=>
    simp only [OV,Oj] at hr'
    subst hr'
    exact ⟨fun id hid=>ON (hu id hid) i2,fun x hx=>by first|(simp at hx;done)|(simp at hx;subst hx;exact i2)⟩
   |succ i=>simp only [Pc] at hr' ⊢; exact i5 i r' hr'
  ·rw [i6]
   funext t
   unfold bF
   simp only [dc]
   rw [ix,Oo,kT n t ⟨o.dst,r,ups,[],k⟩ σ]
  ·rw [i7]
   funext id
   unfold bC
   simp only [dc]
   rw [ix,Oo,kg]
   rfl
section
variable {P:Program} {E0:Env} {n:Nat} {ops:Array Oper} {J:Nat->Prop} {base:Nat} {w0:World} {Q:Exit->Act->World->Prop} {os:List az} {dep:List (List Nat)} {σ σ':Nat->AV} {g g':Nat->Option Bk} {k k':Nat} {rs:List Rec} {hs:List (Option Nat)}
theorem eI.snoc {val:AV} (h0:eI P n os σ g k rs hs σ' g' k') (h:dm P σ' g' k' o val ups acc) (hk:k'<=k1) (hu:∀id,id∈ups.map Prod.fst->id<k1):eI P n (os++[o]) σ g k (rs++[⟨o.dst,val,ups,acc,k'⟩]) (hs++[none]) (bE n o.dst val σ') (aA g' ups) k1:=by
 induction h0 with
 |nil=>exact .cons h hk hu .nil
 |cons h1 h2 h3 h4 ih=>exact .cons h1 h2 h3 (ih h hk)
 |fi h1 h2 h3 h4 h5 h6 h7 h8 ih=>exact .fi h1 h2 h3 h4 h5 h6 h7 (ih h hk)
theorem eI.HX (h0:eI P n os σ g k rs hs σ' g' k') (hg:bO σ' o.guard=some true) (hal:o.ao.allocs=false) (h:(o.ao.au k' (aG σ')).run g'=some (.call f as_)) (hc:bI P f=true) (hf:Fi P f as_ g' k' r (aA g' ups) k1) (hk:k'<=k1) (hu:∀id,id∈ups.map Prod.fst->id<k1):
  eI P n (os++[o]) σ g k (rs++[⟨o.dst,r,ups,[],k'⟩]) (hs++[some k1]) (bE n o.dst r σ') (aA g' ups) k1:=by
 induction h0 with
 |nil=>exact .fi hg hal h hc hf hk hu .nil
 |cons h1 h2 h3 h4 ih=>exact .cons h1 h2 h3 (ih hg h hf hk)
 |fi h1 h2 h3 h4 h5 h6 h7 h8 ih=>exact .fi h1 h2 h3 h4 h5 h6 h7 (ih hg h hf hk)
end
section
variable {P:Program} {n k k0:Nat} {x:L3} {K:L3->Prop} {Q:Ex->L3->Prop} {R:List az} {dep:List (List Nat)} {rs:List Rec} {hs:List (Option Nat)}
end
open Go.RowKit
def hU (o:az):Bool:=match o.ao,o.guard with| .new _,none=>true|_,_=>false
def mv (dep:List (List Nat)) (i j:Nat):Bool:=dep.all fun d=> !d.contains j||d.contains i
def iX (jn:Nat) (rs:List Rec) (hs:List (Option Nat)) (dep:List (List Nat)):Bool:=
 (List.range rs.length).all fun j=>(List.range j).all fun i=>((dep[j]?).getD []).contains i||(match rs[i]?,rs[j]? with|some x,some y=> !(cv hs i&&cv hs j)&&((!cv hs i||(y.ups.isEmpty||(Nat.beq j jn&&mv dep i j)))&&(!cv hs j||x.ups.isEmpty))|_,_=>false)
theorem aj.HZ {Y:Nat->Prop} {v:Value} (h:aj E v a):aj { E with X:=Y } v a:=by
 induction h with
 |v h=>exact .v h
 |agg hl h ih=>exact .agg hl ih
 |aK hl h ih=>exact .aK hl ih
 |dG hc=>exact .dG hc
 |ep u hn hl hcc hb hz hu h1 h ih=>exact .ep u hn hl hcc hb hz hu h1 ih
 |cp h ih=>exact .cp ih
 |emp=>exact .emp
 |pim u hb hq hu h1 h ih=>exact .pim u hb hq hu h1 ih
 |ref hi hd hb hq=>exact .ref hi hd hb hq
 |own hi hd hb hq nA hm hl hcc bj=>exact .own hi hd hb hq nA hm hl hcc bj
 |bQ hi hd hb bj=>exact .bQ hi hd hb bj
 |dP hi hd ho=>exact .dP hi hd ho
 |ck hi hd ho=>exact .ck hi hd ho
 |mp hi hd hb=>exact .mp hi hd hb
 |gn hi hd ho=>exact .gn hi hd ho
 |fn hl h ih=>exact .fn hl ih
 |bf hl h ih=>exact .bf hl ih
 |af hg hI hh dk h ih=>exact .af hg hI hh dk ih
 |c8=>exact .c8
 |dead=>exact .dead
section
variable {E:Env} {J:Nat->Prop} {base:Nat} {g:Nat->Option Bk}
theorem aE.H0 (h:aE E J base g) (ob:Obj):∃E':Env,E'.w=E.w.alloc ob/\E.Le E'/\aE E' J base g/\(∀id,E'.kn id->E.kn id)/\E'.X E.w.heap.size:=by
 have hlt:∀id b B,g id=some B->E.loc id=some b->b<E.w.heap.size:=fun id b B hg hb=>by
  have:=h.at_ id B hg;rw [hb] at this;exact this.lt.2
 have hs:(E.w.alloc ob).heap.size=E.w.heap.size+1:=by simp
 let E':Env:={ E with w:=E.w.alloc ob,X:=fun b=>E.X b\/b=E.w.heap.size }
 have hE:E.Le E':=by
  refine ⟨fun _ h=>h,fun b hb=>⟨hb,Pk _ _ _ (h.low b hb).1⟩,fun _ _ h=>h,fun _ _ _=> .inr rfl,fun id b hi hd hb=> .inr ?_,fun _ _ _=> .inr rfl,fun _ h=>h,fun b hb=>⟨.inl hb,Pk _ _ _ (h.xo b hb).1⟩⟩
  obtain ⟨B',aN⟩:=(h.live id).1 ⟨hi,hd⟩
  show (E.w.alloc _).shape? b=_
  simp only [World.shape?]
  rw [Pk _ _ _ (hlt id b B' aN hb)]
 refine ⟨E',rfl,hE,⟨h.live,fun id B hg=>(h.at_ id B hg).bL hE fun b hb=>Pk _ _ _ (hlt id b B hg hb),h.apart,h.out,fun b hb=>⟨?_,(h.low b hb).2⟩, ?_,h.len,h.fc,fun b hb=> ?_⟩,fun _ h=>h, .inr rfl⟩
 ·have:=(h.low b hb).1
  show b<(E.w.alloc ob).heap.size
  omega
 ·have:=h.size
  show base<=(E.w.alloc ob).heap.size
  omega
 ·show b<(E.w.alloc ob).heap.size/\_
  rcases hb with hb|hb
  ·have:=h.xo b hb
   exact ⟨by omega,this.2⟩
  ·subst hb
   refine ⟨by omega,fun hI=> ?_,fun id B hg he=> ?_⟩
   ·have:=(h.low _ hI).1;omega
   ·have:=hlt id _ B hg he;omega
theorem aE.H2 (h:aE E J base g) (fr:Nat) (hf:¬E.kn fr) (b:Nat) (hX:E.X b) (B:Bk) (hB:∀E':Env,E'.w=E.w->cF E' base B (some b)):
  ∃E':Env,E'.w=E.w/\(∀{v a},aj E v a->aj E' v a)/\aE E' J base (aA g [(fr,some B)])/\(∀id,E'.kn id->E.kn id\/id=fr)/\E'.kn fr/\¬E'.dead fr/\E'.loc fr=some b/\(∀E0:Env,E0.Le E->¬E0.X b->E0.Le E')/\(∀b,E.I b->E'.I b):=by
 have hne:∀id,E.kn id->id≠fr:=fun id hi he=>hf (he▸hi)
 let E1:Env:={ E with X:=fun x=>E.X x/\x≠b }
 let E':Env:={ E1 with kn:=fun id=>E.kn id\/id=fr,loc:=fun id=>if id=fr then some b else E.loc id,dead:=fun id=>E.dead id/\id≠fr,ln:=fun id=>if id=fr then B.els.length else E.ln id }
 have fo:E1.Le E':=⟨fun _ h=> .inl h,fun b hb=>⟨hb,rfl⟩,fun id hi hd=>⟨hd,hne id hi⟩,fun id hi hd=> .inr (Ol (hne id hi)),fun _ _ _ _ _=> .inr rfl,fun id hi _=> .inr (Ol (hne id hi)),fun _ h=>h,fun b hb=>⟨hb,rfl⟩⟩
 have hR:∀{v a},aj E v a->aj E' v a:=fun hr=>(aj.HZ (Y:=fun x=>E.X x/\x≠b) hr).step fo
 have eu:∀k,aA g [(fr,some B)] k=if k=fr then some B else g k:=fun k=>by simp only [aA]
 refine ⟨E',rfl,hR,⟨fun k=> ?_,fun k Bk hk=> ?_,fun k k' b' B1 B2 h1 h2 h3 h4=> ?_,fun k b' B1 hk hb hI=> ?_,h.low,h.size,fun k B1 hk cG=> ?_,h.fc,fun b' bn=>⟨(h.xo b' bn.1).1,(h.xo b' bn.1).2.1,fun k B1 hk he=> ?_⟩⟩,fun _ h=>h, .inr rfl,fun hd=>hd.2 rfl,Om rfl,fun E0 k xj=> ?_,fun _ h=>h⟩
 ·rw [eu]
  by_cases h1:k=fr
  ·subst h1;simp [E']
  ·simp only [h1,OU, <-h.live k]
   simp [E',E1,h1]
 ·rw [eu] at hk
  by_cases h1:k=fr
  ·subst h1
   simp only [Oo,Oj] at hk
   subst hk
   show cF E' base _ (if k=k then _ else _)
   rw [Om rfl]
   exact hB E' rfl
  ·rw [Ol h1] at hk
   show cF E' base Bk (if k=fr then _ else _)
   rw [Ol h1]
   have:=h.at_ k Bk hk
   cases hl:E.loc k with
   |none=>rw [hl] at this;exact this
   |some c=>
    rw [hl] at this
    obtain ⟨h1,⟨hz,arr,t,h2,h3,h4⟩|⟨hz,es,clock,h2,h3,h4⟩⟩:=this
    ·refine ⟨h1, .inl ⟨hz,arr,t,h2,h3,fun i cs hi=>⟨(h4 i cs hi).1,fun j x hj=> ?_⟩⟩⟩
     obtain ⟨u,k1,k2,k3⟩:=(h4 i cs hi).2 j x hj
     exact ⟨u,k1,k2,hR k3⟩
    ·refine ⟨h1, .inr ⟨hz,es,clock,h2,h3,fun i e cs he hi=> ?_⟩⟩
     obtain ⟨x,k1,k2,k3⟩:=h4 i e cs he hi
     exact ⟨x,k1,k2,hR k3⟩
 ·rw [eu] at h1 h2
  have e3:(if k=fr then some b else E.loc k)=some b':=h3
  have e4:(if k'=fr then some b else E.loc k')=some b':=h4
  by_cases a1:k=fr<;>by_cases a2:k'=fr
  ·rw [a1,a2]
  ·rw [Om a1] at e3;rw [Ol a2] at e4 h2
   exact absurd (e4.trans e3.symm) ((h.xo b hX).2.2 k' B2 h2)
  ·rw [Ol a1] at e3 h1;rw [Om a2] at e4
   exact absurd (e3.trans e4.symm) ((h.xo b hX).2.2 k B1 h1)
  ·rw [Ol a1] at e3 h1;rw [Ol a2] at e4 h2
   exact h.apart k k' b' B1 B2 h1 h2 e3 e4
 ·rw [eu] at hk
  have e3:(if k=fr then some b else E.loc k)=some b':=hb
  by_cases a1:k=fr
  ·rw [Om a1] at e3
   simp only [Oj] at e3
   exact (h.xo b hX).2.1 (e3▸hI)
  ·rw [Ol a1] at e3 hk
   exact h.out k b' B1 hk e3 hI
 ·rw [eu] at hk
  show _=if k=fr then _ else _
  by_cases a1:k=fr
  ·rw [Om a1] at hk ⊢
   simp only [Oj] at hk;rw [<-hk]
  ·rw [Ol a1] at hk ⊢
   exact h.len k B1 hk cG
 ·rw [eu] at hk
  have e3:(if k=fr then some b else E.loc k)=some b':=he
  by_cases a1:k=fr
  ·rw [Om a1] at e3
   simp only [Oj] at e3
   exact bn.2 e3.symm
  ·rw [Ol a1] at e3 hk
   exact (h.xo b' bn.1).2.2 k B1 hk e3
 ·exact ⟨fun id hi=> .inl (k.kn id hi),fun b hb=>k.cB b hb,fun id hi hd=>⟨k.dead id hi hd,hne id (k.kn id hi)⟩,fun id hi hd=>(k.loc id hi hd).imp (fun q=>⟨q,hne id (k.kn id hi)⟩) fun q=>(Ol (hne id (k.kn id hi))).trans q,fun id b hi hd hb=>(k.shape id b hi hd hb).imp (fun q=>⟨q,hne id (k.kn id hi)⟩) fun q=>q,fun id hi hd=>(k.ln id hi hd).imp (fun q=>⟨q,hne id (k.kn id hi)⟩) fun q=>(Ol (hne id (k.kn id hi))).trans q,k.rg,fun b' bn=>⟨⟨(k.fx b' bn).1,fun e=>xj (e▸bn)⟩,(k.fx b' bn).2⟩⟩
end
section
variable {P:Program} {E0:Env} {n:Nat} {ops:Array Oper} {J:Nat->Prop} {base:Nat} {w0:World} {Q:Exit->Act->World->Prop} {os:List az} {dep:List (List Nat)} {σ σ':Nat->AV} {g g':Nat->Option Bk} {k k':Nat} {rs:List Rec} {hs:List (Option Nat)}
structure fP (E0:Env) (n:Nat) (ops:Array Oper) (dep:List (List Nat)) (J:Nat->Prop) (base:Nat) (w0:World) (σ:Nat->AV) (g:Nat->Option Bk) (k:Nat) (rs:List Rec) (hs:List (Option Nat)) (sx:Nat->Bool) (pd:Env->Act->Prop) (listed:Array Bool) (a:Act) (w:World):Prop where
 ex:∃E:Env,E.w=w/\E0.Le E/\(∀t,sx t=false->aj E (a.tmps.getD t undef) (bF n (fun j=>listed.getD j false) rs σ t))/\aE E J base (bC (fun j=>listed.getD j false) rs g)/\
  (∀id,E.kn id->id<k\/∃j r,listed.getD j false=true/\rs[j]? =some r/\(id∈r.keys\/∃k1,hs[j]? =some (some k1)/\id<k1))/\Mk E w0.heap.size a.defers/\pd E a
 size:a.tmps.size=n
 below:Below base w0 w
 gl:ec E0
 fK:listed.size=ops.size
 closed:∀(j:Nat),j<ops.size->listed.getD j false=true->∀e,e∈(dep[j]?).getD []->listed.getD e false=true
theorem Bc {rd:Option Nat} (cr:eI P n os σ g k rs hs σ' g' k') (hlen:os.length=ops.size) (cq:fu os dep=true) (hid:ed rs dep=true) (hcs:iX jn rs hs dep=true)
  {sx:Nat->Bool} {pd:Env->Act->Prop} {a:Act} (hI:fP E0 n ops dep J base w0 σ g k rs hs sx pd listed a w) (m2:ops[i]? =some op) (ho:os[i]? =some o) (iW:fp P ops op=some o) (cL:listed.getD i false=false)
  (dx:∀e,e∈(dep[i]?).getD []->listed.getD e false=true) (hu:∀t,t∈o.iQ->sx t=false) (hq:cv hs i=true->listed.getD jn false=true->i<jn->i∈(dep[jn]?).getD []) (sZ:i=jn->∀c,c<i->cv hs c=true->¬c∈(dep[i]?).getD []->listed.getD c false=true)
  (H3:∀E E' v,pd E a->E.Le E'->pd E' (a.put o.dst v)) (hK:∀a' w',fP E0 n ops dep J base w0 σ g k rs hs sx pd (listed.setIfInBounds i true) a' w'->K a' w'):wpOpIn (cz rd) 0 P ops Q i K a w:=by
 obtain ⟨⟨c1,xk⟩,c2,c3,c4,c5,c6,c7⟩:=sY cr
 have cy:i<ops.size:=(OX.1 m2).1
 obtain ⟨r,cu,b9,hrun,ew⟩:=c3 i o ho
 obtain ⟨E,rfl,hle,m0,h2,h3,hmk,H4⟩:=hI.ex
 have h1:∀t,aj E (a.tmps.getD t undef) ((fun t=>if sx t=true then AV.dead else bF n (fun j=>listed.getD j false) rs σ t) t):=fun t=>by
  show aj E _ (if sx t=true then AV.dead else _)
  cases ht:sx t with
  |true=>rw [Om rfl];exact .dead
  |false=>rw [Ol (by simp)];exact m0 t ht
 -- GR is listed out of turn is free of this one
 have free:∀j rj oj,j≠i->rs[j]? =some rj->os[j]? =some oj->listed.getD j false≠upto i j->(iT (if i<j then o else oj) (if i<j then oj else o)=true/\fq (if i<j then r else rj) (if i<j then rj else r)=true):=by
  intro j rj oj hne aP bq hl
  have bk:j<os.length:=(Ov.1 bq).1
  unfold fu at cq
  unfold ed at hid
  simp only [Ot,OZ,OO,PB] at cq hid
  by_cases aX:i<j
  ·rw [Om aX,Om aX,Om aX,Om aX]
   have aR:listed.getD j false=true:=by
    have hu:upto i j=false:=by simp [upto];omega
    rw [hu] at hl
    simpa using hl
   have cI:i∉(dep[j]?).getD []:=by
    intro cT
    have iU:j<ops.size:=by omega
    have:=hI.closed j iU aR i cT
    rw [cL] at this;simp at this
   have s1:=(cq j bk i aX).resolve_left cI
   have s2:=(hid j (by rw [c1];exact bk) i aX).resolve_left cI
   rw [ho,bq] at s1;rw [cu,aP] at s2
   exact ⟨s1,s2⟩
  ·rw [Ol aX,Ol aX,Ol aX,Ol aX]
   have bD:j<i:=by omega
   have aR:listed.getD j false=false:=by
    have hu:upto i j=true:=by simp [upto];omega
    rw [hu] at hl
    simpa using hl
   have cI:j∉(dep[i]?).getD []:=by
    intro cT
    have:=dx j cT
    rw [aR] at this;simp at this
   have s1:=(cq i (by omega) j bD).resolve_left cI
   have s2:=(hid i (by omega) j bD).resolve_left cI
   rw [ho,bq] at s1;rw [cu,aP] at s2
   exact ⟨s1,s2⟩
 have gB:∀(j:Nat) rj,rs[j]? =some rj->∃oj,os[j]? =some oj/\rj.dst=oj.dst:=fun j rj aP=>by
  have bk:j<os.length:=by rw [<-c1];exact (Ov.1 aP).1
  obtain ⟨r',q1,q2,_,_⟩:=c3 j _ (OG bk)
  rw [aP] at q1;simp only [Oj] at q1;subst q1
  exact ⟨_,OG bk,q2⟩
 -- a slot qt it looks at is as it comes one behind jC other
 have hσ:∀t,t∈o.iQ->(if sx t=true then AV.dead else bF n (fun j=>listed.getD j false) rs σ t)=bF n (upto i) rs σ t:=by
  intro t ht
  rw [Ol (by rw [hu t ht];simp)]
  refine jE _ 0 _ fun j rj aP hl=> ?_
  rw [OF] at hl
  by_cases hne:j=i
  ·subst hne;rw [cL] at hl;simp [upto] at hl
  ·obtain ⟨oj,bq,cK⟩:=gB j rj aP
   have hf:=(free j rj oj hne aP bq hl).1
   unfold iS
   rw [Ol]
   rintro ⟨dh,_⟩
   rw [cK] at dh
   unfold iT at hf
   by_cases aX:i<j
   ·simp only [Om aX,dh,On,OJ,O5,O6] at hf
    exact hf.2 ht
   ·simp only [Ol aX,dh,On,OJ,O5,O6] at hf
    exact hf.1.1 ht
 have hg:∀id,id∈r.acc->bC (fun j=>listed.getD j false) rs g id=bC (upto i) rs g id:=by
  intro id qu
  refine jE _ 0 _ fun j rj aP hl=> ?_
  rw [OF] at hl
  by_cases hne:j=i
  ·subst hne;rw [cL] at hl;simp [upto] at hl
  ·obtain ⟨oj,bq,cK⟩:=gB j rj aP
   have hf:=(free j rj oj hne aP bq hl).2
   cases hw:wg id rj with
   |none=>rfl
   |some y=>
    exfalso
    have hk:id∈rj.keys:=kS (by unfold wg at hw;rw [hw];simp)
    unfold fq at hf
    by_cases aX:i<j
    ·simp only [Om aX,On,Ot,OJ,O5,O6] at hf
     exact hf.2 id hk qu
    ·simp only [Ol aX,On,Ot,OJ,O5,O6] at hf
     exact (hf.1 id hk).1 qu
 have xl:∀{j x},hs[j]? =some (some x)->cv hs j=true:=fun h=>by unfold cv;rw [h]
 have xm:∀j rj,j≠i->rs[j]? =some rj->listed.getD j false≠upto i j->(cv hs i&&cv hs j)=false/\(cv hs i=true->rj.ups=[])/\(cv hs j=true->r.ups=[]):=by
  intro j rj hne aP hl
  have bk:j<rs.length:=(Ov.1 aP).1
  unfold iX at hcs
  simp only [Ot,OZ,OO,PB] at hcs
  by_cases aX:i<j
  ·have aR:listed.getD j false=true:=by
    have hu:upto i j=false:=by simp [upto];omega
    rw [hu] at hl
    simpa using hl
   have cI:i∉(dep[j]?).getD []:=by
    intro cT
    have iU:j<ops.size:=by omega
    have:=hI.closed j iU aR i cT
    rw [cL] at this;simp at this
   have s2:=(hcs j bk i aX).resolve_left cI
   rw [cu,aP] at s2
   simp only [On,OO,OJ,Pe] at s2
   exact ⟨s2.1,fun h=>(s2.2.1.resolve_left (by rw [h];simp)).resolve_right fun q=>by
    have ej:=Oy q.1
    exact cI (by rw [ej];exact hq h (by rw [<-ej];exact aR) (by omega)),fun h=>s2.2.2.resolve_left (by rw [h];simp)⟩
  ·have bD:j<i:=by omega
   have aR:listed.getD j false=false:=by
    have hu:upto i j=true:=by simp [upto];omega
    rw [hu] at hl
    simpa using hl
   have cI:j∉(dep[i]?).getD []:=by
    intro cT
    have:=dx j cT
    rw [aR] at this;simp at this
   have s2:=(hcs i (by omega) j bD).resolve_left cI
   rw [cu,aP] at s2
   simp only [On,OO,OJ,Pe] at s2
   exact ⟨by rw [Bool.and_comm];exact s2.1,fun h=>s2.2.2.resolve_left (by rw [h];simp),fun h=>(s2.2.1.resolve_left (by rw [h];simp)).resolve_right fun q=>by
    have:=sZ (Oy q.1) j bD h cI
    rw [aR] at this;simp at this⟩
 have fin:∀v E',E.Le E'->aj E' v r.val->aE E' J base (aA (bC (fun j=>listed.getD j false) rs g) r.ups)->Below base E.w E'.w->(∀id,E'.kn id->(E.kn id\/id∈r.keys)\/∃k1,hs[i]? =some (some k1)/\id<k1)->K (a.put o.dst v) E'.w:=by
  intro v E' hE hv hM hB aY
  -- it is listed now
  have cX:∀j,(listed.setIfInBounds i true).getD j false=if j=0+i then true else listed.getD j false:=by
   intro j
   rw [OF]
   have gZ:i<listed.size:=by rw [hI.fK];exact cy
   by_cases bD:j=i
   ·subst bD;simp [gZ]
   ·rw [Ol bD,getD_set_ne false (Ne.symm bD)]
  have nv:∀t,bF n (fun j=>(listed.setIfInBounds i true).getD j false) rs σ t=bE n o.dst r.val (bF n (fun j=>listed.getD j false) rs σ) t:=by
   intro t
   rw [<-b9,kT]
   refine np rs 0 i _ r cu (by rw [OF];exact cL) cX fun j rj aX aP aR=> ?_
   rw [OF] at aR
   obtain ⟨oj,bq,cK⟩:=gB j rj aP
   have hf:=(free j rj oj (by omega) aP bq (by rw [aR];simp [upto];omega)).1
   unfold iT at hf
   simp only [Om aX] at hf
   by_cases iv:r.dst=some t
   ·left
    unfold iS
    rw [Ol]
    rintro ⟨dh,_⟩
    rw [b9] at iv
    rw [cK] at dh
    simp only [iv,dh,On,bne_iff_ne,ne_eq] at hf
    exact hf.1.2 trivial
   ·right
    unfold iS
    rw [Ol]
    rintro ⟨dh,_⟩
    exact iv dh
  have ng:∀id,bC (fun j=>(listed.setIfInBounds i true).getD j false) rs g id=aA (bC (fun j=>listed.getD j false) rs g) r.ups id:=by
   intro id
   rw [kg]
   refine np rs 0 i _ r cu (by rw [OF];exact cL) cX fun j rj aX aP aR=> ?_
   rw [OF] at aR
   obtain ⟨oj,bq,cK⟩:=gB j rj aP
   have hf:=(free j rj oj (by omega) aP bq (by rw [aR];simp [upto];omega)).2
   unfold fq at hf
   simp only [Om aX,On,Ot,OJ,O5,O6] at hf
   cases hw:wg id r with
   |none=>exact .inr rfl
   |some y=>
    left
    cases hw2:wg id rj with
    |none=>rfl
    |some y2=>
     exfalso
     have k1:id∈r.keys:=kS (by unfold wg at hw;rw [hw];simp)
     have k2:id∈rj.keys:=kS (by unfold wg at hw2;rw [hw2];simp)
     exact (hf.1 id k1).2 k2
  refine hK _ _ ⟨⟨E',rfl,hle.trans hE,fun t ht=> ?_, ?_,fun id hh=> ?_, ?_,H3 E E' v H4 hE⟩, ?_,hI.below.trans hB,hI.gl,by simpa using hI.fK,fun j hj aR e he=> ?_⟩
  ·rw [nv t]
   have:=oI hE h1 hv o.dst t
   rw [hI.size] at this
   have e9:bE n o.dst r.val (fun t=>if sx t=true then AV.dead else bF n (fun j=>listed.getD j false) rs σ t) t=bE n o.dst r.val (bF n (fun j=>listed.getD j false) rs σ) t:=by
    unfold bE
    split
    ·rfl
    ·exact Ol (by rw [ht];simp)
   rw [<-e9]
   exact this
  ·rw [show bC (fun j=>(listed.setIfInBounds i true).getD j false) rs g=aA (bC (fun j=>listed.getD j false) rs g) r.ups from funext ng]
   exact hM
  ·rcases aY id hh with (h|h)|h
   ·rcases h3 id h with h|⟨j,rj,q1,q2,q3⟩
    ·exact .inl h
    ·exact .inr ⟨j,rj,getD_set_true q1,q2,q3⟩
   ·refine .inr ⟨i,r, ?_,cu, .inl h⟩
    rw [cX i,OF,Om rfl]
   ·refine .inr ⟨i,r, ?_,cu, .inr h⟩
    rw [cX i,OF,Om rfl]
  ·rw [(gX a o.dst v).2];exact hmk.step hE
  ·rw [(gX a o.dst v).1];exact hI.size
  ·rw [cX j,OF] at aR
   by_cases bD:j=i
   ·subst bD
    exact getD_set_true (dx e he)
   ·rw [Ol bD] at aR
    exact getD_set_true (hI.closed j hj aR e he)
 rcases hrun with ⟨oW,hrun⟩|⟨f,as_,k1,Be,ct,hal,db,bZ,H5⟩
 ·-- a name qt GS has
  have qe:∃gy,¬E.kn gy/\(r.fr∈r.ups.map Prod.fst->gy=r.fr):=by
   by_cases gU:r.fr∈r.ups.map Prod.fst
   ·refine ⟨r.fr,fun hk=> ?_,fun _=>rfl⟩
    rcases h3 _ hk with h|⟨j,rj,aR,aP,cJ⟩
    ·omega
    ·by_cases hne:j=i
     ·subst hne;rw [cL] at aR;simp at aR
     ·rcases cJ with cJ|⟨k1,bV,cJ⟩
      rotate_left
      ·by_cases aX:i<j
       ·have:=(xm j rj hne aP (by rw [aR];simp [upto];omega)).2.2 (xl bV)
        rw [this] at gU;simp at gU
       ·have:=(c4 j i rj r (by omega) aP cu).2 k1 bV
        omega
      by_cases aX:i<j
      ·obtain ⟨oj,bq,_⟩:=gB j rj aP
       have hf:=(free j rj oj hne aP bq (by rw [aR];simp [upto];omega)).2
       unfold fq at hf
       simp only [Om aX,On,Ot,OJ,O5,O6] at hf
       exact (hf.1 _ gU).2 cJ
      ·have:=(c4 j i rj r (by omega) aP cu).1 _ cJ
       exact PA _ this
   ·refine ⟨k',fun hk=> ?_,fun h=>absurd h gU⟩
    rcases h3 _ hk with h|⟨j,rj,aR,aP,cJ|⟨k1,bV,cJ⟩⟩
    ·omega
    ·exact PA _ ((c5 j rj aP).1 _ cJ)
    ·exact PA _ (ON cJ ((c5 j rj aP).2 k1 bV))
  obtain ⟨gy,wF,wG⟩:=qe
  obtain ⟨wB,wH⟩:=hrun.local hσ hg wG
  exact wA (hI.gl.step hle) h1 h2 wF m2 iW wH fun v E' hE hv hM hB aY=>fin v E' hE hv hM hB fun id h=> .inl (aY id h)
 ·have xn:=xl Be
  have xp:bC (fun j=>listed.getD j false) rs g=bC (upto i) rs g:=by
   funext id
   refine jE _ 0 _ fun j rj aP hl=> ?_
   rw [OF] at hl
   by_cases hne:j=i
   ·subst hne;rw [cL] at hl;simp [upto] at hl
   ·unfold wg;rw [(xm j rj hne aP hl).2.1 xn];rfl
  have H6:∀id,E.kn id->id<r.fr:=by
   intro id hid
   rcases h3 id hid with h|⟨j,rj,aR,aP,cJ⟩
   ·omega
   ·by_cases hne:j=i
    ·subst hne;rw [cL] at aR;simp at aR
    ·by_cases aX:i<j
     ·have iP:=xm j rj hne aP (by rw [aR];simp [upto];omega)
      rcases cJ with cJ|⟨x,hx,cJ⟩
      ·unfold Rec.keys at cJ;rw [iP.2.1 xn] at cJ;simp at cJ
      ·have:=iP.1;rw [xn,xl hx] at this;simp at this
     ·rcases cJ with cJ|⟨x,hx,cJ⟩
      ·exact (c4 j i rj r (by omega) aP cu).1 _ cJ
      ·have:=(c4 j i rj r (by omega) aP cu).2 x hx;omega
  have H7:bO (fun t=>if sx t=true then AV.dead else bF n (fun j=>listed.getD j false) rs σ t) o.guard=some true:=by
   rw [<-ct]
   cases hg0:o.guard with
   |none=>rfl
   |some p=>
    obtain ⟨t,w⟩:=p
    simp only [bO,hσ t (by simp [az.iQ,hg0])]
  have H8:(o.ao.au r.fr (aG (fun t=>if sx t=true then AV.dead else bF n (fun j=>listed.getD j false) rs σ t))).run (bC (fun j=>listed.getD j false) rs g)=some (.call f as_):=by
   rw [xp,AG r.fr fun t ht=>hσ t (by simp [az.iQ,ht])];exact db
  have hdd:=qn iW
  have xq:∀e,op.semAt (cz rd).round e=execOp e op:=fun e=>Qb (cz rd) _ _ (oH hdd.2)
  unfold wpOpIn
  simp only [m2]
  rw [kR h1 iW H7,Om rfl]
  obtain ⟨vs,e1,e2⟩:=qg (dz.of (hI.gl.step hle) h1) hdd.2 H8 bZ
  unfold Oper.wpIn
  rw [xq,e1,Oper.uponIn_enter]
  have s5:=h2
  rw [xp] at s5
  refine ⟨ke,ni,oG ((H5 E J base vs (hI.gl.step hle) s5 H6 e2).mono ?_)⟩
  rintro e w' ⟨v,E',rfl,rfl,q1,q2,q3,q4,q5⟩
  have mu:=fin v E' q1 q2 (by rw [xp];exact q3) q4 fun id h=> .inr ⟨k1,Be,q5 id h⟩
  rw [hdd.1] at mu
  exact mu
theorem H9 (cr:eI P n os σ g k rs hs σ' g' k') (hlen:os.length=ops.size) (cq:fu os dep=true) (hid:ed rs dep=true) (bZ:∀(j:Nat),j<ops.size->listed.getD j false=true->∀e,e∈(dep[j]?).getD []->listed.getD e false=true) (cV:listed.size=ops.size)
 {r:Rec} (cy:i<ops.size) (ho:os[i]? =some o) (cu:rs[i]? =some r) (b9:r.dst=o.dst) (cL:listed.getD i false=false):
  (∀t,bF n (fun j=>(listed.setIfInBounds i true).getD j false) rs σ t=bE n o.dst r.val (bF n (fun j=>listed.getD j false) rs σ) t)/\(∀id,bC (fun j=>(listed.setIfInBounds i true).getD j false) rs g id=aA (bC (fun j=>listed.getD j false) rs g) r.ups id)/\∀j rj,i<j->rs[j]? =some rj->listed.getD j false=true->¬i∈(dep[j]?).getD []/\fq r rj=true:=by
 obtain ⟨⟨c1,xk⟩,c2,c3,c4,c5,c6,c7⟩:=sY cr
 have gB:∀(j:Nat) rj,rs[j]? =some rj->∃oj,os[j]? =some oj/\rj.dst=oj.dst:=fun j rj aP=>by
  have bk:j<os.length:=by rw [<-c1];exact (Ov.1 aP).1
  obtain ⟨r',q1,q2,_,_⟩:=c3 j _ (OG bk)
  rw [aP] at q1;simp only [Oj] at q1;subst q1
  exact ⟨_,OG bk,q2⟩
 have eH:∀j,i<j->j<ops.size->listed.getD j false=true->¬i∈(dep[j]?).getD []:=fun j aX hj aR cT=>by
  have:=bZ j hj aR i cT
  rw [cL] at this;simp at this
 have free:∀j rj oj,i<j->rs[j]? =some rj->os[j]? =some oj->listed.getD j false=true->(iT o oj=true/\fq r rj=true):=by
  intro j rj oj aX aP bq aR
  have bk:j<os.length:=(Ov.1 bq).1
  unfold fu at cq
  unfold ed at hid
  simp only [Ot,OZ,OO,PB] at cq hid
  have cI:=eH j aX (by omega) aR
  have s1:=(cq j bk i aX).resolve_left cI
  have s2:=(hid j (by rw [c1];exact bk) i aX).resolve_left cI
  rw [ho,bq] at s1;rw [cu,aP] at s2
  exact ⟨s1,s2⟩
 -- it is listed now
 have cX:∀j,(listed.setIfInBounds i true).getD j false=if j=0+i then true else listed.getD j false:=by
  intro j
  rw [OF]
  have gZ:i<listed.size:=by rw [cV];exact cy
  by_cases bD:j=i
  ·subst bD;simp [gZ]
  ·rw [Ol bD,getD_set_ne false (Ne.symm bD)]
 have nv:∀t,bF n (fun j=>(listed.setIfInBounds i true).getD j false) rs σ t=bE n o.dst r.val (bF n (fun j=>listed.getD j false) rs σ) t:=by
  intro t
  rw [<-b9,kT]
  refine np rs 0 i _ r cu (by rw [OF];exact cL) cX fun j rj aX aP aR=> ?_
  rw [OF] at aR
  obtain ⟨oj,bq,cK⟩:=gB j rj aP
  have hf:=(free j rj oj aX aP bq aR).1
  unfold iT at hf
  by_cases iv:r.dst=some t
  ·left
   unfold iS
   rw [Ol]
   rintro ⟨dh,_⟩
   rw [b9] at iv
   rw [cK] at dh
   simp only [iv,dh,On,bne_iff_ne,ne_eq] at hf
   exact hf.1.2 trivial
  ·right
   unfold iS
   rw [Ol]
   rintro ⟨dh,_⟩
   exact iv dh
 have ng:∀id,bC (fun j=>(listed.setIfInBounds i true).getD j false) rs g id=aA (bC (fun j=>listed.getD j false) rs g) r.ups id:=by
  intro id
  rw [kg]
  refine np rs 0 i _ r cu (by rw [OF];exact cL) cX fun j rj aX aP aR=> ?_
  rw [OF] at aR
  obtain ⟨oj,bq,cK⟩:=gB j rj aP
  have hf:=(free j rj oj aX aP bq aR).2
  unfold fq at hf
  simp only [On,Ot,OJ,O5,O6] at hf
  cases hw:wg id r with
  |none=>exact .inr rfl
  |some y=>
   left
   cases hw2:wg id rj with
   |none=>rfl
   |some y2=>
    exfalso
    have k1:id∈r.keys:=kS (by unfold wg at hw;rw [hw];simp)
    have k2:id∈rj.keys:=kS (by unfold wg at hw2;rw [hw2];simp)
    exact (hf.1 id k1).2 k2
 refine ⟨nv,ng,fun j rj aX aP aR=> ?_⟩
 obtain ⟨oj,bq,_⟩:=gB j rj aP
 exact ⟨eH j aX (by rw [<-hlen];exact (Ov.1 bq).1) aR,(free j rj oj aX aP bq aR).2⟩
def Ia (w:World) (b:Nat) (zs:List AV):Prop:=∃(arr:Array Value) (t:TypeId),w.heap[b]? =some (.cells arr t (0,0))/\zs.length<=arr.size/\∀(j:Nat) x,zs[j]? =some x->∃u,arr[j]? =some u/\u.oneCell'=true/\∀E:Env,aj E u x
def oX (E0:Env) (n base b:Nat) (zs:List AV) (d:Option Nat) (E:Env) (a:Act):Prop:=E.X b/\¬E0.X b/\base<=b/\(∀t,d=some t->t<n->a.tmps.getD t undef= .pointer (some ⟨b,0,none⟩))/\Ia E.w b zs
def la (n:Nat) (d:Option Nat) (t:Nat):Bool:=d==some t&&Nat.blt t n
theorem fP.bH (cr:eI P n os σ g k rs hs σ' g' k') (hlen:os.length=ops.size) (cq:fu os dep=true) (hid:ed rs dep=true) (hcs:iX jn rs hs dep=true) {r:Rec} {zs:List AV} {b:Nat} {a:Act}
  (hI:fP E0 n ops dep J base w0 σ g k rs hs (la n o.dst) (oX E0 n base b zs o.dst) listed a w) (cy:jn<ops.size) (ho:os[jn]? =some o) (cu:rs[jn]? =some r) (b9:r.dst=o.dst) (cL:listed.getD jn false=false) (dx:∀e,e∈(dep[jn]?).getD []->listed.getD e false=true)
  (hz:0<zs.length) (o0:r.val= .ref r.fr zs.length 0 0) (oV:r.ups=[(r.fr,some ⟨zs.length,[zs]⟩)]) (ew:k<=r.fr):
  fP E0 n ops dep J base w0 σ g k rs hs (fun _=>false) (fun _ _=>True) (listed.setIfInBounds jn true) a w:=by
 obtain ⟨⟨c1,xk⟩,c2,c3,c4,c5,c6,c7⟩:=sY cr
 obtain ⟨nv,ng,Ib⟩:=H9 cr hlen cq hid hI.closed hI.fK cy ho cu b9 cL
 obtain ⟨E,rfl,hle,h1,h2,h3,hmk,⟨p1,p2,p3,p4,arr,t0,p5,p6,p7⟩⟩:=hI.ex
 have hk:r.fr∈r.keys:=by unfold Rec.keys;rw [oV];simp
 have hf:¬E.kn r.fr:=fun aY=>by
  rcases h3 _ aY with h|⟨j,rj,aR,aP,cJ⟩
  ·omega
  ·by_cases hne:j=jn
   ·subst hne;rw [cL] at aR;simp at aR
   ·by_cases aX:jn<j
    ·obtain ⟨q1,q2⟩:=Ib j rj aX aP aR
     rcases cJ with cJ|⟨k1,bV,_⟩
     ·unfold fq at q2
      simp only [On,Ot,OJ,O5,O6] at q2
      exact (q2.1 _ hk).2 cJ
     ·have bk:j<rs.length:=(Ov.1 aP).1
      unfold iX at hcs
      simp only [Ot,OZ,OO,PB] at hcs
      have s2:=(hcs j bk jn aX).resolve_left q1
      rw [cu,aP] at s2
      simp only [On,OO,OJ,Pe] at s2
      have hc:cv hs j=true:=by unfold cv;rw [bV]
      have:=s2.2.2.resolve_left (by rw [hc];simp)
      rw [this] at oV;simp at oV
    ·have bD:j<jn:=by omega
     rcases cJ with cJ|⟨k1,bV,cJ⟩
     ·exact PA _ ((c4 j jn rj r bD aP cu).1 _ cJ)
     ·have:=(c4 j jn rj r bD aP cu).2 k1 bV
      omega
 obtain ⟨E',hw,hR,hM,q1,q2,q3,q4,q5,q6⟩:=h2.H2 r.fr hf b p1 ⟨zs.length,[zs]⟩ (fun l4 hw=>by
  refine cF.iL ⟨p3,arr,(t0,0),by rw [hw];exact p5,by simpa using p6,fun i cs hi=> ?_⟩ (by show zs.length≠0;omega)
  cases i with
  |zero=>
   simp only [OV,Oj] at hi
   subst hi
   refine ⟨rfl,fun j x hj=> ?_⟩
   obtain ⟨u,u1,u2,u3⟩:=p7 j x hj
   exact ⟨u,by simpa using u1,u2,u3 _⟩
  |succ i=>simp at hi)
 refine ⟨⟨E',hw,q5 E0 hle p2,fun t _=> ?_, ?_,fun id hh=> ?_,hmk.wz fun b hb=>⟨q6 b hb,by rw [hw]⟩,trivial⟩,hI.size,hI.below,hI.gl,by simpa using hI.fK,fun j hj aR e he=> ?_⟩
 ·rw [nv t]
  by_cases ht:o.dst=some t/\t<n
  ·rw [show bE n o.dst r.val (bF n (fun j=>listed.getD j false) rs σ) t=r.val from Om ht,o0,p4 t ht.1 ht.2]
   exact .ref q2 q3 q4 (by simp) (by omega)
  ·rw [show bE n o.dst r.val (bF n (fun j=>listed.getD j false) rs σ) t=bF n (fun j=>listed.getD j false) rs σ t from Ol ht]
   refine hR (h1 t ?_)
   unfold la
   rw [Bool.and_eq_false_iff]
   by_cases hd:o.dst=some t
   ·right
    have:¬t<n:=fun h=>ht ⟨hd,h⟩
    cases hb:Nat.blt t n with
    |false=>rfl
    |true=>exact absurd (O3 hb) this
   ·left;simpa using hd
 ·rw [show bC (fun j=>(listed.setIfInBounds jn true).getD j false) rs g=aA (bC (fun j=>listed.getD j false) rs g) r.ups from funext ng,oV]
  exact hM
 ·rcases q1 id hh with h|h
  ·rcases h3 id h with h|⟨j,rj,q1,q2,q3⟩
   ·exact .inl h
   ·exact .inr ⟨j,rj,getD_set_true q1,q2,q3⟩
  ·refine .inr ⟨jn,r, ?_,cu, .inl (h▸hk)⟩
   have gZ:jn<listed.size:=by rw [hI.fK];exact cy
   simp [gZ]
 ·by_cases bD:j=jn
  ·subst bD;exact getD_set_true (dx e he)
  ·rw [getD_set_ne false (Ne.symm bD)] at aR
   exact getD_set_true (hI.closed j hj aR e he)
theorem Ic {o:Oper} {zs:List AV} (h:bM P o=some (.new zs)):∃t,o.op= .alloc t/\gq P t=some zs/\0<zs.length:=by
 obtain ⟨dst,op,type,pos,after,guard⟩:=o
 cases op
 case alloc t=>
  simp only [bM] at h
  split at h
  ·split at h
   ·simp only [Oj,AO.new.injEq] at h;subst h;exact ⟨t,rfl,by assumption,by assumption⟩
   ·simp at h
  ·simp at h
 all_goals
  exfalso
  simp only [bM] at h
  first
   |(simp at h;done)
   |((repeat' split at h)<;>simp at h<;>done)
   |((repeat' split at h)<;>simp_all)
theorem Ie {rd:Option Nat} {a:Act} (hI:fP E0 n ops dep J base w0 σ g k rs hs (fun _=>false) (fun _ _=>True) listed a w) {zs:List AV} (m2:ops[i]? =some op) (iW:fp P ops op=some o) (hg:o.guard=none) (cE:o.ao= .new zs)
 (hK:∀a' w' b,0<zs.length->fP E0 n ops dep J base w0 σ g k rs hs (la n o.dst) (oX E0 n base b zs o.dst) listed a' w'->K a' w'):wpOpIn (cz rd) 0 P ops Q i K a w:=by
 obtain ⟨E,rfl,hle,m0,h2,h3,hmk,_⟩:=hI.ex
 have h1:∀t,aj E (a.tmps.getD t undef) (bF n (fun j=>listed.getD j false) rs σ t):=fun t=>m0 t rfl
 have hdd:=qn iW
 have xq:∀e,op.semAt (cz rd).round e=execOp e op:=fun e=>Qb (cz rd) _ _ (oH hdd.2)
 obtain ⟨t,bW,Ig,hz0⟩:=Ic (hdd.2.trans (by rw [cE]))
 obtain ⟨ii,z,hi,hz,hsz,hcs,dI,cx⟩:=mZ Ig
 have hrun:(execOp a.eval op).run P E.w= .ok (.value (.pointer (some ⟨E.w.heap.size,0,none⟩))) (E.w.alloc (.cells z.cells t)):=by
  obtain ⟨dst,op,type,pos,after,guard⟩:=op
  simp only at bW
  subst bW
  simp [execOp,Instr.alloc,zeroValue,typeInfo,hi,hz,newVar,newRow]
 unfold wpOpIn
 simp only [m2]
 rw [kR h1 iW (b:=true) (by rw [hg];rfl),Om rfl]
 unfold Oper.wpIn
 rw [xq,hrun]
 obtain ⟨E',hw,hE,hM,aY,hX⟩:=h2.H0 (.cells z.cells t)
 have mu:K (a.put o.dst (.pointer (some ⟨E.w.heap.size,0,none⟩))) E'.w:=by
  refine hK _ _ E.w.heap.size hz0 ⟨⟨E',rfl,hle.trans hE,fun s hs=> ?_,hM,fun id h=>h3 id (aY id h),by rw [(gX a o.dst _).2];exact hmk.step hE,hX,fun xj=> ?_,h2.size,fun s hd hn=> ?_,z.cells,t,by rw [hw];exact heap_alloc_new E.w _,by omega,fun j x hj=> ?_⟩,by rw [(gX a o.dst _).1];exact hI.size,by rw [hw];exact hI.below.alloc h2.size _,hI.gl,hI.fK,hI.closed⟩
  ·have:(a.put o.dst (.pointer (some ⟨E.w.heap.size,0,none⟩))).tmps.getD s undef=a.tmps.getD s undef:=by
    unfold la at hs
    cases hd:o.dst with
    |none=>rfl
    |some d=>
     rw [hd] at hs
     simp only [Act.put]
     by_cases e:d=s
     ·subst e
      have hn:¬d<n:=fun h=>by
       have hb:Nat.blt d n=true:=Nat.ble_eq_true_of_le h
       rw [hb] at hs;simp at hs
      rw [<-hI.size] at hn
      simp [hn]
     ·simp [PN,P8,e]
   rw [this]
   exact (h1 s).step hE
  ·have:=(h2.xo _ (hle.fx _ xj).1).1
   omega
  ·rw [hd]
   simp only [Act.put]
   rw [<-hI.size] at hn
   simp [hn]
  ·have jz:j<zs.length:=(Ov.1 hj).1
   have iV:j<z.cells.size:=by omega
   have Ih:=(cx E j z.cells[j] x (OE iV) hj).one (by simp only [Ot] at dI;exact dI _ (OT hj))
   exact ⟨z.cells[j],OE iV,Ih,fun l4=>cx l4 j _ x (OE iV) hj⟩
 rw [hw] at mu
 rw [hdd.1] at mu
 exact ⟨ke,mu⟩
theorem s6 {A:Array Bool} (h:i<A.size):(A.setIfInBounds i true).getD i false=true:=by simp [h]
theorem Ii {rd:Option Nat} (cr:eI P n os σ g k rs hs σ' g' k') (hlen:os.length=ops.size) (dL:∀(j:Nat) op,ops[j]? =some op->∃o,os[j]? =some o/\fp P ops op=some o)
  (hd:iy ops.toList dep=true) (cq:fu os dep=true) (hid:ed rs dep=true) (hcs:iX jn rs hs dep=true) (ld:∀o,os[jn]? =some o->hU o=true) (hQ:∀a w,eG E0 J base w0 n σ' g' k' a w->Q .normal a w):
  ∀(fuel:Nat) (listed:Array Bool) (a:Act) (w:World),listed.size=ops.size->(∀(j:Nat) op,ops[j]? =some op->listed.getD j false=true->∀e,e∈dp op->listed.getD e false=true)->
   ((fP E0 n ops dep J base w0 σ g k rs hs (fun _=>false) (fun _ _=>True) listed a w/\(listed.getD jn false=true->∀c,c<jn->cv hs c=true->¬c∈(dep[jn]?).getD []->listed.getD c false=true))\/
    ∃(L:Array Bool) (o:az) (zs:List AV) (b:Nat),os[jn]? =some o/\o.ao= .new zs/\0<zs.length/\listed.getD jn false=true/\(∀j,L.getD j false=(listed.getD j false&& !Nat.beq j jn))/\fP E0 n ops dep J base w0 σ g k rs hs (la n o.dst) (oX E0 n base b zs o.dst) L a w/\∃c,c<jn/\cv hs c=true/\¬c∈(dep[jn]?).getD []/\mv dep c jn=true)->
   (∀m:List Nat,(∀j,j∈m->j<ops.size/\listed.getD j true=false)->m.Nodup->m.length<=fuel)->wpAnyIn (cz rd) 0 P .any ops Q fuel listed a w:=by
 have xr:=cr
 obtain ⟨⟨c1,xk⟩,c2,c3,c4,c5,c6,c7⟩:=sY cr
 have Bf:∀(listed:Array Bool),listed.size=ops.size->Region.ready .any ops listed=[]->∀j,j<ops.size->listed.getD j false=true:=by
  intro listed cV nJ j
  induction j using Nat.strongRecOn with
  |_ j ih=>
   intro hj
   cases hl:listed.getD j false with
   |true=>rfl
   |false=>
    exfalso
    have hjs:j<listed.size:=by rw [cV];exact hj
    have:j∈Region.ready .any ops listed:=by
     rw [mem_ready]
     refine ⟨by simp [hjs] at hl ⊢; exact hl,ops[j],OE hj,fun e he hb=> ?_⟩
     have cK:=hd
     unfold iy at cK
     simp only [On,Ot,OZ,Pn] at cK
     have iV:=(cK.2 j (by simpa using hj)).1
     have nt:ops.toList[j]? =some ops[j]:=by simp [hj]
     simp only [nt,Oz,Pm] at iV
     have hlt:=iV e.on (oK.2 ⟨e,he,hb,rfl⟩)
     exact ih e.on hlt (by omega)
    rw [nJ] at this
    simp at this
 have Ij:∀j,j<ops.size->∀e,e∈(dep[j]?).getD []->e<j:=fun j hj e he=>by
  have cK:=hd
  unfold iy at cK
  simp only [On,Ot,OZ,Pn] at cK
  have:=((cK.2 j (by simpa using hj)).2 e he).1
  simpa using this
 -- jC block qt waits NN NO own where all calls ahead of it F0 done
 have norm:∀(listed:Array Bool) (a:Act) (w:World),listed.size=ops.size->(∀(j:Nat) op,ops[j]? =some op->listed.getD j false=true->∀e,e∈dp op->listed.getD e false=true)->
   (∃(L:Array Bool) (o:az) (zs:List AV) (b:Nat),os[jn]? =some o/\o.ao= .new zs/\0<zs.length/\listed.getD jn false=true/\(∀j,L.getD j false=(listed.getD j false&& !Nat.beq j jn))/\fP E0 n ops dep J base w0 σ g k rs hs (la n o.dst) (oX E0 n base b zs o.dst) L a w/\∃c,c<jn/\cv hs c=true/\¬c∈(dep[jn]?).getD []/\mv dep c jn=true)->
   (∀c,c<jn->cv hs c=true->¬c∈(dep[jn]?).getD []->listed.getD c false=true)->
   fP E0 n ops dep J base w0 σ g k rs hs (fun _=>false) (fun _ _=>True) listed a w:=by
  rintro listed a w cV bZ ⟨L,o,zs,b,ho,cE,hz,aR,hL,hI,_⟩ bJ
  have cy:jn<ops.size:=by rw [<-hlen];exact (Ov.1 ho).1
  obtain ⟨r,cu,b9,hrun,ew⟩:=c3 jn o ho
  have hg:o.guard=none:=by
   have:=ld o ho
   unfold hU at this
   split at this
   ·assumption
   ·simp at this
  have Bg:r.val= .ref r.fr zs.length 0 0/\r.ups=[(r.fr,some ⟨zs.length,[zs]⟩)]:=by
   rcases hrun with ⟨_,hrun⟩|⟨f,as_,k1,_,_,_,db,_⟩
   ·generalize hv:r.val=v at hrun ⊢
    generalize hu:r.ups=u at hrun ⊢
    generalize ha:r.acc=ac at hrun
    cases hrun with
    |skip ct=>rw [hg] at ct;simp [bO] at ct
    |done ct h=>rw [cE] at h;simp [AO.au,RM.run] at h;exact ⟨h.1.symm,h.2.symm⟩
    |call ct h=>rw [cE] at h;simp [AO.au,RM.run] at h
    |nj ct h=>rw [cE] at h;simp [AO.au,RM.run] at h
   ·rw [cE] at db;simp [AO.au,RM.run] at db
  have Ik:L.getD jn false=false:=by rw [hL];simp [Nat.beq_refl]
  have dx:∀e,e∈(dep[jn]?).getD []->L.getD e false=true:=fun e he=>by
   have hlt:=Ij jn cy e he
   have h1:=nq hd bZ jn ops[jn] (OE cy) (bZ jn _ (OE cy) aR) e he
   rw [hL,h1]
   cases hb:Nat.beq e jn with
   |false=>rfl
   |true=>have:=Oy hb;omega
  have Bh:=hI.bH xr hlen cq hid hcs cy ho cu b9 Ik dx hz Bg.1 Bg.2 ew
  have Il:L.size=listed.size:=by rw [hI.fK,cV]
  have:L.setIfInBounds jn true=listed:=by
   apply Array.ext
   ·simp [Il]
   ·intro i h1 h2
    have m9:i<L.size:=by simpa using h1
    have e1:(L.setIfInBounds jn true)[i]=(L.setIfInBounds jn true).getD i false:=by rw [PN,OE h1];rfl
    have e2:listed[i]=listed.getD i false:=by rw [PN,OE h2];rfl
    rw [e1,e2]
    by_cases e:jn=i
    ·subst e;rw [s6 m9,aR]
    ·rw [getD_set_ne false e,hL]
     have:Nat.beq i jn=false:=by
      cases hb:Nat.beq i jn with
      |false=>rfl
      |true=>exact absurd (Oy hb).symm e
     rw [this];simp
  rw [this] at Bh
  exact Bh
 have done:∀(listed:Array Bool) (a:Act) (w:World),listed.size=ops.size->Region.ready .any ops listed=[]->fP E0 n ops dep J base w0 σ g k rs hs (fun _=>false) (fun _ _=>True) listed a w->Q .normal a w:=by
  intro listed a w cV nJ hI
  have bJ:=Bf listed cV nJ
  obtain ⟨E,rfl,hle,h1,h2,h3,hmk,_⟩:=hI.ex
  have h1:∀t,aj E (a.tmps.getD t undef) (bF n (fun j=>listed.getD j false) rs σ t):=fun t=>h1 t rfl
  have e6:bF n (fun j=>listed.getD j false) rs σ=σ':=by
   rw [c6];funext t
   refine jE _ 0 _ fun j r hr hl=>absurd ?_ hl
   rw [OF,bJ j (by rw [<-hlen, <-c1];exact (Ov.1 hr).1)]
  have e7:bC (fun j=>listed.getD j false) rs g=g':=by
   rw [c7];funext t
   refine jE _ 0 _ fun j r hr hl=>absurd ?_ hl
   rw [OF,bJ j (by rw [<-hlen, <-c1];exact (Ov.1 hr).1)]
  rw [funext fun t=>congrFun e6 t] at h1
  rw [e7] at h2
  refine hQ a E.w ⟨⟨E,rfl,hle,h1,h2,fun id hh=> ?_,hmk⟩,hI.size,hI.below,hI.gl⟩
  rcases h3 id hh with h|⟨j,r,_,hr,hk|⟨k1,bV,hk⟩⟩
  ·exact ON h c2
  ·exact (c5 j r hr).1 id hk
  ·exact ON hk ((c5 j r hr).2 k1 bV)
 have Bi:∀(listed:Array Bool) (a:Act) (w:World),listed.size=ops.size->(∀(j:Nat) op,ops[j]? =some op->listed.getD j false=true->∀e,e∈dp op->listed.getD e false=true)->_->Region.ready .any ops listed=[]->Q .normal a w:=fun listed a w cV bZ hI nJ=>by
  have hI:(fP E0 n ops dep J base w0 σ g k rs hs (fun _=>false) (fun _ _=>True) listed a w/\(listed.getD jn false=true->∀c,c<jn->cv hs c=true->¬c∈(dep[jn]?).getD []->listed.getD c false=true))\/
    ∃(L:Array Bool) (o:az) (zs:List AV) (b:Nat),os[jn]? =some o/\o.ao= .new zs/\0<zs.length/\listed.getD jn false=true/\(∀j,L.getD j false=(listed.getD j false&& !Nat.beq j jn))/\fP E0 n ops dep J base w0 σ g k rs hs (la n o.dst) (oX E0 n base b zs o.dst) L a w/\∃c,c<jn/\cv hs c=true/\¬c∈(dep[jn]?).getD []/\mv dep c jn=true:=hI
  rcases hI with ⟨hI,_⟩|hI
  ·exact done listed a w cV nJ hI
  ·refine done listed a w cV nJ (norm listed a w cV bZ hI fun c hc _ _=> ?_)
   obtain ⟨_,o,_,_,ho,_⟩:=hI
   exact Bf listed cV nJ c (by have:=(Ov.1 ho).1;omega)
 intro fuel
 induction fuel with
 |zero=>
  intro listed a w cV bZ hI fv
  have hr:Region.ready .any ops listed=[]:=by
   cases hr:Region.ready .any ops listed with
   |nil=>rfl
   |cons x xs=>
    have hx:x∈Region.ready .any ops listed:=by rw [hr];simp
    obtain ⟨m1,o,m2,_⟩:=mem_ready.1 hx
    have:=fv [x] (fun j hj=>by simp at hj;subst hj;exact ⟨(OX.1 m2).1,m1⟩) (by simp)
    simp at this
  exact ⟨hr,Bi listed a w cV bZ hI hr⟩
 |succ fuel ih=>
  intro listed a w cV bZ hI fv
  refine ⟨Bi listed a w cV bZ hI,fun i hi=> ?_⟩
  obtain ⟨m1,op,m2,m3⟩:=mem_ready.1 hi
  have cy:i<ops.size:=(OX.1 m2).1
  have gZ:i<listed.size:=by rw [cV];exact cy
  have cL:listed.getD i false=false:=by
   simp [gZ] at m1 ⊢; exact m1
  have Bj:∀e,e∈dp op->listed.getD e false=true:=fun e he=>by
   obtain ⟨x,hx,hb,rfl⟩:=oK.1 he
   exact m3 x hx hb
  have dx:∀e,e∈(dep[i]?).getD []->listed.getD e false=true:=fun e he=>nq hd bZ i op m2 Bj e he
  obtain ⟨o,ho,iW⟩:=dL i op m2
  have xt:∀(j:Nat) op,ops[j]? =some op->(listed.setIfInBounds i true).getD j false=true->∀e,e∈dp op->(listed.setIfInBounds i true).getD e false=true:=fun j oj bq aR e he=>by
   by_cases bD:j=i
   ·subst bD
    rw [m2] at bq;simp only [Oj] at bq;subst bq
    exact getD_set_true (Bj e he)
   ·rw [getD_set_ne false (Ne.symm bD)] at aR
    exact getD_set_true (bZ j oj bq aR e he)
  have xu:∀m:List Nat,(∀j,j∈m->j<ops.size/\(listed.setIfInBounds i true).getD j true=false)->m.Nodup->m.length<=fuel:=fun m hm cI=>by
   have mj:i∉m:=fun cT=>by
    have:=(hm i cT).2
    simp [gZ] at this
   have:=fv (i::m) (fun j hj=>by
    rcases OC.1 hj with rfl|hj
    ·exact ⟨cy,m1⟩
    ·refine ⟨(hm j hj).1, ?_⟩
     have h5:=(hm j hj).2
     have bD:i≠j:=fun e=>mj (e▸hj)
     rwa [getD_set_ne true bD] at h5) (List.nodup_cons.2 ⟨mj,cI⟩)
   simpa using this
  have xv:(listed.setIfInBounds i true).size=ops.size:=by simpa using cV
  -- either nothing waits, or a call ahead of jC block is still to be done
  have ka:(fP E0 n ops dep J base w0 σ g k rs hs (fun _=>false) (fun _ _=>True) listed a w/\(listed.getD jn false=true->∀c,c<jn->cv hs c=true->¬c∈(dep[jn]?).getD []->listed.getD c false=true))\/
    ((∃(L:Array Bool) (o:az) (zs:List AV) (b:Nat),os[jn]? =some o/\o.ao= .new zs/\0<zs.length/\listed.getD jn false=true/\(∀j,L.getD j false=(listed.getD j false&& !Nat.beq j jn))/\fP E0 n ops dep J base w0 σ g k rs hs (la n o.dst) (oX E0 n base b zs o.dst) L a w/\∃c,c<jn/\cv hs c=true/\¬c∈(dep[jn]?).getD []/\mv dep c jn=true)/\∃c,c<jn/\cv hs c=true/\¬c∈(dep[jn]?).getD []/\listed.getD c false=false):=by
   rcases hI with hI|hI
   ·exact .inl hI
   ·by_cases bJ:∀c,c<jn->cv hs c=true->¬c∈(dep[jn]?).getD []->listed.getD c false=true
    ·exact .inl ⟨norm listed a w cV bZ hI bJ,fun _=>bJ⟩
    ·right
     refine ⟨hI,Classical.byContradiction fun hx=>bJ fun c q1 q2 q3=> ?_⟩
     cases hc:listed.getD c false with
     |true=>rfl
     |false=>exact absurd ⟨c,q1,q2,q3,hc⟩ hx
  clear hI
  rcases ka with ⟨hI,hq⟩|⟨⟨L,oj,zs,b,bq,cE,hz,aR,hL,hI,xw⟩,c0,j7,nI,xf,xg⟩
  ·have plain:(i=jn->∀c,c<i->cv hs c=true->¬c∈(dep[i]?).getD []->listed.getD c false=true)->wpOpIn (cz rd) 0 P ops Q i (fun a w=>wpAnyIn (cz rd) 0 P .any ops Q fuel (listed.setIfInBounds i true) a w) a w:=fun sZ=>by
    refine Bc xr hlen cq hid hcs hI m2 ho iW cL dx (fun _ _=>rfl) (fun hc hl hlt=> ?_) sZ (fun _ _ _ _ _=>trivial) fun a' w' iz=>ih _ a' w' xv xt (.inl ⟨iz,fun hl c q1 q2 q3=> ?_⟩) xu
    ·exact Classical.byContradiction fun hx=>by
      have:=hq hl i hlt hc hx
      rw [cL] at this;simp at this
    ·by_cases e:i=jn
     ·have:=sZ e c (by omega) q2 (by rw [e];exact q3)
      exact getD_set_true this
     ·rw [getD_set_ne false e] at hl
      exact getD_set_true (hq hl c q1 q2 q3)
   by_cases e:i=jn
   ·by_cases bJ:∀c,c<i->cv hs c=true->¬c∈(dep[i]?).getD []->listed.getD c false=true
    ·exact plain fun _=>bJ
    ·have j4:=ld o (by rw [<-e];exact ho)
     obtain ⟨zs,cE,hg⟩:∃zs,o.ao= .new zs/\o.guard=none:=by
      unfold hU at j4
      split at j4
      ·rename_i zs h1 h2;exact ⟨zs,h1,h2⟩
      ·simp at j4
     obtain ⟨r,cu,b9,hrun,ew⟩:=c3 i o ho
     have nK:r.ups≠[]:=by
      rcases hrun with ⟨_,hrun⟩|⟨f,as_,k1,_,_,_,db,_⟩
      ·generalize hu:r.ups=u at hrun
       generalize hv:r.val=v at hrun
       generalize ha:r.acc=ac at hrun
       cases hrun with
       |skip ct=>rw [hg] at ct;simp [bO] at ct
       |done ct h=>rw [cE] at h;simp [AO.au,RM.run] at h;rw [<-h.2];simp
       |call ct h=>rw [cE] at h;simp [AO.au,RM.run] at h
       |nj ct h=>rw [cE] at h;simp [AO.au,RM.run] at h
      ·rw [cE] at db;simp [AO.au,RM.run] at db
     have hex:∃c,c<i/\cv hs c=true/\¬c∈(dep[i]?).getD []:=Classical.byContradiction fun hx=>bJ fun c q1 q2 q3=>absurd ⟨c,q1,q2,q3⟩ hx
     obtain ⟨c,q1,q2,q3⟩:=hex
     have xw:mv dep c i=true:=by
      have nL:=hcs
      unfold iX at nL
      simp only [Ot,OZ,OO,PB] at nL
      have Im:i<rs.length:=(Ov.1 cu).1
      have s2:=(nL i Im c q1).resolve_left q3
      have xx:rs[c]? =some (rs[c]'(by omega)):=OG (by omega)
      rw [xx,cu] at s2
      simp only [On,OO,OJ,Pe] at s2
      exact ((s2.2.1.resolve_left (by rw [q2];simp)).resolve_left nK).2
     refine Ie hI m2 iW hg cE fun a' w' b hz iz=>ih _ a' w' xv xt (.inr ⟨listed,o,zs,b,by rw [<-e];exact ho,cE,hz,by rw [<-e];exact s6 gZ,fun j=> ?_,iz,c,by omega,q2,by rw [<-e];exact q3,by rw [<-e];exact xw⟩) xu
     by_cases ej:i=j
     ·subst ej;rw [cL,e,Nat.beq_refl];simp
     ·rw [getD_set_ne false ej]
      have:Nat.beq j jn=false:=by
       cases hb:Nat.beq j jn with
       |false=>rfl
       |true=>exact absurd ((Oy hb).trans e.symm).symm ej
      rw [this];simp
   ·exact plain fun h=>absurd h e
  ·have bD:i≠jn:=fun e=>by rw [e,aR] at cL;simp at cL
   have Bl:¬jn∈(dep[i]?).getD []:=fun cT=>by
    obtain ⟨c,q1,q2,q3,q4⟩:∃c,c<jn/\cv hs c=true/\¬c∈(dep[jn]?).getD []/\listed.getD c false=false:=⟨c0,j7,nI,xf,xg⟩
    have bk:jn<rs.length:=by rw [c1];exact (Ov.1 bq).1
    obtain ⟨r,cu,b9,hrun,ew⟩:=c3 jn oj bq
    have hg:oj.guard=none:=by
     have:=ld oj bq
     unfold hU at this
     split at this
     ·assumption
     ·simp at this
    have nK:r.ups≠[]:=by
     rcases hrun with ⟨_,hrun⟩|⟨f,as_,k1,_,_,_,db,_⟩
     ·generalize hu:r.ups=u at hrun
      generalize hv:r.val=v at hrun
      generalize ha:r.acc=ac at hrun
      cases hrun with
      |skip ct=>rw [hg] at ct;simp [bO] at ct
      |done ct h=>rw [cE] at h;simp [AO.au,RM.run] at h;rw [<-h.2];simp
      |call ct h=>rw [cE] at h;simp [AO.au,RM.run] at h
      |nj ct h=>rw [cE] at h;simp [AO.au,RM.run] at h
     ·rw [cE] at db;simp [AO.au,RM.run] at db
    have nL:=hcs
    unfold iX at nL
    simp only [Ot,OZ,OO,PB] at nL
    have s2:=(nL jn bk c q1).resolve_left q3
    have xx:rs[c]? =some (rs[c]'(by omega)):=OG (by omega)
    rw [xx,cu] at s2
    simp only [On,OO,OJ,Pe] at s2
    have xy:=((s2.2.1.resolve_left (by rw [q2];simp)).resolve_left nK).2
    unfold mv at xy
    simp only [Ot,OO,OJ,O5,O6,Pn] at xy
    have Io:(dep[i]?).getD []∈dep:=by
     cases hx:dep[i]? with
     |none=>rw [hx] at cT;simp at cT
     |some d=>exact OT hx
    have:=dx c ((xy _ Io).resolve_left fun h=>h cT)
    rw [q4] at this;simp at this
   have Ip:L.getD i false=false:=by rw [hL,cL];simp
   have Iq:∀e,e∈(dep[i]?).getD []->L.getD e false=true:=fun e he=>by
    rw [hL,dx e he]
    have:Nat.beq e jn=false:=by
     cases hb:Nat.beq e jn with
     |false=>rfl
     |true=>exact absurd ((Oy hb)▸he) Bl
    rw [this];simp
   have Ir:L.getD jn false=false:=by rw [hL];simp [Nat.beq_refl]
   have bk:jn<os.length:=(Ov.1 bq).1
   have Is:i<os.length:=(Ov.1 ho).1
   -- jC slot of jC block qt waits is not looked at
   have Bm:∀d,oj.dst=some d->¬d∈o.iQ/\o.dst≠some d:=fun d ff=>by
    have s7:=cq
    unfold fu at s7
    simp only [Ot,OZ,OO,PB] at s7
    by_cases hlt:jn<i
    ·have s1:=(s7 i Is jn hlt).resolve_left Bl
     rw [bq,ho] at s1
     unfold iT at s1
     simp only [ff,On,OJ,O5,O6,bne_iff_ne,ne_eq] at s1
     exact ⟨s1.1.1,fun h=>by rw [h] at s1;simp at s1⟩
    ·have sE:i<jn:=by omega
     have cI:¬i∈(dep[jn]?).getD []:=fun cT=>by
      have:=nq hd bZ jn _ (OE (by omega)) (bZ jn _ (OE (by omega)) aR) i cT
      rw [cL] at this;simp at this
     have s1:=(s7 jn bk i sE).resolve_left cI
     rw [bq,ho] at s1
     unfold iT at s1
     simp only [ff,On,OJ,O5,O6,bne_iff_ne,ne_eq] at s1
     cases hx:o.dst with
     |none=>rw [hx] at s1;simp at s1;exact ⟨s1,by simp⟩
     |some d2=>
      rw [hx] at s1
      simp at s1
      exact ⟨s1.2,fun h=>s1.1.2 (Option.some.inj h).symm⟩
   refine Bc xr hlen cq hid hcs hI m2 ho iW Ip Iq (fun t ht=> ?_) (fun _ hl=>by rw [Ir] at hl;simp at hl) (fun h=>absurd h bD) (fun E1 E2 v hp hE=> ?_) fun a' w' iz=>ih _ a' w' xv xt (.inr ⟨L.setIfInBounds i true,oj,zs,b,bq,cE,hz,getD_set_true aR,fun j=> ?_,iz,xw⟩) xu
   ·unfold la
    rw [Bool.and_eq_false_iff]
    left
    cases hx:oj.dst with
    |none=>rfl
    |some d=>
     have:=(Bm d hx).1
     simp only [beq_eq_false_iff_ne,ne_eq,Oj]
     intro e;subst e;exact this ht
   ·obtain ⟨p1,p2,p3,p4,arr,t0,p5,p6,p7⟩:=hp
    refine ⟨(hE.fx b p1).1,p2,p3,fun t ht hn=> ?_,arr,t0,by rw [(hE.fx b p1).2];exact p5,p6,p7⟩
    rw [<-p4 t ht hn]
    have hne:=(Bm t ht).2
    cases hx:o.dst with
    |none=>rfl
    |some d=>
     rw [hx] at hne
     have dh:d≠t:=fun e=>hne (by rw [e])
     simp only [Act.put]
     simp [PN,P8,dh]
   ·by_cases ej:i=j
    ·subst ej
     have hb:Nat.beq i jn=false:=by
      cases hb:Nat.beq i jn with
      |false=>rfl
      |true=>exact absurd (Oy hb) bD
     rw [s6 (by rw [hI.fK];exact cy),s6 gZ,hb];rfl
    ·rw [getD_set_ne false ej,getD_set_ne false ej,hL]
theorem It {id:Nat} (wK:P.follows .mixedOrders=true) (cr:eI P n os σ g k rs hs σ' g' k') (hlen:os.length=ops.size) (dL:∀(j:Nat) op,ops[j]? =some op->∃o,os[j]? =some o/\fp P ops op=some o)
  (hd:iy ops.toList dep=true) (cq:fu os dep=true) (hid:ed rs dep=true) (hcs:iX jn rs hs dep=true) (ld:∀o,os[jn]? =some o->hU o=true) (hQ:∀a w,eG E0 J base w0 n σ' g' k' a w->Q .normal a w) {a:Act} (hrel:eG E0 J base w0 n σ g k a w) {rd:Option Nat}:(Code.region id ops true).wpIn (cz rd) 0 P Q a w:=by
 refine wpIn_region_any wK ?_
 obtain ⟨E,rfl,hle,h1,h2,h3,hmk⟩:=hrel.ex
 obtain ⟨E',hw,hE,hM,_,hk,_,_⟩:=h2.drew
 have cx:∀(j:Nat),(Array.replicate ops.size false).getD j false=false:=by
  intro j
  rcases O8 j ops.size with h|h
  ·simp [h]
  ·simp [h]
 refine Ii cr hlen dL hd cq hid hcs ld hQ ops.size _ a _ (by simp) (fun j op bW hl=>by rw [cx] at hl;simp at hl) (.inl ⟨⟨⟨E',hw,hle.trans hE,fun t _=> ?_, ?_,fun id hh=> .inl (h3 id ((hk id).1 hh)),hmk.step hE,trivial⟩,hrel.size,hrel.below.drew,hrel.gl,by simp,fun j hj hl=>by rw [cx] at hl;simp at hl⟩,fun hl=>by rw [cx] at hl;simp at hl⟩) fun m hm cI=> ?_
 ·have:bF n (fun j=>(Array.replicate ops.size false).getD j false) rs σ t=σ t:=jF _ 0 _ fun j r _ hl=>by rw [cx] at hl;simp at hl
  rw [this];exact (h1 t).step hE
 ·have:bC (fun j=>(Array.replicate ops.size false).getD j false) rs g=g:=by funext id;exact jF _ 0 _ fun j r _ hl=>by rw [cx] at hl;simp at hl
  rw [this];exact hM
 ·exact wD _ _ cI fun j hj=>(hm j hj).1
inductive iY (P:Program) (n:Nat) (dep:List (List Nat)) (jn:Nat):List az->(Nat->AV)->(Nat->Option Bk)->Nat->List Rec->List (Option Nat)->(Nat->AV)->(Nat->Option Bk)->Nat->Prop
 |nil {σ:Nat->AV} {g:Nat->Option Bk} {k:Nat} {rs:List Rec} {hs:List (Option Nat)} (hid:ed rs dep=true) (hcs:iX jn rs hs dep=true):iY P n dep jn [] σ g k rs hs σ g k
 |cons {o:az} {os:List az} {σ σ':Nat->AV} {g g':Nat->Option Bk} {k k1 k':Nat} {val:AV} {ups:List (Nat×Option Bk)} {acc:List Nat} {rs:List Rec} {hs:List (Option Nat)} (h:dm P σ g k o val ups acc) (hk:k<=k1) (hu:∀id,id∈ups.map Prod.fst->id<k1)
   (hr:iY P n dep jn os (bE n o.dst val σ) (aA g ups) k1 (rs++[⟨o.dst,val,ups,acc,k⟩]) (hs++[none]) σ' g' k'):iY P n dep jn (o::os) σ g k rs hs σ' g' k'
 |fi {o:az} {os:List az} {σ σ':Nat->AV} {g g':Nat->Option Bk} {k k1 k':Nat} {r:AV} {f:FuncId} {as_:List AV} {ups:List (Nat×Option Bk)} {rs:List Rec} {hs:List (Option Nat)} (hg:bO σ o.guard=some true) (hal:o.ao.allocs=false) (h:(o.ao.au k (aG σ)).run g=some (.call f as_)) (hc:bI P f=true) (hf:Fi P f as_ g k r (aA g ups) k1) (hk:k<=k1) (hu:∀id,id∈ups.map Prod.fst->id<k1)
   (hr:iY P n dep jn os (bE n o.dst r σ) (aA g ups) k1 (rs++[⟨o.dst,r,ups,[],k⟩]) (hs++[some k1]) σ' g' k'):iY P n dep jn (o::os) σ g k rs hs σ' g' k'
theorem iY.all {pre:List az} {cd:Nat->AV} {g0:Nat->Option Bk} {kk:Nat} (h0:eI P n pre cd g0 kk rs hs σ g k) (h:iY P n dep jn os σ g k rs hs σ' g' k'):∃kW iO,eI P n (pre++os) cd g0 kk kW iO σ' g' k'/\ed kW dep=true/\iX jn kW iO dep=true:=by
 induction h generalizing pre with
 |nil h1 h2=>exact ⟨_,_,by rw [List.append_nil];exact h0,h1,h2⟩
 | @cons o os σ σ' g g' k k1 k' val ups acc rs hs h hk hu hr ih=>
  have:=ih (pre:=pre++[o]) (h0.snoc h hk hu)
  rwa [PF] at this
 | @fi o os σ σ' g g' k k1 k' r f as_ ups rs hs hg hal h hc hf hk hu hr ih=>
  have:=ih (pre:=pre++[o]) (h0.HX hg hal h hc hf hk hu)
  rwa [PF] at this
theorem EW.Iu {s:S3} {Q:Ex->S3->Prop} {s':S3} (ld:∀o,os[jn]? =some o->hU o=true) (h:iY P n dep jn os s.σ s.g s.k [] [] s'.σ s'.g s'.k) (hq:Q .normal s'):EW P n k0 (.bH os (some dep)) s Q:=by
 intro rd c E0 J base w0 a w b9 hc hk hr
 obtain ⟨id,ops,draw,rfl,h1,h2⟩:=sJ hc
 rcases h2 with ⟨rfl,hh⟩|⟨rfl,d,hd,h3,h4,h5⟩
 ·simp at hh
 ·simp only [Oj] at hd
  subst hd
  obtain ⟨k1,k2⟩:=qv h1
  obtain ⟨kW,iO,a1,a2,a3⟩:=iY.all .nil h
  rw [List.nil_append] at a1
  exact It h5 a1 (by rw [<-k1];simp) (fun j op hj=>k2 j op (by simpa using hj)) h3 h4 a2 a3 ld (fun a' w' hr'=>⟨.normal,s',hq,rfl,hr'⟩) hr
end
abbrev cl (f:Nat) (as_:List Arg):AO:= .call (.c (.fn f [])) as_
abbrev zi (n:Int):AV:= .v (.int .i64 n)
abbrev zs:AV:= .v (.string ⟨#[]⟩)
abbrev ms (k:Nat):AO:= .mov (.s k)
abbrev fd (a k:Nat):AO:= .fad a (.s k)
abbrev rg (R:List az):AC:= .bH R none
def cf (P:Program) (k:Nat):cQ:=(cFunc P k).getD ⟨0,[], .skip⟩
theorem hY (h:(cFunc P k).isSome=true):cFunc P k=some (cf P k):=by
 unfold cf
 cases hc:cFunc P k with
 |none=>rw [hc] at h;cases h
 |some F=>rfl
noncomputable def F3:cQ:=cf Try.prog 3
theorem Bn:cFunc Try.prog 3=some F3:=hY (by kernel_rfl)
theorem Bo:bI Try.prog 3=true:=by kernel_rfl
noncomputable def F6:cQ:=cf Try.prog 6
theorem Bp:cFunc Try.prog 6=some F6:=hY (by kernel_rfl)
theorem Bq:bI Try.prog 6=true:=by kernel_rfl
noncomputable def F7:cQ:=cf Try.prog 7
theorem Br:cFunc Try.prog 7=some F7:=hY (by kernel_rfl)
theorem Bs:bI Try.prog 7=true:=by kernel_rfl
noncomputable def F8:cQ:=cf Try.prog 8
theorem Bt:cFunc Try.prog 8=some F8:=hY (by kernel_rfl)
theorem Bu:bI Try.prog 8=true:=by kernel_rfl
noncomputable def F9:cQ:=cf Try.prog 9
theorem Iv:cFunc Try.prog 9=some F9:=hY (by kernel_rfl)
theorem Bv:bI Try.prog 9=true:=by kernel_rfl
noncomputable def Bw:cQ:=cf Try.prog 10
theorem Bx:cFunc Try.prog 10=some Bw:=hY (by kernel_rfl)
theorem By:bI Try.prog 10=true:=by kernel_rfl
noncomputable def Bz:cQ:=cf Try.prog 11
theorem s8:cFunc Try.prog 11=some Bz:=hY (by kernel_rfl)
theorem s9:bI Try.prog 11=true:=by kernel_rfl
noncomputable def BA:cQ:=cf Try.prog 12
theorem BB:cFunc Try.prog 12=some BA:=hY (by kernel_rfl)
theorem tb:bI Try.prog 12=true:=by kernel_rfl
noncomputable def BC:cQ:=cf Try.prog 13
theorem BD:cFunc Try.prog 13=some BC:=hY (by kernel_rfl)
theorem ef:bI Try.prog 13=true:=by kernel_rfl
noncomputable def BE:cQ:=cf Try.prog 14
theorem Iw:cFunc Try.prog 14=some BE:=hY (by kernel_rfl)
theorem Ix:bI Try.prog 14=true:=by kernel_rfl
noncomputable def BF:cQ:=cf Try.prog 16
theorem Iy:cFunc Try.prog 16=some BF:=hY (by kernel_rfl)
theorem b0:bI Try.prog 16=true:=by kernel_rfl
noncomputable def BG:cQ:=cf Try.prog 17
theorem BH:cFunc Try.prog 17=some BG:=hY (by kernel_rfl)
theorem BI:bI Try.prog 17=true:=by kernel_rfl
noncomputable def BJ:cQ:=cf Try.prog 19
theorem Iz:cFunc Try.prog 19=some BJ:=hY (by kernel_rfl)
theorem IA:bI Try.prog 19=true:=by kernel_rfl
noncomputable def BK:cQ:=cf Try.prog 20
theorem IB:cFunc Try.prog 20=some BK:=hY (by kernel_rfl)
theorem IC:bI Try.prog 20=true:=by kernel_rfl
noncomputable def ID:FuncId->Option cQ:=nE (
 (3,F3)::
 (6,F6)::
 (7,F7)::
 (8,F8)::
 (9,F9)::
 (10,Bw)::
 (11,Bz)::
 (12,BA)::
 (13,BC)::
 (14,BE)::
 (16,BF)::
 (17,BG)::
 (19,BJ)::
 (20,BK)::
 [])
theorem iC:Table Try.prog ID:=
 hP Bn Bo<|
 hP Bp Bq<|
 hP Br Bs<|
 hP Bt Bu<|
 hP Iv Bv<|
 hP Bx By<|
 hP s8 s9<|
 hP BB tb<|
 hP BD ef<|
 hP Iw Ix<|
 hP Iy b0<|
 hP BH BI<|
 hP Iz IA<|
 hP IB IC<|
 Hr
open Go.RowKit
section
variable {P:Program} {n k k0:Nat} {x:L3} {K:L3->Prop} {Q:Ex->L3->Prop} {R:List az} {dep:List (List Nat)} {rs:List Rec} {hs:List (Option Nat)} {b:AC}
end
open Go.RowKit
abbrev uf (i:Nat):fy:= .old i false
theorem fQ {α:Type} [BEq α] [LawfulBEq α] {a b:α} (h:(a !=b)=true):¬a=b:=fun e=>by subst e;simp at h
theorem fR {α:Type} [BEq α] [LawfulBEq α] {a b:α} (h:(a !=b)=false):a=b:=by simpa using h
section
variable {x:L3} {res:List ki} {r':AV}
end
section
variable {P:Program} {n k k0:Nat} {x:L3} {K:L3->Prop} {R:List az}
end
section
variable {o:az} {x:L3}
end
theorem aT {a:List AV} {b:List AV} {r:List AV} (h:ee a b) (t:ee r s):ee (.agg a::r) (.agg b::s):= .cons (aQ.agg h) t
open Go.RowKit
def ny:Nat->AV->Bool
 |0,_=>false
 |d+1, .agg cs=>cs.all (ny d)
 |d+1, .aK cs=>cs.all (ny d)
 |d+1, .fn _ cs=>cs.all (ny d)
 |d+1, .bf _ cs=>cs.all (ny d)
 |_+1, .af _ _=>false
 |_+1,_=>true
theorem aj.ny {E E':Env} (hI:∀b,E.I b->E'.I b/\∀o,E'.w.cell? ⟨b,o,none⟩=E.w.cell? ⟨b,o,none⟩) (hs:∀b,E'.w.shape? b=E.w.shape? b) (h1:E'.kn=E.kn) (h2:E'.dead=E.dead) (h3:E'.loc=E.loc) (h4:E'.ln=E.ln):
  ∀(d:Nat) {v:Value} {a:AV},aj E v a->Ytimomnfobfjggaa.ny d a=true->aj E' v a:=by
 intro d
 induction d with
 |zero=>intro v a _ h;simp [Ytimomnfobfjggaa.ny] at h
 |succ d ih=>
  have fI:∀{vs:Array Value} {cs:List AV},(∀(i:Nat) v c,vs[i]? =some v->cs[i]? =some c->aj E v c)->cs.all (Ytimomnfobfjggaa.ny d)=true->∀(i:Nat) v c,vs[i]? =some v->cs[i]? =some c->aj E' v c:=by
   intro vs cs h hn i v c hv hc
   simp only [Ot] at hn
   exact ih (h i v c hv hc) (hn c (OT hc))
  intro v a h hn
  cases a with
  |v x=>exact h.pure hI .v
  |agg cs=>cases h with|agg hl hh=>exact .agg hl (fI hh hn)
  |aK cs=>cases h with|aK hl hh=>exact .aK hl (fI hh hn)
  |fn f cs=>cases h with|fn hl hh=>exact .fn hl (fI hh hn)
  |bf f cs=>cases h with|bf hl hh=>exact .bf hl (fI hh hn)
  |af r cs=>simp [Ytimomnfobfjggaa.ny] at hn
  |aU sz els=>exact h.pure hI .aU
  |cp sz els=>exact h.pure hI .cp
  |emp=>exact h.pure hI .emp
  |pim cs o=>exact h.pure hI .pim
  |c8=>exact h.pure hI .c8
  |dead=>exact .dead
  |ref id sz i o=>cases h with
   |ref hi hd hb hq=>exact .ref (by rw [h1];exact hi) (by rw [h2];exact hd) (by rw [h3];exact hb) hq
   |dP hi hd ho=>exact .dP (by rw [h1];exact hi) (by rw [h2];exact hd) ho
  |own id sz off n=>cases h with
   |own hi hd hb hq nA hm hl hc bj=>exact .own (by rw [h1];exact hi) (by rw [h2];exact hd) (by rw [h3];exact hb) hq ((hs _).trans nA) hm hl hc (by rw [h4];exact bj)
   |bQ hi hd hb bj=>exact .bQ (by rw [h1];exact hi) (by rw [h2];exact hd) (by rw [h3];exact hb) (by rw [h4];exact bj)
   |ck hi hd ho=>exact .ck (by rw [h1];exact hi) (by rw [h2];exact hd) ho
  |mp id=>cases h with
   |mp hi hd hb=>exact .mp (by rw [h1];exact hi) (by rw [h2];exact hd) (by rw [h3];exact hb)
   |gn hi hd ho=>exact .gn (by rw [h1];exact hi) (by rw [h2];exact hd) ho
def jK (g:Nat->Option Bk):Prop:=∀id B,g id=some B->∀cs,cs∈B.els->∀c,c∈cs->ny 5 c=true
def lf:List (Option Bk)->Prop
 |[]=>True
 |none::r=>lf r
 |some B::r=>((B.els.all fun cs=>cs.all (ny 5))=true\/∃(α:Type) (f:α->List AV) (xs:List α),B.els=xs.map f/\∀y,(f y).all (ny 5)=true)/\lf r
theorem lf.jK:∀{m:List (Option Bk)},lf m->jK (look m)
 |[],_=>fun id B hg=>by simp [look] at hg
 |none::r,h=>fun id B hg=>by
  cases id with
  |zero=>simp [look] at hg
  |succ i=>exact lf.jK (m:=r) h i B (by simpa [look] using hg)
 |some B::r,h=>fun id B' hg=>by
  cases id with
  |zero=>
   simp only [look,OV,Option.join_some,Oj] at hg
   subst hg
   rcases h.1 with h1|⟨α,f,xs,h1,h2⟩
   ·intro cs hcs c hc
    simp only [Ot] at h1
    exact h1 cs hcs c hc
   ·rw [h1]
    intro cs hcs c hc
    simp only [OR] at hcs
    obtain ⟨y,_,rfl⟩:=hcs
    have:=h2 y
    simp only [Ot] at this
    exact this c hc
  |succ i=>exact lf.jK (m:=r) h.2 i B' (by simpa [look] using hg)
section
variable {P:Program}
theorem aE.ny {E E':Env} {J:Nat->Prop} {base:Nat} {g:Nat->Option Bk} (hm:aE E J base g) (hR:∀{v a},aj E v a->Ytimomnfobfjggaa.ny 5 a=true->aj E' v a) (hg:jK g) (fG:(∀(b:Nat) arr t x,E.w.heap[b]? =some (.cells arr t x)->E'.w.heap[b]? =some (.cells arr t x))/\∀(b:Nat) o,E.w.heap[b]? =some o->(∀r,o≠ .loop r)->E'.w.heap[b]? =some o) (hsz:E'.w.heap.size=E.w.heap.size)
  (h1:E'.kn=E.kn) (h2:E'.dead=E.dead) (h3:E'.loc=E.loc) (h4:E'.ln=E.ln) (hI:∀b,E'.I b->E.I b) (qp:∀l,E'.rg l->E.rg l) (hX:∀b,E'.X b->E.X b):aE E' J base g:=by
 refine ⟨fun id=>by rw [h1,h2];exact hm.live id,fun id B hgi=> ?_,fun id b7 b B B' a1 a2 a3 a4=>hm.apart id b7 b B B' a1 a2 (by rw [<-h3];exact a3) (by rw [<-h3];exact a4),fun id b B hgi hb hi=>hm.out id b B hgi (by rw [<-h3];exact hb) (hI b hi),fun b hb=>⟨by rw [hsz];exact (hm.low b (hI b hb)).1,(hm.low b (hI b hb)).2⟩,by rw [hsz];exact hm.size,fun id B hgi=>by rw [h4];exact hm.len id B hgi,fun l hl=>hm.fc l (qp l hl),fun b hb=>⟨by rw [hsz];exact (hm.xo b (hX b hb)).1,fun hi=>(hm.xo b (hX b hb)).2.1 (hI b hi),fun id B hgi=>by rw [h3];exact (hm.xo b (hX b hb)).2.2 id B hgi⟩⟩
 have:=hm.at_ id B hgi
 rw [h3]
 cases hl:E.loc id with
 |none=>rw [hl] at this;exact this
 |some b=>
  rw [hl] at this
  obtain ⟨q1,⟨hz0,arr,t,q2,q3,q4⟩|⟨hz0,es,c,q2,q3,q4⟩⟩:=this
  ·refine .iL ⟨q1,arr,t,fG.1 _ _ _ _ q2,q3,fun i cs hi=>⟨(q4 i cs hi).1,fun j x hj=> ?_⟩⟩ hz0
   obtain ⟨u,k1,k2,k3⟩:=(q4 i cs hi).2 j x hj
   exact ⟨u,k1,k2,hR k3 (hg id B hgi cs (OT hi) x (OT hj))⟩
  ·refine .ofMap ⟨q1,es,c,fG.2 _ _ q2 (fun r e=>by cases e),q3,fun i e cs he hi=> ?_⟩ hz0
   obtain ⟨x,rfl,x2,x3⟩:=q4 i e cs he hi
   exact ⟨x,rfl,x2,hR x3 (hg id B hgi _ (OT hi) x (by simp))⟩
def mw (n:Nat):List Nat->List AV->(Nat->AV)->(Nat->AV)
 |p::ps,a::as_,σ=>mw n ps as_ fun t=>if t=p/\p<n then a else σ t
 |_,_,σ=>σ
theorem BL {E:Env}:∀(ps:List Nat) (vs:List Value) (as_:List AV) (tmps:Array Value) (σ:Nat->AV),vs.length=as_.length->(∀(i:Nat) v c,vs[i]? =some v->as_[i]? =some c->aj E v c)->(∀t,aj E (tmps.getD t undef) (σ t))->
  ((ps.zip vs).foldl (fun (t:Array Value) (p:Nat×Value)=>t.setIfInBounds p.1 p.2) tmps).size=tmps.size/\∀t,aj E (((ps.zip vs).foldl (fun (t:Array Value) (p:Nat×Value)=>t.setIfInBounds p.1 p.2) tmps).getD t undef) (mw tmps.size ps as_ σ t)
 |[],vs,as_,tmps,σ,_,_,h=>⟨by simp,by simpa [mw] using h⟩
 |p::ps,[],as_,tmps,σ,hl,_,h=>by
  have:as_=[]:=Py (by simpa using hl.symm)
  subst this
  exact ⟨by simp,by simpa [mw] using h⟩
 |p::ps,v::vs,[],tmps,σ,hl,_,h=>by simp at hl
 |p::ps,v::vs,a::as_,tmps,σ,hl,hr,h=>by
  have ih:=BL ps vs as_ (tmps.setIfInBounds p v) (fun t=>if t=p/\p<tmps.size then a else σ t) (by simpa using hl) (fun i u c hu hc=>hr (i+1) u c (by simpa using hu) (by simpa using hc)) (fun t=>by
   by_cases hc:t=p/\p<tmps.size
   ·rw [Om hc]
    obtain ⟨rfl,hlt⟩:=hc
    have:=hr 0 v a rfl rfl
    simpa [hlt] using this
   ·rw [Ol hc]
    have e:(tmps.setIfInBounds p v).getD t undef=tmps.getD t undef:=by
     simp only [PN,P8]
     by_cases BM:p=t
     ·subst BM
      have:¬p<tmps.size:=fun hlt=>hc ⟨rfl,hlt⟩
      simp [this]
     ·simp [BM]
    rw [e];exact h t)
  rw [Array.size_setIfInBounds] at ih
  exact ih
theorem IE {vs:Array Value} {cs:List AV} (h:RC E vs cs) (t:Nat):aj E (vs.getD t undef) (cd cs t):=by
 have:=oO h 0 t
 simpa using this
def tc (P:Program) (kb:Nat) (f:FuncId) (as_:List AV) (g:Nat->Option Bk) (k:Nat) (r:AV) (g':Nat->Option Bk) (k':Nat):Prop:=
 ∀(E:Env) (J:Nat->Prop) (base:Nat) (vs:Array Value),ec E->aE E J base g->(∀id,E.kn id->id<k)->RC E vs as_->
  Calls P f vs E.w fun e w'=>∃v E',e= .returned v/\E'.w=w'/\(E.lt kb).Le E'/\aj E' v r/\aE E' J base g'/\Below base E.w w'/\∀id,E'.kn id->id<k'
theorem IF (hF:cFunc P f=some F) (hl:as_.length<=F.n)
  (h:EW P F.n kb F.code ⟨cd as_,g,k⟩ fun x s'=>(x= .normal\/x= .ret)/\∃y:S3,s'.Le kb F.n y/\(resR y.σ F.res).run y.g=some r/\y.g=g'/\y.k=k'):tc P kb f as_ g k r g' k':=by
 intro E J base vs hG hm aY bG
 obtain ⟨fn,c,h1,h2,h3,h4,h5⟩:=qy hF
 refine qB h1 h2 (wpIn_mono (h none c (E.lt kb) J base E.w _ E.w (fun _=>rfl) h4 (fun id hi=>hi.2) ⟨⟨E,rfl,E.Aw kb,oO bG _,hm,aY, .nil⟩, ?_,OY _ _,hG⟩) ?_)
 ·simp only [P9,Qh,bG.1];omega
 ·rintro e a' w' ⟨x,s',⟨hx,y,hy,hr,rfl,rfl⟩,rfl,w8⟩
  have hrel:=hy (E.lt kb) J base E.w a' w' (fun id hi=>hi.2) w8
  obtain ⟨E',rfl,hle,hs,hM,hk,hmk⟩:=hrel.ex
  refine ⟨by rcases hx with rfl|rfl<;>simp [Ex.up],oP _ E' hmk fun E2 hS=> ?_⟩
  have ko:=hS.mem hM
  obtain ⟨v,e1,e2⟩:=qx ko (fun t=>hS.rep (hs t)) h3 hr
  exact ⟨v,e1,v,E2,rfl,rfl,hS.le hle (fun b hb=>(hm.low b hb).1) (fun b hb=>(hm.xo b hb).1),e2,ko,hS.below hm.size hrel.below,fun id hid=>hk id (by rw [<-hS.eqs.1];exact hid)⟩
theorem fib_walk (hF:cFunc P f=some F) (hl:as_.length<=F.n)
  (h:EL P F.n kb F.code ⟨gF 0 as_,m⟩ fun e x=>(e= .normal\/e= .ret)/\∃y:L3,x.s.Le kb F.n y.s/\(resR (slot y.t) F.res).run (look y.m)=some r/\y.m=m'):tc P kb f as_ (look m) m.length r (look m') m'.length:=by
 refine IF hF hl (EW.fL (qE as_ _ _) (EW.cM h ?_))
 rintro e s ⟨x',rfl,h1,y,h2,h3,rfl⟩
 exact ⟨h1,y.s,h2,h3,rfl,rfl⟩
theorem IG {r:Loop} {x:AC} (hx:cCode P r.assign=some x) (hy:cCode P r.body=some y) (de:r.state= .ready) (td:r.pending=none) (tg:r.params=ps.toArray) (hlen:ps.length=as_.length)
  (hn:caps.length=n) (o6:x.hH=false) (IH:y.hH=false)
  (h:EW P n kb x ⟨mw n ps as_ (cd caps),g,k⟩ fun e s1=>e= .normal/\(∀t,ny 5 (s1.σ t)=true)/\jK s1.g/\EW P n kb y s1 fun e s2=>e= .normal/\∃s3:S3,s2.Le kb n s3/\jK s3.g/\s3.g=g'/\s3.k=k'):Yd P kb r caps as_ g k g' k':=by
 refine ⟨by rw [tg];simpa using hlen,fun E J base l vs hG hm aY qp bG sF hI hh=> ?_⟩
 have II:=hm.low l hI
 have bm:base<=l\/J l:=II.2.symm
 have xz:=BL (E:=E) ps vs.toList as_ r.tmps (cd caps) (by simpa using bG.1) (fun i v c hv hc=>bG.2 i v c (by simpa using hv) hc) (fun t=>IE sF t)
 have hfe:(r.params.zip vs).foldl (fun t (p,v)=>t.setIfInBounds p v) r.tmps=(ps.zip vs.toList).foldl (fun (t:Array Value) (p:Nat×Value)=>t.setIfInBounds p.1 p.2) r.tmps:=by
  rw [tg, <-Array.foldl_toList,Array.toList_zip]
 have hsz:r.tmps.size=n:=sF.1.trans hn
 rw [hfe]
 rw [hsz] at xz
 refine roundIn_of_wpIn (F:=Fence.wide) (n:=0) trivial ?_
 have h1:=h (some l) r.assign (E.lt kb) J base E.w { tmps:=(ps.zip vs.toList).foldl (fun (t:Array Value) (p:Nat×Value)=>t.setIfInBounds p.1 p.2) r.tmps,defers:=[] } E.w (fun hh=>by rw [o6] at hh;simp at hh) hx (fun id hi=>hi.2)
  ⟨⟨E,rfl,E.Aw kb,xz.2,hm,aY, .nil⟩,xz.1,OY _ _,trivial⟩
 refine wpIn_mono h1 ?_
 rintro e a1 w1 ⟨x1,s1,⟨rfl,IJ,IM,IN⟩,rfl,hrel⟩
 obtain ⟨E1,rfl,iZ,hs1,l9,bV,IP⟩:=hrel.ex
 have qK:E1.w.heap[l]? =some (.loop r):=(iZ.cB l hI).2.trans hh
 have nd:E1.I l:=(iZ.cB l hI).1
 refine ⟨_,run_beginRound qK de, ?_⟩
 have IQ:=(OX.1 qK).1
 obtain ⟨w2,hw2⟩:∃w2,w2=E1.w.putObj l (.loop { r with state:= .busy }):=⟨_,rfl⟩
 rw [<-hw2]
 have BN:w2.heap[l]? =some (.loop { r with state:= .busy }):=by rw [hw2];exact World.putObj_heap_same IQ
 have qL:∀b,b≠l->w2.heap[b]? =E1.w.heap[b]? :=fun b hb=>by rw [hw2];exact PC hb
 obtain ⟨c1,c2,c3⟩:=qz (.loop { r with state:= .busy }) qK rfl rfl
 rw [<-hw2] at c1 c2 c3
 let E2:Env:={ E1 with w:=w2 }
 have BO:∀{v a},aj E1 v a->ny 5 a=true->aj E2 v a:=fun hr hn=>aj.ny (E:=E1) (E':=E2) (fun b hb=>⟨hb,c1 b⟩) c2 rfl rfl rfl rfl 5 hr hn
 have hsz2:w2.heap.size=E1.w.heap.size:=by rw [hw2];simp
 have gr:aE E2 J base s1.g:=l9.ny (E':=E2) BO IM ⟨c3,fun b o hb ho=>by
  by_cases e:b=l
  ·subst e;rw [qK] at hb;simp only [Oj] at hb;exact absurd hb.symm (ho _)
  ·exact (qL b e).trans hb⟩ hsz2 rfl rfl rfl rfl (fun b hb=>hb) (fun b hb=>hb) (fun b hb=>hb)
 have IS:Mk E2 E.w.heap.size a1.defers:=by
  have:∀{ds},Mk E1 E.w.heap.size ds->Mk E2 E.w.heap.size ds:=by
   intro ds hmk
   induction hmk with
   |nil=>exact .nil
   | @cons D ds iz hD qA hne t ih=>
    refine .cons iz hD ((qL D fun e=> ?_).trans qA) hne ih
    rw [e,qK] at qA;simp at qA
  exact this IP
 have bm:=hm.fc l qp
 have hb2:Below base E.w w2:=hrel.below.trans ⟨by rw [hw2];rfl,by rw [hw2];rfl,by rw [hw2];rfl,by rw [hsz2];exact Ox _,fun k hk=>qL k (by omega)⟩
 have nM:=(OX.1 hh).1
 obtain ⟨wb,xA⟩:∃wb,wb=E.w.putObj l (.loop { r with state:= .busy }):=⟨_,rfl⟩
 obtain ⟨b1,b2,b3⟩:=qz (.loop { r with state:= .busy }) hh rfl rfl
 rw [<-xA] at b1 b2 b3
 have xB:wb.heap[l]? =some (.loop { r with state:= .busy }):=by rw [xA];exact World.putObj_heap_same nM
 have ti:∀b,b≠l->wb.heap[b]? =E.w.heap[b]? :=fun b hb=>by rw [xA];exact PC hb
 let Eb:Env:={ E.lt kb with w:=wb }
 have IT:Eb.Le E2:=by
  refine ⟨iZ.kn,fun b hb=>⟨(iZ.cB b hb).1, ?_⟩,iZ.dead,iZ.loc,fun id b hi hd hb=> ?_,iZ.ln,iZ.rg,fun b hb=>⟨(iZ.fx b hb).1, ?_⟩⟩
  ·show w2.heap[b]? =wb.heap[b]?
   by_cases bm:b=l
   ·subst bm;rw [BN,xB]
   ·rw [qL b bm,ti b bm];exact (iZ.cB b hb).2
  ·rcases iZ.shape id b hi hd hb with k1|k1
   ·exact .inl k1
   ·exact .inr ((c2 b).trans (k1.trans (b2 b).symm))
  ·show w2.heap[b]? =wb.heap[b]?
   by_cases bm:b=l
   ·subst bm;rw [BN,xB]
   ·rw [qL b bm,ti b bm];exact (iZ.fx b hb).2
 have h2:=IN (some l) r.body Eb J base E.w a1 w2 (fun hh=>by rw [IH] at hh;simp at hh) hy (fun id hi=>hi.2)
  ⟨⟨E2,rfl,IT,fun t=>BO (hs1 t) (IJ t),gr,bV,IS⟩,hrel.size,hb2,trivial⟩
 refine wpIn_mono h2 ?_
 rintro e a3 w3 ⟨x2,s2,⟨rfl,s3,IU,IV,rfl,rfl⟩,rfl,IW⟩
 have BP:=IU Eb J base E.w a3 w3 (fun id hi=>hi.2) IW
 obtain ⟨E3,rfl,gH,NP,xC,IX,NQ⟩:=BP.ex
 have tj:E3.w.heap[l]? =some (.loop { r with state:= .busy }):=(gH.cB l hI).2.trans xB
 have IY:=(OX.1 tj).1
 have nN:=run_endRound (P:=P) none tj
 have IZ:({ ({ r with state:= .busy }:Loop) with state:= .ready,pending:=none }:Loop)=r:=by
  cases r;simp only at de td;subst de;subst td;rfl
 simp only [Option.isNone_none,Oo] at nN
 rw [IZ] at nN
 obtain ⟨w4,fS⟩:∃w4,w4=E3.w.putObj l (.loop r):=⟨_,rfl⟩
 rw [<-fS] at nN
 obtain ⟨d1,d2,d3⟩:=qz (.loop r) tj rfl rfl
 rw [<-fS] at d1 d2 d3
 have ks:∀b,b≠l->w4.heap[b]? =E3.w.heap[b]? :=fun b hb=>by rw [fS];exact PC hb
 have qM:w4.heap.size=E3.w.heap.size:=by rw [fS];simp
 let E4:Env:={ E3 with w:=w4 }
 have I1:∀{v a},aj E3 v a->ny 5 a=true->aj E4 v a:=fun hr hn=>aj.ny (E:=E3) (E':=E4) (fun b hb=>⟨hb,d1 b⟩) d2 rfl rfl rfl rfl 5 hr hn
 have I2:aE E4 J base s3.g:=xC.ny (E':=E4) I1 IV ⟨d3,fun b o hb ho=>by
  by_cases e:b=l
  ·subst e;rw [tj] at hb;simp only [Oj] at hb;exact absurd hb.symm (ho _)
  ·exact (ks b e).trans hb⟩ qM rfl rfl rfl rfl (fun b hb=>hb) (fun b hb=>hb) (fun b hb=>hb)
 have I3:∀b,E.I b->w4.heap[b]? =E.w.heap[b]? :=fun b hb=>by
  by_cases bm:b=l
  ·subst bm;rw [hh,fS];exact World.putObj_heap_same IY
  ·rw [ks b bm,(gH.cB b hb).2]
   exact ti b bm
 have I4:(E.lt kb).Le E4:=by
  refine ⟨gH.kn,fun b hb=>⟨(gH.cB b hb).1,I3 b hb⟩,gH.dead,gH.loc,fun id b hi hd hb=> ?_,gH.ln,gH.rg,fun b hb=>⟨(gH.fx b hb).1, ?_⟩⟩
  ·rcases gH.shape id b hi hd hb with k1|k1
   ·exact .inl k1
   ·exact .inr ((d2 b).trans (k1.trans (b2 b)))
  ·have bm:b≠l:=fun e=>(hm.xo b hb).2.1 (e▸hI)
   show w4.heap[b]? =_
   rw [ks b bm,(gH.fx b hb).2]
   exact ti b bm
 have xD:Below base E.w w4:=BP.below.trans ⟨by rw [fS];rfl,by rw [fS];rfl,by rw [fS];rfl,by rw [qM];exact Ox _,fun k hk=>ks k (by omega)⟩
 exact ⟨_,w4,nN,rfl,E4,rfl,I4,I2,xD,IX⟩
theorem EW.gD {gA:Arg} {ps:List Nat} {x y:AC} {f:FuncId} {caps:List AV} {n k0 kb:Nat} {s:S3} {g':Nat->Option Bk} {k':Nat} {res:AV} {Q:Ex->S3->Prop} (oy:k0<=kb) (kf:∀t,nb kb 6 (s.σ t)=true) (hg:aG s.σ gA= .fn f caps) (hc:bI P f=true) (oD:jK g')
  (h:∀r:Loop,cCode P r.assign=some x->cCode P r.body=some y->r.state= .ready->r.pending=none->r.params=ps.toArray->tc P kb f (.af r ((List.range n).map s.σ)::caps) s.g s.k res g' k') (hq:Q .normal ⟨s.σ,g',k'⟩):EW P n k0 (.gD gA ps x y) s Q:=by
 intro rd c E0 J base w0 a w b9 hcc hk hr
 obtain rfl:=b9 rfl
 obtain ⟨go,o7,ca,cb,rfl,eW,hx,hy,I5⟩:∃go o7 ca cb,c= .rangeFunc go o7 ca cb/\cArg go=some gA/\cCode P ca=some x/\cCode P cb=some y/\o7.toList=ps:=by
  cases c with
  |rangeFunc go o7 ca cb=>
   simp only [cCode] at hcc
   split at hcc
   ·rename_i h1 h2 h3
    simp only [Oj,AC.gD.injEq] at hcc
    obtain ⟨rfl,rfl,rfl,rfl⟩:=hcc
    exact ⟨go,o7,ca,cb,rfl,h1,h2,h3,rfl⟩
   ·simp at hcc
  |_=>
   exfalso
   simp only [cCode] at hcc
   repeat' (first|(simp at hcc;done)|split at hcc)
 obtain ⟨E,rfl,hle,hs,hm,aY,hmk⟩:=hr.ex
 have hgv:=dz.of (hr.gl.step hle) hs go gA eW
 rw [hg] at hgv
 obtain ⟨vv,b8⟩:∃vv,vv=a.eval go:=⟨_,rfl⟩
 rw [<-b8] at hgv
 cases hgv with
 | @fn _ lb _ I6 tl=>
 refine wpIn_rangeFunc ?_
 intro fn eS
 obtain ⟨rec,cr⟩:∃rec:Loop,rec={ state:= .ready,pending:=none,fn,tmps:=a.tmps,params:=o7,assign:=ca,body:=cb,defers:=E.w.heap.size }:=⟨_,rfl⟩
 obtain ⟨W1,o8⟩:∃W1,(E.w.alloc (.deferred (some []))).alloc (.loop rec)=W1:=⟨_,rfl⟩
 have BQ:W1.heap[E.w.heap.size+1]? =some (.loop rec):=by
  rw [<-o8];have:=World.alloc_heap_new (E.w.alloc (.deferred (some []))) (.loop rec);rwa [World.size_alloc] at this
 have I7:W1.heap[E.w.heap.size]? =some (.deferred (some [])):=by
  rw [<-o8];exact (Pk _ _ _ (by simp)).trans (World.alloc_heap_new E.w _)
 have hold:∀b,b<E.w.heap.size->W1.heap[b]? =E.w.heap[b]? :=fun b hb=>by
  rw [<-o8];exact (Pk _ _ _ (by simp;omega)).trans (Pk _ _ _ hb)
 have hsz1:W1.heap.size=E.w.heap.size+2:=by rw [<-o8];simp
 have ma:Below base E.w W1:=by
  rw [<-o8];exact ((OY _ E.w).alloc hm.size _).alloc (by have:=hm.size;simp;omega) _
 have xE:∀id b B,s.g id=some B->E.loc id=some b->b<E.w.heap.size:=fun id b B hgi hb=>by
  have:=hm.at_ id B hgi;rw [hb] at this;exact this.lt.2
 let E1:Env:={ E with w:=W1,I:=fun b=>E.I b\/b=E.w.heap.size\/b=E.w.heap.size+1,rg:=fun l=>E.rg l\/l=E.w.heap.size+1 }
 have fo:E.Le E1:=by
  refine ⟨fun _ h=>h,fun b hb=>⟨.inl hb,hold b (hm.low b hb).1⟩,fun _ _ h=>h,fun _ _ _=> .inr rfl,fun id b hi hd hb=> .inr ?_,fun _ _ _=> .inr rfl,fun _ h=> .inl h,fun b hb=>⟨hb,hold b (hm.xo b hb).1⟩⟩
  obtain ⟨B,hB⟩:=(hm.live id).1 ⟨hi,hd⟩
  show W1.shape? b=_
  simp only [World.shape?,hold b (xE id b B hB hb)]
 have l9:aE E1 J base s.g:=by
  refine ⟨hm.live,fun id B hgi=>(hm.at_ id B hgi).bL fo fun b hb=>hold b (xE id b B hgi hb),hm.apart,fun id b B hgi hb hi=> ?_,fun b hb=> ?_,by show base<=W1.heap.size;have:=hm.size;omega,hm.len,fun l hl=> ?_,fun b hb=>⟨by show b<W1.heap.size;have:=(hm.xo b hb).1;omega,fun hi=> ?_,(hm.xo b hb).2.2⟩⟩
  ·have:=xE id b B hgi hb
   rcases hi with hi|hi|hi
   ·exact hm.out id b B hgi hb hi
   ·omega
   ·omega
  ·show b<W1.heap.size/\_
   have:=hm.size
   rcases hb with hb|hb|hb
   ·have:=hm.low b hb;exact ⟨by omega,this.2⟩
   ·exact ⟨by omega, .inr (by omega)⟩
   ·exact ⟨by omega, .inr (by omega)⟩
  ·have:=hm.size
   rcases hl with hl|hl
   ·exact hm.fc l hl
   ·omega
  ·have:=(hm.xo b hb).1
   rcases hi with hi|hi|hi
   ·exact (hm.xo b hb).2.1 hi
   ·omega
   ·omega
 have sG:=h rec (by rw [cr];exact hx) (by rw [cr];exact hy) (by rw [cr]) (by rw [cr]) (by rw [cr];simp [<-I5])
 have BR:a.tmps.size=n:=hr.size
 have bG:RC E1 (#[.func (.yield (E.w.heap.size+1)) #[] #[]]++lb) (.af rec ((List.range n).map s.σ)::caps):=by
  refine ⟨by simp [I6];omega,fun j u c hu hc=> ?_⟩
  cases j with
  |zero=>
   rw [Qa (by simp)] at hu
   simp at hu hc;subst hu;subst hc
   refine .af (.inr rfl) (.inr (.inr rfl)) BQ (by rw [cr];simp [BR]) fun i v c hv hc=> ?_
   rw [cr] at hv
   have hi:i<n:=by rw [<-BR];exact (OX.1 hv).1
   rw [OM,List.getElem?_range hi] at hc
   simp only [Oz,Oj] at hc
   subst hc
   have:=(hs i).step fo
   simp only at hv
   simpa [PN,hv] using this
  |succ j=>
   rw [Qj (by simp)] at hu
   simp at hu hc
   exact (tl j u c hu hc).step fo
 refine ⟨E.w.heap.size+1,[{ target:= .collected E.w.heap.size,args:= #[] }],W1,{ target:= .fn (.func f) lb,args:= #[.func (.yield (E.w.heap.size+1)) #[] #[]] },W1,f,
  #[.func (.yield (E.w.heap.size+1)) #[] #[]]++lb,W1, ?_, ?_,fun _ _=>trivial, ?_,ni, ?_⟩
 ·rw [<-o8,cr];exact run_enterLoop_outer _ _ _ _ _
 ·simp only [resolve, <-b8]
  simp [Deferred.ofValue]
  rfl
 ·simp only [invoke]
  exact wc hc _ _
 ·refine oG ((sG E1 J base _ trivial l9 aY bG).mono ?_)
  rintro e w' ⟨v,E2,rfl,rfl,iD,_,gr,hb2,hk2⟩
  have oS:E2.w.heap[E.w.heap.size+1]? =some (.loop rec):=(iD.cB _ (.inr (.inr rfl))).2.trans BQ
  have I8:E2.w.heap[E.w.heap.size]? =some (.deferred (some [])):=(iD.cB _ (.inr (.inl rfl))).2.trans I7
  have nN:=run_endLoop (P:=P) oS (by rw [cr];simp)
  obtain ⟨w4,fS⟩:∃w4,w4=E2.w.putObj (E.w.heap.size+1) (.loop { rec with state:= .exhausted }):=⟨_,rfl⟩
  rw [<-fS] at nN
  refine ⟨_,w4,nN, ?_⟩
  rw [show rec.pending=none by rw [cr]]
  obtain ⟨d1,d2,d3⟩:=qz (.loop { rec with state:= .exhausted }) oS rfl rfl
  rw [<-fS] at d1 d2 d3
  have ks:∀b,b≠E.w.heap.size+1->w4.heap[b]? =E2.w.heap[b]? :=fun b hb=>by rw [fS];exact PC hb
  have qM:w4.heap.size=E2.w.heap.size:=by rw [fS];simp
  let E3:Env:={ E2 with w:=w4 }
  have hR:∀{v a},aj E2 v a->ny 5 a=true->aj E3 v a:=fun hr hn=>aj.ny (E:=E2) (E':=E3) (fun b hb=>⟨hb,d1 b⟩) d2 rfl rfl rfl rfl 5 hr hn
  have xC:aE E3 J base g':=gr.ny (E':=E3) hR oD ⟨d3,fun b o hb ho=>by
   by_cases e:b=E.w.heap.size+1
   ·subst e;rw [oS] at hb;simp only [Oj] at hb;exact absurd hb.symm (ho _)
   ·exact (ks b e).trans hb⟩ qM rfl rfl rfl rfl (fun b hb=>hb) (fun b hb=>hb) (fun b hb=>hb)
  have gH:(E.lt kb).Le E3:=by
   refine ⟨fun id hi=>iD.kn id hi,fun b hb=>⟨(iD.cB b (.inl hb)).1, ?_⟩,fun id hi hd=>iD.dead id hi hd,fun id hi hd=>iD.loc id hi hd,fun id b hi hd hb=> ?_,fun id hi hd=>iD.ln id hi hd,fun l hl=>iD.rg l (.inl hl),fun b hb=>⟨(iD.fx b hb).1,(ks b (by have:=(hm.xo b hb).1;omega)).trans ((iD.fx b hb).2.trans (hold b (hm.xo b hb).1))⟩⟩
   ·have:=(hm.low b hb).1
    exact (ks b (by omega)).trans ((iD.cB b (.inl hb)).2.trans (hold b this))
   ·rcases iD.shape id b hi hd hb with k1|k1
    ·exact .inl k1
    ·exact .inr ((d2 b).trans (k1.trans ((fo.shape id b hi.1 hd hb).resolve_left hd)))
  have xD:Below base E2.w w4:=⟨by rw [fS];rfl,by rw [fS];rfl,by rw [fS];rfl,by rw [qM];exact Ox _,fun k hk=>ks k (by have:=hm.size;omega)⟩
  refine ⟨.normal,⟨s.σ,g',k'⟩,hq,rfl,⟨⟨E3,rfl,hle.cut (fun id hi=>ON (hk id hi) oy) gH,fun t=>(hs t).Ax gH 6 (kf t),xC,hk2, ?_⟩,hr.size,hr.below.trans (ma.trans (hb2.trans xD)),hr.gl⟩⟩
  refine Mk.cons (iD.cB _ (.inr (.inl rfl))).1 hr.below.size ((ks _ (by omega)).trans I8) (fun d hd e=> ?_) (Mk.wz (E:=E) gH.cB hmk)
  have:=hmk.lt d hd _ e
  omega
def nO:List Nat->List AV->List (Nat×AV)->List (Nat×AV)
 |p::ps,a::as_,t=>nO ps as_ (eB t (some p) a)
 |_,_,t=>t
theorem BS {n:Nat}:∀(ps:List Nat) (as_:List AV) (t:List (Nat×AV)) (σ:Nat->AV),(ps.all fun p=>Nat.blt p n)=true->(∀i,slot t i=σ i\/slot t i= .dead)->∀i,slot (nO ps as_ t) i=mw n ps as_ σ i\/slot (nO ps as_ t) i= .dead
 |[],as_,t,σ,_,h,i=>by simpa [nO,mw] using h i
 |p::ps,[],t,σ,_,h,i=>by simpa [nO,mw] using h i
 |p::ps,a::as_,t,σ,hp,h,i=>by
  simp only [PW,On] at hp
  refine BS ps as_ (eB t (some p) a) (fun t=>if t=p/\p<n then a else σ t) hp.2 (fun j=> ?_) i
  rw [nB (n:=n) t (some p) hp.1 a]
  unfold bE
  have BT:p<n:=O3 hp.1
  by_cases hj:j=p
  ·subst hj
   left
   rw [Om ⟨rfl,BT⟩,Om ⟨rfl,BT⟩]
  ·rw [Ol (fun hc=>hj (Option.some.inj hc.1).symm),Ol (fun hc=>hj hc.1)]
   exact h j
theorem BU {d:Nat}:∀(t:List (Nat×AV)),(t.all fun p=>ny (d+1) p.2)=true->∀i,ny (d+1) (slot t i)=true
 |[],_,i=>rfl
 |(j,v)::r,h,i=>by
  simp only [PW,On] at h
  simp only [slot]
  cases Nat.beq i j with
  |true=>exact h.1
  |false=>exact BU r h.2 i
theorem yd_walk {r:Loop} {x:AC} (hx:cCode P r.assign=some x) (hy:cCode P r.body=some y) (de:r.state= .ready) (td:r.pending=none) (tg:r.params=ps.toArray)
  (hok:(Nat.beq ps.length as_.length&&(Nat.beq caps.length n&&((ps.all fun p=>Nat.blt p n)&&(!x.hH&& !y.hH))))=true)
  (h:EL P n kb x ⟨nO ps as_ (gF 0 caps),m⟩ fun e x1=>e= .normal/\(x1.t.all fun p=>ny 5 p.2)=true/\lf x1.m/\EL P n kb y x1 fun e x2=>e= .normal/\∃z:L3,x2.s.Le kb n z.s/\lf z.m/\z.m=m'):Yd P kb r caps as_ (look m) m.length (look m') m'.length:=by
 simp only [On,OJ] at hok
 obtain ⟨h1,h2,h3,h4,h5⟩:=hok
 refine IG hx hy de td tg (Oy h1) (Oy h2) h4 h5 ?_
 refine EW.fL (s':=(⟨nO ps as_ (gF 0 caps),m⟩:L3).s) (S3.wT (fun t=> ?_) rfl rfl) (EW.cM h ?_)
 ·have:=BS (n:=n) ps as_ (gF 0 caps) (cd caps) h3 (fun i=> ?_) t
  ·rcases this with h|h
   ·exact .inl h
   ·exact .inr (.inl h)
  ·rw [sM,Om (Nat.zero_le _),Nat.sub_zero]
   unfold cd
   cases caps[i]? with
   |none=>exact .inr rfl
   |some a=>exact .inl rfl
 ·rintro e s ⟨x1,rfl,rfl,zM,pQ,hb⟩
  refine ⟨rfl,BU x1.t zM,pQ.jK,EW.cM hb ?_⟩
  rintro e s ⟨x2,rfl,rfl,z,hz1,hz2,rfl⟩
  exact ⟨rfl,z.s,hz1,hz2.jK,rfl,rfl⟩
theorem xF {kb d:Nat}:∀(t:List (Nat×AV)),(t.all fun p=>nb kb (d+1) p.2)=true->∀i,nb kb (d+1) (slot t i)=true
 |[],_,i=>rfl
 |(j,v)::r,h,i=>by
  simp only [PW,On] at h
  simp only [slot]
  cases Nat.beq i j with
  |true=>exact h.1
  |false=>exact xF r h.2 i
theorem EL.gD {gA:Arg} {ps:List Nat} {a b:AC} {f:FuncId} {caps cs:List AV} {n k0:Nat} {x:L3} {m':List (Option Bk)} {res:AV} {Q:Ex->L3->Prop} (kb:Nat) (kf:(Nat.ble k0 kb&&x.t.all fun p=>nb kb 6 p.2)=true) (hg:aG (slot x.t) gA= .fn f caps) (hc:bI P f=true) (hcs:(List.range n).map (slot x.t)=cs) (oD:lf m')
  (h:∀r:Loop,cCode P r.assign=some a->cCode P r.body=some b->r.state= .ready->r.pending=none->r.params=ps.toArray->tc P kb f (.af r cs::caps) (look x.m) x.m.length res (look m') m'.length) (hq:Q .normal ⟨x.t,m'⟩):EL P n k0 (.gD gA ps a b) x Q:=
 have qN:=Bool.and_eq_true_iff.1 kf
 EW.gD (O3 qN.1) (xF x.t qN.2) hg hc oD.jK (fun r h1 h2 h3 h4 h5=>by have:=h r h1 h2 h3 h4 h5;rw [<-hcs] at this;exact this) ⟨⟨x.t,m'⟩,rfl,hq⟩
theorem OW.af {n k k0:Nat} {R:List az} {x:L3} {K:L3->Prop} {a:Arg} {args:List Arg} {r:Loop} {caps aa:List AV} {m':List (Option Bk)} {x':L3} (hl:Nat.blt k R.length=true) (ct:bO (slot x.t) (opD R k).guard=some true) (ho:(opD R k).ao= .call a args) (hx:aG (slot x.t) a= .af r caps) (has:args.map (aG (slot x.t))=aa) {kb:Nat} (kf:(Nat.ble k0 kb&&x.t.all fun p=>nb kb 6 p.2)=true)
  (hy:Yd P kb r caps aa (look x.m) x.m.length (look m') m'.length) (cH:(bif dstOK n (opD R k).dst then some (⟨eB x.t (opD R k).dst (.v (.bool true)),m'⟩:L3) else none)=some x') (hr:OW P n k0 (R.drop (k+1)) x' K):OW P n k0 (R.drop k) x K:=by
 rw [sP hl]
 cases hd:dstOK n (opD R k).dst with
 |false=>rw [hd] at cH;simp at cH
 |true=>
  rw [hd,Oq] at cH
  simp only [Oj] at cH
  subst cH
  obtain ⟨z,h1,h3⟩:=hr
  simp only [nB _ _ hd] at h1
  subst has
  have qN:=Bool.and_eq_true_iff.1 kf
  exact ⟨z, .af ct ho hx (O3 qN.1) (xF x.t qN.2) hy h1,h3⟩
end
end Go.Proofs.Ytimomnfobfjggaa
