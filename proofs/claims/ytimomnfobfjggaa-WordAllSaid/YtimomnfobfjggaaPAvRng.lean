/- Ranges over functions, upon abstract values: a round is a call upon the same own memory. No condition. -/
import Derived.Test.YtimomnfobfjggaaPAvRun
import Derived.Test.YtimomnfobfjggaaRows
set_option linter.unusedSimpArgs false
set_option linter.unusedVariables false
set_option maxRecDepth 100000
namespace Go.Proofs.Ytimomnfobfjggaa
variable {b y ac z:AC} {F:cT} {o:az} {r v a:AV} {K:Act->World->Prop} {listed:Array Bool} {E:Env} {f:FuncId} {x' x:L3} {dep:List (List Nat)} {u ups:List (Nat×Option Bk)} {m m':List (Option Bk)} {as_ s caps:List AV} {acc ps:List Nat} {rs:List Rec} {n jn i k k' kb k0 k1:Nat} {σ:Nat->AV} {g g':Nat->Option Bk} {op:Oper} {P:Program} {w:World}
open Go.RowKit
abbrev OM:=@Option.map_eq_some_iff
abbrev Pc:=@List.mem_map
abbrev PC:=@List.isEmpty_iff
abbrev PL:=@List.map_append
abbrev Qa:=@List.take_of_length_le
abbrev Qh:=@List.length_set
abbrev Qi:=@List.all_cons
abbrev Qs:=@List.drop_zero
def xd (o:az) (x:L3):Option (AV×List (Nat×Option Bk)):=
 match dp o x with
 | .done v u _=>some (v,u)
 |_=>none
def runN (n:Nat):Nat->List az->L3->Option L3
 |0,_,x=>some x
 |_+1,[],_=>none
 |k+1,o::os,x=>bif dstOK n o.dst then match xd o x with
   |some (v,u)=>bif upsOK x.m.length u then runN n k os ⟨eE x.t o.dst v,dI x.m u⟩ else none
   |none=>none
  else none
def nR:Nat->List az->L3->List Rec
 |0,_,_=>[]
 |_+1,[],_=>[]
 |k+1,o::os,x=>match dp o x with
  | .done v u acc=>⟨o.dst,v,u,acc,x.m.length⟩::nR k os ⟨eE x.t o.dst v,dI x.m u⟩
  |_=>[]
def bO (live:List Nat):List (Nat×AV)->List (Nat×AV)
 |[]=>[]
 |(j,v)::r=>bif live.any (Nat.beq j) then (j,v)::bO live r else bO live r
def L3.bO (live:List Nat) (x:L3):L3:=⟨Ytimomnfobfjggaa.bO live x.t,x.m⟩
theorem s8 (live:List Nat):∀(t:List (Nat×AV)) (i:Nat),slot (bO live t) i=if live.any (Nat.beq i)=true then slot t i else .dead
 |[],i=>by simp [bO,slot]
 |(j,v)::r,i=>by
  simp only [bO,slot]
  cases hb:Nat.beq i j with
  |true=>
   have:=OR hb
   subst this
   cases hl:live.any (Nat.beq i) with
   |true=>simp [slot]
   |false=>simp [s8 live r,hl]
  |false=>
   cases hl:live.any (Nat.beq j) with
   |true=>simp [slot,hb,s8 live r]
   |false=>simp [s8 live r]
section
variable {P:Program} {n k0:Nat} {x:L3} {K:L3->Prop} {Q:Ex->L3->Prop} {R:List az} {k:Nat}
theorem EL.prune (live:List Nat) (h:EL P n k0 ac (x.bO live) Q):EL P n k0 ac x Q:=by
 refine EL.fP (y:=x.bO live) (S3.w9 (fun t=> ?_) rfl rfl) h
 show slot (bO live x.t) t=slot x.t t\/slot (bO live x.t) t= .dead\/_
 rw [s8]
 split
 ·exact .inl rfl
 ·exact .inr (.inl rfl)
theorem A7 (h:xd o x=some (v,u)):∃acc,dp o x= .done v u acc:=by
 unfold xd at h
 split at h
 ·rename_i v' u' acc he
  simp only [OG,OT] at h
  obtain ⟨rfl,rfl⟩:=h
  exact ⟨acc,he⟩
 ·simp at h
theorem A8:∀(c:Nat) (os:List az) (x x':L3),runN n c os x=some x'->OW P n k0 (os.drop c) x' K->OW P n k0 os x K
 |0,os,x,x',h,hr=>by simp only [runN,OG] at h;subst h;exact hr
 |c+1,[],x,x',h,hr=>by simp [runN] at h
 |c+1,o::os,x,x',h,hr=>by
  simp only [runN] at h
  cases hd:dstOK n o.dst with
  |false=>rw [hd] at h;simp at h
  |true=>
   rw [hd,OL] at h
   split at h
   ·rename_i v u hv
    obtain ⟨acc,he⟩:=A7 hv
    cases hu:upsOK x.m.length u with
    |false=>rw [hu] at h;simp at h
    |true=>
     rw [hu,OL] at h
     exact OW.cons hd he hu (A8 c os _ x' h hr)
   ·simp at h
theorem A9 {dep:List (List Nat)}:∀(c:Nat) (os:List az) (x x':L3) (rs:List Rec),runN n c os x=some x'->DW P n dep (os.drop c) x' (rs++nR c os x) K->DW P n dep os x rs K
 |0,os,x,x',rs,h,hr=>by simp only [runN,OG] at h;subst h;simpa [nR] using hr
 |c+1,[],x,x',rs,h,hr=>by simp [runN] at h
 |c+1,o::os,x,x',rs,h,hr=>by
  simp only [runN] at h
  cases hd:dstOK n o.dst with
  |false=>rw [hd] at h;simp at h
  |true=>
   rw [hd,OL] at h
   split at h
   ·rename_i v u hv
    obtain ⟨acc,he⟩:=A7 hv
    cases hu:upsOK x.m.length u with
    |false=>rw [hu] at h;simp at h
    |true=>
     rw [hu,OL] at h
     refine DW.cons hd he hu (A9 c os _ x' _ h ?_)
     simp only [nR,he] at hr
     simpa using hr
   ·simp at h
def opD (R:List az) (k:Nat):az:=(R[k]?).getD ⟨none, .mov (.c .dead),none⟩
theorem s9 (h:Nat.blt k R.length=true):R.drop k=opD R k::R.drop (k+1):=by
 have hk:k<R.length:=Pn h
 rw [List.drop_eq_getElem_cons hk]
 simp [opD,hk]
theorem OW.run (c:Nat) (h:runN n c (R.drop k) x=some x') (hr:OW P n k0 (R.drop (k+c)) x' K):OW P n k0 (R.drop k) x K:=
 A8 c _ x x' h (by rw [List.drop_drop];exact hr)
theorem OW.last (c:Nat) (live:List Nat) (h:(runN n c (R.drop k) x).map (L3.bO live)=some x') (he:(R.drop (k+c)).isEmpty=true) (hr:EL P n k0 b x' Q):OW P n k0 (R.drop k) x fun y=>EL P n k0 b y Q:=by
 cases hy:runN n c (R.drop k) x with
 |none=>rw [hy] at h;simp at h
 |some y=>
  rw [hy] at h
  simp only [OS,OG] at h
  refine OW.run c hy ?_
  rw [PC.1 he]
  exact OW.nil (EL.prune live (by rw [h];exact hr))
theorem OW.end (c:Nat) (h:runN n c (R.drop k) x=some x') (he:(R.drop (k+c)).isEmpty=true) (hr:K x'):OW P n k0 (R.drop k) x K:=by
 refine OW.run c h ?_
 rw [PC.1 he]
 exact OW.nil hr
theorem OW.fn {f:FuncId} {ar bs:List AV} {r:AV} {x':L3} (hl:Nat.blt k R.length=true) (h:dp (opD R k) x= .call f ar) (hc:bL P f=true) (hf:Fn P f bs r) (hs:(cS ar).run (look x.m)=some bs)
  (hx:(bif dstOK n (opD R k).dst&&upsOK x.m.length (callUps ar r) then some (⟨eE x.t (opD R k).dst r,dI x.m (callUps ar r)⟩:L3) else none)=some x') (hr:OW P n k0 (R.drop (k+1)) x' K):OW P n k0 (R.drop k) x K:=by
 rw [s9 hl]
 cases hd:(dstOK n (opD R k).dst&&upsOK x.m.length (callUps ar r)) with
 |false=>rw [hd] at hx;simp at hx
 |true=>
  rw [hd,OL] at hx
  simp only [OG] at hx
  subst hx
  simp only [OJ] at hd
  exact OW.call hd.1 h hc hs hf hd.2 hr
theorem EL.eqv (h:x=x') (hr:EL P n k0 ac x' Q):EL P n k0 ac x Q:=h▸hr
theorem EL.aq (h:OW P n k0 (R.drop 0) x fun y=>EL P n k0 b y Q):EL P n k0 (.seq (.bK R none) b) x Q:=EL.seq (EL.bK (by have:=h;rw [Qs] at this;exact this))
theorem EL.aF (h:OW P n k0 (R.drop 0) x (Q .normal)):EL P n k0 (.bK R none) x Q:=EL.bK (by simpa using h)
theorem DW.run (c:Nat) (h:runN n c (R.drop k) x=some x') (hr:DW P n dep (R.drop (k+c)) x' (rs++nR c (R.drop k) x) K):DW P n dep (R.drop k) x rs K:=
 A9 c _ x x' rs h (by rw [List.drop_drop];exact hr)
theorem DW.last (c:Nat) (live:List Nat) (h:(runN n c (R.drop k) x).map (L3.bO live)=some x') (he:((R.drop (k+c)).isEmpty&&ef (rs++nR c (R.drop k) x) dep)=true) (hr:EL P n k0 b x' Q):DW P n dep (R.drop k) x rs fun y=>EL P n k0 b y Q:=by
 simp only [OJ] at he
 cases hy:runN n c (R.drop k) x with
 |none=>rw [hy] at h;simp at h
 |some y=>
  rw [hy] at h
  simp only [OS,OG] at h
  refine DW.run c hy ?_
  rw [PC.1 he.1]
  exact DW.nil he.2 (EL.prune live (by rw [h];exact hr))
theorem DW.end (c:Nat) (h:runN n c (R.drop k) x=some x') (he:((R.drop (k+c)).isEmpty&&ef (rs++nR c (R.drop k) x) dep)=true) (hr:K x'):DW P n dep (R.drop k) x rs K:=by
 simp only [OJ] at he
 refine DW.run c h ?_
 rw [PC.1 he.1]
 exact DW.nil he.2 hr
theorem EL.Ba (h:DW P n dep (R.drop 0) x [] fun y=>EL P n k0 b y Q):EL P n k0 (.seq (.bK R (some dep)) b) x Q:=EL.seq (EL.draw (by have:=h;rw [Qs] at this;exact this))
theorem EL.eZ (h:DW P n dep (R.drop 0) x [] (Q .normal)):EL P n k0 (.bK R (some dep)) x Q:=EL.draw (by simpa using h)
theorem tN {f:L3->Prop} (h:f x):Ex.nO f Q .normal x:=h
theorem tX {f:L3->Prop} (h:Q (.exit i) x):Ex.nO f Q (.exit i) x:=h
theorem tR {f:L3->Prop} (h:Q .ret x):Ex.nO f Q .ret x:=h
theorem iN {id:Nat} (h:Q .normal x):Ex.nP id Q .normal x:=h
theorem iR {id:Nat} (h:Q .ret x):Ex.nP id Q .ret x:=h
theorem iH {id:Nat} (h:Q .normal x):Ex.nP id Q (.exit id) x:=by simp only [Ex.nP,OK];exact h
theorem EL.aH {b:Arg} (hb:aG (slot x.t) b= .v (.bool true)) (h:EL P n k0 y x Q):EL P n k0 (.cond b y z) x Q:=EL.cond hb (fun _=>h) (fun e=>by simp at e)
theorem EL.aJ {b:Arg} (hb:aG (slot x.t) b= .v (.bool false)) (h:EL P n k0 z x Q):EL P n k0 (.cond b y z) x Q:=EL.cond hb (fun e=>by simp at e) (fun _=>h)
abbrev VI (n:Int):AV:= .v (.int .i64 n)
abbrev OB:=Option Bk
abbrev LB:=List (Option Bk)
abbrev LS:=List (Nat×AV)
end
open Go.RowKit
section
variable {P:Program} {n k0:Nat} {x:L3} {K:L3->Prop} {Q:Ex->L3->Prop} {R:List az} {k:Nat}
def JU (P:Program) (n k0:Nat) (a:AC) (Q:Ex->L3->Prop):Nat->L3->Prop
 |0,_=>False
 |m+1,x=>EL P n k0 a x (Ex.nO (JU P n k0 a Q m) Q)
theorem EL.tb {a:AC} (m:Nat) (h:JU P n k0 a Q m x):EL P n k0 (.loop a) x Q:=
 EL.loop (fun m x=>JU P n k0 a Q m x) h fun m x h=>by
  cases m with
  |zero=>exact h.elim
  |succ m=>
   refine EL.cP h fun e y hy=> ?_
   cases e with
   |normal=>exact ⟨m,by omega,hy⟩
   |exit id=>exact hy
   |ret=>exact hy
theorem JU.step {a:AC} {m:Nat} (h:EL P n k0 a x (Ex.nO (JU P n k0 a Q m) Q)):JU P n k0 a Q (m+1) x:=h
theorem OW.fB (hl:Nat.blt k R.length=true) (h:dp (opD R k) x= .done v u acc) (hx:(bif dstOK n (opD R k).dst&&upsOK x.m.length u then some (⟨eE x.t (opD R k).dst v,dI x.m u⟩:L3) else none)=some x') (hr:OW P n k0 (R.drop (k+1)) x' K):OW P n k0 (R.drop k) x K:=by
 rw [s9 hl]
 cases hd:(dstOK n (opD R k).dst&&upsOK x.m.length u) with
 |false=>rw [hd] at hx;simp at hx
 |true=>
  rw [hd,OL] at hx
  simp only [OG] at hx
  subst hx
  simp only [OJ] at hd
  exact OW.cons hd.1 h hd.2 hr
theorem DW.fB (hl:Nat.blt k R.length=true) (h:dp (opD R k) x= .done v u acc) (hx:(bif dstOK n (opD R k).dst&&upsOK x.m.length u then some (⟨eE x.t (opD R k).dst v,dI x.m u⟩:L3) else none)=some x') (hr:DW P n dep (R.drop (k+1)) x' (rs++[⟨(opD R k).dst,v,u,acc,x.m.length⟩]) K):DW P n dep (R.drop k) x rs K:=by
 rw [s9 hl]
 cases hd:(dstOK n (opD R k).dst&&upsOK x.m.length u) with
 |false=>rw [hd] at hx;simp at hx
 |true=>
  rw [hd,OL] at hx
  simp only [OG] at hx
  subst hx
  simp only [OJ] at hd
  exact DW.cons hd.1 h hd.2 hr
end
section
variable {o:az} {x:L3}
theorem lA (ao:AO) {see:List Nat} (ho:o.ao=ao) (hg:bR (slot x.t) o.guard=some true) (h:(ao.au x.m.length (aG (slot x.t))).run (look x.m)=some (.done v u))
  (h2:(ao.au x.m.length (aG (slot x.t))).acc (look x.m)=acc) (h3:(ao.au x.m.length (aG (slot x.t))).see (look x.m)=see):dp o x= .done v u (acc++see):=by
 unfold dp
 rw [hg]
 simp only [ho,h]
 unfold wZ
 rw [h2,h3]
theorem Bb (ao:AO) (ho:o.ao=ao) (hg:bR (slot x.t) o.guard=some true) (h:ao.au x.m.length (aG (slot x.t))= .ret (.done v u)):dp o x= .done v u []:=
 lA ao (acc:=[]) (see:=[]) ho hg (by rw [h];rfl) (by rw [h];rfl) (by rw [h];rfl)
theorem tc (a b:Arg) (q q':IntKind) (m d:Int) (ho:o.ao= .bin false .shl a b) (hg:bR (slot x.t) o.guard=some true) (ha:aG (slot x.t) a= .v (.int q m)) (hb:aG (slot x.t) b= .v (.int q' d)) (hd:¬d<0):dp o x= .done (.v (.int q (q.wrap (m*2^(min d.toNat q.bits))))) [] []:=
 Bb _ ho hg (by simp [AO.au,ha,hb,binA,hd,RM.opt])
theorem xe (a b:Arg) (q q':IntKind) (m d:Int) (ho:o.ao= .bin false .shr a b) (hg:bR (slot x.t) o.guard=some true) (ha:aG (slot x.t) a= .v (.int q m)) (hb:aG (slot x.t) b= .v (.int q' d)) (hd:¬d<0):dp o x= .done (.v (.int q (m.fdiv (2^(min d.toNat q.bits))))) [] []:=
 Bb _ ho hg (by simp [AO.au,ha,hb,binA,hd,RM.opt])
end
section
variable {o:az} {x:L3}
theorem run_bind {α β:Type} {g:Nat->Option Bk} {f:α->RM β}:∀(m:RM α) {a:α},m.run g=some a->(m.bind f).run g=(f a).run g/\(m.bind f).acc g=m.acc g++(f a).acc g/\(m.bind f).see g=m.see g++(f a).see g
 | .ret b,a,h=>by simp only [RM.run,OG] at h;subst h;exact ⟨rfl,rfl,rfl⟩
 | .fail,a,h=>by simp [RM.run] at h
 | .rd id k,a,h=>by
  cases hg:g id with
  |none=>simp [RM.run,hg] at h
  |some B=>
   simp only [RM.run,hg] at h
   obtain ⟨h1,h2,h3⟩:=run_bind (f:=f) (k B) h
   exact ⟨by simp [RM.bind,RM.run,hg,h1],by simp [RM.bind,RM.acc,hg,h2],by simp [RM.bind,RM.see,hg,h3]⟩
 | .lv id k,a,h=>by
  cases hg:g id with
  |none=>simp [RM.run,hg] at h
  |some B=>
   simp only [RM.run,hg] at h
   obtain ⟨h1,h2,h3⟩:=run_bind (f:=f) k h
   exact ⟨by simp [RM.bind,RM.run,hg,h1],by simp [RM.bind,RM.acc,h2],by simp [RM.bind,RM.see,h3]⟩
end
open Go.RowKit
inductive fC where
 |old (id:Nat) (raw:Bool)
 |new (sz:Nat)
def newOf:List fC->Nat->Nat->Option Nat
 |[],_,_=>none
 | .old i _::r,j,id=>bif Nat.beq i id then some j else newOf r (j+1) id
 | .new _::r,j,id=>newOf r (j+1) id
def fQ (ρ:Nat->Option Nat):Nat->AV->AV
 |0,_=> .dead
 |d+1, .agg cs=> .agg (cs.map (fQ ρ d))
 |d+1, .aK cs=> .aK (cs.map (fQ ρ d))
 |d+1, .fn f cs=> .fn f (cs.map (fQ ρ d))
 |d+1, .bf f cs=> .bf f (cs.map (fQ ρ d))
 |d+1, .af r cs=> .af r (cs.map (fQ ρ d))
 |_+1, .ref id sz i o=>match ρ id with
  |some j=> .ref j sz i o
  |none=> .dead
 |_+1, .own id sz off n=>match ρ id with
  |some j=> .own j sz off n
  |none=> .dead
 |_+1, .mp id=>match ρ id with
  |some j=> .mp j
  |none=> .dead
 |_+1,a=>a
def nS (ρ:Nat->Option Nat) (B:Bk):Bk:=⟨B.sz,B.els.map fun cs=>cs.map (fQ ρ 3)⟩
def kC (m:List (Option Bk)) (src:List fC) (id:Nat):Option Nat:=bif (look m id).isSome then newOf src 0 id else none
def td (ρ:Nat->Option Nat) (src:List fC) (es:List (Nat×Nat)) (j:Nat) (a:AV):AV:=
 match a,es.lookup j with
 | .emp,some i=>match src[i]? with
  |some (.new sz)=> .own i sz 0 0
  |_=> .emp
 |a,_=>fQ ρ 4 a
def jQ (m:List (Option Bk)) (src:List fC):fC->Option Bk
 | .old i raw=>(look m i).map fun B=>bif raw then B else nS (kC m src) B
 | .new sz=>some ⟨sz,[]⟩
def srcOK (k0:Nat) (src:List fC):Bool:=
 (List.range src.length).all (fun i=>match src[i]? with
  |some (.old id _)=>match newOf src 0 id with
   |some j=>Nat.beq j i
   |none=>false
  |some (.new sz)=>Nat.ble 1 sz
  |_=>true)&&(List.range k0).all fun i=>match src[i]? with
  |some (.old id _)=>Nat.beq id i
  |_=>false
def xf (k0:Nat) (live:List Nat) (src:List fC) (es:List (Nat×Nat)) (x:L3):Option L3:=
 bif srcOK k0 src then some ⟨live.map fun j=>(j,td (kC x.m src) src es j (slot x.t j)),src.map (jQ x.m src)⟩ else none
def qR (ln:Nat->Nat):Option fC->Nat
 |some (.old id _)=>ln id
 |_=>0
def pa (loc:Nat->Option Nat):Option fC->Option Nat
 |some (.old id _)=>loc id
 |_=>none
theorem qS {v:Value} (h:aj E v .emp):∃A,v= .slice A 0 0:=by
 cases h with
 |emp=>exact ⟨_,rfl⟩
theorem xg:∀(src:List fC) (k id j:Nat),newOf src k id=some j->k<=j/\∃raw,src[j - k]? =some (.old id raw)
 |[],k,id,j,h=>by simp [newOf] at h
 | .old i raw::r,k,id,j,h=>by
  simp only [newOf] at h
  cases hb:Nat.beq i id with
  |true=>
   rw [hb] at h
   simp only [OL,OG] at h
   subst h
   have:=OR hb
   subst this
   exact ⟨by omega,raw,by simp⟩
  |false=>
   rw [hb,O0] at h
   obtain ⟨h1,h2⟩:=xg r (k+1) id j h
   refine ⟨by omega, ?_⟩
   rw [show j - k=(j - (k+1))+1 by omega,Py]
   exact h2
 | .new _::r,k,id,j,h=>by
  simp only [newOf] at h
  obtain ⟨h1,h2⟩:=xg r (k+1) id j h
  refine ⟨by omega, ?_⟩
  rw [show j - k=(j - (k+1))+1 by omega,Py]
  exact h2
theorem Bc (G:Nat->AV):∀(live:List Nat) (i:Nat),slot (live.map fun j=>(j,G j)) i=G i\/slot (live.map fun j=>(j,G j)) i= .dead
 |[],i=> .inr rfl
 |j::r,i=>by
  simp only [OX,slot]
  cases hb:Nat.beq i j with
  |true=>
   have:=OR hb
   subst this
   exact .inl rfl
  |false=>exact Bc G r i
theorem qT (m:List (Option Bk)) (src:List fC) (i:Nat):look (src.map (jQ m src)) i=(src[i]?).bind (jQ m src):=by
 unfold look
 rw [O6]
 cases src[i]? <;>simp
section
variable {E E':Env} {ρ:Nat->Option Nat}
theorem HE (hI:E'.I=E.I) (hw:E'.w=E.w) (hg:∀l,E.rg l->E'.rg l) (fR:∀id j,ρ id=some j->E'.kn j/\¬E'.dead j/\E'.loc j=E.loc id/\¬E.dead id/\E'.ln j=E.ln id):∀(d:Nat) {v:Value} {a:AV},aj E v a->aj E' v (fQ ρ d a):=by
 have hp:∀{v:Value} {a:AV},aj E v a->Pu a->aj E' v a:=fun h hp=>h.pure (fun b hb=>⟨by rw [hI];exact hb,fun o=>by rw [hw]⟩) hp
 intro d
 induction d with
 |zero=>intro v a h;exact .dead
 |succ d ih=>
  have fL:∀{vs:Array Value} {cs:List AV},vs.size=cs.length->(∀(i:Nat) v c,vs[i]? =some v->cs[i]? =some c->aj E v c)->vs.size=(cs.map (fQ ρ d)).length/\∀(i:Nat) v c,vs[i]? =some v->(cs.map (fQ ρ d))[i]? =some c->aj E' v c:=by
   intro vs cs hl h
   refine ⟨by simpa using hl,fun i v c hv hc=> ?_⟩
   rw [O6,OM] at hc
   obtain ⟨c0,kj,rfl⟩:=hc
   exact ih (h i v c0 hv kj)
  intro v a h
  cases a with
  |v x=>exact hp h .v
  |agg cs=>cases h with|agg hl hh=>obtain ⟨q1,q2⟩:=fL hl hh;exact .agg q1 q2
  |aK cs=>cases h with|aK hl hh=>obtain ⟨q1,q2⟩:=fL hl hh;exact .aK q1 q2
  |fn f cs=>cases h with|fn hl hh=>obtain ⟨q1,q2⟩:=fL hl hh;exact .fn q1 q2
  |bf f cs=>cases h with|bf hl hh=>obtain ⟨q1,q2⟩:=fL hl hh;exact .bf q1 q2
  |af r cs=>cases h with|af h1 h2 h3 hl hh=>obtain ⟨q1,q2⟩:=fL hl hh;exact .af (hg _ h1) (by rw [hI];exact h2) (by rw [hw];exact h3) q1 q2
  |aX sz els=>exact hp h .aX
  |ct sz els=>exact hp h .ct
  |emp=>exact hp h .emp
  |pim cs o=>exact hp h .pim
  |de=>exact hp h .de
  |dead=>exact .dead
  |ref id sz i o=>
   simp only [fQ]
   cases hr:ρ id with
   |none=>exact .dead
   |some j=>
    obtain ⟨r1,r2,r3,r4,r5⟩:=fR id j hr
    cases h with
    |ref hi hd hb hq=>exact .ref r1 r2 (r3.trans hb) hq
    |dR hi hd ho=>exact absurd hd r4
  |own id sz off n=>
   simp only [fQ]
   cases hr:ρ id with
   |none=>exact .dead
   |some j=>
    obtain ⟨r1,r2,r3,r4,r5⟩:=fR id j hr
    cases h with
    |own hi hd hb hq hs hm hl hc bn=>exact .own r1 r2 (r3.trans hb) hq (by rw [hw];exact hs) hm hl hc (by rw [r5];exact bn)
    |bT hi hd hb bn=>exact .bT r1 r2 (r3.trans hb) (r5.trans bn)
    |cp hi hd ho=>exact absurd hd r4
  |mp id=>
   simp only [fQ]
   cases hr:ρ id with
   |none=>exact .dead
   |some j=>
    obtain ⟨r1,r2,r3,r4,r5⟩:=fR id j hr
    cases h with
    |mp hi hd hb=>exact .mp r1 r2 (r3.trans hb)
    |gr hi hd ho=>exact absurd hd r4
end
def lB (m:List (Option Bk)):List fC->Prop
 |[]=>True
 | .old id true::r=>(∃(α:Type) (f:α->List AV) (xs:List α) (sz:Nat),look m id=some ⟨sz,xs.map f⟩/\∀y,(f y).all AV.pu1=true)/\lB m r
 |_::r=>lB m r
abbrev HF (m:List (Option Bk)) (id:Nat):Prop:=∃(α:Type) (f:α->List AV) (xs:List α) (sz:Nat),look m id=some ⟨sz,xs.map f⟩/\∀y,(f y).all AV.pu1=true
theorem pu {α:Type} {id:Nat} (sz:Nat) (f:α->List AV) (xs:List α) (h:look m id=some ⟨sz,xs.map f⟩) (hp:∀y,(f y).all AV.pu1=true):HF m id:=⟨α,f,xs,sz,h,hp⟩
theorem lB.get {m:List (Option Bk)}:∀{src:List fC},lB m src->∀(i id:Nat),src[i]? =some (.old id true)->∀B,look m id=some B->∀cs,cs∈B.els->∀c,c∈cs->Pu c
 |[],_,i,id,h,B,hB,cs,hcs,c,hc=>by simp at h
 | .new _::r,hp,i,id,h,B,hB,cs,hcs,c,hc=>by
  cases i with
  |zero=>simp at h
  |succ i=>exact lB.get (src:=r) hp i id (by simpa using h) B hB cs hcs c hc
 | .old _ false::r,hp,i,id,h,B,hB,cs,hcs,c,hc=>by
  cases i with
  |zero=>simp at h
  |succ i=>exact lB.get (src:=r) hp i id (by simpa using h) B hB cs hcs c hc
 | .old _ true::r,hp,i,id,h,B,hB,cs,hcs,c,hc=>by
  cases i with
  |zero=>
   simp only [Pg,OG,fC.old.injEq,and_true] at h
   subst h
   obtain ⟨⟨α,f,xs,sz,h1,h2⟩,_⟩:=hp
   rw [h1] at hB
   simp only [OG] at hB
   subst hB
   simp only [Pc] at hcs
   obtain ⟨y,_,rfl⟩:=hcs
   have:=h2 y
   simp only [ON] at this
   exact AV.qw (this c hc)
  |succ i=>exact lB.get (src:=r) hp.2 i id (by simpa using h) B hB cs hcs c hc
theorem Mk.same {E':Env} (hI:E'.I=E.I) (hw:E'.w=E.w) {lo:Nat} {ds:List Deferred} (h:Mk E lo ds):Mk E' lo ds:=by
 induction h with
 |nil=>exact .nil
 |cons h1 hD hh hne t ih=>exact .cons (by rw [hI];exact h1) hD (by rw [hw];exact hh) hne ih
theorem norm_le {live:List Nat} {src:List fC} {es:List (Nat×Nat)} {y:L3} (h:xf k0 live src es x=some y) (qU:lB x.m src):x.s.Le k0 n y.s:=by
 have hp:=qU.get
 unfold xf at h
 cases hok:srcOK k0 src with
 |false=>rw [hok] at h;simp at h
 |true=>
 rw [hok,OL,OG] at h
 subst h
 simp only [srcOK,OJ,ON,Pj] at hok
 obtain ⟨Be,HG⟩:=hok
 have inj:∀i id raw,src[i]? =some (.old id raw)->newOf src 0 id=some i:=by
  intro i id raw hi
  have hlt:i<src.length:=(OO.1 hi).1
  have:=Be i hlt
  rw [hi] at this
  simp only at this
  cases hn:newOf src 0 id with
  |none=>rw [hn] at this;simp at this
  |some j=>rw [hn] at this;simp only at this;rw [OR this]
 have low:∀i,i<k0->∃raw,src[i]? =some (.old i raw):=by
  intro i hi
  have:=HG i hi
  cases hs:src[i]? with
  |none=>rw [hs] at this;simp at this
  |some q=>
   cases q with
   |old id raw=>rw [hs] at this;simp only at this;exact ⟨raw,by rw [OR this]⟩
   |new sz=>rw [hs] at this;simp at this
 intro E0 J base w0 a w hk hr
 obtain ⟨E,rfl,hle,hs,hm,ba,hmk⟩:=hr.ex
 let E':Env:={ w:=E.w,kn:=fun i=>i<src.length,loc:=fun i=>pa E.loc (src[i]?),dead:=fun i=>look (src.map (jQ x.m src)) i=none,I:=E.I,ln:=fun i=>qR E.ln (src[i]?),rg:=E.rg,X:=E.X }
 have my:∀id,look x.m id≠none->E.kn id/\¬E.dead id:=fun id hid=>by
  obtain ⟨B,hB⟩:=Option.ne_none_iff_exists'.1 hid
  exact (hm.live id).2 ⟨B,hB⟩
 have fR:∀id j,kC x.m src id=some j->E'.kn j/\¬E'.dead j/\E'.loc j=E.loc id/\¬E.dead id/\E'.ln j=E.ln id:=by
  intro id j hj
  unfold kC at hj
  cases hB:look x.m id with
  |none=>rw [hB] at hj;simp at hj
  |some B=>
   rw [hB] at hj
   simp only [Option.isSome_some,OL] at hj
   obtain ⟨_,raw,h2⟩:=xg src 0 id j hj
   simp only [Nat.sub_zero] at h2
   refine ⟨(OO.1 h2).1, ?_, ?_,(my id (by rw [hB];simp)).2,by show qR E.ln (src[j]?)=_;rw [h2];rfl⟩
   ·show ¬look _ j=none
    rw [qT,h2];simp [jQ,hB]
   ·show pa E.loc (src[j]?)=_
    rw [h2];rfl
 have hR:∀(d:Nat) {v:Value} {a:AV},aj E v a->aj E' v (fQ (kC x.m src) d a):=HE (E:=E) (E':=E') rfl rfl (fun _ h=>h) fR
 have eV:∀i B',look (src.map (jQ x.m src)) i=some B'->(∃id raw B,src[i]? =some (.old id raw)/\look x.m id=some B/\B'=(bif raw then B else nS (kC x.m src) B)/\E'.loc i=E.loc id)\/(∃sz,src[i]? =some (.new sz)/\B'=⟨sz,[]⟩/\E'.loc i=none):=by
  intro i B' aL
  rw [qT] at aL
  cases hsi:src[i]? with
  |none=>rw [hsi] at aL;simp at aL
  |some q=>
   rw [hsi] at aL
   cases q with
   |old id raw=>
    simp only [PT,jQ,OM] at aL
    obtain ⟨B,hB,rfl⟩:=aL
    refine .inl ⟨id,raw,B,rfl,hB,rfl, ?_⟩
    show pa E.loc (src[i]?)=_
    rw [hsi];rfl
   |new sz=>
    simp only [PT,jQ,OG] at aL
    subst aL
    refine .inr ⟨sz,rfl,rfl, ?_⟩
    show pa E.loc (src[i]?)=_
    rw [hsi];rfl
 have hM:aE E' J base (look (src.map (jQ x.m src))):=by
  refine ⟨fun i=> ?_,fun i B' aL=> ?_,fun i i' b B1 B2 h1 h2 h3 h4=> ?_,fun i b B' aL hl=> ?_,hm.low,hm.size,fun i B' aL cJ=> ?_,hm.fk,fun b hb=>⟨(hm.xo b hb).1,(hm.xo b hb).2.1,fun i B' aL he=> ?_⟩⟩
  ·show (i<src.length/\¬look _ i=none)↔_
   constructor
   ·rintro ⟨_,h2⟩
    exact Option.ne_none_iff_exists'.1 h2
   ·rintro ⟨B,hB⟩
    refine ⟨?_,by rw [hB];simp⟩
    rw [qT] at hB
    cases hsi:src[i]? with
    |none=>rw [hsi] at hB;simp at hB
    |some q=>exact (OO.1 hsi).1
  ·rcases eV i B' aL with ⟨id,raw,B,e1,e2,lf,e4⟩|⟨sz,e1,rfl,e3⟩
   ·rw [e4]
    have:=hm.at_ id B e2
    have hsz:B'.sz=B.sz/\B'.els.length=B.els.length:=by subst lf;cases raw<;>simp [nS]
    have eJ:∀(i:Nat) ew,B'.els[i]? =some ew->∃cs,B.els[i]? =some cs/\ew.length=cs.length/\∀(j:Nat) c',ew[j]? =some c'->∃c,cs[j]? =some c/\∀u,aj E u c->aj E' u c':=by
     subst lf
     cases raw with
     |true=>
      intro i' cs hi
      refine ⟨cs,hi,rfl,fun j c hj=>⟨c,hj,fun u hu=> ?_⟩⟩
      exact aj.pure (E:=E) (E':=E') (fun b hb=>⟨hb,fun _=>rfl⟩) hu (hp i id e1 B e2 cs (Pd hi) c (Pd hj))
     |false=>
      intro i' ew hi
      simp only [O0,nS,O6,OM] at hi
      obtain ⟨cs,hcs,rfl⟩:=hi
      refine ⟨cs,hcs,by simp,fun j c' hj=> ?_⟩
      rw [O6,OM] at hj
      obtain ⟨c,hc,rfl⟩:=hj
      exact ⟨c,hc,fun u hu=>hR 3 hu⟩
    cases hl:E.loc id with
    |none=>
     rw [hl] at this
     show B'.els=[]
     have h0:B.els=[]:=this
     have:=hsz.2
     rw [h0] at this
     exact PU this
    |some b=>
     rw [hl] at this
     obtain ⟨q1,⟨hz,arr,t,q2,q3,q4⟩|⟨hz,HH,clock,q2,q3,q4⟩⟩:=this
     ·refine .iT ⟨q1,arr,t,q2,by rw [hsz.1,hsz.2];exact q3,fun i ew hi=> ?_⟩ (by rw [hsz.1];exact hz)
      obtain ⟨cs,hcs,hlen,fJ⟩:=eJ i ew hi
      obtain ⟨p1,p2⟩:=q4 i cs hcs
      refine ⟨by rw [hlen,hsz.1];exact p1,fun j c' hj=> ?_⟩
      obtain ⟨c,hc,cA⟩:=fJ j c' hj
      obtain ⟨u,u1,u2,u3⟩:=p2 j c hc
      exact ⟨u,by rw [hsz.1];exact u1,u2,cA u u3⟩
     ·refine .ofMap ⟨q1,HH,clock,q2,by rw [hsz.2];exact q3,fun i' e ew he hi=> ?_⟩ (by rw [hsz.1];exact hz)
      subst lf
      cases raw with
      |true=>
       obtain ⟨y,k1,k2,k3⟩:=q4 i' e ew he hi
       refine ⟨y,k1,k2,aj.pure (E:=E) (E':=E') (fun b hb=>⟨hb,fun _=>rfl⟩) k3 (hp i id e1 B e2 ew (Pd hi) y (by rw [k1];simp))⟩
      |false=>
       simp only [O0,nS,O6,OM] at hi
       obtain ⟨cs,hcs,rfl⟩:=hi
       obtain ⟨y,rfl,k2,k3⟩:=q4 i' e cs he hcs
       exact ⟨fQ (kC x.m src) 3 y,rfl,k2,hR 3 k3⟩
   ·rw [e3];rfl
  ·rcases eV i B1 h1 with ⟨id,raw,B,e1,e2,_,e4⟩|⟨sz,_,_,e3⟩
   ·rcases eV i' B2 h2 with ⟨b9,HI,B',f1,f2,_,f4⟩|⟨sz,_,_,f3⟩
    ·rw [e4] at h3;rw [f4] at h4
     have:=hm.apart id b9 b B B' e2 f2 h3 h4
     subst this
     have a1:=inj i id raw e1
     have a2:=inj i' id HI f1
     rw [a1] at a2
     exact Option.some.inj a2
    ·rw [f3] at h4;simp at h4
   ·rw [e3] at h3;simp at h3
  ·rcases eV i B' aL with ⟨id,raw,B,e1,e2,_,e4⟩|⟨sz,_,_,e3⟩
   ·rw [e4] at hl;exact hm.out id b B e2 hl
   ·rw [e3] at hl;simp at hl
  ·show _=qR E.ln (src[i]?)
   rcases eV i B' aL with ⟨id,raw,B,e1,e2,e3,e4⟩|⟨sz,e1,e2,e3⟩
   ·rw [e1];show _=E.ln id
    rw [<-hm.len id B e2 (by subst e3;cases raw<;>simpa [nS] using cJ),e3];cases raw<;>simp [nS]
   ·rw [e1,e2];rfl
  ·rcases eV i B' aL with ⟨id,raw,B,e1,e2,_,e4⟩|⟨sz,_,_,e3⟩
   ·rw [e4] at he;exact (hm.xo b hb).2.2 id B e2 he
   ·rw [e3] at he;simp at he
 have HJ:E0.Le E':=by
  have HK:∀id,E0.kn id->E'.loc id=E.loc id:=fun id hid=>by
   show pa E.loc (src[id]?)=_
   obtain ⟨raw,hl⟩:=low id (hk id hid)
   rw [hl];rfl
  have tg:∀id,E0.kn id->E.dead id->E'.dead id:=fun id hid hd=>by
   show look _ id=none
   obtain ⟨raw,hl⟩:=low id (hk id hid)
   rw [qT,hl]
   cases hB:look x.m id with
   |none=>simp [jQ,hB]
   |some B=>exact absurd hd (my id (by rw [hB];simp)).2
  refine ⟨fun id hid=>(low id (hk id hid)).elim fun _ hl=>(OO.1 hl).1,hle.cE,fun id hid hd=>tg id hid (hle.dead id hid hd),fun id hid hd=> ?_,fun id b hid hd hb=> ?_,fun id hid hd=> ?_,hle.rg,hle.fx⟩
  ·rcases hle.loc id hid hd with h|h
   ·exact .inl (tg id hid h)
   ·exact .inr ((HK id hid).trans h)
  ·rcases hle.shape id b hid hd hb with h|h
   ·exact .inl (tg id hid h)
   ·exact .inr h
  ·rcases hle.ln id hid hd with h|h
   ·exact .inl (tg id hid h)
   ·refine .inr (Eq.trans ?_ h)
    show qR E.ln (src[id]?)=_
    obtain ⟨raw,hl⟩:=low id (hk id hid)
    rw [hl];rfl
 have HL:Mk E' w0.heap.size a.defers:=Mk.same (E:=E) (E':=E') rfl rfl hmk
 refine ⟨⟨E',rfl,HJ,fun t=> ?_,hM,fun id hid=> ?_,HL⟩,hr.size,hr.below,hr.gl⟩
 ·show aj E' _ (slot (live.map fun j=>(j,td (kC x.m src) src es j (slot x.t j))) t)
  rcases Bc (fun j=>td (kC x.m src) src es j (slot x.t j)) live t with h|h
  ·rw [h]
   have ht:=hs t
   have ti:aj E (a.tmps.getD t undef) (slot x.t t):=ht
   have HM:aj E' (a.tmps.getD t undef) (fQ (kC x.m src) 4 (slot x.t t)):=hR 4 ti
   unfold td
   split
   ·rename_i i he hl
    rw [he] at ti
    split
    ·rename_i sz hsz
     obtain ⟨A,hA⟩:=qS ti
     rw [hA]
     have aL:look (src.map (jQ x.m src)) i=some ⟨sz,[]⟩:=by rw [qT,hsz];rfl
     have hz:sz≠0:=by
      have:=Be i (OO.1 hsz).1
      rw [hsz] at this
      have:=Pn this
      omega
     refine .bT (OO.1 hsz).1 (by show ¬look _ i=none;rw [aL];simp) ?_ ?_
     ·show pa E.loc (src[i]?)=_
      rw [hsz];rfl
     ·show qR E.ln (src[i]?)=_
      rw [hsz];rfl
    ·obtain ⟨A,hA⟩:=qS ti
     rw [hA]
     exact .emp
   ·exact HM
  ·rw [h];exact .dead
 ·show id<(src.map _).length
  rw [O7];exact hid
section
variable {P:Program} {n k0:Nat} {x:L3} {Q:Ex->L3->Prop}
theorem EL.norm {y:L3} (live:List Nat) (src:List fC) (es:List (Nat×Nat)) (h:xf k0 live src es x=some y) (qU:lB x.m src) (hy:EL P n k0 ac y Q):EL P n k0 ac x Q:=EL.fP (norm_le h qU) hy
end
section
variable {g:Nat->Option Bk}
end
def aQ (a b:AV):Prop:=∀(E:Env) (v:Value),aj E v a->aj E v b
theorem aQ.refl:aQ a a:=fun _ _ h=>h
theorem aQ.of_eq {b:AV} (h:a=b):aQ a b:=h▸aQ.refl
theorem aQ.trans {b c:AV} (h:aQ a b) (k:aQ b c):aQ a c:=fun E v r=>k E v (h E v r)
theorem aQ.emp {sz:Nat}:aQ .emp (.aX sz []):=fun E v h=>by
 obtain ⟨A,rfl⟩:=qS h
 exact .dD (by omega)
inductive eg:List AV->List AV->Prop
 |nil:eg [] []
 |cons {a b:AV} {r s:List AV} (h:aQ a b) (t:eg r s):eg (a::r) (b::s)
theorem eg.get {r:List AV} (h:eg r s):r.length=s.length/\∀(i:Nat) b,s[i]? =some b->∃a,r[i]? =some a/\aQ a b:=by
 induction h with
 |nil=>exact ⟨rfl,fun i b h=>by simp at h⟩
 |cons h t ih=>
  refine ⟨by simp [ih.1],fun i b hb=> ?_⟩
  cases i with
  |zero=>simp only [Pg,OG] at hb;subst hb;exact ⟨_,by simp,h⟩
  |succ i=>exact ih.2 i b (by simpa using hb)
theorem aQ.aK {r s:List AV} (h:eg r s):aQ (.aK r) (.aK s):=fun E v hv=>by
 cases hv with
 |aK hl hh=>exact .aK (hl.trans h.get.1) fun i u c hu hc=>let ⟨a,ha,xh⟩:=h.get.2 i c hc;xh _ _ (hh i u a hu ha)
theorem aQ.agg {r s:List AV} (h:eg r s):aQ (.agg r) (.agg s):=fun E v hv=>by
 cases hv with
 |agg hl hh=>exact .agg (hl.trans h.get.1) fun i u c hu hc=>let ⟨a,ha,xh⟩:=h.get.2 i c hc;xh _ _ (hh i u a hu ha)
theorem Fn.args {bz:List AV} (h:Fn P f as_ r) (ha:eg bz as_):Fn P f bz r:=fun w J vs hJ hG bJ=>
 h w J vs hJ hG ⟨bJ.1.trans ha.get.1,fun i u c hu hc=>let ⟨a,h1,h2⟩:=ha.get.2 i c hc;h2 _ _ (bJ.2 i u a hu h1)⟩
theorem Bf (hF:cFunc P f=some F) (hl:as_.length<=F.n)
  (h:EW P F.n 0 F.code ⟨cj as_,fun _=>none,0⟩ fun x s'=>(x= .normal\/x= .ret)/\∃r',((resR s'.σ F.res).bind gH).run s'.g=some r'/\aQ r' r):Fn P f as_ r:=by
 intro w J vs hJ hG bJ
 obtain ⟨fn,c,h1,h2,h3,h4,h5⟩:=qK hF
 have hm:aE (E0 w J) J w.heap.size (fun _=>none):=⟨fun id=>by simp [E0],fun id B hg=>by simp at hg,fun id b9 b B B' hg=>by simp at hg,fun id b B hg=>by simp at hg,fun b hb=>⟨hJ b hb, .inl hb⟩,OQ _,fun id B hg=>by simp at hg,fun _ h=>h.elim,fun _ h=>h.elim⟩
 refine qN h1 h2 (wpIn_mono (h none c (E0 w J) J w.heap.size w _ w (fun _=>rfl) h4 (fun id hid=>hid.elim) ⟨⟨E0 w J,rfl,Env.Le.refl _,o7 bJ _,hm,fun id hid=>hid.elim, .nil⟩, ?_,Pk _ _,hG⟩) ?_)
 ·simp only [Qv,QD,bJ.1];omega
 ·rintro e a' w' ⟨x,s',⟨hx,r',hr,HN⟩,rfl,hrel⟩
  obtain ⟨E1,rfl,hle,hs1,iA,hk,hmk⟩:=hrel.ex
  refine ⟨by rcases hx with rfl|rfl<;>simp [Ex.up],o8 _ E1 hmk fun E' hS=> ?_⟩
  have hM:=hS.mem iA
  have hs:=fun t=>hS.rep (hs1 t)
  obtain ⟨r0,eI,c8⟩:=cF hr
  obtain ⟨v,e1,e2⟩:=qJ hM hs h3 eI
  have hI:∀ids b,Handed E' s'.g ids b->J b\/(w.heap.size<=b/\b<E'.w.heap.size):=by
   intro ids b hb
   rcases hb with hb|⟨id,B,_,hg,hl⟩
   ·have:=hM.low b hb
    rcases this.2 with h|h
    ·exact .inl h
    ·exact .inr ⟨h,this.1⟩
   ·have:=hM.at_ id B hg
    rw [hl] at this
    exact .inr this.lt
  have cA:aj (Proofs.Ytimomnfobfjggaa.E0 E'.w fun b=>J b\/(w.heap.size<=b/\b<E'.w.heap.size)) v r:=by
   refine HN _ _ ?_
   cases r0 with
   |aK us=>
    simp only [gH] at c8
    obtain ⟨l,m1,m2⟩:=cF c8
    simp only [RM.run,OG] at m2;subst m2
    obtain ⟨k1,k2⟩:=qy hM _ m1 (hI _)
    cases e2 with
    |aK hl h=>
     refine .aK (by rw [k1];exact hl) fun i v c hv hc=> ?_
     have hi:i<us.length:=by rw [<-k1];exact (OO.1 hc).1
     exact k2 i v us[i] c (h i v _ hv (OV hi)) (OV hi) hc
   |_=>exact wC hM _ e2 c8 (hI _)
  exact ⟨v,e1,v,rfl,cA,hS.below (OQ _) hrel.below⟩
theorem fW (hF:cFunc P f=some F) (hl:as_.length<=F.n)
  (h:EL P F.n 0 F.code (start as_) fun e x=>(e= .normal\/e= .ret)/\∃r',((resR (slot x.t) F.res).bind gH).run (look x.m)=some r'/\aQ r' r):Fn P f as_ r:=by
 refine Bf hF hl (EW.fP (qQ as_ _ _) (EW.cP h ?_))
 rintro e s ⟨x',rfl,h1,h2⟩
 exact ⟨h1,h2⟩
theorem Bg (hF:cFunc P f=some F) (hl:as_.length<=F.n)
  (h:EW P F.n k F.code ⟨cj as_,g,k⟩ fun x s'=>(x= .normal\/x= .ret)/\∃y:S3,s'.Le k F.n y/\(resR y.σ F.res).run y.g=some r/\y.g=g'/\y.k=k'):Fi P f as_ g k r g' k':=by
 intro E J base vs hG hm ba bJ
 obtain ⟨fn,c,h1,h2,h3,h4,h5⟩:=qK hF
 refine qN h1 h2 (wpIn_mono (h none c E J base E.w _ E.w (fun _=>rfl) h4 ba ⟨⟨E,rfl,Env.Le.refl E,o7 bJ _,hm,ba, .nil⟩, ?_,Pk _ _,hG⟩) ?_)
 ·simp only [Qv,QD,bJ.1];omega
 ·rintro e a' w' ⟨x,s',⟨hx,y,hy,hr,rfl,rfl⟩,rfl,xi⟩
  have hrel:=hy E J base E.w a' w' ba xi
  obtain ⟨E',rfl,hle,hs,hM,hk,hmk⟩:=hrel.ex
  refine ⟨by rcases hx with rfl|rfl<;>simp [Ex.up],o8 _ E' hmk fun E2 hS=> ?_⟩
  have kB:=hS.mem hM
  obtain ⟨v,e1,e2⟩:=qJ kB (fun t=>hS.rep (hs t)) h3 hr
  exact ⟨v,e1,v,E2,rfl,rfl,hS.le hle (fun b hb=>(hm.low b hb).1) (fun b hb=>(hm.xo b hb).1),e2,kB,hS.below hm.size hrel.below,fun id hid=>hk id (by rw [<-hS.eqs.1];exact hid)⟩
theorem fV (hF:cFunc P f=some F) (hl:as_.length<=F.n)
  (h:EL P F.n m.length F.code ⟨gI 0 as_,m⟩ fun e x=>(e= .normal\/e= .ret)/\∃y:L3,x.s.Le m.length F.n y.s/\(resR (slot y.t) F.res).run (look y.m)=some r/\y.m=m'):Fi P f as_ (look m) m.length r (look m') m'.length:=by
 refine Bg hF hl (EW.fP (qQ as_ _ _) (EW.cP h ?_))
 rintro e s ⟨x',rfl,h1,y,h2,h3,rfl⟩
 exact ⟨h1,y.s,h2,h3,rfl,rfl⟩
section
variable {P:Program} {n k0:Nat} {x:L3} {K:L3->Prop} {R:List az} {k:Nat}
end
section
variable {o:az} {x:L3}
end
open Go.RowKit
def tj (sz:Nat):List az:=[⟨some 8, .mov (.s 0),none⟩,⟨some 9, .mov (.s 1),none⟩,⟨some 10, .mov (.s 2),none⟩,⟨some 11, .mov (.s 0),none⟩,⟨some 12, .len false (.s 11),none⟩,⟨some 13, .slc sz (.s 8) (some (.s 9)) (some (.s 10)) (some (.s 12)),none⟩]
def HO:List az:=[⟨some 14, .mov (.s 1),none⟩,⟨some 15, .mov (.s 2),none⟩,⟨some 16, .bin false .eql (.s 14) (.s 15),none⟩]
def HP:List az:=[⟨some 17, .mov (.s 0),none⟩,⟨some 6, .mov (.s 17),none⟩]
def tl:List az:=[⟨some 18, .mov (.s 0),none⟩,⟨some 19, .len false (.s 18),none⟩,⟨some 7, .mov (.s 19),none⟩]
def HQ (sz by_:Nat):List az:=[⟨some 20, .mov (.s 0),none⟩,⟨some 21, .mov (.s 1),none⟩,⟨some 22, .slc sz (.s 20) none (some (.s 21)) none,none⟩,⟨some 23, .mov (.s 0),none⟩,⟨some 24, .mov (.s 2),none⟩,⟨some 25, .slc sz (.s 23) (some (.s 24)) none none,none⟩,⟨some 26, .app sz by_ (.s 22) (.s 25),none⟩,⟨some 0, .mov (.s 26),none⟩]
def tm (sz:Nat) (zs:List AV):List az:=[⟨some 27, .mov (.s 0),none⟩,⟨some 28, .mov (.s 0),none⟩,⟨some 29, .len false (.s 28),none⟩,⟨some 30, .mov (.s 7),none⟩,⟨some 31, .slc sz (.s 27) (some (.s 29)) (some (.s 30)) none,none⟩,⟨none, .clr zs (.s 31),none⟩]
def HR:List az:=[⟨some 32, .mov (.s 0),none⟩,⟨some 6, .mov (.s 32),none⟩]
def HS:List (List Nat):=[[],[],[0,1],[],[],[3,4],[2,5,0,1,3,4],[6,0,1,2,3,4,5]]
def xj (sz by_:Nat) (zs:List AV):cT:=⟨33,[.tmp 6],
 .seq (.bK [⟨some 6, .mov (.c .emp),none⟩] none)
 (.seq (.bK (tj sz) none)
 (.seq (.seq (.bK HO none)
 (.cond (.s 16)
  (.seq (.bK HP none)
  (.ret))
  (.skip)))
 (.seq (.bK tl none)
 (.seq (.bK (HQ sz by_) (some HS))
 (.seq (.bK (tm sz zs) none)
 (.seq (.bK HR none)
 (.ret)))))))⟩
def lC (m:List (Option Bk)) (id:Nat) (B:Bk):List (Option Bk):=m.set id none++[none,some B]
theorem HT {id sz c t0:Nat} {els:List (List AV)} (hB:look x.m id=some ⟨sz,els⟩) (hc:c<=els.length) (hs:slot x.t t0= .own id sz 0 c) {y:L3} (hy:y.t=[(t0, .own x.m.length sz 0 c)]) (hm:y.m=x.m.set id none++[some ⟨sz,els.take c⟩]):x.s.Le k0 n y.s:=by
 intro E0 J base w0 a w hk hr
 obtain ⟨E,rfl,hle,cu,cY,ba,hmk⟩:=hr.ex
 have hid:id<x.m.length:=by
  rcases Ps id x.m.length with h|h
  ·exact h
  ·unfold look at hB;rw [P9 h] at hB;simp at hB
 have hf:¬E.kn x.m.length:=fun hh=>PW _ (ba _ hh)
 have hz0:sz≠0:=(show aj E (a.tmps.getD t0 undef) (.own id sz 0 c) by rw [<-hs];exact cu t0).sy ((cY.live id).2 ⟨_,hB⟩).2
 obtain ⟨E',hw,hE,hM,k1,k2,k3,k4,k5⟩:=cY.move hf id ⟨sz,els⟩ ⟨sz,els.take c⟩ hB E.w (fun _ _=>rfl) rfl (fun _ _=>rfl) (fun E' hE hw=>by
  have:=(cY.at_ id _ hB)
  cases hl:E.loc id with
  |none=>
   rw [hl] at this
   have h0:els=[]:=this
   show els.take c=[]
   rw [h0];simp
  |some b=>
   rw [hl] at this
   obtain ⟨q1,arr,t,q2,q3,q4⟩:=this.cells hz0
   refine .iT ⟨q1,arr,t,by rw [hw];exact q2, ?_,fun i cs hi=> ?_⟩ hz0
   ·refine Pe (Pa _ ?_) q3
    simp only [P0];omega
   ·have aO:els[i]? =some cs:=by
     simp only [PR] at hi
     split at hi
     ·exact hi
     ·simp at hi
    refine ⟨(q4 i cs aO).1,fun j x hj=> ?_⟩
    obtain ⟨u,u1,u2,u3⟩:=(q4 i cs aO).2 j x hj
    exact ⟨u,u1,u2,u3.step hE⟩)
 have hg:aA (look x.m) [(id,none),(x.m.length,some ⟨sz,els.take c⟩)]=look y.m:=by
  rw [hm]
  have e1:=wY x.m id none (by omega)
  rw [OI hid] at e1
  have e2:=wY (x.m.set id none) x.m.length (some ⟨sz,els.take c⟩) (by simp)
  rw [OH (by simp)] at e2
  rw [e2,e1]
  rfl
 have hM:=hg▸(show aE E' J base (aA (look x.m) [(id,none),(x.m.length,some ⟨sz,els.take c⟩)]) from hM)
 refine ⟨⟨E',hw,hle.trans hE,fun t=> ?_,hM,fun j hj=> ?_,hmk.step hE⟩,hr.size,hr.below,hr.gl⟩
 ·show aj E' _ (slot y.t t)
  rw [hy]
  simp only [slot]
  cases hb:Nat.beq t t0 with
  |false=>exact .dead
  |true=>
   have:=OR hb
   subst this
   have hv:=cu t
   have hv':aj E (a.tmps.getD t undef) (.own id sz 0 c):=by rw [<-hs];exact hv
   have my:=(cY.live id).2 ⟨_,hB⟩
   have hlen:c<=els.length:=hc
   simp only [OL]
   obtain ⟨vv,cd⟩:∃vv,vv=a.tmps.getD t undef:=⟨_,rfl⟩
   rw [<-cd] at hv' ⊢
   cases hv' with
   |cp hi hd=>exact absurd hd my.2
   |own hi hd hb hq nM dq hl hcc bn=>
    refine .own k1 k2 (k3.trans hb) hq (by rw [hw];exact nM) dq hl hcc (by rw [k5];simp only [P0];omega)
   |bT hi hd hb bn=>exact .bT k1 k2 (k3.trans hb) (by rw [k5];simp)
 ·show j<y.m.length
  rw [hm]
  simp only [PV,Qh,List.length_cons,List.length_nil]
  rcases k4 j hj with h|h
  ·have h':j<x.m.length:=ba j h
   omega
  ·omega
section
variable {o:az} {x:L3}
theorem nT {a:Arg} (h:aG σ a=VI n):cR (aG σ) (some a)=some (some n):=by
 simp only [cR,h,natOf]
 rw [OI (by omega)];simp
theorem Bh (a:Arg) (lo hi:Option Arg) (sz id off n l h:Nat) (jR aO:Option Nat) (B:Bk) (ho:o.ao= .slc sz a lo hi none) (hg:bR (slot x.t) o.guard=some true) (ha:aG (slot x.t) a= .own id sz off n) (gD:cR (aG (slot x.t)) lo=some jR) (eA:cR (aG (slot x.t)) hi=some aO) (gF:bounds n jR aO=some (l,h)) (hB:look x.m id=some B):
  dp o x= .done (.own id sz (off+l) (h - l)) [] [id]:=by
 have hn:cR (aG (slot x.t)) none=some none:=rfl
 have hs:(AO.slc sz a lo hi none).au x.m.length (aG (slot x.t))= .lv id (.ret (.done (.own id sz (off+l) (h - l)) [])):=by simp [AO.au,ha,gD,eA,hn,gF,RM.opt]
 exact lA _ (acc:=[]) (see:=[id]) ho hg (by rw [hs];simp [RM.run,hB]) (by rw [hs];rfl) (by rw [hs];rfl)
theorem HU (a:Arg) (lo hi:Option Arg) (mx:Arg) (sz id off n l h mm:Nat) (jR aO:Option Nat) (B:Bk) (ho:o.ao= .slc sz a lo hi (some mx)) (hg:bR (slot x.t) o.guard=some true) (ha:aG (slot x.t) a= .own id sz off n) (gD:cR (aG (slot x.t)) lo=some jR) (eA:cR (aG (slot x.t)) hi=some aO) (gV:cR (aG (slot x.t)) (some mx)=some (some mm)) (gF:bounds n jR aO=some (l,h)) (hB:look x.m id=some B) (h1:B.els.length<=off+mm) (h2:h<=mm/\mm<=n) (h3:mm≠l) (ki:B.sz=sz:=by rfl):
  dp o x= .done (.own id sz (off+l) (h - l)) [] [id,id]:=by
 have hs:(AO.slc sz a lo hi (some mx)).au x.m.length (aG (slot x.t))= .lv id (.rd id fun B=>if B.sz=sz/\B.els.length<=off+mm then .ret (.done (.own id sz (off+l) (h - l)) []) else .fail):=by
  simp [AO.au,ha,gD,eA,gV,gF,RM.opt,h2,h3]
 exact lA _ (acc:=[id]) (see:=[id]) ho hg (by rw [hs];simp [RM.run,hB,h1,ki]) (by rw [hs];simp [RM.acc,hB,h1,ki]) (by rw [hs];simp [RM.see,hB,h1,ki])
theorem HV (a:Arg) (lo hi:Option Arg) (sz id off n l h:Nat) (jR:Option Nat) (hh:Nat) (B:Bk) (ho:o.ao= .slc sz a lo hi none) (hg:bR (slot x.t) o.guard=some true) (ha:aG (slot x.t) a= .own id sz off n) (gD:cR (aG (slot x.t)) lo=some jR) (eA:cR (aG (slot x.t)) hi=some (some hh)) (eL:bounds n jR (some hh)=none) (hB:look x.m id=some B) (gF:bounds (B.els.length - off) jR (some hh)=some (l,h)) (ki:B.sz=sz:=by rfl):
  dp o x= .done (.own id sz (off+l) (h - l)) [] [id,id]:=by
 have hn:cR (aG (slot x.t)) none=some none:=rfl
 have hs:(AO.slc sz a lo hi none).au x.m.length (aG (slot x.t))= .lv id (.rd id fun B=>if B.sz=sz then .opt ((bounds (B.els.length - off) jR (some hh)).map fun b=> .done (.own id sz (off+b.1) (b.2 - b.1)) []) else .fail):=by simp [AO.au,ha,gD,eA,hn,eL]
 exact lA _ (acc:=[id]) (see:=[id]) ho hg (by rw [hs];simp [RM.run,RM.opt,hB,gF,ki]) (by rw [hs];simp [RM.acc,RM.opt,hB,gF,ki]) (by rw [hs];simp [RM.see,RM.opt,hB,gF,ki])
theorem HW (s a:Arg) (sz by_ id off n:Nat) (els ys:List (List AV)) (w:AV) (acc:List Nat) (ho:o.ao= .app sz by_ s a) (hg:bR (slot x.t) o.guard=some true) (hs:aG (slot x.t) s= .own id sz off n) (ha:aG (slot x.t) a=w) (c1:(content sz w).run (look x.m)=some ys) (c2:(content sz w).acc (look x.m)=acc) (c3:(content sz w).see (look x.m)=[])
  (hB:look x.m id=some ⟨sz,els⟩) (eL:¬(off=0/\n=els.length)) (hfit:off+n+ys.length<=els.length):
  dp o x= .done (.own id sz off (n+ys.length)) [(id,some ⟨sz,els.take (off+n)++ys++els.drop (off+n+ys.length)⟩),(x.m.length,none)] (acc++[id]):=by
 let F:List (List AV)->RM Out:=fun ys=> .rd id fun B=>if sz=sz/\B.sz=sz/\off=0/\n=B.els.length/\(n+ys.length)*by_<=140737488355328 then .ret (.done (.own x.m.length sz 0 (n+ys.length)) [(id,none),(x.m.length,some ⟨sz,B.els++ys⟩)])
  else if sz=sz/\B.sz=sz/\off+n+ys.length<=B.els.length then .ret (.done (.own id sz off (n+ys.length)) [(id,some ⟨B.sz,B.els.take (off+n)++ys++B.els.drop (off+n+ys.length)⟩),(x.m.length,none)]) else .fail
 have dg:(AO.app sz by_ s a).au x.m.length (aG (slot x.t))=(content sz w).bind F:=by simp [AO.au,hs,ha,F]
 obtain ⟨r1,r2,r3⟩:=run_bind (f:=F) _ c1
 have xk:¬(off=0/\n=els.length/\(n+ys.length)*by_<=140737488355328):=fun h=>eL ⟨h.1,h.2.1⟩
 have HX:(F ys).run (look x.m)=some (.done (.own id sz off (n+ys.length)) [(id,some ⟨sz,els.take (off+n)++ys++els.drop (off+n+ys.length)⟩),(x.m.length,none)]):=by
  simp only [F,RM.run,hB,true_and];rw [OH xk,OI hfit];rfl
 have HZ:(F ys).acc (look x.m)=[id]:=by
  simp only [F,RM.acc,hB,true_and];rw [OH xk,OI hfit];rfl
 have H0:(F ys).see (look x.m)=[]:=by
  simp only [F,RM.see,hB,true_and];rw [OH xk,OI hfit];rfl
 have:=lA (AO.app sz by_ s a) (o:=o) (x:=x) (acc:=acc++[id]) (see:=[]) ho hg (by rw [dg,r1];exact HX) (by rw [dg,r2,c2,HZ]) (by rw [dg,r3,c3,H0];rfl)
 simpa using this
theorem H2 (zs:List AV) (a:Arg) (sz id off n:Nat) (els:List (List AV)) (ho:o.ao= .clr zs a) (hg:bR (slot x.t) o.guard=some true) (hz:zs.length=sz) (ha:aG (slot x.t) a= .own id sz off n) (hB:look x.m id=some ⟨sz,els⟩) (hfit:off+n<=els.length):
  dp o x= .done (.v undef) [(id,some ⟨sz,els.take off++List.replicate n zs++els.drop (off+n)⟩)] [id]:=by
 subst hz
 have hs:(AO.clr zs a).au x.m.length (aG (slot x.t))= .rd id fun B=>if B.sz=zs.length/\off+n<=B.els.length then .ret (.done (.v undef) [(id,some ⟨B.sz,B.els.take off++List.replicate n zs++B.els.drop (off+n)⟩)]) else .fail:=by simp [AO.au,ha]
 exact lA _ (acc:=[id]) (see:=[]) ho hg (by rw [hs];simp [RM.run,hB,hfit]) (by rw [hs];simp [RM.acc,hB,hfit]) (by rw [hs];simp [RM.see,hB,hfit])
end
section
variable {P:Program} {sz by_:Nat} {zs:List AV} {m:List (Option Bk)} {id i:Nat} {els:List (List AV)}
theorem H3 {B:Bk} (hB:look m id=some B):id<m.length:=by
 rcases Ps id m.length with h|h
 ·exact h
 ·unfold look at hB;rw [P9 h] at hB;simp at hB
theorem H4 (hF:cFunc P f=some (xj sz by_ zs)) (hz:zs.length=sz) (hB:look m id=some ⟨sz,els⟩) (hi:i<els.length) (hb:els.length<=4611686018427387904):
  Fi P f [.own id sz 0 els.length,VI i,VI (i+1:Nat)] (look m) m.length (.own (m.length+1) sz 0 (els.length - 1)) (look (lC m id ⟨sz,els.eraseIdx i⟩)) (lC m id ⟨sz,els.eraseIdx i⟩).length:=by
 have hid:=H3 hB
 have e1:((i:Int)).toNat=i:=by omega
 have e2:(((i+1:Nat):Int)).toNat=i+1:=by omega
 have e3:((els.length:Int)).toNat=els.length:=by omega
 have p1:(0:Int)<=(i:Int):=by omega
 have p2:(0:Int)<=((i+1:Nat):Int):=by omega
 have p3:(0:Int)<=(els.length:Int):=by omega
 refine fV hF (by show 3<=33;omega) ?_
 refine EL.aq ?_
 refine OW.last 1 [0,1,2] (x':=⟨[(0, .own id sz 0 els.length),(1,VI i),(2,VI (i+1:Nat))],m⟩) (by kernel_rfl) (by kernel_rfl) ?_
 refine EL.aq ?_
 refine OW.run 4 (x':=⟨[(11, .own id sz 0 els.length),(10,VI (i+1:Nat)),(9,VI i),(8, .own id sz 0 els.length),(0, .own id sz 0 els.length),(1,VI i),(2,VI (i+1:Nat))],m⟩) (by kernel_rfl) ?_
 refine OW.fB (v:=VI els.length) (u:=[]) (acc:=[id]) (x':=⟨[(12,VI els.length),(11, .own id sz 0 els.length),(10,VI (i+1:Nat)),(9,VI i),(8, .own id sz 0 els.length),(0, .own id sz 0 els.length),(1,VI i),(2,VI (i+1:Nat))],m⟩) (by kernel_rfl) (lA _ (acc:=[]) (see:=[id]) rfl rfl (by simp [opD,tj,AO.au,aG,slot,RM.run,hB,goInt]) (by simp [opD,tj,AO.au,aG,slot,RM.acc]) (by simp [opD,tj,AO.au,aG,slot,RM.see])) (by kernel_rfl) ?_
 refine OW.fB (v:= .own id sz (0+i) (i+1 - i)) (u:=[]) (acc:=[id,id]) (x':=⟨[(13, .own id sz (0+i) (i+1 - i)),(12,VI els.length),(11, .own id sz 0 els.length),(10,VI (i+1:Nat)),(9,VI i),(8, .own id sz 0 els.length),(0, .own id sz 0 els.length),(1,VI i),(2,VI (i+1:Nat))],m⟩) (by kernel_rfl)
  (HU (.s 8) (some (.s 9)) (some (.s 10)) (.s 12) sz id 0 els.length i (i+1) els.length (some i) (some (i+1)) ⟨sz,els⟩ rfl rfl rfl (nT (by rfl)) (nT (by rfl)) (nT (by rfl)) (by simp [bounds];omega) hB (by simp) ⟨by omega,by omega⟩ (by omega)) (by kernel_rfl) ?_
 refine OW.last 0 [0,1,2] (x':=⟨[(0, .own id sz 0 els.length),(1,VI i),(2,VI (i+1:Nat))],m⟩) (by kernel_rfl) (by kernel_rfl) ?_
 refine EL.seq ?_
 refine EL.aq ?_
 refine OW.last 3 [0,1,2,16] (x':=⟨[(16, .v (.bool ((i:Int)==((i+1:Nat):Int)))),(0, .own id sz 0 els.length),(1,VI i),(2,VI (i+1:Nat))],m⟩) (by kernel_rfl) (by kernel_rfl) ?_
 have hne:((i:Int)==((i+1:Nat):Int))=false:=by simp;omega
 rw [hne]
 refine EL.aJ (by kernel_rfl) ?_
 refine EL.skip ?_
 refine tN ?_
 refine EL.aq ?_
 refine OW.run 1 (x':=⟨[(18, .own id sz 0 els.length),(16, .v (.bool false)),(0, .own id sz 0 els.length),(1,VI i),(2,VI (i+1:Nat))],m⟩) (by kernel_rfl) ?_
 refine OW.fB (v:=VI els.length) (u:=[]) (acc:=[id]) (x':=⟨[(19,VI els.length),(18, .own id sz 0 els.length),(16, .v (.bool false)),(0, .own id sz 0 els.length),(1,VI i),(2,VI (i+1:Nat))],m⟩) (by kernel_rfl) (lA _ (acc:=[]) (see:=[id]) rfl rfl (by simp [opD,tl,AO.au,aG,slot,RM.run,hB,goInt]) (by simp [opD,tl,AO.au,aG,slot,RM.acc]) (by simp [opD,tl,AO.au,aG,slot,RM.see])) (by kernel_rfl) ?_
 refine OW.last 1 [0,1,2,7] (x':=⟨[(7,VI els.length),(0, .own id sz 0 els.length),(1,VI i),(2,VI (i+1:Nat))],m⟩) (by kernel_rfl) (by kernel_rfl) ?_
 refine EL.Ba ?_
 refine DW.run 2 (x':=⟨[(21,VI i),(20, .own id sz 0 els.length),(7,VI els.length),(0, .own id sz 0 els.length),(1,VI i),(2,VI (i+1:Nat))],m⟩) (by kernel_rfl) ?_
 refine DW.fB (v:= .own id sz (0+0) (i - 0)) (u:=[]) (acc:=[id]) (x':=⟨[(22, .own id sz (0+0) (i - 0)),(21,VI i),(20, .own id sz 0 els.length),(7,VI els.length),(0, .own id sz 0 els.length),(1,VI i),(2,VI (i+1:Nat))],m⟩) (by kernel_rfl)
  (Bh (.s 20) none (some (.s 21)) sz id 0 els.length 0 i none (some i) ⟨sz,els⟩ rfl rfl rfl rfl (nT (by rfl)) (by simp [bounds];omega) hB) (by kernel_rfl) ?_
 refine DW.run 2 (x':=⟨[(24,VI (i+1:Nat)),(23, .own id sz 0 els.length),(22, .own id sz (0+0) (i - 0)),(21,VI i),(20, .own id sz 0 els.length),(7,VI els.length),(0, .own id sz 0 els.length),(1,VI i),(2,VI (i+1:Nat))],m⟩) (by kernel_rfl) ?_
 refine DW.fB (v:= .own id sz (0+(i+1)) (els.length - (i+1))) (u:=[]) (acc:=[id]) (x':=⟨[(25, .own id sz (0+(i+1)) (els.length - (i+1))),(24,VI (i+1:Nat)),(23, .own id sz 0 els.length),(22, .own id sz (0+0) (i - 0)),(21,VI i),(20, .own id sz 0 els.length),(7,VI els.length),(0, .own id sz 0 els.length),(1,VI i),(2,VI (i+1:Nat))],m⟩) (by kernel_rfl)
  (Bh (.s 23) (some (.s 24)) none sz id 0 els.length (i+1) els.length (some (i+1)) none ⟨sz,els⟩ rfl rfl rfl (nT (by rfl)) rfl (by simp [bounds];omega) hB) (by kernel_rfl) ?_
 obtain ⟨ys,ko⟩:∃ys,ys=(els.drop (0+(i+1))).take (els.length - (i+1)):=⟨_,rfl⟩
 have AJ:ys.length=els.length - (i+1):=by rw [ko];simp
 obtain ⟨gJ,xl⟩:∃gJ,gJ=els.take (0+0+(i - 0))++ys++els.drop (0+0+(i - 0)+ys.length):=⟨_,rfl⟩
 have tn:gJ.length=els.length:=by rw [xl];simp;omega
 obtain ⟨m2,gw⟩:∃m2,m2=m.set id (some ⟨sz,gJ⟩)++[none]:=⟨_,rfl⟩
 have eB:dI m [(id,some ⟨sz,gJ⟩),(m.length,none)]=m2:=by
  simp only [dI]
  rw [OI hid,OH (by simp),gw]
 have pb:m2.length=m.length+1:=by rw [gw];simp
 have xm:look m2 id=some ⟨sz,gJ⟩:=by
  rw [gw];unfold look
  rw [PB (by simpa using hid)]
  simp [hid]
 have nU:(content sz (.own id sz (0+(i+1)) (els.length - (i+1)))).run (look m)=some ys:=by
  simp only [content,RM.run,hB,true_and];rw [OI (by omega),ko];rfl
 have xn:(content sz (.own id sz (0+(i+1)) (els.length - (i+1)))).acc (look m)=[id]:=by
  simp only [content,RM.acc,hB,true_and];rw [OI (by omega)];rfl
 have xp:(content sz (.own id sz (0+(i+1)) (els.length - (i+1)))).see (look m)=[]:=by
  simp only [content,RM.see,hB,true_and];rw [OI (by omega)];rfl
 have pc:upsOK m.length [(id,some (⟨sz,gJ⟩:Bk)),(m.length,none)]=true:=by
  simp only [upsOK];rw [OI hid];simp;omega
 refine DW.fB (v:= .own id sz (0+0) (i - 0+ys.length)) (u:=[(id,some ⟨sz,gJ⟩),(m.length,none)]) (acc:=[id]++[id]) (x':=⟨[(26, .own id sz (0+0) (i - 0+ys.length)),(25, .own id sz (0+(i+1)) (els.length - (i+1))),(24,VI (i+1:Nat)),(23, .own id sz 0 els.length),(22, .own id sz (0+0) (i - 0)),(21,VI i),(20, .own id sz 0 els.length),(7,VI els.length),(0, .own id sz 0 els.length),(1,VI i),(2,VI (i+1:Nat))],m2⟩) (by kernel_rfl)
  (by rw [xl];exact HW (.s 22) (.s 25) sz by_ id (0+0) (i - 0) els ys _ [id] rfl rfl rfl rfl nU xn xp hB (by rintro ⟨_,h⟩;omega) (by omega)) (by
   show (bif dstOK 33 (some 26)&&upsOK m.length [(id,some (⟨sz,gJ⟩:Bk)),(m.length,none)] then _ else _)=_
   rw [pc,eB];rfl) ?_
 obtain ⟨t3,Od⟩:∃t3:List (Nat×AV),t3=[(0, .own id sz (0+0) (i - 0+ys.length)),(2,VI (i+1:Nat)),(7,VI els.length)]:=⟨_,rfl⟩
 refine DW.last 1 [0,7] (x':=⟨[(0, .own id sz (0+0) (i - 0+ys.length)),(7,VI els.length)],m2⟩) (by kernel_rfl) (by kernel_rfl) ?_
 have q1:i - 0+ys.length=els.length - 1:=by omega
 rw [q1]
 refine EL.aq ?_
 refine OW.run 2 (x':=⟨[(28, .own id sz (0+0) (els.length - 1)),(27, .own id sz (0+0) (els.length - 1)),(0, .own id sz (0+0) (els.length - 1)),(7,VI els.length)],m2⟩) (by kernel_rfl) ?_
 refine OW.fB (v:=VI (els.length - 1:Nat)) (u:=[]) (acc:=[id]) (x':=⟨[(29,VI (els.length - 1:Nat)),(28, .own id sz (0+0) (els.length - 1)),(27, .own id sz (0+0) (els.length - 1)),(0, .own id sz (0+0) (els.length - 1)),(7,VI els.length)],m2⟩) (by kernel_rfl) (lA _ (acc:=[]) (see:=[id]) rfl rfl (by simp [opD,tm,AO.au,aG,slot,RM.run,xm,goInt]) (by simp [opD,tm,AO.au,aG,slot,RM.acc]) (by simp [opD,tm,AO.au,aG,slot,RM.see])) (by kernel_rfl) ?_
 refine OW.run 1 (x':=⟨[(30,VI els.length),(29,VI (els.length - 1:Nat)),(28, .own id sz (0+0) (els.length - 1)),(27, .own id sz (0+0) (els.length - 1)),(0, .own id sz (0+0) (els.length - 1)),(7,VI els.length)],m2⟩) (by kernel_rfl) ?_
 refine OW.fB (v:= .own id sz (0+0+(els.length - 1)) (els.length - (els.length - 1))) (u:=[]) (acc:=[id,id]) (x':=⟨[(31, .own id sz (0+0+(els.length - 1)) (els.length - (els.length - 1))),(30,VI els.length),(29,VI (els.length - 1:Nat)),(28, .own id sz (0+0) (els.length - 1)),(27, .own id sz (0+0) (els.length - 1)),(0, .own id sz (0+0) (els.length - 1)),(7,VI els.length)],m2⟩) (by kernel_rfl)
  (HV (.s 27) (some (.s 29)) (some (.s 30)) sz id (0+0) (els.length - 1) (els.length - 1) els.length (some (els.length - 1)) els.length ⟨sz,gJ⟩ rfl rfl rfl (nT (by rfl)) (nT (by rfl)) (by simp only [bounds,PA];rw [OH (by omega)]) xm (by simp only [bounds,PA];rw [OI ⟨by omega,by show _<=gJ.length - (0+0);omega⟩])) (by kernel_rfl) ?_
 obtain ⟨fa,xq⟩:∃fa,fa=gJ.take (0+0+(els.length - 1))++List.replicate (els.length - (els.length - 1)) zs++gJ.drop (0+0+(els.length - 1)+(els.length - (els.length - 1))):=⟨_,rfl⟩
 have Bi:id<m2.length:=by omega
 have H5:dI m2 [(id,some ⟨sz,fa⟩)]=m2.set id (some ⟨sz,fa⟩):=by
  simp only [dI];rw [OI Bi]
 have H6:upsOK m2.length [(id,some (⟨sz,fa⟩:Bk))]=true:=by simp [upsOK];omega
 refine OW.fB (v:= .v undef) (u:=[(id,some ⟨sz,fa⟩)]) (acc:=[id]) (x':=⟨[(31, .own id sz (0+0+(els.length - 1)) (els.length - (els.length - 1))),(30,VI els.length),(29,VI (els.length - 1:Nat)),(28, .own id sz (0+0) (els.length - 1)),(27, .own id sz (0+0) (els.length - 1)),(0, .own id sz (0+0) (els.length - 1)),(7,VI els.length)],m2.set id (some ⟨sz,fa⟩)⟩) (by kernel_rfl)
  (by rw [xq];exact H2 zs (.s 31) sz id (0+0+(els.length - 1)) (els.length - (els.length - 1)) gJ rfl rfl hz rfl xm (by omega)) (by
   show (bif dstOK 33 none&&upsOK m2.length [(id,some (⟨sz,fa⟩:Bk))] then _ else _)=_
   rw [H6,H5];rfl) ?_
 refine OW.last 0 [0] (x':=⟨[(0, .own id sz (0+0) (els.length - 1))],m2.set id (some ⟨sz,fa⟩)⟩) (by kernel_rfl) (by kernel_rfl) ?_
 refine EL.aq ?_
 refine OW.last 2 [6] (x':=⟨[(6, .own id sz (0+0) (els.length - 1))],m2.set id (some ⟨sz,fa⟩)⟩) (by kernel_rfl) (by kernel_rfl) ?_
 refine EL.ret ?_
 have Oe:fa.length=els.length:=by rw [xq];simp;omega
 have H7:look (m2.set id (some ⟨sz,fa⟩)) id=some ⟨sz,fa⟩:=by
  unfold look;simp [Bi]
 have mG:fa.take (els.length - 1)=els.eraseIdx i:=by
  have h1:fa.take (els.length - 1)=gJ.take (els.length - 1):=by
   rw [xq,PZ,List.take_append_of_le_length (by simp;omega),Pz,OZ,List.take_take,Nat.min_self]
  rw [h1,xl]
  have h2:els.length - 1=i+ys.length:=by omega
  rw [h2,List.take_append_of_le_length (by simp;omega)]
  rw [Qa (by simp;omega)]
  rw [List.eraseIdx_eq_take_drop_succ,ko]
  congr 1
  ·simp
  ·rw [OZ]
   exact Qa (by simp)
 refine ⟨.inr rfl,⟨[(6, .own (m2.set id (some ⟨sz,fa⟩)).length sz 0 (els.length - 1))],(m2.set id (some ⟨sz,fa⟩)).set id none++[some ⟨sz,fa.take (els.length - 1)⟩]⟩,HT (t0:=6) H7 (by omega) rfl rfl rfl, ?_, ?_⟩
 ·simp only [Qh,pb];rfl
 ·rw [mG,gw]
  simp only [lC]
  rw [List.set_set,List.set_append,OI (by simpa using hid),List.set_set]
  simp
theorem H8 {α:Type} {fe:α->List AV} {xs:List α} (hF:cFunc P f=some (xj sz by_ zs)) (hz:zs.length=sz) (hB:look m id=some ⟨sz,xs.map fe⟩) {n:Int} (h0:0<=n) (h1:n<xs.length) (hb:xs.length<=1000000):
  Fi P f [.own id sz 0 xs.length,VI n,VI (n+1)] (look m) m.length (.own (m.length+1) sz 0 (xs.eraseIdx n.toNat).length) (look (lC m id ⟨sz,(xs.eraseIdx n.toNat).map fe⟩)) (lC m id ⟨sz,(xs.eraseIdx n.toNat).map fe⟩).length:=by
 have e0:((n.toNat:Nat):Int)=n:=by omega
 have e1:((n.toNat+1:Nat):Int)=n+1:=by omega
 have h:=H4 (P:=P) (f:=f) (i:=n.toNat) (els:=xs.map fe) hF hz hB (by simp;omega) (by simp;omega)
 rw [e0,e1,O7] at h
 have e2:(xs.map fe).eraseIdx n.toNat=(xs.eraseIdx n.toNat).map fe:=by
  rw [List.eraseIdx_eq_take_drop_succ,List.eraseIdx_eq_take_drop_succ,PL,List.map_take,List.map_drop]
 have e3:(xs.eraseIdx n.toNat).length=xs.length - 1:=by rw [List.length_eraseIdx,OI (by omega)]
 rw [e2] at h
 rw [e3]
 exact h
end
open Go.RowKit
section
variable {o:az} {x:L3}
end
open Go.RowKit
def cy (hs:List (Option Nat)) (i:Nat):Bool:=match hs[i]? with|some (some _)=>true|_=>false
inductive eM (P:Program) (n:Nat):List az->(Nat->AV)->(Nat->Option Bk)->Nat->List Rec->List (Option Nat)->(Nat->AV)->(Nat->Option Bk)->Nat->Prop
 |nil {σ:Nat->AV} {g:Nat->Option Bk} {k:Nat}:eM P n [] σ g k [] [] σ g k
 |cons {o:az} {os:List az} {σ σ':Nat->AV} {g g':Nat->Option Bk} {k k1 k':Nat} {val:AV} {ups:List (Nat×Option Bk)} {acc:List Nat} {rs:List Rec} {hs:List (Option Nat)} (h:dt P σ g k o val ups acc) (hk:k<=k1) (hu:∀id,id∈ups.map Prod.fst->id<k1)
   (hr:eM P n os (bG n o.dst val σ) (aA g ups) k1 rs hs σ' g' k'):eM P n (o::os) σ g k (⟨o.dst,val,ups,acc,k⟩::rs) (none::hs) σ' g' k'
 |fi {o:az} {os:List az} {σ σ':Nat->AV} {g g':Nat->Option Bk} {k k1 k':Nat} {r:AV} {f:FuncId} {as_:List AV} {ups:List (Nat×Option Bk)} {rs:List Rec} {hs:List (Option Nat)} (hg:bR σ o.guard=some true) (hal:o.ao.allocs=false) (h:(o.ao.au k (aG σ)).run g=some (.call f as_)) (hc:bL P f=true) (hf:Fi P f as_ g k r (aA g ups) k1) (hk:k<=k1) (hu:∀id,id∈ups.map Prod.fst->id<k1)
   (hr:eM P n os (bG n o.dst r σ) (aA g ups) k1 rs hs σ' g' k'):eM P n (o::os) σ g k (⟨o.dst,r,ups,[],k⟩::rs) (some k1::hs) σ' g' k'
def qV (P:Program) (n:Nat) (σ:Nat->AV) (g:Nat->Option Bk) (rs:List Rec) (hs:List (Option Nat)) (i:Nat) (o:az) (r:Rec):Prop:=
 (hs[i]? =some none/\dt P (bH n (upto i) rs σ) (bE (upto i) rs g) r.fr o r.val r.ups r.acc)\/
 ∃f as_ k1,hs[i]? =some (some k1)/\bR (bH n (upto i) rs σ) o.guard=some true/\o.ao.allocs=false/\(o.ao.au r.fr (aG (bH n (upto i) rs σ))).run (bE (upto i) rs g)=some (.call f as_)/\bL P f=true/\Fi P f as_ (bE (upto i) rs g) r.fr r.val (aA (bE (upto i) rs g) r.ups) k1
theorem tp {os:List az} {σ':Nat->AV} {hs:List (Option Nat)} (h:eM P n os σ g k rs hs σ' g' k'):
  (rs.length=os.length/\hs.length=os.length)/\k<=k'/\(∀(i:Nat) o,os[i]? =some o->∃r,rs[i]? =some r/\r.dst=o.dst/\qV P n σ g rs hs i o r/\k<=r.fr)/\
   (∀(i j:Nat) ri rj,i<j->rs[i]? =some ri->rs[j]? =some rj->(∀id,id∈ri.keys->id<rj.fr)/\∀k1,hs[i]? =some (some k1)->k1<=rj.fr)/\(∀(i:Nat) r,rs[i]? =some r->(∀id,id∈r.keys->id<k')/\∀k1,hs[i]? =some (some k1)->k1<=k')/\σ'=bH n (fun _=>true) rs σ/\g'=bE (fun _=>true) rs g:=by
 induction h with
 |nil=>exact ⟨⟨rfl,rfl⟩,OQ _,fun i o ho=>by simp at ho,fun i j ri rj _ h=>by simp at h,fun i r h=>by simp at h,rfl,rfl⟩
 | @cons o os σ σ' g g' k k1 k' val ups acc rs hs h hk hu hr ih=>
  obtain ⟨⟨i1,xr⟩,i2,i3,i4,i5,i6,i7⟩:=ih
  have e1:∀i,bH n (upto (i+1)) (⟨o.dst,val,ups,acc,k⟩::rs) σ=bH n (upto i) rs (bG n o.dst val σ):=by
   intro i;funext t
   show dh _ _ 1 rs _=_
   rw [iD]
   unfold bH
   congr 1
   ·funext j;simp [upto]
   ·rw [OI (by simp [upto])];exact (lp n t ⟨o.dst,val,ups,acc,k⟩ σ).symm
  have e2:∀i,bE (upto (i+1)) (⟨o.dst,val,ups,acc,k⟩::rs) g=bE (upto i) rs (aA g ups):=by
   intro i;funext id
   show dh _ _ 1 rs _=_
   rw [iD]
   unfold bE
   congr 1
   ·funext j;simp [upto]
   ·rw [OI (by simp [upto]),ky];rfl
  refine ⟨⟨by simp [i1],by simp [xr]⟩,Pe hk i2,fun i o' ho=> ?_,fun i j ri rj aZ hi hj=> ?_,fun i r' hr'=> ?_, ?_, ?_⟩
  ·cases i with
   |zero=>
    simp only [Pg,OG] at ho
    subst ho
    refine ⟨_,rfl,rfl, ?_,OQ _⟩
    have s0:bH n (upto 0) (⟨o.dst,val,ups,acc,k⟩::rs) σ=σ:=by funext t;exact jN _ 0 _ fun j r _ hl=>by simp [upto] at hl
    have g0:bE (upto 0) (⟨o.dst,val,ups,acc,k⟩::rs) g=g:=by funext t;exact jN _ 0 _ fun j r _ hl=>by simp [upto] at hl
    unfold qV
    rw [s0,g0]
    exact .inl ⟨rfl,h⟩
   |succ i=>
    obtain ⟨r',r1,r2,r3,r4⟩:=i3 i o' (by simpa using ho)
    refine ⟨r',by simpa using r1,r2, ?_,Pe hk r4⟩
    unfold qV
    rw [e1,e2,Py];exact r3
  ·cases j with
   |zero=>omega
   |succ j=>
    simp only [Py] at hj
    cases i with
    |zero=>
     simp only [Pg,OG] at hi
     subst hi
     have bj:j<os.length:=by rw [<-i1];exact (OO.1 hj).1
     obtain ⟨r',r1,_,_,r4⟩:=i3 j _ (OV bj)
     rw [hj] at r1
     simp only [OG] at r1
     subst r1
     exact ⟨fun id hid=>O8 (hu id hid) r4,fun x hx=>by first|(simp at hx;done)|(simp at hx;subst hx;exact r4)⟩
    |succ i=>simp only [Py] at hi ⊢; exact i4 i j ri rj (by omega) hi hj
  ·cases i with
   |zero=>
    simp only [Pg,OG] at hr'
    subst hr'
    exact ⟨fun id hid=>O8 (hu id hid) i2,fun x hx=>by first|(simp at hx;done)|(simp at hx;subst hx;exact i2)⟩
   |succ i=>simp only [Py] at hr' ⊢; exact i5 i r' hr'
  ·rw [i6]
   funext t
   unfold bH
   simp only [dh]
   rw [iD,OK,lp n t ⟨o.dst,val,ups,acc,k⟩ σ]
  ·rw [i7]
   funext id
   unfold bE
   simp only [dh]
   rw [iD,OK,ky]
   rfl
 | @fi o os σ σ' g g' k k1 k' r f as_ ups rs hs hg hal h hc hf hk hu hr ih=>
  obtain ⟨⟨i1,xr⟩,i2,i3,i4,i5,i6,i7⟩:=ih
  have e1:∀i,bH n (upto (i+1)) (⟨o.dst,r,ups,[],k⟩::rs) σ=bH n (upto i) rs (bG n o.dst r σ):=by
   intro i;funext t
   show dh _ _ 1 rs _=_
   rw [iD]
   unfold bH
   congr 1
   ·funext j;simp [upto]
   ·rw [OI (by simp [upto])];exact (lp n t ⟨o.dst,r,ups,[],k⟩ σ).symm
  have e2:∀i,bE (upto (i+1)) (⟨o.dst,r,ups,[],k⟩::rs) g=bE (upto i) rs (aA g ups):=by
   intro i;funext id
   show dh _ _ 1 rs _=_
   rw [iD]
   unfold bE
   congr 1
   ·funext j;simp [upto]
   ·rw [OI (by simp [upto]),ky];rfl
  refine ⟨⟨by simp [i1],by simp [xr]⟩,Pe hk i2,fun i o' ho=> ?_,fun i j ri rj aZ hi hj=> ?_,fun i r' hr'=> ?_, ?_, ?_⟩
  ·cases i with
   |zero=>
    simp only [Pg,OG] at ho
    subst ho
    refine ⟨_,rfl,rfl, ?_,OQ _⟩
    have s0:bH n (upto 0) (⟨o.dst,r,ups,[],k⟩::rs) σ=σ:=by funext t;exact jN _ 0 _ fun j r _ hl=>by simp [upto] at hl
    have g0:bE (upto 0) (⟨o.dst,r,ups,[],k⟩::rs) g=g:=by funext t;exact jN _ 0 _ fun j r _ hl=>by simp [upto] at hl
    unfold qV
    rw [s0,g0]
    exact .inr ⟨f,as_,k1,rfl,hg,hal,h,hc,hf⟩
   |succ i=>
    obtain ⟨r',r1,r2,r3,r4⟩:=i3 i o' (by simpa using ho)
    refine ⟨r',by simpa using r1,r2, ?_,Pe hk r4⟩
    unfold qV
    rw [e1,e2,Py];exact r3
  ·cases j with
   |zero=>omega
   |succ j=>
    simp only [Py] at hj
    cases i with
    |zero=>
     simp only [Pg,OG] at hi
     subst hi
     have bj:j<os.length:=by rw [<-i1];exact (OO.1 hj).1
     obtain ⟨r',r1,_,_,r4⟩:=i3 j _ (OV bj)
     rw [hj] at r1
     simp only [OG] at r1
     subst r1
     exact ⟨fun id hid=>O8 (hu id hid) r4,fun x hx=>by first|(simp at hx;done)|(simp at hx;subst hx;exact r4)⟩
    |succ i=>simp only [Py] at hi ⊢; exact i4 i j ri rj (by omega) hi hj
  ·cases i with
   |zero=>
    simp only [Pg,OG] at hr'
    subst hr'
    exact ⟨fun id hid=>O8 (hu id hid) i2,fun x hx=>by first|(simp at hx;done)|(simp at hx;subst hx;exact i2)⟩
   |succ i=>simp only [Py] at hr' ⊢; exact i5 i r' hr'
  ·rw [i6]
   funext t
   unfold bH
   simp only [dh]
   rw [iD,OK,lp n t ⟨o.dst,r,ups,[],k⟩ σ]
  ·rw [i7]
   funext id
   unfold bE
   simp only [dh]
   rw [iD,OK,ky]
   rfl
section
variable {P:Program} {E0:Env} {n:Nat} {ops:Array Oper} {J:Nat->Prop} {base:Nat} {w0:World} {Q:Exit->Act->World->Prop} {os:List az} {dep:List (List Nat)} {σ σ':Nat->AV} {g g':Nat->Option Bk} {k k':Nat} {rs:List Rec} {hs:List (Option Nat)}
theorem eM.snoc {val:AV} (h0:eM P n os σ g k rs hs σ' g' k') (h:dt P σ' g' k' o val ups acc) (hk:k'<=k1) (hu:∀id,id∈ups.map Prod.fst->id<k1):eM P n (os++[o]) σ g k (rs++[⟨o.dst,val,ups,acc,k'⟩]) (hs++[none]) (bG n o.dst val σ') (aA g' ups) k1:=by
 induction h0 with
 |nil=>exact .cons h hk hu .nil
 |cons h1 h2 h3 h4 ih=>exact .cons h1 h2 h3 (ih h hk)
 |fi h1 h2 h3 h4 h5 h6 h7 h8 ih=>exact .fi h1 h2 h3 h4 h5 h6 h7 (ih h hk)
theorem eM.H9 (h0:eM P n os σ g k rs hs σ' g' k') (hg:bR σ' o.guard=some true) (hal:o.ao.allocs=false) (h:(o.ao.au k' (aG σ')).run g'=some (.call f as_)) (hc:bL P f=true) (hf:Fi P f as_ g' k' r (aA g' ups) k1) (hk:k'<=k1) (hu:∀id,id∈ups.map Prod.fst->id<k1):
  eM P n (os++[o]) σ g k (rs++[⟨o.dst,r,ups,[],k'⟩]) (hs++[some k1]) (bG n o.dst r σ') (aA g' ups) k1:=by
 induction h0 with
 |nil=>exact .fi hg hal h hc hf hk hu .nil
 |cons h1 h2 h3 h4 ih=>exact .cons h1 h2 h3 (ih hg h hf hk)
 |fi h1 h2 h3 h4 h5 h6 h7 h8 ih=>exact .fi h1 h2 h3 h4 h5 h6 h7 (ih hg h hf hk)
end
section
variable {P:Program} {n k k0:Nat} {x:L3} {K:L3->Prop} {Q:Ex->L3->Prop} {R:List az} {dep:List (List Nat)} {rs:List Rec} {hs:List (Option Nat)}
end
open Go.RowKit
def ic (o:az):Bool:=match o.ao,o.guard with| .new _,none=>true|_,_=>false
def mH (dep:List (List Nat)) (i j:Nat):Bool:=dep.all fun d=> !d.contains j||d.contains i
def jd (jn:Nat) (rs:List Rec) (hs:List (Option Nat)) (dep:List (List Nat)):Bool:=
 (List.range rs.length).all fun j=>(List.range j).all fun i=>((dep[j]?).getD []).contains i||(match rs[i]?,rs[j]? with|some x,some y=> !(cy hs i&&cy hs j)&&((!cy hs i||(y.ups.isEmpty||(Nat.beq j jn&&mH dep i j)))&&(!cy hs j||x.ups.isEmpty))|_,_=>false)
theorem aj.Ia {Y:Nat->Prop} {v:Value} (h:aj E v a):aj { E with X:=Y } v a:=by
 induction h with
 |v h=>exact .v h
 |agg hl h ih=>exact .agg hl ih
 |aK hl h ih=>exact .aK hl ih
 |dD hc=>exact .dD hc
 |ed u hn hl hcc hb hz hu h1 h ih=>exact .ed u hn hl hcc hb hz hu h1 ih
 |ct h ih=>exact .ct ih
 |emp=>exact .emp
 |pim u hb hq hu h1 h ih=>exact .pim u hb hq hu h1 ih
 |ref hi hd hb hq=>exact .ref hi hd hb hq
 |own hi hd hb hq nM hm hl hcc bn=>exact .own hi hd hb hq nM hm hl hcc bn
 |bT hi hd hb bn=>exact .bT hi hd hb bn
 |dR hi hd ho=>exact .dR hi hd ho
 |cp hi hd ho=>exact .cp hi hd ho
 |mp hi hd hb=>exact .mp hi hd hb
 |gr hi hd ho=>exact .gr hi hd ho
 |fn hl h ih=>exact .fn hl ih
 |bf hl h ih=>exact .bf hl ih
 |af hg hI hh dr h ih=>exact .af hg hI hh dr ih
 |de=>exact .de
 |dead=>exact .dead
section
variable {E:Env} {J:Nat->Prop} {base:Nat} {g:Nat->Option Bk}
theorem aE.Ib (h:aE E J base g) (ob:Obj):∃E':Env,E'.w=E.w.alloc ob/\E.Le E'/\aE E' J base g/\(∀id,E'.kn id->E.kn id)/\E'.X E.w.heap.size:=by
 have hlt:∀id b B,g id=some B->E.loc id=some b->b<E.w.heap.size:=fun id b B hg hb=>by
  have:=h.at_ id B hg;rw [hb] at this;exact this.lt.2
 have hs:(E.w.alloc ob).heap.size=E.w.heap.size+1:=by simp
 let E':Env:={ E with w:=E.w.alloc ob,X:=fun b=>E.X b\/b=E.w.heap.size }
 have hE:E.Le E':=by
  refine ⟨fun _ h=>h,fun b hb=>⟨hb,PI _ _ _ (h.low b hb).1⟩,fun _ _ h=>h,fun _ _ _=> .inr rfl,fun id b hi hd hb=> .inr ?_,fun _ _ _=> .inr rfl,fun _ h=>h,fun b hb=>⟨.inl hb,PI _ _ _ (h.xo b hb).1⟩⟩
  obtain ⟨B',aL⟩:=(h.live id).1 ⟨hi,hd⟩
  show (E.w.alloc _).shape? b=_
  simp only [World.shape?]
  rw [PI _ _ _ (hlt id b B' aL hb)]
 refine ⟨E',rfl,hE,⟨h.live,fun id B hg=>(h.at_ id B hg).bO hE fun b hb=>PI _ _ _ (hlt id b B hg hb),h.apart,h.out,fun b hb=>⟨?_,(h.low b hb).2⟩, ?_,h.len,h.fk,fun b hb=> ?_⟩,fun _ h=>h, .inr rfl⟩
 ·have:=(h.low b hb).1
  show b<(E.w.alloc ob).heap.size
  omega
 ·have:=h.size
  show base<=(E.w.alloc ob).heap.size
  omega
 ·show b<(E.w.alloc ob).heap.size/\_
  rcases hb with hb|hb
  ·have:=h.xo b hb
   exact ⟨by omega,this.2⟩
  ·subst hb
   refine ⟨by omega,fun hI=> ?_,fun id B hg he=> ?_⟩
   ·have:=(h.low _ hI).1;omega
   ·have:=hlt id _ B hg he;omega
theorem aE.Ic (h:aE E J base g) (fr:Nat) (hf:¬E.kn fr) (b:Nat) (hX:E.X b) (B:Bk) (hB:∀E':Env,E'.w=E.w->cI E' base B (some b)):
  ∃E':Env,E'.w=E.w/\(∀{v a},aj E v a->aj E' v a)/\aE E' J base (aA g [(fr,some B)])/\(∀id,E'.kn id->E.kn id\/id=fr)/\E'.kn fr/\¬E'.dead fr/\E'.loc fr=some b/\(∀E0:Env,E0.Le E->¬E0.X b->E0.Le E')/\(∀b,E.I b->E'.I b):=by
 have hne:∀id,E.kn id->id≠fr:=fun id hi he=>hf (he▸hi)
 let E1:Env:={ E with X:=fun x=>E.X x/\x≠b }
 let E':Env:={ E1 with kn:=fun id=>E.kn id\/id=fr,loc:=fun id=>if id=fr then some b else E.loc id,dead:=fun id=>E.dead id/\id≠fr,ln:=fun id=>if id=fr then B.els.length else E.ln id }
 have fu:E1.Le E':=⟨fun _ h=> .inl h,fun b hb=>⟨hb,rfl⟩,fun id hi hd=>⟨hd,hne id hi⟩,fun id hi hd=> .inr (OH (hne id hi)),fun _ _ _ _ _=> .inr rfl,fun id hi _=> .inr (OH (hne id hi)),fun _ h=>h,fun b hb=>⟨hb,rfl⟩⟩
 have hR:∀{v a},aj E v a->aj E' v a:=fun hr=>(aj.Ia (Y:=fun x=>E.X x/\x≠b) hr).step fu
 have eB:∀k,aA g [(fr,some B)] k=if k=fr then some B else g k:=fun k=>by simp only [aA]
 refine ⟨E',rfl,hR,⟨fun k=> ?_,fun k Bk hk=> ?_,fun k k' b' B1 B2 h1 h2 h3 h4=> ?_,fun k b' B1 hk hb hI=> ?_,h.low,h.size,fun k B1 hk cJ=> ?_,h.fk,fun b' bq=>⟨(h.xo b' bq.1).1,(h.xo b' bq.1).2.1,fun k B1 hk he=> ?_⟩⟩,fun _ h=>h, .inr rfl,fun hd=>hd.2 rfl,OI rfl,fun E0 k xt=> ?_,fun _ h=>h⟩
 ·rw [eB]
  by_cases h1:k=fr
  ·subst h1;simp [E']
  ·simp only [h1,Pf, <-h.live k]
   simp [E',E1,h1]
 ·rw [eB] at hk
  by_cases h1:k=fr
  ·subst h1
   simp only [OK,OG] at hk
   subst hk
   show cI E' base _ (if k=k then _ else _)
   rw [OI rfl]
   exact hB E' rfl
  ·rw [OH h1] at hk
   show cI E' base Bk (if k=fr then _ else _)
   rw [OH h1]
   have:=h.at_ k Bk hk
   cases hl:E.loc k with
   |none=>rw [hl] at this;exact this
   |some c=>
    rw [hl] at this
    obtain ⟨h1,⟨hz,arr,t,h2,h3,h4⟩|⟨hz,es,clock,h2,h3,h4⟩⟩:=this
    ·refine ⟨h1, .inl ⟨hz,arr,t,h2,h3,fun i cs hi=>⟨(h4 i cs hi).1,fun j x hj=> ?_⟩⟩⟩
     obtain ⟨u,k1,k2,k3⟩:=(h4 i cs hi).2 j x hj
     exact ⟨u,k1,k2,hR k3⟩
    ·refine ⟨h1, .inr ⟨hz,es,clock,h2,h3,fun i e cs he hi=> ?_⟩⟩
     obtain ⟨x,k1,k2,k3⟩:=h4 i e cs he hi
     exact ⟨x,k1,k2,hR k3⟩
 ·rw [eB] at h1 h2
  have e3:(if k=fr then some b else E.loc k)=some b':=h3
  have e4:(if k'=fr then some b else E.loc k')=some b':=h4
  by_cases a1:k=fr<;>by_cases a2:k'=fr
  ·rw [a1,a2]
  ·rw [OI a1] at e3;rw [OH a2] at e4 h2
   exact absurd (e4.trans e3.symm) ((h.xo b hX).2.2 k' B2 h2)
  ·rw [OH a1] at e3 h1;rw [OI a2] at e4
   exact absurd (e3.trans e4.symm) ((h.xo b hX).2.2 k B1 h1)
  ·rw [OH a1] at e3 h1;rw [OH a2] at e4 h2
   exact h.apart k k' b' B1 B2 h1 h2 e3 e4
 ·rw [eB] at hk
  have e3:(if k=fr then some b else E.loc k)=some b':=hb
  by_cases a1:k=fr
  ·rw [OI a1] at e3
   simp only [OG] at e3
   exact (h.xo b hX).2.1 (e3▸hI)
  ·rw [OH a1] at e3 hk
   exact h.out k b' B1 hk e3 hI
 ·rw [eB] at hk
  show _=if k=fr then _ else _
  by_cases a1:k=fr
  ·rw [OI a1] at hk ⊢
   simp only [OG] at hk;rw [<-hk]
  ·rw [OH a1] at hk ⊢
   exact h.len k B1 hk cJ
 ·rw [eB] at hk
  have e3:(if k=fr then some b else E.loc k)=some b':=he
  by_cases a1:k=fr
  ·rw [OI a1] at e3
   simp only [OG] at e3
   exact bq.2 e3.symm
  ·rw [OH a1] at e3 hk
   exact (h.xo b' bq.1).2.2 k B1 hk e3
 ·exact ⟨fun id hi=> .inl (k.kn id hi),fun b hb=>k.cE b hb,fun id hi hd=>⟨k.dead id hi hd,hne id (k.kn id hi)⟩,fun id hi hd=>(k.loc id hi hd).imp (fun q=>⟨q,hne id (k.kn id hi)⟩) fun q=>(OH (hne id (k.kn id hi))).trans q,fun id b hi hd hb=>(k.shape id b hi hd hb).imp (fun q=>⟨q,hne id (k.kn id hi)⟩) fun q=>q,fun id hi hd=>(k.ln id hi hd).imp (fun q=>⟨q,hne id (k.kn id hi)⟩) fun q=>(OH (hne id (k.kn id hi))).trans q,k.rg,fun b' bq=>⟨⟨(k.fx b' bq).1,fun e=>xt (e▸bq)⟩,(k.fx b' bq).2⟩⟩
end
section
variable {P:Program} {E0:Env} {n:Nat} {ops:Array Oper} {J:Nat->Prop} {base:Nat} {w0:World} {Q:Exit->Act->World->Prop} {os:List az} {dep:List (List Nat)} {σ σ':Nat->AV} {g g':Nat->Option Bk} {k k':Nat} {rs:List Rec} {hs:List (Option Nat)}
structure fS (E0:Env) (n:Nat) (ops:Array Oper) (dep:List (List Nat)) (J:Nat->Prop) (base:Nat) (w0:World) (σ:Nat->AV) (g:Nat->Option Bk) (k:Nat) (rs:List Rec) (hs:List (Option Nat)) (sx:Nat->Bool) (pd:Env->Act->Prop) (listed:Array Bool) (a:Act) (w:World):Prop where
 ex:∃E:Env,E.w=w/\E0.Le E/\(∀t,sx t=false->aj E (a.tmps.getD t undef) (bH n (fun j=>listed.getD j false) rs σ t))/\aE E J base (bE (fun j=>listed.getD j false) rs g)/\
  (∀id,E.kn id->id<k\/∃j r,listed.getD j false=true/\rs[j]? =some r/\(id∈r.keys\/∃k1,hs[j]? =some (some k1)/\id<k1))/\Mk E w0.heap.size a.defers/\pd E a
 size:a.tmps.size=n
 below:Below base w0 w
 gl:ee E0
 fO:listed.size=ops.size
 closed:∀(j:Nat),j<ops.size->listed.getD j false=true->∀e,e∈(dep[j]?).getD []->listed.getD e false=true
theorem Bj {rd:Option Nat} (cv:eM P n os σ g k rs hs σ' g' k') (hlen:os.length=ops.size) (cu:fy os dep=true) (hid:ef rs dep=true) (hcs:jd jn rs hs dep=true)
  {sx:Nat->Bool} {pd:Env->Act->Prop} {a:Act} (hI:fS E0 n ops dep J base w0 σ g k rs hs sx pd listed a w) (m2:ops[i]? =some op) (ho:os[i]? =some o) (jc:fv P ops op=some o) (cO:listed.getD i false=false)
  (dz:∀e,e∈(dep[i]?).getD []->listed.getD e false=true) (hu:∀t,t∈o.iX->sx t=false) (hq:cy hs i=true->listed.getD jn false=true->i<jn->i∈(dep[jn]?).getD []) (tq:i=jn->∀c,c<i->cy hs c=true->¬c∈(dep[i]?).getD []->listed.getD c false=true)
  (Ie:∀E E' v,pd E a->E.Le E'->pd E' (a.put o.dst v)) (hK:∀a' w',fS E0 n ops dep J base w0 σ g k rs hs sx pd (listed.setIfInBounds i true) a' w'->K a' w'):wpOpIn (cC rd) 0 P ops Q i K a w:=by
 obtain ⟨⟨c1,xu⟩,c2,c3,c4,c5,c6,c7⟩:=tp cv
 have cB:i<ops.size:=(Ph.1 m2).1
 obtain ⟨r,cx,cg,hrun,eC⟩:=c3 i o ho
 obtain ⟨E,rfl,hle,np,h2,h3,hmk,Ig⟩:=hI.ex
 have h1:∀t,aj E (a.tmps.getD t undef) ((fun t=>if sx t=true then AV.dead else bH n (fun j=>listed.getD j false) rs σ t) t):=fun t=>by
  show aj E _ (if sx t=true then AV.dead else _)
  cases ht:sx t with
  |true=>rw [OI rfl];exact .dead
  |false=>rw [OH (by simp)];exact np t ht
 -- G3 is listed out of nJ is free of this one
 have free:∀j rj oj,j≠i->rs[j]? =some rj->os[j]? =some oj->listed.getD j false≠upto i j->(iZ (if i<j then o else oj) (if i<j then oj else o)=true/\fw (if i<j then r else rj) (if i<j then rj else r)=true):=by
  intro j rj oj hne aP bu hl
  have bj:j<os.length:=(OO.1 bu).1
  unfold fy at cu
  unfold ef at hid
  simp only [ON,Pj,O9,PX] at cu hid
  by_cases aZ:i<j
  ·rw [OI aZ,OI aZ,OI aZ,OI aZ]
   have aU:listed.getD j false=true:=by
    have hu:upto i j=false:=by simp [upto];omega
    rw [hu] at hl
    simpa using hl
   have cL:i∉(dep[j]?).getD []:=by
    intro cZ
    have ja:j<ops.size:=by omega
    have:=hI.closed j ja aU i cZ
    rw [cO] at this;simp at this
   have s1:=(cu j bj i aZ).resolve_left cL
   have s2:=(hid j (by rw [c1];exact bj) i aZ).resolve_left cL
   rw [ho,bu] at s1;rw [cx,aP] at s2
   exact ⟨s1,s2⟩
  ·rw [OH aZ,OH aZ,OH aZ,OH aZ]
   have bF:j<i:=by omega
   have aU:listed.getD j false=false:=by
    have hu:upto i j=true:=by simp [upto];omega
    rw [hu] at hl
    simpa using hl
   have cL:j∉(dep[i]?).getD []:=by
    intro cZ
    have:=dz j cZ
    rw [aU] at this;simp at this
   have s1:=(cu i (by omega) j bF).resolve_left cL
   have s2:=(hid i (by omega) j bF).resolve_left cL
   rw [ho,bu] at s1;rw [cx,aP] at s2
   exact ⟨s1,s2⟩
 have gE:∀(j:Nat) rj,rs[j]? =some rj->∃oj,os[j]? =some oj/\rj.dst=oj.dst:=fun j rj aP=>by
  have bj:j<os.length:=by rw [<-c1];exact (OO.1 aP).1
  obtain ⟨r',q1,q2,_,_⟩:=c3 j _ (OV bj)
  rw [aP] at q1;simp only [OG] at q1;subst q1
  exact ⟨_,OV bj,q2⟩
 -- a slot qF it looks at is as it comes one behind jK other
 have hσ:∀t,t∈o.iX->(if sx t=true then AV.dead else bH n (fun j=>listed.getD j false) rs σ t)=bH n (upto i) rs σ t:=by
  intro t ht
  rw [OH (by rw [hu t ht];simp)]
  refine jM _ 0 _ fun j rj aP hl=> ?_
  rw [OZ] at hl
  by_cases hne:j=i
  ·subst hne;rw [cO] at hl;simp [upto] at hl
  ·obtain ⟨oj,bu,cN⟩:=gE j rj aP
   have hf:=(free j rj oj hne aP bu hl).1
   unfold iY
   rw [OH]
   rintro ⟨dm,_⟩
   rw [cN] at dm
   unfold iZ at hf
   by_cases aZ:i<j
   ·simp only [OI aZ,dm,OJ,O4,Pp,Pq] at hf
    exact hf.2 ht
   ·simp only [OH aZ,dm,OJ,O4,Pp,Pq] at hf
    exact hf.1.1 ht
 have hg:∀id,id∈r.acc->bE (fun j=>listed.getD j false) rs g id=bE (upto i) rs g id:=by
  intro id qG
  refine jM _ 0 _ fun j rj aP hl=> ?_
  rw [OZ] at hl
  by_cases hne:j=i
  ·subst hne;rw [cO] at hl;simp [upto] at hl
  ·obtain ⟨oj,bu,cN⟩:=gE j rj aP
   have hf:=(free j rj oj hne aP bu hl).2
   cases hw:wg id rj with
   |none=>rfl
   |some y=>
    exfalso
    have hk:id∈rj.keys:=lj (by unfold wg at hw;rw [hw];simp)
    unfold fw at hf
    by_cases aZ:i<j
    ·simp only [OI aZ,OJ,ON,O4,Pp,Pq] at hf
     exact hf.2 id hk qG
    ·simp only [OH aZ,OJ,ON,O4,Pp,Pq] at hf
     exact (hf.1 id hk).1 qG
 have xv:∀{j x},hs[j]? =some (some x)->cy hs j=true:=fun h=>by unfold cy;rw [h]
 have xw:∀j rj,j≠i->rs[j]? =some rj->listed.getD j false≠upto i j->(cy hs i&&cy hs j)=false/\(cy hs i=true->rj.ups=[])/\(cy hs j=true->r.ups=[]):=by
  intro j rj hne aP hl
  have bj:j<rs.length:=(OO.1 aP).1
  unfold jd at hcs
  simp only [ON,Pj,O9,PX] at hcs
  by_cases aZ:i<j
  ·have aU:listed.getD j false=true:=by
    have hu:upto i j=false:=by simp [upto];omega
    rw [hu] at hl
    simpa using hl
   have cL:i∉(dep[j]?).getD []:=by
    intro cZ
    have ja:j<ops.size:=by omega
    have:=hI.closed j ja aU i cZ
    rw [cO] at this;simp at this
   have s2:=(hcs j bj i aZ).resolve_left cL
   rw [cx,aP] at s2
   simp only [OJ,O9,O4,PC] at s2
   exact ⟨s2.1,fun h=>(s2.2.1.resolve_left (by rw [h];simp)).resolve_right fun q=>by
    have ej:=OR q.1
    exact cL (by rw [ej];exact hq h (by rw [<-ej];exact aU) (by omega)),fun h=>s2.2.2.resolve_left (by rw [h];simp)⟩
  ·have bF:j<i:=by omega
   have aU:listed.getD j false=false:=by
    have hu:upto i j=true:=by simp [upto];omega
    rw [hu] at hl
    simpa using hl
   have cL:j∉(dep[i]?).getD []:=by
    intro cZ
    have:=dz j cZ
    rw [aU] at this;simp at this
   have s2:=(hcs i (by omega) j bF).resolve_left cL
   rw [cx,aP] at s2
   simp only [OJ,O9,O4,PC] at s2
   exact ⟨by rw [Bool.and_comm];exact s2.1,fun h=>s2.2.2.resolve_left (by rw [h];simp),fun h=>(s2.2.1.resolve_left (by rw [h];simp)).resolve_right fun q=>by
    have:=tq (OR q.1) j bF h cL
    rw [aU] at this;simp at this⟩
 have fin:∀v E',E.Le E'->aj E' v r.val->aE E' J base (aA (bE (fun j=>listed.getD j false) rs g) r.ups)->Below base E.w E'.w->(∀id,E'.kn id->(E.kn id\/id∈r.keys)\/∃k1,hs[i]? =some (some k1)/\id<k1)->K (a.put o.dst v) E'.w:=by
  intro v E' hE hv hM hB ba
  -- it is listed now
  have db:∀j,(listed.setIfInBounds i true).getD j false=if j=0+i then true else listed.getD j false:=by
   intro j
   rw [OZ]
   have hZ:i<listed.size:=by rw [hI.fO];exact cB
   by_cases bF:j=i
   ·subst bF;simp [hZ]
   ·rw [OH bF,getD_set_ne false (Ne.symm bF)]
  have nK:∀t,bH n (fun j=>(listed.setIfInBounds i true).getD j false) rs σ t=bG n o.dst r.val (bH n (fun j=>listed.getD j false) rs σ) t:=by
   intro t
   rw [<-cg,lp]
   refine nF rs 0 i _ r cx (by rw [OZ];exact cO) db fun j rj aZ aP aU=> ?_
   rw [OZ] at aU
   obtain ⟨oj,bu,cN⟩:=gE j rj aP
   have hf:=(free j rj oj (by omega) aP bu (by rw [aU];simp [upto];omega)).1
   unfold iZ at hf
   simp only [OI aZ] at hf
   by_cases iB:r.dst=some t
   ·left
    unfold iY
    rw [OH]
    rintro ⟨dm,_⟩
    rw [cg] at iB
    rw [cN] at dm
    simp only [iB,dm,OJ,bne_iff_ne,ne_eq] at hf
    exact hf.1.2 trivial
   ·right
    unfold iY
    rw [OH]
    rintro ⟨dm,_⟩
    exact iB dm
  have ng:∀id,bE (fun j=>(listed.setIfInBounds i true).getD j false) rs g id=aA (bE (fun j=>listed.getD j false) rs g) r.ups id:=by
   intro id
   rw [ky]
   refine nF rs 0 i _ r cx (by rw [OZ];exact cO) db fun j rj aZ aP aU=> ?_
   rw [OZ] at aU
   obtain ⟨oj,bu,cN⟩:=gE j rj aP
   have hf:=(free j rj oj (by omega) aP bu (by rw [aU];simp [upto];omega)).2
   unfold fw at hf
   simp only [OI aZ,OJ,ON,O4,Pp,Pq] at hf
   cases hw:wg id r with
   |none=>exact .inr rfl
   |some y=>
    left
    cases hw2:wg id rj with
    |none=>rfl
    |some y2=>
     exfalso
     have k1:id∈r.keys:=lj (by unfold wg at hw;rw [hw];simp)
     have k2:id∈rj.keys:=lj (by unfold wg at hw2;rw [hw2];simp)
     exact (hf.1 id k1).2 k2
  refine hK _ _ ⟨⟨E',rfl,hle.trans hE,fun t ht=> ?_, ?_,fun id hh=> ?_, ?_,Ie E E' v Ig hE⟩, ?_,hI.below.trans hB,hI.gl,by simpa using hI.fO,fun j hj aU e he=> ?_⟩
  ·rw [nK t]
   have:=oT hE h1 hv o.dst t
   rw [hI.size] at this
   have e9:bG n o.dst r.val (fun t=>if sx t=true then AV.dead else bH n (fun j=>listed.getD j false) rs σ t) t=bG n o.dst r.val (bH n (fun j=>listed.getD j false) rs σ) t:=by
    unfold bG
    split
    ·rfl
    ·exact OH (by rw [ht];simp)
   rw [<-e9]
   exact this
  ·rw [show bE (fun j=>(listed.setIfInBounds i true).getD j false) rs g=aA (bE (fun j=>listed.getD j false) rs g) r.ups from funext ng]
   exact hM
  ·rcases ba id hh with (h|h)|h
   ·rcases h3 id h with h|⟨j,rj,q1,q2,q3⟩
    ·exact .inl h
    ·exact .inr ⟨j,rj,getD_set_true q1,q2,q3⟩
   ·refine .inr ⟨i,r, ?_,cx, .inl h⟩
    rw [db i,OZ,OI rfl]
   ·refine .inr ⟨i,r, ?_,cx, .inr h⟩
    rw [db i,OZ,OI rfl]
  ·rw [(hP a o.dst v).2];exact hmk.step hE
  ·rw [(hP a o.dst v).1];exact hI.size
  ·rw [db j,OZ] at aU
   by_cases bF:j=i
   ·subst bF
    exact getD_set_true (dz e he)
   ·rw [OH bF] at aU
    exact getD_set_true (hI.closed j hj aU e he)
 rcases hrun with ⟨pe,hrun⟩|⟨f,as_,k1,Bl,cw,hal,dg,bY,Ih⟩
 ·-- a name qF G4 has
  have qs:∃gC,¬E.kn gC/\(r.fr∈r.ups.map Prod.fst->gC=r.fr):=by
   by_cases gX:r.fr∈r.ups.map Prod.fst
   ·refine ⟨r.fr,fun hk=> ?_,fun _=>rfl⟩
    rcases h3 _ hk with h|⟨j,rj,aU,aP,cM⟩
    ·omega
    ·by_cases hne:j=i
     ·subst hne;rw [cO] at aU;simp at aU
     ·rcases cM with cM|⟨k1,bI,cM⟩
      rotate_left
      ·by_cases aZ:i<j
       ·have:=(xw j rj hne aP (by rw [aU];simp [upto];omega)).2.2 (xv bI)
        rw [this] at gX;simp at gX
       ·have:=(c4 j i rj r (by omega) aP cx).2 k1 bI
        omega
      by_cases aZ:i<j
      ·obtain ⟨oj,bu,_⟩:=gE j rj aP
       have hf:=(free j rj oj hne aP bu (by rw [aU];simp [upto];omega)).2
       unfold fw at hf
       simp only [OI aZ,OJ,ON,O4,Pp,Pq] at hf
       exact (hf.1 _ gX).2 cM
      ·have:=(c4 j i rj r (by omega) aP cx).1 _ cM
       exact PW _ this
   ·refine ⟨k',fun hk=> ?_,fun h=>absurd h gX⟩
    rcases h3 _ hk with h|⟨j,rj,aU,aP,cM|⟨k1,bI,cM⟩⟩
    ·omega
    ·exact PW _ ((c5 j rj aP).1 _ cM)
    ·exact PW _ (O8 cM ((c5 j rj aP).2 k1 bI))
  obtain ⟨gC,wM,wN⟩:=qs
  obtain ⟨wI,wO⟩:=hrun.local hσ hg wN
  exact wH (hI.gl.step hle) h1 h2 wM m2 jc wO fun v E' hE hv hM hB ba=>fin v E' hE hv hM hB fun id h=> .inl (ba id h)
 ·have xx:=xv Bl
  have xy:bE (fun j=>listed.getD j false) rs g=bE (upto i) rs g:=by
   funext id
   refine jM _ 0 _ fun j rj aP hl=> ?_
   rw [OZ] at hl
   by_cases hne:j=i
   ·subst hne;rw [cO] at hl;simp [upto] at hl
   ·unfold wg;rw [(xw j rj hne aP hl).2.1 xx];rfl
  have Ii:∀id,E.kn id->id<r.fr:=by
   intro id hid
   rcases h3 id hid with h|⟨j,rj,aU,aP,cM⟩
   ·omega
   ·by_cases hne:j=i
    ·subst hne;rw [cO] at aU;simp at aU
    ·by_cases aZ:i<j
     ·have iW:=xw j rj hne aP (by rw [aU];simp [upto];omega)
      rcases cM with cM|⟨x,hx,cM⟩
      ·unfold Rec.keys at cM;rw [iW.2.1 xx] at cM;simp at cM
      ·have:=iW.1;rw [xx,xv hx] at this;simp at this
     ·rcases cM with cM|⟨x,hx,cM⟩
      ·exact (c4 j i rj r (by omega) aP cx).1 _ cM
      ·have:=(c4 j i rj r (by omega) aP cx).2 x hx;omega
  have Ij:bR (fun t=>if sx t=true then AV.dead else bH n (fun j=>listed.getD j false) rs σ t) o.guard=some true:=by
   rw [<-cw]
   cases hg0:o.guard with
   |none=>rfl
   |some p=>
    obtain ⟨t,w⟩:=p
    simp only [bR,hσ t (by simp [az.iX,hg0])]
  have Ik:(o.ao.au r.fr (aG (fun t=>if sx t=true then AV.dead else bH n (fun j=>listed.getD j false) rs σ t))).run (bE (fun j=>listed.getD j false) rs g)=some (.call f as_):=by
   rw [xy,AM r.fr fun t ht=>hσ t (by simp [az.iX,ht])];exact dg
  have hdd:=qA jc
  have xz:∀e,op.semAt (cC rd).round e=execOp e op:=fun e=>Qx (cC rd) _ _ (oS hdd.2)
  unfold wpOpIn
  simp only [m2]
  rw [lh h1 jc Ij,OI rfl]
  obtain ⟨vs,e1,e2⟩:=qu (dE.of (hI.gl.step hle) h1) hdd.2 Ik bY
  unfold Oper.wpIn
  rw [xz,e1,Oper.uponIn_enter]
  have tr:=h2
  rw [xy] at tr
  refine ⟨ku,nD,oR ((Ih E J base vs (hI.gl.step hle) tr Ii e2).mono ?_)⟩
  rintro e w' ⟨v,E',rfl,rfl,q1,q2,q3,q4,q5⟩
  have mG:=fin v E' q1 q2 (by rw [xy];exact q3) q4 fun id h=> .inr ⟨k1,Bl,q5 id h⟩
  rw [hdd.1] at mG
  exact mG
theorem Il (cv:eM P n os σ g k rs hs σ' g' k') (hlen:os.length=ops.size) (cu:fy os dep=true) (hid:ef rs dep=true) (bY:∀(j:Nat),j<ops.size->listed.getD j false=true->∀e,e∈(dep[j]?).getD []->listed.getD e false=true) (da:listed.size=ops.size)
 {r:Rec} (cB:i<ops.size) (ho:os[i]? =some o) (cx:rs[i]? =some r) (cg:r.dst=o.dst) (cO:listed.getD i false=false):
  (∀t,bH n (fun j=>(listed.setIfInBounds i true).getD j false) rs σ t=bG n o.dst r.val (bH n (fun j=>listed.getD j false) rs σ) t)/\(∀id,bE (fun j=>(listed.setIfInBounds i true).getD j false) rs g id=aA (bE (fun j=>listed.getD j false) rs g) r.ups id)/\∀j rj,i<j->rs[j]? =some rj->listed.getD j false=true->¬i∈(dep[j]?).getD []/\fw r rj=true:=by
 obtain ⟨⟨c1,xu⟩,c2,c3,c4,c5,c6,c7⟩:=tp cv
 have gE:∀(j:Nat) rj,rs[j]? =some rj->∃oj,os[j]? =some oj/\rj.dst=oj.dst:=fun j rj aP=>by
  have bj:j<os.length:=by rw [<-c1];exact (OO.1 aP).1
  obtain ⟨r',q1,q2,_,_⟩:=c3 j _ (OV bj)
  rw [aP] at q1;simp only [OG] at q1;subst q1
  exact ⟨_,OV bj,q2⟩
 have eL:∀j,i<j->j<ops.size->listed.getD j false=true->¬i∈(dep[j]?).getD []:=fun j aZ hj aU cZ=>by
  have:=bY j hj aU i cZ
  rw [cO] at this;simp at this
 have free:∀j rj oj,i<j->rs[j]? =some rj->os[j]? =some oj->listed.getD j false=true->(iZ o oj=true/\fw r rj=true):=by
  intro j rj oj aZ aP bu aU
  have bj:j<os.length:=(OO.1 bu).1
  unfold fy at cu
  unfold ef at hid
  simp only [ON,Pj,O9,PX] at cu hid
  have cL:=eL j aZ (by omega) aU
  have s1:=(cu j bj i aZ).resolve_left cL
  have s2:=(hid j (by rw [c1];exact bj) i aZ).resolve_left cL
  rw [ho,bu] at s1;rw [cx,aP] at s2
  exact ⟨s1,s2⟩
 -- it is listed now
 have db:∀j,(listed.setIfInBounds i true).getD j false=if j=0+i then true else listed.getD j false:=by
  intro j
  rw [OZ]
  have hZ:i<listed.size:=by rw [da];exact cB
  by_cases bF:j=i
  ·subst bF;simp [hZ]
  ·rw [OH bF,getD_set_ne false (Ne.symm bF)]
 have nK:∀t,bH n (fun j=>(listed.setIfInBounds i true).getD j false) rs σ t=bG n o.dst r.val (bH n (fun j=>listed.getD j false) rs σ) t:=by
  intro t
  rw [<-cg,lp]
  refine nF rs 0 i _ r cx (by rw [OZ];exact cO) db fun j rj aZ aP aU=> ?_
  rw [OZ] at aU
  obtain ⟨oj,bu,cN⟩:=gE j rj aP
  have hf:=(free j rj oj aZ aP bu aU).1
  unfold iZ at hf
  by_cases iB:r.dst=some t
  ·left
   unfold iY
   rw [OH]
   rintro ⟨dm,_⟩
   rw [cg] at iB
   rw [cN] at dm
   simp only [iB,dm,OJ,bne_iff_ne,ne_eq] at hf
   exact hf.1.2 trivial
  ·right
   unfold iY
   rw [OH]
   rintro ⟨dm,_⟩
   exact iB dm
 have ng:∀id,bE (fun j=>(listed.setIfInBounds i true).getD j false) rs g id=aA (bE (fun j=>listed.getD j false) rs g) r.ups id:=by
  intro id
  rw [ky]
  refine nF rs 0 i _ r cx (by rw [OZ];exact cO) db fun j rj aZ aP aU=> ?_
  rw [OZ] at aU
  obtain ⟨oj,bu,cN⟩:=gE j rj aP
  have hf:=(free j rj oj aZ aP bu aU).2
  unfold fw at hf
  simp only [OJ,ON,O4,Pp,Pq] at hf
  cases hw:wg id r with
  |none=>exact .inr rfl
  |some y=>
   left
   cases hw2:wg id rj with
   |none=>rfl
   |some y2=>
    exfalso
    have k1:id∈r.keys:=lj (by unfold wg at hw;rw [hw];simp)
    have k2:id∈rj.keys:=lj (by unfold wg at hw2;rw [hw2];simp)
    exact (hf.1 id k1).2 k2
 refine ⟨nK,ng,fun j rj aZ aP aU=> ?_⟩
 obtain ⟨oj,bu,_⟩:=gE j rj aP
 exact ⟨eL j aZ (by rw [<-hlen];exact (OO.1 bu).1) aU,(free j rj oj aZ aP bu aU).2⟩
def Im (w:World) (b:Nat) (zs:List AV):Prop:=∃(arr:Array Value) (t:TypeId),w.heap[b]? =some (.cells arr t (0,0))/\zs.length<=arr.size/\∀(j:Nat) x,zs[j]? =some x->∃u,arr[j]? =some u/\u.oneCell'=true/\∀E:Env,aj E u x
def pf (E0:Env) (n base b:Nat) (zs:List AV) (d:Option Nat) (E:Env) (a:Act):Prop:=E.X b/\¬E0.X b/\base<=b/\(∀t,d=some t->t<n->a.tmps.getD t undef= .pointer (some ⟨b,0,none⟩))/\Im E.w b zs
def lD (n:Nat) (d:Option Nat) (t:Nat):Bool:=d==some t&&Nat.blt t n
theorem fS.bK (cv:eM P n os σ g k rs hs σ' g' k') (hlen:os.length=ops.size) (cu:fy os dep=true) (hid:ef rs dep=true) (hcs:jd jn rs hs dep=true) {r:Rec} {zs:List AV} {b:Nat} {a:Act}
  (hI:fS E0 n ops dep J base w0 σ g k rs hs (lD n o.dst) (pf E0 n base b zs o.dst) listed a w) (cB:jn<ops.size) (ho:os[jn]? =some o) (cx:rs[jn]? =some r) (cg:r.dst=o.dst) (cO:listed.getD jn false=false) (dz:∀e,e∈(dep[jn]?).getD []->listed.getD e false=true)
  (hz:0<zs.length) (qW:r.val= .ref r.fr zs.length 0 0) (pc:r.ups=[(r.fr,some ⟨zs.length,[zs]⟩)]) (eC:k<=r.fr):
  fS E0 n ops dep J base w0 σ g k rs hs (fun _=>false) (fun _ _=>True) (listed.setIfInBounds jn true) a w:=by
 obtain ⟨⟨c1,xu⟩,c2,c3,c4,c5,c6,c7⟩:=tp cv
 obtain ⟨nK,ng,Io⟩:=Il cv hlen cu hid hI.closed hI.fO cB ho cx cg cO
 obtain ⟨E,rfl,hle,h1,h2,h3,hmk,⟨p1,p2,p3,p4,arr,t0,p5,p6,p7⟩⟩:=hI.ex
 have hk:r.fr∈r.keys:=by unfold Rec.keys;rw [pc];simp
 have hf:¬E.kn r.fr:=fun ba=>by
  rcases h3 _ ba with h|⟨j,rj,aU,aP,cM⟩
  ·omega
  ·by_cases hne:j=jn
   ·subst hne;rw [cO] at aU;simp at aU
   ·by_cases aZ:jn<j
    ·obtain ⟨q1,q2⟩:=Io j rj aZ aP aU
     rcases cM with cM|⟨k1,bI,_⟩
     ·unfold fw at q2
      simp only [OJ,ON,O4,Pp,Pq] at q2
      exact (q2.1 _ hk).2 cM
     ·have bj:j<rs.length:=(OO.1 aP).1
      unfold jd at hcs
      simp only [ON,Pj,O9,PX] at hcs
      have s2:=(hcs j bj jn aZ).resolve_left q1
      rw [cx,aP] at s2
      simp only [OJ,O9,O4,PC] at s2
      have hc:cy hs j=true:=by unfold cy;rw [bI]
      have:=s2.2.2.resolve_left (by rw [hc];simp)
      rw [this] at pc;simp at pc
    ·have bF:j<jn:=by omega
     rcases cM with cM|⟨k1,bI,cM⟩
     ·exact PW _ ((c4 j jn rj r bF aP cx).1 _ cM)
     ·have:=(c4 j jn rj r bF aP cx).2 k1 bI
      omega
 obtain ⟨E',hw,hR,hM,q1,q2,q3,q4,q5,q6⟩:=h2.Ic r.fr hf b p1 ⟨zs.length,[zs]⟩ (fun mj hw=>by
  refine cI.iT ⟨p3,arr,(t0,0),by rw [hw];exact p5,by simpa using p6,fun i cs hi=> ?_⟩ (by show zs.length≠0;omega)
  cases i with
  |zero=>
   simp only [Pg,OG] at hi
   subst hi
   refine ⟨rfl,fun j x hj=> ?_⟩
   obtain ⟨u,u1,u2,u3⟩:=p7 j x hj
   exact ⟨u,by simpa using u1,u2,u3 _⟩
  |succ i=>simp at hi)
 refine ⟨⟨E',hw,q5 E0 hle p2,fun t _=> ?_, ?_,fun id hh=> ?_,hmk.wG fun b hb=>⟨q6 b hb,by rw [hw]⟩,trivial⟩,hI.size,hI.below,hI.gl,by simpa using hI.fO,fun j hj aU e he=> ?_⟩
 ·rw [nK t]
  by_cases ht:o.dst=some t/\t<n
  ·rw [show bG n o.dst r.val (bH n (fun j=>listed.getD j false) rs σ) t=r.val from OI ht,qW,p4 t ht.1 ht.2]
   exact .ref q2 q3 q4 (by simp) (by omega)
  ·rw [show bG n o.dst r.val (bH n (fun j=>listed.getD j false) rs σ) t=bH n (fun j=>listed.getD j false) rs σ t from OH ht]
   refine hR (h1 t ?_)
   unfold lD
   rw [Bool.and_eq_false_iff]
   by_cases hd:o.dst=some t
   ·right
    have:¬t<n:=fun h=>ht ⟨hd,h⟩
    cases hb:Nat.blt t n with
    |false=>rfl
    |true=>exact absurd (Pn hb) this
   ·left;simpa using hd
 ·rw [show bE (fun j=>(listed.setIfInBounds jn true).getD j false) rs g=aA (bE (fun j=>listed.getD j false) rs g) r.ups from funext ng,pc]
  exact hM
 ·rcases q1 id hh with h|h
  ·rcases h3 id h with h|⟨j,rj,q1,q2,q3⟩
   ·exact .inl h
   ·exact .inr ⟨j,rj,getD_set_true q1,q2,q3⟩
  ·refine .inr ⟨jn,r, ?_,cx, .inl (h▸hk)⟩
   have hZ:jn<listed.size:=by rw [hI.fO];exact cB
   simp [hZ]
 ·by_cases bF:j=jn
  ·subst bF;exact getD_set_true (dz e he)
  ·rw [getD_set_ne false (Ne.symm bF)] at aU
   exact getD_set_true (hI.closed j hj aU e he)
theorem Ip {o:Oper} {zs:List AV} (h:bP P o=some (.new zs)):∃t,o.op= .alloc t/\gv P t=some zs/\0<zs.length:=by
 obtain ⟨dst,op,type,pos,after,guard⟩:=o
 cases op
 case alloc t=>
  simp only [bP] at h
  split at h
  ·split at h
   ·simp only [OG,AO.new.injEq] at h;subst h;exact ⟨t,rfl,by assumption,by assumption⟩
   ·simp at h
  ·simp at h
 all_goals
  exfalso
  simp only [bP] at h
  first
   |(simp at h;done)
   |((repeat' split at h)<;>simp at h<;>done)
   |((repeat' split at h)<;>simp_all)
theorem Iq {rd:Option Nat} {a:Act} (hI:fS E0 n ops dep J base w0 σ g k rs hs (fun _=>false) (fun _ _=>True) listed a w) {zs:List AV} (m2:ops[i]? =some op) (jc:fv P ops op=some o) (hg:o.guard=none) (cH:o.ao= .new zs)
 (hK:∀a' w' b,0<zs.length->fS E0 n ops dep J base w0 σ g k rs hs (lD n o.dst) (pf E0 n base b zs o.dst) listed a' w'->K a' w'):wpOpIn (cC rd) 0 P ops Q i K a w:=by
 obtain ⟨E,rfl,hle,np,h2,h3,hmk,_⟩:=hI.ex
 have h1:∀t,aj E (a.tmps.getD t undef) (bH n (fun j=>listed.getD j false) rs σ t):=fun t=>np t rfl
 have hdd:=qA jc
 have xz:∀e,op.semAt (cC rd).round e=execOp e op:=fun e=>Qx (cC rd) _ _ (oS hdd.2)
 obtain ⟨t,bX,Ir,hz0⟩:=Ip (hdd.2.trans (by rw [cH]))
 obtain ⟨ii,z,hi,hz,hsz,hcs,dL,cA⟩:=nj Ir
 have hrun:(execOp a.eval op).run P E.w= .ok (.value (.pointer (some ⟨E.w.heap.size,0,none⟩))) (E.w.alloc (.cells z.cells t)):=by
  obtain ⟨dst,op,type,pos,after,guard⟩:=op
  simp only at bX
  subst bX
  simp [execOp,Instr.alloc,zeroValue,typeInfo,hi,hz,newVar,newRow]
 unfold wpOpIn
 simp only [m2]
 rw [lh h1 jc (b:=true) (by rw [hg];rfl),OI rfl]
 unfold Oper.wpIn
 rw [xz,hrun]
 obtain ⟨E',hw,hE,hM,ba,hX⟩:=h2.Ib (.cells z.cells t)
 have mG:K (a.put o.dst (.pointer (some ⟨E.w.heap.size,0,none⟩))) E'.w:=by
  refine hK _ _ E.w.heap.size hz0 ⟨⟨E',rfl,hle.trans hE,fun s hs=> ?_,hM,fun id h=>h3 id (ba id h),by rw [(hP a o.dst _).2];exact hmk.step hE,hX,fun xt=> ?_,h2.size,fun s hd hn=> ?_,z.cells,t,by rw [hw];exact heap_alloc_new E.w _,by omega,fun j x hj=> ?_⟩,by rw [(hP a o.dst _).1];exact hI.size,by rw [hw];exact hI.below.alloc h2.size _,hI.gl,hI.fO,hI.closed⟩
  ·have:(a.put o.dst (.pointer (some ⟨E.w.heap.size,0,none⟩))).tmps.getD s undef=a.tmps.getD s undef:=by
    unfold lD at hs
    cases hd:o.dst with
    |none=>rfl
    |some d=>
     rw [hd] at hs
     simp only [Act.put]
     by_cases e:d=s
     ·subst e
      have hn:¬d<n:=fun h=>by
       have hb:Nat.blt d n=true:=Nat.ble_eq_true_of_le h
       rw [hb] at hs;simp at hs
      rw [<-hI.size] at hn
      simp [hn]
     ·simp [P8,Qu,e]
   rw [this]
   exact (h1 s).step hE
  ·have:=(h2.xo _ (hle.fx _ xt).1).1
   omega
  ·rw [hd]
   simp only [Act.put]
   rw [<-hI.size] at hn
   simp [hn]
  ·have jH:j<zs.length:=(OO.1 hj).1
   have jb:j<z.cells.size:=by omega
   have Is:=(cA E j z.cells[j] x (OY jb) hj).one (by simp only [ON] at dL;exact dL _ (Pd hj))
   exact ⟨z.cells[j],OY jb,Is,fun mj=>cA mj j _ x (OY jb) hj⟩
 rw [hw] at mG
 rw [hdd.1] at mG
 exact ⟨ku,mG⟩
theorem tt {A:Array Bool} (h:i<A.size):(A.setIfInBounds i true).getD i false=true:=by simp [h]
theorem It {rd:Option Nat} (cv:eM P n os σ g k rs hs σ' g' k') (hlen:os.length=ops.size) (dO:∀(j:Nat) op,ops[j]? =some op->∃o,os[j]? =some o/\fv P ops op=some o)
  (hd:iE ops.toList dep=true) (cu:fy os dep=true) (hid:ef rs dep=true) (hcs:jd jn rs hs dep=true) (lE:∀o,os[jn]? =some o->ic o=true) (hQ:∀a w,eK E0 J base w0 n σ' g' k' a w->Q .normal a w):
  ∀(fuel:Nat) (listed:Array Bool) (a:Act) (w:World),listed.size=ops.size->(∀(j:Nat) op,ops[j]? =some op->listed.getD j false=true->∀e,e∈du op->listed.getD e false=true)->
   ((fS E0 n ops dep J base w0 σ g k rs hs (fun _=>false) (fun _ _=>True) listed a w/\(listed.getD jn false=true->∀c,c<jn->cy hs c=true->¬c∈(dep[jn]?).getD []->listed.getD c false=true))\/
    ∃(L:Array Bool) (o:az) (zs:List AV) (b:Nat),os[jn]? =some o/\o.ao= .new zs/\0<zs.length/\listed.getD jn false=true/\(∀j,L.getD j false=(listed.getD j false&& !Nat.beq j jn))/\fS E0 n ops dep J base w0 σ g k rs hs (lD n o.dst) (pf E0 n base b zs o.dst) L a w/\∃c,c<jn/\cy hs c=true/\¬c∈(dep[jn]?).getD []/\mH dep c jn=true)->
   (∀m:List Nat,(∀j,j∈m->j<ops.size/\listed.getD j true=false)->m.Nodup->m.length<=fuel)->wpAnyIn (cC rd) 0 P .any ops Q fuel listed a w:=by
 have xA:=cv
 obtain ⟨⟨c1,xu⟩,c2,c3,c4,c5,c6,c7⟩:=tp cv
 have Bm:∀(listed:Array Bool),listed.size=ops.size->Region.ready .any ops listed=[]->∀j,j<ops.size->listed.getD j false=true:=by
  intro listed da nV j
  induction j using Nat.strongRecOn with
  |_ j ih=>
   intro hj
   cases hl:listed.getD j false with
   |true=>rfl
   |false=>
    exfalso
    have hjs:j<listed.size:=by rw [da];exact hj
    have:j∈Region.ready .any ops listed:=by
     rw [mem_ready]
     refine ⟨by simp [hjs] at hl ⊢; exact hl,ops[j],OY hj,fun e he hb=> ?_⟩
     have cN:=hd
     unfold iE at cN
     simp only [OJ,ON,Pj,PG] at cN
     have jb:=(cN.2 j (by simpa using hj)).1
     have nH:ops.toList[j]? =some ops[j]:=by simp [hj]
     simp only [nH,OS,PA] at jb
     have hlt:=jb e.on (oW.2 ⟨e,he,hb,rfl⟩)
     exact ih e.on hlt (by omega)
    rw [nV] at this
    simp at this
 have Iu:∀j,j<ops.size->∀e,e∈(dep[j]?).getD []->e<j:=fun j hj e he=>by
  have cN:=hd
  unfold iE at cN
  simp only [OJ,ON,Pj,PG] at cN
  have:=((cN.2 j (by simpa using hj)).2 e he).1
  simpa using this
 -- jK block qF waits Of Og own where all calls ahead of it Gh done
 have norm:∀(listed:Array Bool) (a:Act) (w:World),listed.size=ops.size->(∀(j:Nat) op,ops[j]? =some op->listed.getD j false=true->∀e,e∈du op->listed.getD e false=true)->
   (∃(L:Array Bool) (o:az) (zs:List AV) (b:Nat),os[jn]? =some o/\o.ao= .new zs/\0<zs.length/\listed.getD jn false=true/\(∀j,L.getD j false=(listed.getD j false&& !Nat.beq j jn))/\fS E0 n ops dep J base w0 σ g k rs hs (lD n o.dst) (pf E0 n base b zs o.dst) L a w/\∃c,c<jn/\cy hs c=true/\¬c∈(dep[jn]?).getD []/\mH dep c jn=true)->
   (∀c,c<jn->cy hs c=true->¬c∈(dep[jn]?).getD []->listed.getD c false=true)->
   fS E0 n ops dep J base w0 σ g k rs hs (fun _=>false) (fun _ _=>True) listed a w:=by
  rintro listed a w da bY ⟨L,o,zs,b,ho,cH,hz,aU,hL,hI,_⟩ bM
  have cB:jn<ops.size:=by rw [<-hlen];exact (OO.1 ho).1
  obtain ⟨r,cx,cg,hrun,eC⟩:=c3 jn o ho
  have hg:o.guard=none:=by
   have:=lE o ho
   unfold ic at this
   split at this
   ·assumption
   ·simp at this
  have Bn:r.val= .ref r.fr zs.length 0 0/\r.ups=[(r.fr,some ⟨zs.length,[zs]⟩)]:=by
   rcases hrun with ⟨_,hrun⟩|⟨f,as_,k1,_,_,_,dg,_⟩
   ·generalize hv:r.val=v at hrun ⊢
    generalize hu:r.ups=u at hrun ⊢
    generalize ha:r.acc=ac at hrun
    cases hrun with
    |skip cw=>rw [hg] at cw;simp [bR] at cw
    |done cw h=>rw [cH] at h;simp [AO.au,RM.run] at h;exact ⟨h.1.symm,h.2.symm⟩
    |call cw h=>rw [cH] at h;simp [AO.au,RM.run] at h
    |nE cw h=>rw [cH] at h;simp [AO.au,RM.run] at h
   ·rw [cH] at dg;simp [AO.au,RM.run] at dg
  have Iv:L.getD jn false=false:=by rw [hL];simp [Nat.beq_refl]
  have dz:∀e,e∈(dep[jn]?).getD []->L.getD e false=true:=fun e he=>by
   have hlt:=Iu jn cB e he
   have h1:=nG hd bY jn ops[jn] (OY cB) (bY jn _ (OY cB) aU) e he
   rw [hL,h1]
   cases hb:Nat.beq e jn with
   |false=>rfl
   |true=>have:=OR hb;omega
  have Bo:=hI.bK xA hlen cu hid hcs cB ho cx cg Iv dz hz Bn.1 Bn.2 eC
  have Iw:L.size=listed.size:=by rw [hI.fO,da]
  have:L.setIfInBounds jn true=listed:=by
   apply Array.ext
   ·simp [Iw]
   ·intro i h1 h2
    have lg:i<L.size:=by simpa using h1
    have e1:(L.setIfInBounds jn true)[i]=(L.setIfInBounds jn true).getD i false:=by rw [P8,OY h1];rfl
    have e2:listed[i]=listed.getD i false:=by rw [P8,OY h2];rfl
    rw [e1,e2]
    by_cases e:jn=i
    ·subst e;rw [tt lg,aU]
    ·rw [getD_set_ne false e,hL]
     have:Nat.beq i jn=false:=by
      cases hb:Nat.beq i jn with
      |false=>rfl
      |true=>exact absurd (OR hb).symm e
     rw [this];simp
  rw [this] at Bo
  exact Bo
 have done:∀(listed:Array Bool) (a:Act) (w:World),listed.size=ops.size->Region.ready .any ops listed=[]->fS E0 n ops dep J base w0 σ g k rs hs (fun _=>false) (fun _ _=>True) listed a w->Q .normal a w:=by
  intro listed a w da nV hI
  have bM:=Bm listed da nV
  obtain ⟨E,rfl,hle,h1,h2,h3,hmk,_⟩:=hI.ex
  have h1:∀t,aj E (a.tmps.getD t undef) (bH n (fun j=>listed.getD j false) rs σ t):=fun t=>h1 t rfl
  have e6:bH n (fun j=>listed.getD j false) rs σ=σ':=by
   rw [c6];funext t
   refine jM _ 0 _ fun j r hr hl=>absurd ?_ hl
   rw [OZ,bM j (by rw [<-hlen, <-c1];exact (OO.1 hr).1)]
  have e7:bE (fun j=>listed.getD j false) rs g=g':=by
   rw [c7];funext t
   refine jM _ 0 _ fun j r hr hl=>absurd ?_ hl
   rw [OZ,bM j (by rw [<-hlen, <-c1];exact (OO.1 hr).1)]
  rw [funext fun t=>congrFun e6 t] at h1
  rw [e7] at h2
  refine hQ a E.w ⟨⟨E,rfl,hle,h1,h2,fun id hh=> ?_,hmk⟩,hI.size,hI.below,hI.gl⟩
  rcases h3 id hh with h|⟨j,r,_,hr,hk|⟨k1,bI,hk⟩⟩
  ·exact O8 h c2
  ·exact (c5 j r hr).1 id hk
  ·exact O8 hk ((c5 j r hr).2 k1 bI)
 have Bp:∀(listed:Array Bool) (a:Act) (w:World),listed.size=ops.size->(∀(j:Nat) op,ops[j]? =some op->listed.getD j false=true->∀e,e∈du op->listed.getD e false=true)->_->Region.ready .any ops listed=[]->Q .normal a w:=fun listed a w da bY hI nV=>by
  have hI:(fS E0 n ops dep J base w0 σ g k rs hs (fun _=>false) (fun _ _=>True) listed a w/\(listed.getD jn false=true->∀c,c<jn->cy hs c=true->¬c∈(dep[jn]?).getD []->listed.getD c false=true))\/
    ∃(L:Array Bool) (o:az) (zs:List AV) (b:Nat),os[jn]? =some o/\o.ao= .new zs/\0<zs.length/\listed.getD jn false=true/\(∀j,L.getD j false=(listed.getD j false&& !Nat.beq j jn))/\fS E0 n ops dep J base w0 σ g k rs hs (lD n o.dst) (pf E0 n base b zs o.dst) L a w/\∃c,c<jn/\cy hs c=true/\¬c∈(dep[jn]?).getD []/\mH dep c jn=true:=hI
  rcases hI with ⟨hI,_⟩|hI
  ·exact done listed a w da nV hI
  ·refine done listed a w da nV (norm listed a w da bY hI fun c hc _ _=> ?_)
   obtain ⟨_,o,_,_,ho,_⟩:=hI
   exact Bm listed da nV c (by have:=(OO.1 ho).1;omega)
 intro fuel
 induction fuel with
 |zero=>
  intro listed a w da bY hI fA
  have hr:Region.ready .any ops listed=[]:=by
   cases hr:Region.ready .any ops listed with
   |nil=>rfl
   |cons x xs=>
    have hx:x∈Region.ready .any ops listed:=by rw [hr];simp
    obtain ⟨m1,o,m2,_⟩:=mem_ready.1 hx
    have:=fA [x] (fun j hj=>by simp at hj;subst hj;exact ⟨(Ph.1 m2).1,m1⟩) (by simp)
    simp at this
  exact ⟨hr,Bp listed a w da bY hI hr⟩
 |succ fuel ih=>
  intro listed a w da bY hI fA
  refine ⟨Bp listed a w da bY hI,fun i hi=> ?_⟩
  obtain ⟨m1,op,m2,m3⟩:=mem_ready.1 hi
  have cB:i<ops.size:=(Ph.1 m2).1
  have hZ:i<listed.size:=by rw [da];exact cB
  have cO:listed.getD i false=false:=by
   simp [hZ] at m1 ⊢; exact m1
  have Bq:∀e,e∈du op->listed.getD e false=true:=fun e he=>by
   obtain ⟨x,hx,hb,rfl⟩:=oW.1 he
   exact m3 x hx hb
  have dz:∀e,e∈(dep[i]?).getD []->listed.getD e false=true:=fun e he=>nG hd bY i op m2 Bq e he
  obtain ⟨o,ho,jc⟩:=dO i op m2
  have xB:∀(j:Nat) op,ops[j]? =some op->(listed.setIfInBounds i true).getD j false=true->∀e,e∈du op->(listed.setIfInBounds i true).getD e false=true:=fun j oj bu aU e he=>by
   by_cases bF:j=i
   ·subst bF
    rw [m2] at bu;simp only [OG] at bu;subst bu
    exact getD_set_true (Bq e he)
   ·rw [getD_set_ne false (Ne.symm bF)] at aU
    exact getD_set_true (bY j oj bu aU e he)
  have xC:∀m:List Nat,(∀j,j∈m->j<ops.size/\(listed.setIfInBounds i true).getD j true=false)->m.Nodup->m.length<=fuel:=fun m hm cL=>by
   have mB:i∉m:=fun cZ=>by
    have:=(hm i cZ).2
    simp [hZ] at this
   have:=fA (i::m) (fun j hj=>by
    rcases OU.1 hj with rfl|hj
    ·exact ⟨cB,m1⟩
    ·refine ⟨(hm j hj).1, ?_⟩
     have h5:=(hm j hj).2
     have bF:i≠j:=fun e=>mB (e▸hj)
     rwa [getD_set_ne true bF] at h5) (List.nodup_cons.2 ⟨mB,cL⟩)
   simpa using this
  have xD:(listed.setIfInBounds i true).size=ops.size:=by simpa using da
  -- either nothing waits, or a call ahead of jK block is still to be done
  have ks:(fS E0 n ops dep J base w0 σ g k rs hs (fun _=>false) (fun _ _=>True) listed a w/\(listed.getD jn false=true->∀c,c<jn->cy hs c=true->¬c∈(dep[jn]?).getD []->listed.getD c false=true))\/
    ((∃(L:Array Bool) (o:az) (zs:List AV) (b:Nat),os[jn]? =some o/\o.ao= .new zs/\0<zs.length/\listed.getD jn false=true/\(∀j,L.getD j false=(listed.getD j false&& !Nat.beq j jn))/\fS E0 n ops dep J base w0 σ g k rs hs (lD n o.dst) (pf E0 n base b zs o.dst) L a w/\∃c,c<jn/\cy hs c=true/\¬c∈(dep[jn]?).getD []/\mH dep c jn=true)/\∃c,c<jn/\cy hs c=true/\¬c∈(dep[jn]?).getD []/\listed.getD c false=false):=by
   rcases hI with hI|hI
   ·exact .inl hI
   ·by_cases bM:∀c,c<jn->cy hs c=true->¬c∈(dep[jn]?).getD []->listed.getD c false=true
    ·exact .inl ⟨norm listed a w da bY hI bM,fun _=>bM⟩
    ·right
     refine ⟨hI,Classical.byContradiction fun hx=>bM fun c q1 q2 q3=> ?_⟩
     cases hc:listed.getD c false with
     |true=>rfl
     |false=>exact absurd ⟨c,q1,q2,q3,hc⟩ hx
  clear hI
  rcases ks with ⟨hI,hq⟩|⟨⟨L,oj,zs,b,bu,cH,hz,aU,hL,hI,xE⟩,c0,kj,nU,xn,xp⟩
  ·have plain:(i=jn->∀c,c<i->cy hs c=true->¬c∈(dep[i]?).getD []->listed.getD c false=true)->wpOpIn (cC rd) 0 P ops Q i (fun a w=>wpAnyIn (cC rd) 0 P .any ops Q fuel (listed.setIfInBounds i true) a w) a w:=fun tq=>by
    refine Bj xA hlen cu hid hcs hI m2 ho jc cO dz (fun _ _=>rfl) (fun hc hl hlt=> ?_) tq (fun _ _ _ _ _=>trivial) fun a' w' iF=>ih _ a' w' xD xB (.inl ⟨iF,fun hl c q1 q2 q3=> ?_⟩) xC
    ·exact Classical.byContradiction fun hx=>by
      have:=hq hl i hlt hc hx
      rw [cO] at this;simp at this
    ·by_cases e:i=jn
     ·have:=tq e c (by omega) q2 (by rw [e];exact q3)
      exact getD_set_true this
     ·rw [getD_set_ne false e] at hl
      exact getD_set_true (hq hl c q1 q2 q3)
   by_cases e:i=jn
   ·by_cases bM:∀c,c<i->cy hs c=true->¬c∈(dep[i]?).getD []->listed.getD c false=true
    ·exact plain fun _=>bM
    ·have kf:=lE o (by rw [<-e];exact ho)
     obtain ⟨zs,cH,hg⟩:∃zs,o.ao= .new zs/\o.guard=none:=by
      unfold ic at kf
      split at kf
      ·rename_i zs h1 h2;exact ⟨zs,h1,h2⟩
      ·simp at kf
     obtain ⟨r,cx,cg,hrun,eC⟩:=c3 i o ho
     have nW:r.ups≠[]:=by
      rcases hrun with ⟨_,hrun⟩|⟨f,as_,k1,_,_,_,dg,_⟩
      ·generalize hu:r.ups=u at hrun
       generalize hv:r.val=v at hrun
       generalize ha:r.acc=ac at hrun
       cases hrun with
       |skip cw=>rw [hg] at cw;simp [bR] at cw
       |done cw h=>rw [cH] at h;simp [AO.au,RM.run] at h;rw [<-h.2];simp
       |call cw h=>rw [cH] at h;simp [AO.au,RM.run] at h
       |nE cw h=>rw [cH] at h;simp [AO.au,RM.run] at h
      ·rw [cH] at dg;simp [AO.au,RM.run] at dg
     have hex:∃c,c<i/\cy hs c=true/\¬c∈(dep[i]?).getD []:=Classical.byContradiction fun hx=>bM fun c q1 q2 q3=>absurd ⟨c,q1,q2,q3⟩ hx
     obtain ⟨c,q1,q2,q3⟩:=hex
     have xE:mH dep c i=true:=by
      have nX:=hcs
      unfold jd at nX
      simp only [ON,Pj,O9,PX] at nX
      have Ix:i<rs.length:=(OO.1 cx).1
      have s2:=(nX i Ix c q1).resolve_left q3
      have xF:rs[c]? =some (rs[c]'(by omega)):=OV (by omega)
      rw [xF,cx] at s2
      simp only [OJ,O9,O4,PC] at s2
      exact ((s2.2.1.resolve_left (by rw [q2];simp)).resolve_left nW).2
     refine Iq hI m2 jc hg cH fun a' w' b hz iF=>ih _ a' w' xD xB (.inr ⟨listed,o,zs,b,by rw [<-e];exact ho,cH,hz,by rw [<-e];exact tt hZ,fun j=> ?_,iF,c,by omega,q2,by rw [<-e];exact q3,by rw [<-e];exact xE⟩) xC
     by_cases ej:i=j
     ·subst ej;rw [cO,e,Nat.beq_refl];simp
     ·rw [getD_set_ne false ej]
      have:Nat.beq j jn=false:=by
       cases hb:Nat.beq j jn with
       |false=>rfl
       |true=>exact absurd ((OR hb).trans e.symm).symm ej
      rw [this];simp
   ·exact plain fun h=>absurd h e
  ·have bF:i≠jn:=fun e=>by rw [e,aU] at cO;simp at cO
   have Br:¬jn∈(dep[i]?).getD []:=fun cZ=>by
    obtain ⟨c,q1,q2,q3,q4⟩:∃c,c<jn/\cy hs c=true/\¬c∈(dep[jn]?).getD []/\listed.getD c false=false:=⟨c0,kj,nU,xn,xp⟩
    have bj:jn<rs.length:=by rw [c1];exact (OO.1 bu).1
    obtain ⟨r,cx,cg,hrun,eC⟩:=c3 jn oj bu
    have hg:oj.guard=none:=by
     have:=lE oj bu
     unfold ic at this
     split at this
     ·assumption
     ·simp at this
    have nW:r.ups≠[]:=by
     rcases hrun with ⟨_,hrun⟩|⟨f,as_,k1,_,_,_,dg,_⟩
     ·generalize hu:r.ups=u at hrun
      generalize hv:r.val=v at hrun
      generalize ha:r.acc=ac at hrun
      cases hrun with
      |skip cw=>rw [hg] at cw;simp [bR] at cw
      |done cw h=>rw [cH] at h;simp [AO.au,RM.run] at h;rw [<-h.2];simp
      |call cw h=>rw [cH] at h;simp [AO.au,RM.run] at h
      |nE cw h=>rw [cH] at h;simp [AO.au,RM.run] at h
     ·rw [cH] at dg;simp [AO.au,RM.run] at dg
    have nX:=hcs
    unfold jd at nX
    simp only [ON,Pj,O9,PX] at nX
    have s2:=(nX jn bj c q1).resolve_left q3
    have xF:rs[c]? =some (rs[c]'(by omega)):=OV (by omega)
    rw [xF,cx] at s2
    simp only [OJ,O9,O4,PC] at s2
    have xG:=((s2.2.1.resolve_left (by rw [q2];simp)).resolve_left nW).2
    unfold mH at xG
    simp only [ON,O9,O4,Pp,Pq,PG] at xG
    have Iy:(dep[i]?).getD []∈dep:=by
     cases hx:dep[i]? with
     |none=>rw [hx] at cZ;simp at cZ
     |some d=>exact Pd hx
    have:=dz c ((xG _ Iy).resolve_left fun h=>h cZ)
    rw [q4] at this;simp at this
   have Iz:L.getD i false=false:=by rw [hL,cO];simp
   have IA:∀e,e∈(dep[i]?).getD []->L.getD e false=true:=fun e he=>by
    rw [hL,dz e he]
    have:Nat.beq e jn=false:=by
     cases hb:Nat.beq e jn with
     |false=>rfl
     |true=>exact absurd ((OR hb)▸he) Br
    rw [this];simp
   have IB:L.getD jn false=false:=by rw [hL];simp [Nat.beq_refl]
   have bj:jn<os.length:=(OO.1 bu).1
   have IC:i<os.length:=(OO.1 ho).1
   -- jK slot of jK block qF waits is not looked at
   have Bs:∀d,oj.dst=some d->¬d∈o.iX/\o.dst≠some d:=fun d fo=>by
    have tu:=cu
    unfold fy at tu
    simp only [ON,Pj,O9,PX] at tu
    by_cases hlt:jn<i
    ·have s1:=(tu i IC jn hlt).resolve_left Br
     rw [bu,ho] at s1
     unfold iZ at s1
     simp only [fo,OJ,O4,Pp,Pq,bne_iff_ne,ne_eq] at s1
     exact ⟨s1.1.1,fun h=>by rw [h] at s1;simp at s1⟩
    ·have sT:i<jn:=by omega
     have cL:¬i∈(dep[jn]?).getD []:=fun cZ=>by
      have:=nG hd bY jn _ (OY (by omega)) (bY jn _ (OY (by omega)) aU) i cZ
      rw [cO] at this;simp at this
     have s1:=(tu jn bj i sT).resolve_left cL
     rw [bu,ho] at s1
     unfold iZ at s1
     simp only [fo,OJ,O4,Pp,Pq,bne_iff_ne,ne_eq] at s1
     cases hx:o.dst with
     |none=>rw [hx] at s1;simp at s1;exact ⟨s1,by simp⟩
     |some d2=>
      rw [hx] at s1
      simp at s1
      exact ⟨s1.2,fun h=>s1.1.2 (Option.some.inj h).symm⟩
   refine Bj xA hlen cu hid hcs hI m2 ho jc Iz IA (fun t ht=> ?_) (fun _ hl=>by rw [IB] at hl;simp at hl) (fun h=>absurd h bF) (fun E1 E2 v hp hE=> ?_) fun a' w' iF=>ih _ a' w' xD xB (.inr ⟨L.setIfInBounds i true,oj,zs,b,bu,cH,hz,getD_set_true aU,fun j=> ?_,iF,xE⟩) xC
   ·unfold lD
    rw [Bool.and_eq_false_iff]
    left
    cases hx:oj.dst with
    |none=>rfl
    |some d=>
     have:=(Bs d hx).1
     simp only [beq_eq_false_iff_ne,ne_eq,OG]
     intro e;subst e;exact this ht
   ·obtain ⟨p1,p2,p3,p4,arr,t0,p5,p6,p7⟩:=hp
    refine ⟨(hE.fx b p1).1,p2,p3,fun t ht hn=> ?_,arr,t0,by rw [(hE.fx b p1).2];exact p5,p6,p7⟩
    rw [<-p4 t ht hn]
    have hne:=(Bs t ht).2
    cases hx:o.dst with
    |none=>rfl
    |some d=>
     rw [hx] at hne
     have dm:d≠t:=fun e=>hne (by rw [e])
     simp only [Act.put]
     simp [P8,Qu,dm]
   ·by_cases ej:i=j
    ·subst ej
     have hb:Nat.beq i jn=false:=by
      cases hb:Nat.beq i jn with
      |false=>rfl
      |true=>exact absurd (OR hb) bF
     rw [tt (by rw [hI.fO];exact cB),tt hZ,hb];rfl
    ·rw [getD_set_ne false ej,getD_set_ne false ej,hL]
theorem ID {id:Nat} (wS:P.follows .mixedOrders=true) (cv:eM P n os σ g k rs hs σ' g' k') (hlen:os.length=ops.size) (dO:∀(j:Nat) op,ops[j]? =some op->∃o,os[j]? =some o/\fv P ops op=some o)
  (hd:iE ops.toList dep=true) (cu:fy os dep=true) (hid:ef rs dep=true) (hcs:jd jn rs hs dep=true) (lE:∀o,os[jn]? =some o->ic o=true) (hQ:∀a w,eK E0 J base w0 n σ' g' k' a w->Q .normal a w) {a:Act} (hrel:eK E0 J base w0 n σ g k a w) {rd:Option Nat}:(Code.region id ops true).wpIn (cC rd) 0 P Q a w:=by
 refine wpIn_region_any wS ?_
 obtain ⟨E,rfl,hle,h1,h2,h3,hmk⟩:=hrel.ex
 obtain ⟨E',hw,hE,hM,_,hk,_,_⟩:=h2.drew
 have cA:∀(j:Nat),(Array.replicate ops.size false).getD j false=false:=by
  intro j
  rcases Ps j ops.size with h|h
  ·simp [h]
  ·simp [h]
 refine It cv hlen dO hd cu hid hcs lE hQ ops.size _ a _ (by simp) (fun j op bX hl=>by rw [cA] at hl;simp at hl) (.inl ⟨⟨⟨E',hw,hle.trans hE,fun t _=> ?_, ?_,fun id hh=> .inl (h3 id ((hk id).1 hh)),hmk.step hE,trivial⟩,hrel.size,hrel.below.drew,hrel.gl,by simp,fun j hj hl=>by rw [cA] at hl;simp at hl⟩,fun hl=>by rw [cA] at hl;simp at hl⟩) fun m hm cL=> ?_
 ·have:bH n (fun j=>(Array.replicate ops.size false).getD j false) rs σ t=σ t:=jN _ 0 _ fun j r _ hl=>by rw [cA] at hl;simp at hl
  rw [this];exact (h1 t).step hE
 ·have:bE (fun j=>(Array.replicate ops.size false).getD j false) rs g=g:=by funext id;exact jN _ 0 _ fun j r _ hl=>by rw [cA] at hl;simp at hl
  rw [this];exact hM
 ·exact wK _ _ cL fun j hj=>(hm j hj).1
inductive je (P:Program) (n:Nat) (dep:List (List Nat)) (jn:Nat):List az->(Nat->AV)->(Nat->Option Bk)->Nat->List Rec->List (Option Nat)->(Nat->AV)->(Nat->Option Bk)->Nat->Prop
 |nil {σ:Nat->AV} {g:Nat->Option Bk} {k:Nat} {rs:List Rec} {hs:List (Option Nat)} (hid:ef rs dep=true) (hcs:jd jn rs hs dep=true):je P n dep jn [] σ g k rs hs σ g k
 |cons {o:az} {os:List az} {σ σ':Nat->AV} {g g':Nat->Option Bk} {k k1 k':Nat} {val:AV} {ups:List (Nat×Option Bk)} {acc:List Nat} {rs:List Rec} {hs:List (Option Nat)} (h:dt P σ g k o val ups acc) (hk:k<=k1) (hu:∀id,id∈ups.map Prod.fst->id<k1)
   (hr:je P n dep jn os (bG n o.dst val σ) (aA g ups) k1 (rs++[⟨o.dst,val,ups,acc,k⟩]) (hs++[none]) σ' g' k'):je P n dep jn (o::os) σ g k rs hs σ' g' k'
 |fi {o:az} {os:List az} {σ σ':Nat->AV} {g g':Nat->Option Bk} {k k1 k':Nat} {r:AV} {f:FuncId} {as_:List AV} {ups:List (Nat×Option Bk)} {rs:List Rec} {hs:List (Option Nat)} (hg:bR σ o.guard=some true) (hal:o.ao.allocs=false) (h:(o.ao.au k (aG σ)).run g=some (.call f as_)) (hc:bL P f=true) (hf:Fi P f as_ g k r (aA g ups) k1) (hk:k<=k1) (hu:∀id,id∈ups.map Prod.fst->id<k1)
   (hr:je P n dep jn os (bG n o.dst r σ) (aA g ups) k1 (rs++[⟨o.dst,r,ups,[],k⟩]) (hs++[some k1]) σ' g' k'):je P n dep jn (o::os) σ g k rs hs σ' g' k'
theorem je.all {pre:List az} {cj:Nat->AV} {g0:Nat->Option Bk} {kk:Nat} (h0:eM P n pre cj g0 kk rs hs σ g k) (h:je P n dep jn os σ g k rs hs σ' g' k'):∃lx iV,eM P n (pre++os) cj g0 kk lx iV σ' g' k'/\ef lx dep=true/\jd jn lx iV dep=true:=by
 induction h generalizing pre with
 |nil h1 h2=>exact ⟨_,_,by rw [List.append_nil];exact h0,h1,h2⟩
 | @cons o os σ σ' g g' k k1 k' val ups acc rs hs h hk hu hr ih=>
  have:=ih (pre:=pre++[o]) (h0.snoc h hk hu)
  rwa [PZ] at this
 | @fi o os σ σ' g g' k k1 k' r f as_ ups rs hs hg hal h hc hf hk hu hr ih=>
  have:=ih (pre:=pre++[o]) (h0.H9 hg hal h hc hf hk hu)
  rwa [PZ] at this
theorem EW.IE {s:S3} {Q:Ex->S3->Prop} {s':S3} (lE:∀o,os[jn]? =some o->ic o=true) (h:je P n dep jn os s.σ s.g s.k [] [] s'.σ s'.g s'.k) (hq:Q .normal s'):EW P n k0 (.bK os (some dep)) s Q:=by
 intro rd c E0 J base w0 a w cg hc hk hr
 obtain ⟨id,ops,draw,rfl,h1,h2⟩:=sY hc
 rcases h2 with ⟨rfl,hh⟩|⟨rfl,d,hd,h3,h4,h5⟩
 ·simp at hh
 ·simp only [OG] at hd
  subst hd
  obtain ⟨k1,k2⟩:=qH h1
  obtain ⟨lx,iV,a1,a2,a3⟩:=je.all .nil h
  rw [List.nil_append] at a1
  exact ID h5 a1 (by rw [<-k1];simp) (fun j op hj=>k2 j op (by simpa using hj)) h3 h4 a2 a3 lE (fun a' w' hr'=>⟨.normal,s',hq,rfl,hr'⟩) hr
end
abbrev cl (f:Nat) (as_:List Arg):AO:= .call (.c (.fn f [])) as_
abbrev zi (n:Int):AV:= .v (.int .i64 n)
abbrev zs:AV:= .v (.string ⟨#[]⟩)
abbrev ms (k:Nat):AO:= .mov (.s k)
abbrev fd (a k:Nat):AO:= .fad a (.s k)
abbrev rg (R:List az):AC:= .bK R none
def cf (P:Program) (k:Nat):cT:=(cFunc P k).getD ⟨0,[], .skip⟩
theorem ig (h:(cFunc P k).isSome=true):cFunc P k=some (cf P k):=by
 unfold cf
 cases hc:cFunc P k with
 |none=>rw [hc] at h;cases h
 |some F=>rfl
noncomputable def F4:cT:=cf Try.prog 4
theorem Bt:cFunc Try.prog 4=some F4:=ig (by kernel_rfl)
theorem Bu:bL Try.prog 4=true:=by kernel_rfl
noncomputable def F6:cT:=cf Try.prog 6
theorem Bv:cFunc Try.prog 6=some F6:=ig (by kernel_rfl)
theorem Bw:bL Try.prog 6=true:=by kernel_rfl
noncomputable def F7:cT:=cf Try.prog 7
theorem Bx:cFunc Try.prog 7=some F7:=ig (by kernel_rfl)
theorem By:bL Try.prog 7=true:=by kernel_rfl
noncomputable def F8:cT:=cf Try.prog 8
theorem Bz:cFunc Try.prog 8=some F8:=ig (by kernel_rfl)
theorem BA:bL Try.prog 8=true:=by kernel_rfl
noncomputable def F9:cT:=cf Try.prog 9
theorem IF:cFunc Try.prog 9=some F9:=ig (by kernel_rfl)
theorem BB:bL Try.prog 9=true:=by kernel_rfl
noncomputable def BC:cT:=cf Try.prog 10
theorem BD:cFunc Try.prog 10=some BC:=ig (by kernel_rfl)
theorem BE:bL Try.prog 10=true:=by kernel_rfl
noncomputable def BF:cT:=cf Try.prog 11
theorem tv:cFunc Try.prog 11=some BF:=ig (by kernel_rfl)
theorem tw:bL Try.prog 11=true:=by kernel_rfl
noncomputable def BG:cT:=cf Try.prog 12
theorem BH:cFunc Try.prog 12=some BG:=ig (by kernel_rfl)
theorem tx:bL Try.prog 12=true:=by kernel_rfl
noncomputable def BI:cT:=cf Try.prog 13
theorem BJ:cFunc Try.prog 13=some BI:=ig (by kernel_rfl)
theorem ek:bL Try.prog 13=true:=by kernel_rfl
noncomputable def BK:cT:=cf Try.prog 14
theorem IG:cFunc Try.prog 14=some BK:=ig (by kernel_rfl)
theorem IH:bL Try.prog 14=true:=by kernel_rfl
noncomputable def BL:cT:=cf Try.prog 16
theorem II:cFunc Try.prog 16=some BL:=ig (by kernel_rfl)
theorem b6:bL Try.prog 16=true:=by kernel_rfl
noncomputable def BM:cT:=cf Try.prog 17
theorem BN:cFunc Try.prog 17=some BM:=ig (by kernel_rfl)
theorem BO:bL Try.prog 17=true:=by kernel_rfl
noncomputable def BP:cT:=cf Try.prog 19
theorem IJ:cFunc Try.prog 19=some BP:=ig (by kernel_rfl)
theorem IM:bL Try.prog 19=true:=by kernel_rfl
noncomputable def BQ:cT:=cf Try.prog 20
theorem IN:cFunc Try.prog 20=some BQ:=ig (by kernel_rfl)
theorem IP:bL Try.prog 20=true:=by kernel_rfl
noncomputable def IQ:FuncId->Option cT:=nQ (
 (4,F4)::
 (6,F6)::
 (7,F7)::
 (8,F8)::
 (9,F9)::
 (10,BC)::
 (11,BF)::
 (12,BG)::
 (13,BI)::
 (14,BK)::
 (16,BL)::
 (17,BM)::
 (19,BP)::
 (20,BQ)::
 [])
theorem iJ:Table Try.prog IQ:=
 ib Bt Bu<|
 ib Bv Bw<|
 ib Bx By<|
 ib Bz BA<|
 ib IF BB<|
 ib BD BE<|
 ib tv tw<|
 ib BH tx<|
 ib BJ ek<|
 ib IG IH<|
 ib II b6<|
 ib BN BO<|
 ib IJ IM<|
 ib IN IP<|
 HB
open Go.RowKit
section
variable {P:Program} {n k k0:Nat} {x:L3} {K:L3->Prop} {Q:Ex->L3->Prop} {R:List az} {dep:List (List Nat)} {rs:List Rec} {hs:List (Option Nat)} {b:AC}
end
open Go.RowKit
abbrev uf (i:Nat):fC:= .old i false
theorem fU {α:Type} [BEq α] [LawfulBEq α] {a b:α} (h:(a !=b)=true):¬a=b:=fun e=>by subst e;simp at h
theorem fX {α:Type} [BEq α] [LawfulBEq α] {a b:α} (h:(a !=b)=false):a=b:=by simpa using h
section
variable {x:L3} {res:List kz} {r':AV}
end
section
variable {P:Program} {n k k0:Nat} {x:L3} {K:L3->Prop} {R:List az}
end
section
variable {o:az} {x:L3}
end
theorem aT {a:List AV} {b:List AV} {r:List AV} (h:eg a b) (t:eg r s):eg (.agg a::r) (.agg b::s):= .cons (aQ.agg h) t
open Go.RowKit
def ny:Nat->AV->Bool
 |0,_=>false
 |d+1, .agg cs=>cs.all (ny d)
 |d+1, .aK cs=>cs.all (ny d)
 |d+1, .fn _ cs=>cs.all (ny d)
 |d+1, .bf _ cs=>cs.all (ny d)
 |_+1, .af _ _=>false
 |_+1,_=>true
theorem aj.ny {E E':Env} (hI:∀b,E.I b->E'.I b/\∀o,E'.w.cell? ⟨b,o,none⟩=E.w.cell? ⟨b,o,none⟩) (hs:∀b,E'.w.shape? b=E.w.shape? b) (h1:E'.kn=E.kn) (h2:E'.dead=E.dead) (h3:E'.loc=E.loc) (h4:E'.ln=E.ln):
  ∀(d:Nat) {v:Value} {a:AV},aj E v a->Ytimomnfobfjggaa.ny d a=true->aj E' v a:=by
 intro d
 induction d with
 |zero=>intro v a _ h;simp [Ytimomnfobfjggaa.ny] at h
 |succ d ih=>
  have fL:∀{vs:Array Value} {cs:List AV},(∀(i:Nat) v c,vs[i]? =some v->cs[i]? =some c->aj E v c)->cs.all (Ytimomnfobfjggaa.ny d)=true->∀(i:Nat) v c,vs[i]? =some v->cs[i]? =some c->aj E' v c:=by
   intro vs cs h hn i v c hv hc
   simp only [ON] at hn
   exact ih (h i v c hv hc) (hn c (Pd hc))
  intro v a h hn
  cases a with
  |v x=>exact h.pure hI .v
  |agg cs=>cases h with|agg hl hh=>exact .agg hl (fL hh hn)
  |aK cs=>cases h with|aK hl hh=>exact .aK hl (fL hh hn)
  |fn f cs=>cases h with|fn hl hh=>exact .fn hl (fL hh hn)
  |bf f cs=>cases h with|bf hl hh=>exact .bf hl (fL hh hn)
  |af r cs=>simp [Ytimomnfobfjggaa.ny] at hn
  |aX sz els=>exact h.pure hI .aX
  |ct sz els=>exact h.pure hI .ct
  |emp=>exact h.pure hI .emp
  |pim cs o=>exact h.pure hI .pim
  |de=>exact h.pure hI .de
  |dead=>exact .dead
  |ref id sz i o=>cases h with
   |ref hi hd hb hq=>exact .ref (by rw [h1];exact hi) (by rw [h2];exact hd) (by rw [h3];exact hb) hq
   |dR hi hd ho=>exact .dR (by rw [h1];exact hi) (by rw [h2];exact hd) ho
  |own id sz off n=>cases h with
   |own hi hd hb hq nM hm hl hc bn=>exact .own (by rw [h1];exact hi) (by rw [h2];exact hd) (by rw [h3];exact hb) hq ((hs _).trans nM) hm hl hc (by rw [h4];exact bn)
   |bT hi hd hb bn=>exact .bT (by rw [h1];exact hi) (by rw [h2];exact hd) (by rw [h3];exact hb) (by rw [h4];exact bn)
   |cp hi hd ho=>exact .cp (by rw [h1];exact hi) (by rw [h2];exact hd) ho
  |mp id=>cases h with
   |mp hi hd hb=>exact .mp (by rw [h1];exact hi) (by rw [h2];exact hd) (by rw [h3];exact hb)
   |gr hi hd ho=>exact .gr (by rw [h1];exact hi) (by rw [h2];exact hd) ho
def jS (g:Nat->Option Bk):Prop:=∀id B,g id=some B->∀cs,cs∈B.els->∀c,c∈cs->ny 5 c=true
def lF:List (Option Bk)->Prop
 |[]=>True
 |none::r=>lF r
 |some B::r=>((B.els.all fun cs=>cs.all (ny 5))=true\/∃(α:Type) (f:α->List AV) (xs:List α),B.els=xs.map f/\∀y,(f y).all (ny 5)=true)/\lF r
theorem lF.jS:∀{m:List (Option Bk)},lF m->jS (look m)
 |[],_=>fun id B hg=>by simp [look] at hg
 |none::r,h=>fun id B hg=>by
  cases id with
  |zero=>simp [look] at hg
  |succ i=>exact lF.jS (m:=r) h i B (by simpa [look] using hg)
 |some B::r,h=>fun id B' hg=>by
  cases id with
  |zero=>
   simp only [look,Pg,Option.join_some,OG] at hg
   subst hg
   rcases h.1 with h1|⟨α,f,xs,h1,h2⟩
   ·intro cs hcs c hc
    simp only [ON] at h1
    exact h1 cs hcs c hc
   ·rw [h1]
    intro cs hcs c hc
    simp only [Pc] at hcs
    obtain ⟨y,_,rfl⟩:=hcs
    have:=h2 y
    simp only [ON] at this
    exact this c hc
  |succ i=>exact lF.jS (m:=r) h.2 i B' (by simpa [look] using hg)
section
variable {P:Program}
theorem aE.ny {E E':Env} {J:Nat->Prop} {base:Nat} {g:Nat->Option Bk} (hm:aE E J base g) (hR:∀{v a},aj E v a->Ytimomnfobfjggaa.ny 5 a=true->aj E' v a) (hg:jS g) (fJ:(∀(b:Nat) arr t x,E.w.heap[b]? =some (.cells arr t x)->E'.w.heap[b]? =some (.cells arr t x))/\∀(b:Nat) o,E.w.heap[b]? =some o->(∀r,o≠ .loop r)->E'.w.heap[b]? =some o) (hsz:E'.w.heap.size=E.w.heap.size)
  (h1:E'.kn=E.kn) (h2:E'.dead=E.dead) (h3:E'.loc=E.loc) (h4:E'.ln=E.ln) (hI:∀b,E'.I b->E.I b) (qC:∀l,E'.rg l->E.rg l) (hX:∀b,E'.X b->E.X b):aE E' J base g:=by
 refine ⟨fun id=>by rw [h1,h2];exact hm.live id,fun id B hgi=> ?_,fun id b9 b B B' a1 a2 a3 a4=>hm.apart id b9 b B B' a1 a2 (by rw [<-h3];exact a3) (by rw [<-h3];exact a4),fun id b B hgi hb hi=>hm.out id b B hgi (by rw [<-h3];exact hb) (hI b hi),fun b hb=>⟨by rw [hsz];exact (hm.low b (hI b hb)).1,(hm.low b (hI b hb)).2⟩,by rw [hsz];exact hm.size,fun id B hgi=>by rw [h4];exact hm.len id B hgi,fun l hl=>hm.fk l (qC l hl),fun b hb=>⟨by rw [hsz];exact (hm.xo b (hX b hb)).1,fun hi=>(hm.xo b (hX b hb)).2.1 (hI b hi),fun id B hgi=>by rw [h3];exact (hm.xo b (hX b hb)).2.2 id B hgi⟩⟩
 have:=hm.at_ id B hgi
 rw [h3]
 cases hl:E.loc id with
 |none=>rw [hl] at this;exact this
 |some b=>
  rw [hl] at this
  obtain ⟨q1,⟨hz0,arr,t,q2,q3,q4⟩|⟨hz0,es,c,q2,q3,q4⟩⟩:=this
  ·refine .iT ⟨q1,arr,t,fJ.1 _ _ _ _ q2,q3,fun i cs hi=>⟨(q4 i cs hi).1,fun j x hj=> ?_⟩⟩ hz0
   obtain ⟨u,k1,k2,k3⟩:=(q4 i cs hi).2 j x hj
   exact ⟨u,k1,k2,hR k3 (hg id B hgi cs (Pd hi) x (Pd hj))⟩
  ·refine .ofMap ⟨q1,es,c,fJ.2 _ _ q2 (fun r e=>by cases e),q3,fun i e cs he hi=> ?_⟩ hz0
   obtain ⟨x,rfl,x2,x3⟩:=q4 i e cs he hi
   exact ⟨x,rfl,x2,hR x3 (hg id B hgi _ (Pd hi) x (by simp))⟩
def mI (n:Nat):List Nat->List AV->(Nat->AV)->(Nat->AV)
 |p::ps,a::as_,σ=>mI n ps as_ fun t=>if t=p/\p<n then a else σ t
 |_,_,σ=>σ
theorem BR {E:Env}:∀(ps:List Nat) (vs:List Value) (as_:List AV) (tmps:Array Value) (σ:Nat->AV),vs.length=as_.length->(∀(i:Nat) v c,vs[i]? =some v->as_[i]? =some c->aj E v c)->(∀t,aj E (tmps.getD t undef) (σ t))->
  ((ps.zip vs).foldl (fun (t:Array Value) (p:Nat×Value)=>t.setIfInBounds p.1 p.2) tmps).size=tmps.size/\∀t,aj E (((ps.zip vs).foldl (fun (t:Array Value) (p:Nat×Value)=>t.setIfInBounds p.1 p.2) tmps).getD t undef) (mI tmps.size ps as_ σ t)
 |[],vs,as_,tmps,σ,_,_,h=>⟨by simp,by simpa [mI] using h⟩
 |p::ps,[],as_,tmps,σ,hl,_,h=>by
  have:as_=[]:=PU (by simpa using hl.symm)
  subst this
  exact ⟨by simp,by simpa [mI] using h⟩
 |p::ps,v::vs,[],tmps,σ,hl,_,h=>by simp at hl
 |p::ps,v::vs,a::as_,tmps,σ,hl,hr,h=>by
  have ih:=BR ps vs as_ (tmps.setIfInBounds p v) (fun t=>if t=p/\p<tmps.size then a else σ t) (by simpa using hl) (fun i u c hu hc=>hr (i+1) u c (by simpa using hu) (by simpa using hc)) (fun t=>by
   by_cases hc:t=p/\p<tmps.size
   ·rw [OI hc]
    obtain ⟨rfl,hlt⟩:=hc
    have:=hr 0 v a rfl rfl
    simpa [hlt] using this
   ·rw [OH hc]
    have e:(tmps.setIfInBounds p v).getD t undef=tmps.getD t undef:=by
     simp only [P8,Qu]
     by_cases BS:p=t
     ·subst BS
      have:¬p<tmps.size:=fun hlt=>hc ⟨rfl,hlt⟩
      simp [this]
     ·simp [BS]
    rw [e];exact h t)
  rw [Array.size_setIfInBounds] at ih
  exact ih
theorem IS {vs:Array Value} {cs:List AV} (h:RC E vs cs) (t:Nat):aj E (vs.getD t undef) (cj cs t):=by
 have:=o7 h 0 t
 simpa using this
def tz (P:Program) (kb:Nat) (f:FuncId) (as_:List AV) (g:Nat->Option Bk) (k:Nat) (r:AV) (g':Nat->Option Bk) (k':Nat):Prop:=
 ∀(E:Env) (J:Nat->Prop) (base:Nat) (vs:Array Value),ee E->aE E J base g->(∀id,E.kn id->id<k)->RC E vs as_->
  Calls P f vs E.w fun e w'=>∃v E',e= .returned v/\E'.w=w'/\(E.lt kb).Le E'/\aj E' v r/\aE E' J base g'/\Below base E.w w'/\∀id,E'.kn id->id<k'
theorem IT (hF:cFunc P f=some F) (hl:as_.length<=F.n)
  (h:EW P F.n kb F.code ⟨cj as_,g,k⟩ fun x s'=>(x= .normal\/x= .ret)/\∃y:S3,s'.Le kb F.n y/\(resR y.σ F.res).run y.g=some r/\y.g=g'/\y.k=k'):tz P kb f as_ g k r g' k':=by
 intro E J base vs hG hm ba bJ
 obtain ⟨fn,c,h1,h2,h3,h4,h5⟩:=qK hF
 refine qN h1 h2 (wpIn_mono (h none c (E.lt kb) J base E.w _ E.w (fun _=>rfl) h4 (fun id hi=>hi.2) ⟨⟨E,rfl,E.AD kb,o7 bJ _,hm,ba, .nil⟩, ?_,Pk _ _,hG⟩) ?_)
 ·simp only [Qv,QD,bJ.1];omega
 ·rintro e a' w' ⟨x,s',⟨hx,y,hy,hr,rfl,rfl⟩,rfl,xi⟩
  have hrel:=hy (E.lt kb) J base E.w a' w' (fun id hi=>hi.2) xi
  obtain ⟨E',rfl,hle,hs,hM,hk,hmk⟩:=hrel.ex
  refine ⟨by rcases hx with rfl|rfl<;>simp [Ex.up],o8 _ E' hmk fun E2 hS=> ?_⟩
  have kB:=hS.mem hM
  obtain ⟨v,e1,e2⟩:=qJ kB (fun t=>hS.rep (hs t)) h3 hr
  exact ⟨v,e1,v,E2,rfl,rfl,hS.le hle (fun b hb=>(hm.low b hb).1) (fun b hb=>(hm.xo b hb).1),e2,kB,hS.below hm.size hrel.below,fun id hid=>hk id (by rw [<-hS.eqs.1];exact hid)⟩
theorem fib_walk (hF:cFunc P f=some F) (hl:as_.length<=F.n)
  (h:EL P F.n kb F.code ⟨gI 0 as_,m⟩ fun e x=>(e= .normal\/e= .ret)/\∃y:L3,x.s.Le kb F.n y.s/\(resR (slot y.t) F.res).run (look y.m)=some r/\y.m=m'):tz P kb f as_ (look m) m.length r (look m') m'.length:=by
 refine IT hF hl (EW.fP (qQ as_ _ _) (EW.cP h ?_))
 rintro e s ⟨x',rfl,h1,y,h2,h3,rfl⟩
 exact ⟨h1,y.s,h2,h3,rfl,rfl⟩
theorem IU {r:Loop} {x:AC} (hx:cCode P r.assign=some x) (hy:cCode P r.body=some y) (dj:r.state= .ready) (tA:r.pending=none) (tB:r.params=ps.toArray) (hlen:ps.length=as_.length)
  (hn:caps.length=n) (pg:x.ia=false) (IV:y.ia=false)
  (h:EW P n kb x ⟨mI n ps as_ (cj caps),g,k⟩ fun e s1=>e= .normal/\(∀t,ny 5 (s1.σ t)=true)/\jS s1.g/\EW P n kb y s1 fun e s2=>e= .normal/\∃s3:S3,s2.Le kb n s3/\jS s3.g/\s3.g=g'/\s3.k=k'):Yd P kb r caps as_ g k g' k':=by
 refine ⟨by rw [tB];simpa using hlen,fun E J base l vs hG hm ba qC bJ sU hI hh=> ?_⟩
 have IW:=hm.low l hI
 have bo:base<=l\/J l:=IW.2.symm
 have xH:=BR (E:=E) ps vs.toList as_ r.tmps (cj caps) (by simpa using bJ.1) (fun i v c hv hc=>bJ.2 i v c (by simpa using hv) hc) (fun t=>IS sU t)
 have hfe:(r.params.zip vs).foldl (fun t (p,v)=>t.setIfInBounds p v) r.tmps=(ps.zip vs.toList).foldl (fun (t:Array Value) (p:Nat×Value)=>t.setIfInBounds p.1 p.2) r.tmps:=by
  rw [tB, <-Array.foldl_toList,Array.toList_zip]
 have hsz:r.tmps.size=n:=sU.1.trans hn
 rw [hfe]
 rw [hsz] at xH
 refine roundIn_of_wpIn (F:=Fence.wide) (n:=0) trivial ?_
 have h1:=h (some l) r.assign (E.lt kb) J base E.w { tmps:=(ps.zip vs.toList).foldl (fun (t:Array Value) (p:Nat×Value)=>t.setIfInBounds p.1 p.2) r.tmps,defers:=[] } E.w (fun hh=>by rw [pg] at hh;simp at hh) hx (fun id hi=>hi.2)
  ⟨⟨E,rfl,E.AD kb,xH.2,hm,ba, .nil⟩,xH.1,Pk _ _,trivial⟩
 refine wpIn_mono h1 ?_
 rintro e a1 w1 ⟨x1,s1,⟨rfl,IX,IY,IZ⟩,rfl,hrel⟩
 obtain ⟨E1,rfl,jf,hs1,mr,bI,I1⟩:=hrel.ex
 have qX:E1.w.heap[l]? =some (.loop r):=(jf.cE l hI).2.trans hh
 have nC:E1.I l:=(jf.cE l hI).1
 refine ⟨_,run_beginRound qX dj, ?_⟩
 have I2:=(Ph.1 qX).1
 obtain ⟨w2,hw2⟩:∃w2,w2=E1.w.putObj l (.loop { r with state:= .busy }):=⟨_,rfl⟩
 rw [<-hw2]
 have BT:w2.heap[l]? =some (.loop { r with state:= .busy }):=by rw [hw2];exact World.putObj_heap_same I2
 have qY:∀b,b≠l->w2.heap[b]? =E1.w.heap[b]? :=fun b hb=>by rw [hw2];exact PY hb
 obtain ⟨c1,c2,c3⟩:=qL (.loop { r with state:= .busy }) qX rfl rfl
 rw [<-hw2] at c1 c2 c3
 let E2:Env:={ E1 with w:=w2 }
 have BU:∀{v a},aj E1 v a->ny 5 a=true->aj E2 v a:=fun hr hn=>aj.ny (E:=E1) (E':=E2) (fun b hb=>⟨hb,c1 b⟩) c2 rfl rfl rfl rfl 5 hr hn
 have hsz2:w2.heap.size=E1.w.heap.size:=by rw [hw2];simp
 have gw:aE E2 J base s1.g:=mr.ny (E':=E2) BU IY ⟨c3,fun b o hb ho=>by
  by_cases e:b=l
  ·subst e;rw [qX] at hb;simp only [OG] at hb;exact absurd hb.symm (ho _)
  ·exact (qY b e).trans hb⟩ hsz2 rfl rfl rfl rfl (fun b hb=>hb) (fun b hb=>hb) (fun b hb=>hb)
 have I3:Mk E2 E.w.heap.size a1.defers:=by
  have:∀{ds},Mk E1 E.w.heap.size ds->Mk E2 E.w.heap.size ds:=by
   intro ds hmk
   induction hmk with
   |nil=>exact .nil
   | @cons D ds iF hD qM hne t ih=>
    refine .cons iF hD ((qY D fun e=> ?_).trans qM) hne ih
    rw [e,qX] at qM;simp at qM
  exact this I1
 have bo:=hm.fk l qC
 have hb2:Below base E.w w2:=hrel.below.trans ⟨by rw [hw2];rfl,by rw [hw2];rfl,by rw [hw2];rfl,by rw [hsz2];exact OQ _,fun k hk=>qY k (by omega)⟩
 have nY:=(Ph.1 hh).1
 obtain ⟨wb,xI⟩:∃wb,wb=E.w.putObj l (.loop { r with state:= .busy }):=⟨_,rfl⟩
 obtain ⟨b1,b2,b3⟩:=qL (.loop { r with state:= .busy }) hh rfl rfl
 rw [<-xI] at b1 b2 b3
 have xJ:wb.heap[l]? =some (.loop { r with state:= .busy }):=by rw [xI];exact World.putObj_heap_same nY
 have tC:∀b,b≠l->wb.heap[b]? =E.w.heap[b]? :=fun b hb=>by rw [xI];exact PY hb
 let Eb:Env:={ E.lt kb with w:=wb }
 have I4:Eb.Le E2:=by
  refine ⟨jf.kn,fun b hb=>⟨(jf.cE b hb).1, ?_⟩,jf.dead,jf.loc,fun id b hi hd hb=> ?_,jf.ln,jf.rg,fun b hb=>⟨(jf.fx b hb).1, ?_⟩⟩
  ·show w2.heap[b]? =wb.heap[b]?
   by_cases bo:b=l
   ·subst bo;rw [BT,xJ]
   ·rw [qY b bo,tC b bo];exact (jf.cE b hb).2
  ·rcases jf.shape id b hi hd hb with k1|k1
   ·exact .inl k1
   ·exact .inr ((c2 b).trans (k1.trans (b2 b).symm))
  ·show w2.heap[b]? =wb.heap[b]?
   by_cases bo:b=l
   ·subst bo;rw [BT,xJ]
   ·rw [qY b bo,tC b bo];exact (jf.fx b hb).2
 have h2:=IZ (some l) r.body Eb J base E.w a1 w2 (fun hh=>by rw [IV] at hh;simp at hh) hy (fun id hi=>hi.2)
  ⟨⟨E2,rfl,I4,fun t=>BU (hs1 t) (IX t),gw,bI,I3⟩,hrel.size,hb2,trivial⟩
 refine wpIn_mono h2 ?_
 rintro e a3 w3 ⟨x2,s2,⟨rfl,s3,I5,I6,rfl,rfl⟩,rfl,I7⟩
 have BV:=I5 Eb J base E.w a3 w3 (fun id hi=>hi.2) I7
 obtain ⟨E3,rfl,gK,Oh,xK,I8,Oi⟩:=BV.ex
 have tF:E3.w.heap[l]? =some (.loop { r with state:= .busy }):=(gK.cE l hI).2.trans xJ
 have I9:=(Ph.1 tF).1
 have nZ:=run_endRound (P:=P) none tF
 have Ja:({ ({ r with state:= .busy }:Loop) with state:= .ready,pending:=none }:Loop)=r:=by
  cases r;simp only at dj tA;subst dj;subst tA;rfl
 simp only [Option.isNone_none,OK] at nZ
 rw [Ja] at nZ
 obtain ⟨w4,fY⟩:∃w4,w4=E3.w.putObj l (.loop r):=⟨_,rfl⟩
 rw [<-fY] at nZ
 obtain ⟨d1,d2,d3⟩:=qL (.loop r) tF rfl rfl
 rw [<-fY] at d1 d2 d3
 have kD:∀b,b≠l->w4.heap[b]? =E3.w.heap[b]? :=fun b hb=>by rw [fY];exact PY hb
 have qZ:w4.heap.size=E3.w.heap.size:=by rw [fY];simp
 let E4:Env:={ E3 with w:=w4 }
 have Jb:∀{v a},aj E3 v a->ny 5 a=true->aj E4 v a:=fun hr hn=>aj.ny (E:=E3) (E':=E4) (fun b hb=>⟨hb,d1 b⟩) d2 rfl rfl rfl rfl 5 hr hn
 have Jc:aE E4 J base s3.g:=xK.ny (E':=E4) Jb I6 ⟨d3,fun b o hb ho=>by
  by_cases e:b=l
  ·subst e;rw [tF] at hb;simp only [OG] at hb;exact absurd hb.symm (ho _)
  ·exact (kD b e).trans hb⟩ qZ rfl rfl rfl rfl (fun b hb=>hb) (fun b hb=>hb) (fun b hb=>hb)
 have Jd:∀b,E.I b->w4.heap[b]? =E.w.heap[b]? :=fun b hb=>by
  by_cases bo:b=l
  ·subst bo;rw [hh,fY];exact World.putObj_heap_same I9
  ·rw [kD b bo,(gK.cE b hb).2]
   exact tC b bo
 have Je:(E.lt kb).Le E4:=by
  refine ⟨gK.kn,fun b hb=>⟨(gK.cE b hb).1,Jd b hb⟩,gK.dead,gK.loc,fun id b hi hd hb=> ?_,gK.ln,gK.rg,fun b hb=>⟨(gK.fx b hb).1, ?_⟩⟩
  ·rcases gK.shape id b hi hd hb with k1|k1
   ·exact .inl k1
   ·exact .inr ((d2 b).trans (k1.trans (b2 b)))
  ·have bo:b≠l:=fun e=>(hm.xo b hb).2.1 (e▸hI)
   show w4.heap[b]? =_
   rw [kD b bo,(gK.fx b hb).2]
   exact tC b bo
 have xL:Below base E.w w4:=BV.below.trans ⟨by rw [fY];rfl,by rw [fY];rfl,by rw [fY];rfl,by rw [qZ];exact OQ _,fun k hk=>kD k (by omega)⟩
 exact ⟨_,w4,nZ,rfl,E4,rfl,Je,Jc,xL,I8⟩
theorem EW.gG {gA:Arg} {ps:List Nat} {x y:AC} {f:FuncId} {caps:List AV} {n k0 kb:Nat} {s:S3} {g':Nat->Option Bk} {k':Nat} {res:AV} {Q:Ex->S3->Prop} (oJ:k0<=kb) (kx:∀t,nb kb 6 (s.σ t)=true) (hg:aG s.σ gA= .fn f caps) (hc:bL P f=true) (oO:jS g')
  (h:∀r:Loop,cCode P r.assign=some x->cCode P r.body=some y->r.state= .ready->r.pending=none->r.params=ps.toArray->tz P kb f (.af r ((List.range n).map s.σ)::caps) s.g s.k res g' k') (hq:Q .normal ⟨s.σ,g',k'⟩):EW P n k0 (.gG gA ps x y) s Q:=by
 intro rd c E0 J base w0 a w cg hcc hk hr
 obtain rfl:=cg rfl
 obtain ⟨go,ph,ca,cb,rfl,fb,hx,hy,Jf⟩:∃go ph ca cb,c= .rangeFunc go ph ca cb/\cArg go=some gA/\cCode P ca=some x/\cCode P cb=some y/\ph.toList=ps:=by
  cases c with
  |rangeFunc go ph ca cb=>
   simp only [cCode] at hcc
   split at hcc
   ·rename_i h1 h2 h3
    simp only [OG,AC.gG.injEq] at hcc
    obtain ⟨rfl,rfl,rfl,rfl⟩:=hcc
    exact ⟨go,ph,ca,cb,rfl,h1,h2,h3,rfl⟩
   ·simp at hcc
  |_=>
   exfalso
   simp only [cCode] at hcc
   repeat' (first|(simp at hcc;done)|split at hcc)
 obtain ⟨E,rfl,hle,hs,hm,ba,hmk⟩:=hr.ex
 have hgv:=dE.of (hr.gl.step hle) hs go gA fb
 rw [hg] at hgv
 obtain ⟨vv,cd⟩:∃vv,vv=a.eval go:=⟨_,rfl⟩
 rw [<-cd] at hgv
 cases hgv with
 | @fn _ lb _ Jg tG=>
 refine wpIn_rangeFunc ?_
 intro fn eX
 obtain ⟨rec,cv⟩:∃rec:Loop,rec={ state:= .ready,pending:=none,fn,tmps:=a.tmps,params:=ph,assign:=ca,body:=cb,defers:=E.w.heap.size }:=⟨_,rfl⟩
 obtain ⟨W1,pj⟩:∃W1,(E.w.alloc (.deferred (some []))).alloc (.loop rec)=W1:=⟨_,rfl⟩
 have BW:W1.heap[E.w.heap.size+1]? =some (.loop rec):=by
  rw [<-pj];have:=World.alloc_heap_new (E.w.alloc (.deferred (some []))) (.loop rec);rwa [World.size_alloc] at this
 have Jh:W1.heap[E.w.heap.size]? =some (.deferred (some [])):=by
  rw [<-pj];exact (PI _ _ _ (by simp)).trans (World.alloc_heap_new E.w _)
 have hold:∀b,b<E.w.heap.size->W1.heap[b]? =E.w.heap[b]? :=fun b hb=>by
  rw [<-pj];exact (PI _ _ _ (by simp;omega)).trans (PI _ _ _ hb)
 have hsz1:W1.heap.size=E.w.heap.size+2:=by rw [<-pj];simp
 have mu:Below base E.w W1:=by
  rw [<-pj];exact ((Pk _ E.w).alloc hm.size _).alloc (by have:=hm.size;simp;omega) _
 have xM:∀id b B,s.g id=some B->E.loc id=some b->b<E.w.heap.size:=fun id b B hgi hb=>by
  have:=hm.at_ id B hgi;rw [hb] at this;exact this.lt.2
 let E1:Env:={ E with w:=W1,I:=fun b=>E.I b\/b=E.w.heap.size\/b=E.w.heap.size+1,rg:=fun l=>E.rg l\/l=E.w.heap.size+1 }
 have fu:E.Le E1:=by
  refine ⟨fun _ h=>h,fun b hb=>⟨.inl hb,hold b (hm.low b hb).1⟩,fun _ _ h=>h,fun _ _ _=> .inr rfl,fun id b hi hd hb=> .inr ?_,fun _ _ _=> .inr rfl,fun _ h=> .inl h,fun b hb=>⟨hb,hold b (hm.xo b hb).1⟩⟩
  obtain ⟨B,hB⟩:=(hm.live id).1 ⟨hi,hd⟩
  show W1.shape? b=_
  simp only [World.shape?,hold b (xM id b B hB hb)]
 have mr:aE E1 J base s.g:=by
  refine ⟨hm.live,fun id B hgi=>(hm.at_ id B hgi).bO fu fun b hb=>hold b (xM id b B hgi hb),hm.apart,fun id b B hgi hb hi=> ?_,fun b hb=> ?_,by show base<=W1.heap.size;have:=hm.size;omega,hm.len,fun l hl=> ?_,fun b hb=>⟨by show b<W1.heap.size;have:=(hm.xo b hb).1;omega,fun hi=> ?_,(hm.xo b hb).2.2⟩⟩
  ·have:=xM id b B hgi hb
   rcases hi with hi|hi|hi
   ·exact hm.out id b B hgi hb hi
   ·omega
   ·omega
  ·show b<W1.heap.size/\_
   have:=hm.size
   rcases hb with hb|hb|hb
   ·have:=hm.low b hb;exact ⟨by omega,this.2⟩
   ·exact ⟨by omega, .inr (by omega)⟩
   ·exact ⟨by omega, .inr (by omega)⟩
  ·have:=hm.size
   rcases hl with hl|hl
   ·exact hm.fk l hl
   ·omega
  ·have:=(hm.xo b hb).1
   rcases hi with hi|hi|hi
   ·exact (hm.xo b hb).2.1 hi
   ·omega
   ·omega
 have sV:=h rec (by rw [cv];exact hx) (by rw [cv];exact hy) (by rw [cv]) (by rw [cv]) (by rw [cv];simp [<-Jf])
 have BX:a.tmps.size=n:=hr.size
 have bJ:RC E1 (#[.func (.yield (E.w.heap.size+1)) #[] #[]]++lb) (.af rec ((List.range n).map s.σ)::caps):=by
  refine ⟨by simp [Jg];omega,fun j u c hu hc=> ?_⟩
  cases j with
  |zero=>
   rw [Qw (by simp)] at hu
   simp at hu hc;subst hu;subst hc
   refine .af (.inr rfl) (.inr (.inr rfl)) BW (by rw [cv];simp [BX]) fun i v c hv hc=> ?_
   rw [cv] at hv
   have hi:i<n:=by rw [<-BX];exact (Ph.1 hv).1
   rw [O6,List.getElem?_range hi] at hc
   simp only [OS,OG] at hc
   subst hc
   have:=(hs i).step fu
   simp only at hv
   simpa [P8,hv] using this
  |succ j=>
   rw [QF (by simp)] at hu
   simp at hu hc
   exact (tG j u c hu hc).step fu
 refine ⟨E.w.heap.size+1,[{ target:= .collected E.w.heap.size,args:= #[] }],W1,{ target:= .fn (.func f) lb,args:= #[.func (.yield (E.w.heap.size+1)) #[] #[]] },W1,f,
  #[.func (.yield (E.w.heap.size+1)) #[] #[]]++lb,W1, ?_, ?_,fun _ _=>trivial, ?_,nD, ?_⟩
 ·rw [<-pj,cv];exact run_enterLoop_outer _ _ _ _ _
 ·simp only [resolve, <-cd]
  simp [Deferred.ofValue]
  rfl
 ·simp only [invoke]
  exact wv hc _ _
 ·refine oR ((sV E1 J base _ trivial mr ba bJ).mono ?_)
  rintro e w' ⟨v,E2,rfl,rfl,iK,_,gw,hb2,hk2⟩
  have tn:E2.w.heap[E.w.heap.size+1]? =some (.loop rec):=(iK.cE _ (.inr (.inr rfl))).2.trans BW
  have Ji:E2.w.heap[E.w.heap.size]? =some (.deferred (some [])):=(iK.cE _ (.inr (.inl rfl))).2.trans Jh
  have nZ:=run_endLoop (P:=P) tn (by rw [cv];simp)
  obtain ⟨w4,fY⟩:∃w4,w4=E2.w.putObj (E.w.heap.size+1) (.loop { rec with state:= .exhausted }):=⟨_,rfl⟩
  rw [<-fY] at nZ
  refine ⟨_,w4,nZ, ?_⟩
  rw [show rec.pending=none by rw [cv]]
  obtain ⟨d1,d2,d3⟩:=qL (.loop { rec with state:= .exhausted }) tn rfl rfl
  rw [<-fY] at d1 d2 d3
  have kD:∀b,b≠E.w.heap.size+1->w4.heap[b]? =E2.w.heap[b]? :=fun b hb=>by rw [fY];exact PY hb
  have qZ:w4.heap.size=E2.w.heap.size:=by rw [fY];simp
  let E3:Env:={ E2 with w:=w4 }
  have hR:∀{v a},aj E2 v a->ny 5 a=true->aj E3 v a:=fun hr hn=>aj.ny (E:=E2) (E':=E3) (fun b hb=>⟨hb,d1 b⟩) d2 rfl rfl rfl rfl 5 hr hn
  have xK:aE E3 J base g':=gw.ny (E':=E3) hR oO ⟨d3,fun b o hb ho=>by
   by_cases e:b=E.w.heap.size+1
   ·subst e;rw [tn] at hb;simp only [OG] at hb;exact absurd hb.symm (ho _)
   ·exact (kD b e).trans hb⟩ qZ rfl rfl rfl rfl (fun b hb=>hb) (fun b hb=>hb) (fun b hb=>hb)
  have gK:(E.lt kb).Le E3:=by
   refine ⟨fun id hi=>iK.kn id hi,fun b hb=>⟨(iK.cE b (.inl hb)).1, ?_⟩,fun id hi hd=>iK.dead id hi hd,fun id hi hd=>iK.loc id hi hd,fun id b hi hd hb=> ?_,fun id hi hd=>iK.ln id hi hd,fun l hl=>iK.rg l (.inl hl),fun b hb=>⟨(iK.fx b hb).1,(kD b (by have:=(hm.xo b hb).1;omega)).trans ((iK.fx b hb).2.trans (hold b (hm.xo b hb).1))⟩⟩
   ·have:=(hm.low b hb).1
    exact (kD b (by omega)).trans ((iK.cE b (.inl hb)).2.trans (hold b this))
   ·rcases iK.shape id b hi hd hb with k1|k1
    ·exact .inl k1
    ·exact .inr ((d2 b).trans (k1.trans ((fu.shape id b hi.1 hd hb).resolve_left hd)))
  have xL:Below base E2.w w4:=⟨by rw [fY];rfl,by rw [fY];rfl,by rw [fY];rfl,by rw [qZ];exact OQ _,fun k hk=>kD k (by have:=hm.size;omega)⟩
  refine ⟨.normal,⟨s.σ,g',k'⟩,hq,rfl,⟨⟨E3,rfl,hle.cut (fun id hi=>O8 (hk id hi) oJ) gK,fun t=>(hs t).AE gK 6 (kx t),xK,hk2, ?_⟩,hr.size,hr.below.trans (mu.trans (hb2.trans xL)),hr.gl⟩⟩
  refine Mk.cons (iK.cE _ (.inr (.inl rfl))).1 hr.below.size ((kD _ (by omega)).trans Ji) (fun d hd e=> ?_) (Mk.wG (E:=E) gK.cE hmk)
  have:=hmk.lt d hd _ e
  omega
def n0:List Nat->List AV->List (Nat×AV)->List (Nat×AV)
 |p::ps,a::as_,t=>n0 ps as_ (eE t (some p) a)
 |_,_,t=>t
theorem BY {n:Nat}:∀(ps:List Nat) (as_:List AV) (t:List (Nat×AV)) (σ:Nat->AV),(ps.all fun p=>Nat.blt p n)=true->(∀i,slot t i=σ i\/slot t i= .dead)->∀i,slot (n0 ps as_ t) i=mI n ps as_ σ i\/slot (n0 ps as_ t) i= .dead
 |[],as_,t,σ,_,h,i=>by simpa [n0,mI] using h i
 |p::ps,[],t,σ,_,h,i=>by simpa [n0,mI] using h i
 |p::ps,a::as_,t,σ,hp,h,i=>by
  simp only [Qi,OJ] at hp
  refine BY ps as_ (eE t (some p) a) (fun t=>if t=p/\p<n then a else σ t) hp.2 (fun j=> ?_) i
  rw [nN (n:=n) t (some p) hp.1 a]
  unfold bG
  have BZ:p<n:=Pn hp.1
  by_cases hj:j=p
  ·subst hj
   left
   rw [OI ⟨rfl,BZ⟩,OI ⟨rfl,BZ⟩]
  ·rw [OH (fun hc=>hj (Option.some.inj hc.1).symm),OH (fun hc=>hj hc.1)]
   exact h j
theorem B5 {d:Nat}:∀(t:List (Nat×AV)),(t.all fun p=>ny (d+1) p.2)=true->∀i,ny (d+1) (slot t i)=true
 |[],_,i=>rfl
 |(j,v)::r,h,i=>by
  simp only [Qi,OJ] at h
  simp only [slot]
  cases Nat.beq i j with
  |true=>exact h.1
  |false=>exact B5 r h.2 i
theorem yd_walk {r:Loop} {x:AC} (hx:cCode P r.assign=some x) (hy:cCode P r.body=some y) (dj:r.state= .ready) (tA:r.pending=none) (tB:r.params=ps.toArray)
  (hok:(Nat.beq ps.length as_.length&&(Nat.beq caps.length n&&((ps.all fun p=>Nat.blt p n)&&(!x.ia&& !y.ia))))=true)
  (h:EL P n kb x ⟨n0 ps as_ (gI 0 caps),m⟩ fun e x1=>e= .normal/\(x1.t.all fun p=>ny 5 p.2)=true/\lF x1.m/\EL P n kb y x1 fun e x2=>e= .normal/\∃z:L3,x2.s.Le kb n z.s/\lF z.m/\z.m=m'):Yd P kb r caps as_ (look m) m.length (look m') m'.length:=by
 simp only [OJ,O4] at hok
 obtain ⟨h1,h2,h3,h4,h5⟩:=hok
 refine IU hx hy dj tA tB (OR h1) (OR h2) h4 h5 ?_
 refine EW.fP (s':=(⟨n0 ps as_ (gI 0 caps),m⟩:L3).s) (S3.w9 (fun t=> ?_) rfl rfl) (EW.cP h ?_)
 ·have:=BY (n:=n) ps as_ (gI 0 caps) (cj caps) h3 (fun i=> ?_) t
  ·rcases this with h|h
   ·exact .inl h
   ·exact .inr (.inl h)
  ·rw [s6,OI (Nat.zero_le _),Nat.sub_zero]
   unfold cj
   cases caps[i]? with
   |none=>exact .inr rfl
   |some a=>exact .inl rfl
 ·rintro e s ⟨x1,rfl,rfl,zR,p9,hb⟩
  refine ⟨rfl,B5 x1.t zR,p9.jS,EW.cP hb ?_⟩
  rintro e s ⟨x2,rfl,rfl,z,hz1,hz2,rfl⟩
  exact ⟨rfl,z.s,hz1,hz2.jS,rfl,rfl⟩
theorem xN {kb d:Nat}:∀(t:List (Nat×AV)),(t.all fun p=>nb kb (d+1) p.2)=true->∀i,nb kb (d+1) (slot t i)=true
 |[],_,i=>rfl
 |(j,v)::r,h,i=>by
  simp only [Qi,OJ] at h
  simp only [slot]
  cases Nat.beq i j with
  |true=>exact h.1
  |false=>exact xN r h.2 i
theorem EL.gG {gA:Arg} {ps:List Nat} {a b:AC} {f:FuncId} {caps cs:List AV} {n k0:Nat} {x:L3} {m':List (Option Bk)} {res:AV} {Q:Ex->L3->Prop} (kb:Nat) (kx:(Nat.ble k0 kb&&x.t.all fun p=>nb kb 6 p.2)=true) (hg:aG (slot x.t) gA= .fn f caps) (hc:bL P f=true) (hcs:(List.range n).map (slot x.t)=cs) (oO:lF m')
  (h:∀r:Loop,cCode P r.assign=some a->cCode P r.body=some b->r.state= .ready->r.pending=none->r.params=ps.toArray->tz P kb f (.af r cs::caps) (look x.m) x.m.length res (look m') m'.length) (hq:Q .normal ⟨x.t,m'⟩):EL P n k0 (.gG gA ps a b) x Q:=
 have q8:=Bool.and_eq_true_iff.1 kx
 EW.gG (Pn q8.1) (xN x.t q8.2) hg hc oO.jS (fun r h1 h2 h3 h4 h5=>by have:=h r h1 h2 h3 h4 h5;rw [<-hcs] at this;exact this) ⟨⟨x.t,m'⟩,rfl,hq⟩
theorem OW.af {n k k0:Nat} {R:List az} {x:L3} {K:L3->Prop} {a:Arg} {args:List Arg} {r:Loop} {caps aa:List AV} {m':List (Option Bk)} {x':L3} (hl:Nat.blt k R.length=true) (cw:bR (slot x.t) (opD R k).guard=some true) (ho:(opD R k).ao= .call a args) (hx:aG (slot x.t) a= .af r caps) (has:args.map (aG (slot x.t))=aa) {kb:Nat} (kx:(Nat.ble k0 kb&&x.t.all fun p=>nb kb 6 p.2)=true)
  (hy:Yd P kb r caps aa (look x.m) x.m.length (look m') m'.length) (cK:(bif dstOK n (opD R k).dst then some (⟨eE x.t (opD R k).dst (.v (.bool true)),m'⟩:L3) else none)=some x') (hr:OW P n k0 (R.drop (k+1)) x' K):OW P n k0 (R.drop k) x K:=by
 rw [s9 hl]
 cases hd:dstOK n (opD R k).dst with
 |false=>rw [hd] at cK;simp at cK
 |true=>
  rw [hd,OL] at cK
  simp only [OG] at cK
  subst cK
  obtain ⟨z,h1,h3⟩:=hr
  simp only [nN _ _ hd] at h1
  subst has
  have q8:=Bool.and_eq_true_iff.1 kx
  exact ⟨z, .af cw ho hx (Pn q8.1) (xN x.t q8.2) hy h1,h3⟩
end
end Go.Proofs.Ytimomnfobfjggaa
