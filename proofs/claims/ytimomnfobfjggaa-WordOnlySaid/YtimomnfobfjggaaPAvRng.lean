/- Ranges over functions, upon abstract values: a round is a call upon the same own memory. No condition. -/
import Derived.Test.YtimomnfobfjggaaPAvRun
import Derived.Test.YtimomnfobfjggaaRows
set_option linter.unusedSimpArgs false
set_option linter.unusedVariables false
set_option maxRecDepth 100000
namespace Go.Proofs.Ytimomnfobfjggaa
variable {b y ac z:AC} {F:cP} {o:az} {r v a:AV} {K:Act->World->Prop} {listed:Array Bool} {E:Env} {f:FuncId} {x' x:L3} {dep:List (List Nat)} {u ups:List (Nat×Option Bk)} {m m':List (Option Bk)} {as_ s caps:List AV} {acc ps:List Nat} {rs:List Rec} {n jn i k k' kb k0 k1:Nat} {σ:Nat->AV} {g g':Nat->Option Bk} {op:Oper} {P:Program} {w:World}
open Go.RowKit
abbrev Od:=@Option.map_eq_some_iff
abbrev OE:=@List.mem_map
abbrev OZ:=@List.isEmpty_iff
abbrev O9:=@List.map_append
abbrev PA:=@List.take_of_length_le
abbrev PJ:=@List.all_cons
abbrev PV:=@List.drop_zero
def wV (o:az) (x:L3):Option (AV×List (Nat×Option Bk)):=
 match dh o x with
 | .done v u _=>some (v,u)
 |_=>none
def runN (n:Nat):Nat->List az->L3->Option L3
 |0,_,x=>some x
 |_+1,[],_=>none
 |k+1,o::os,x=>bif dstOK n o.dst then match wV o x with
   |some (v,u)=>bif upsOK x.m.length u then runN n k os ⟨eu x.t o.dst v,dB x.m u⟩ else none
   |none=>none
  else none
def nE:Nat->List az->L3->List Rec
 |0,_,_=>[]
 |_+1,[],_=>[]
 |k+1,o::os,x=>match dh o x with
  | .done v u acc=>⟨o.dst,v,u,acc,x.m.length⟩::nE k os ⟨eu x.t o.dst v,dB x.m u⟩
  |_=>[]
def bL (live:List Nat):List (Nat×AV)->List (Nat×AV)
 |[]=>[]
 |(j,v)::r=>bif live.any (Nat.beq j) then (j,v)::bL live r else bL live r
def L3.bL (live:List Nat) (x:L3):L3:=⟨Ytimomnfobfjggaa.bL live x.t,x.m⟩
theorem sP (live:List Nat):∀(t:List (Nat×AV)) (i:Nat),slot (bL live t) i=if live.any (Nat.beq i)=true then slot t i else .dead
 |[],i=>by simp [bL,slot]
 |(j,v)::r,i=>by
  simp only [bL,slot]
  cases hb:Nat.beq i j with
  |true=>
   have:=Ol hb
   subst this
   cases hl:live.any (Nat.beq i) with
   |true=>simp [slot]
   |false=>simp [sP live r,hl]
  |false=>
   cases hl:live.any (Nat.beq j) with
   |true=>simp [slot,hb,sP live r]
   |false=>simp [sP live r]
section
variable {P:Program} {n k0:Nat} {x:L3} {K:L3->Prop} {Q:Ex->L3->Prop} {R:List az} {k:Nat}
theorem EL.prune (live:List Nat) (h:EL P n k0 ac (x.bL live) Q):EL P n k0 ac x Q:=by
 refine EL.fJ (y:=x.bL live) (S3.wT (fun t=> ?_) rfl rfl) h
 show slot (bL live x.t) t=slot x.t t\/slot (bL live x.t) t= .dead\/_
 rw [sP]
 split
 ·exact .inl rfl
 ·exact .inr (.inl rfl)
theorem AR (h:wV o x=some (v,u)):∃acc,dh o x= .done v u acc:=by
 unfold wV at h
 split at h
 ·rename_i v' u' acc he
  simp only [N6,Oi] at h
  obtain ⟨rfl,rfl⟩:=h
  exact ⟨acc,he⟩
 ·simp at h
theorem AS:∀(c:Nat) (os:List az) (x x':L3),runN n c os x=some x'->OW P n k0 (os.drop c) x' K->OW P n k0 os x K
 |0,os,x,x',h,hr=>by simp only [runN,N6] at h;subst h;exact hr
 |c+1,[],x,x',h,hr=>by simp [runN] at h
 |c+1,o::os,x,x',h,hr=>by
  simp only [runN] at h
  cases hd:dstOK n o.dst with
  |false=>rw [hd] at h;simp at h
  |true=>
   rw [hd,Ob] at h
   split at h
   ·rename_i v u hv
    obtain ⟨acc,he⟩:=AR hv
    cases hu:upsOK x.m.length u with
    |false=>rw [hu] at h;simp at h
    |true=>
     rw [hu,Ob] at h
     exact OW.cons hd he hu (AS c os _ x' h hr)
   ·simp at h
theorem AT {dep:List (List Nat)}:∀(c:Nat) (os:List az) (x x':L3) (rs:List Rec),runN n c os x=some x'->DW P n dep (os.drop c) x' (rs++nE c os x) K->DW P n dep os x rs K
 |0,os,x,x',rs,h,hr=>by simp only [runN,N6] at h;subst h;simpa [nE] using hr
 |c+1,[],x,x',rs,h,hr=>by simp [runN] at h
 |c+1,o::os,x,x',rs,h,hr=>by
  simp only [runN] at h
  cases hd:dstOK n o.dst with
  |false=>rw [hd] at h;simp at h
  |true=>
   rw [hd,Ob] at h
   split at h
   ·rename_i v u hv
    obtain ⟨acc,he⟩:=AR hv
    cases hu:upsOK x.m.length u with
    |false=>rw [hu] at h;simp at h
    |true=>
     rw [hu,Ob] at h
     refine DW.cons hd he hu (AT c os _ x' _ h ?_)
     simp only [nE,he] at hr
     simpa using hr
   ·simp at h
def opD (R:List az) (k:Nat):az:=(R[k]?).getD ⟨none, .mov (.c .dead),none⟩
theorem sQ (h:Nat.blt k R.length=true):R.drop k=opD R k::R.drop (k+1):=by
 have hk:k<R.length:=ON h
 rw [List.drop_eq_getElem_cons hk]
 simp [opD,hk]
theorem OW.run (c:Nat) (h:runN n c (R.drop k) x=some x') (hr:OW P n k0 (R.drop (k+c)) x' K):OW P n k0 (R.drop k) x K:=
 AS c _ x x' h (by rw [List.drop_drop];exact hr)
theorem OW.last (c:Nat) (live:List Nat) (h:(runN n c (R.drop k) x).map (L3.bL live)=some x') (he:(R.drop (k+c)).isEmpty=true) (hr:EL P n k0 b x' Q):OW P n k0 (R.drop k) x fun y=>EL P n k0 b y Q:=by
 cases hy:runN n c (R.drop k) x with
 |none=>rw [hy] at h;simp at h
 |some y=>
  rw [hy] at h
  simp only [Oh,N6] at h
  refine OW.run c hy ?_
  rw [OZ.1 he]
  exact OW.nil (EL.prune live (by rw [h];exact hr))
theorem OW.end (c:Nat) (h:runN n c (R.drop k) x=some x') (he:(R.drop (k+c)).isEmpty=true) (hr:K x'):OW P n k0 (R.drop k) x K:=by
 refine OW.run c h ?_
 rw [OZ.1 he]
 exact OW.nil hr
theorem OW.fn {f:FuncId} {ar bs:List AV} {r:AV} {x':L3} (hl:Nat.blt k R.length=true) (h:dh (opD R k) x= .call f ar) (hc:bH P f=true) (hf:Fn P f bs r) (hs:(cO ar).run (look x.m)=some bs)
  (hx:(bif dstOK n (opD R k).dst&&upsOK x.m.length (callUps ar r) then some (⟨eu x.t (opD R k).dst r,dB x.m (callUps ar r)⟩:L3) else none)=some x') (hr:OW P n k0 (R.drop (k+1)) x' K):OW P n k0 (R.drop k) x K:=by
 rw [sQ hl]
 cases hd:(dstOK n (opD R k).dst&&upsOK x.m.length (callUps ar r)) with
 |false=>rw [hd] at hx;simp at hx
 |true=>
  rw [hd,Ob] at hx
  simp only [N6] at hx
  subst hx
  simp only [N9] at hd
  exact OW.call hd.1 h hc hs hf hd.2 hr
theorem EL.eqv (h:x=x') (hr:EL P n k0 ac x' Q):EL P n k0 ac x Q:=h▸hr
theorem EL.aq (h:OW P n k0 (R.drop 0) x fun y=>EL P n k0 b y Q):EL P n k0 (.seq (.bG R none) b) x Q:=EL.seq (EL.bG (by have:=h;rw [PV] at this;exact this))
theorem EL.aF (h:OW P n k0 (R.drop 0) x (Q .normal)):EL P n k0 (.bG R none) x Q:=EL.bG (by simpa using h)
theorem DW.run (c:Nat) (h:runN n c (R.drop k) x=some x') (hr:DW P n dep (R.drop (k+c)) x' (rs++nE c (R.drop k) x) K):DW P n dep (R.drop k) x rs K:=
 AT c _ x x' rs h (by rw [List.drop_drop];exact hr)
theorem DW.last (c:Nat) (live:List Nat) (h:(runN n c (R.drop k) x).map (L3.bL live)=some x') (he:((R.drop (k+c)).isEmpty&&dX (rs++nE c (R.drop k) x) dep)=true) (hr:EL P n k0 b x' Q):DW P n dep (R.drop k) x rs fun y=>EL P n k0 b y Q:=by
 simp only [N9] at he
 cases hy:runN n c (R.drop k) x with
 |none=>rw [hy] at h;simp at h
 |some y=>
  rw [hy] at h
  simp only [Oh,N6] at h
  refine DW.run c hy ?_
  rw [OZ.1 he.1]
  exact DW.nil he.2 (EL.prune live (by rw [h];exact hr))
theorem DW.end (c:Nat) (h:runN n c (R.drop k) x=some x') (he:((R.drop (k+c)).isEmpty&&dX (rs++nE c (R.drop k) x) dep)=true) (hr:K x'):DW P n dep (R.drop k) x rs K:=by
 simp only [N9] at he
 refine DW.run c h ?_
 rw [OZ.1 he.1]
 exact DW.nil he.2 hr
theorem EL.AU (h:DW P n dep (R.drop 0) x [] fun y=>EL P n k0 b y Q):EL P n k0 (.seq (.bG R (some dep)) b) x Q:=EL.seq (EL.draw (by have:=h;rw [PV] at this;exact this))
theorem EL.eT (h:DW P n dep (R.drop 0) x [] (Q .normal)):EL P n k0 (.bG R (some dep)) x Q:=EL.draw (by simpa using h)
theorem tN {f:L3->Prop} (h:f x):Ex.nB f Q .normal x:=h
theorem tX {f:L3->Prop} (h:Q (.exit i) x):Ex.nB f Q (.exit i) x:=h
theorem tR {f:L3->Prop} (h:Q .ret x):Ex.nB f Q .ret x:=h
theorem iN {id:Nat} (h:Q .normal x):Ex.nC id Q .normal x:=h
theorem iR {id:Nat} (h:Q .ret x):Ex.nC id Q .ret x:=h
theorem iH {id:Nat} (h:Q .normal x):Ex.nC id Q (.exit id) x:=by simp only [Ex.nC,Oa];exact h
theorem EL.aH {b:Arg} (hb:aG (slot x.t) b= .v (.bool true)) (h:EL P n k0 y x Q):EL P n k0 (.cond b y z) x Q:=EL.cond hb (fun _=>h) (fun e=>by simp at e)
theorem EL.aJ {b:Arg} (hb:aG (slot x.t) b= .v (.bool false)) (h:EL P n k0 z x Q):EL P n k0 (.cond b y z) x Q:=EL.cond hb (fun e=>by simp at e) (fun _=>h)
abbrev VI (n:Int):AV:= .v (.int .i64 n)
abbrev OB:=Option Bk
abbrev LB:=List (Option Bk)
abbrev LS:=List (Nat×AV)
end
open Go.RowKit
section
variable {P:Program} {n k0:Nat} {x:L3} {K:L3->Prop} {Q:Ex->L3->Prop} {R:List az} {k:Nat}
def JU (P:Program) (n k0:Nat) (a:AC) (Q:Ex->L3->Prop):Nat->L3->Prop
 |0,_=>False
 |m+1,x=>EL P n k0 a x (Ex.nB (JU P n k0 a Q m) Q)
theorem EL.sR {a:AC} (m:Nat) (h:JU P n k0 a Q m x):EL P n k0 (.loop a) x Q:=
 EL.loop (fun m x=>JU P n k0 a Q m x) h fun m x h=>by
  cases m with
  |zero=>exact h.elim
  |succ m=>
   refine EL.cL h fun e y hy=> ?_
   cases e with
   |normal=>exact ⟨m,by omega,hy⟩
   |exit id=>exact hy
   |ret=>exact hy
theorem JU.step {a:AC} {m:Nat} (h:EL P n k0 a x (Ex.nB (JU P n k0 a Q m) Q)):JU P n k0 a Q (m+1) x:=h
theorem OW.fv (hl:Nat.blt k R.length=true) (h:dh (opD R k) x= .done v u acc) (hx:(bif dstOK n (opD R k).dst&&upsOK x.m.length u then some (⟨eu x.t (opD R k).dst v,dB x.m u⟩:L3) else none)=some x') (hr:OW P n k0 (R.drop (k+1)) x' K):OW P n k0 (R.drop k) x K:=by
 rw [sQ hl]
 cases hd:(dstOK n (opD R k).dst&&upsOK x.m.length u) with
 |false=>rw [hd] at hx;simp at hx
 |true=>
  rw [hd,Ob] at hx
  simp only [N6] at hx
  subst hx
  simp only [N9] at hd
  exact OW.cons hd.1 h hd.2 hr
theorem DW.fv (hl:Nat.blt k R.length=true) (h:dh (opD R k) x= .done v u acc) (hx:(bif dstOK n (opD R k).dst&&upsOK x.m.length u then some (⟨eu x.t (opD R k).dst v,dB x.m u⟩:L3) else none)=some x') (hr:DW P n dep (R.drop (k+1)) x' (rs++[⟨(opD R k).dst,v,u,acc,x.m.length⟩]) K):DW P n dep (R.drop k) x rs K:=by
 rw [sQ hl]
 cases hd:(dstOK n (opD R k).dst&&upsOK x.m.length u) with
 |false=>rw [hd] at hx;simp at hx
 |true=>
  rw [hd,Ob] at hx
  simp only [N6] at hx
  subst hx
  simp only [N9] at hd
  exact DW.cons hd.1 h hd.2 hr
end
section
variable {o:az} {x:L3}
theorem kU (ao:AO) {see:List Nat} (ho:o.ao=ao) (hg:bO (slot x.t) o.guard=some true) (h:(ao.au x.m.length (aG (slot x.t))).run (look x.m)=some (.done v u))
  (h2:(ao.au x.m.length (aG (slot x.t))).acc (look x.m)=acc) (h3:(ao.au x.m.length (aG (slot x.t))).see (look x.m)=see):dh o x= .done v u (acc++see):=by
 unfold dh
 rw [hg]
 simp only [ho,h]
 unfold wR
 rw [h2,h3]
theorem AW (ao:AO) (ho:o.ao=ao) (hg:bO (slot x.t) o.guard=some true) (h:ao.au x.m.length (aG (slot x.t))= .ret (.done v u)):dh o x= .done v u []:=
 kU ao (acc:=[]) (see:=[]) ho hg (by rw [h];rfl) (by rw [h];rfl) (by rw [h];rfl)
theorem sS (a b:Arg) (q q':IntKind) (m d:Int) (ho:o.ao= .bin false .shl a b) (hg:bO (slot x.t) o.guard=some true) (ha:aG (slot x.t) a= .v (.int q m)) (hb:aG (slot x.t) b= .v (.int q' d)) (hd:¬d<0):dh o x= .done (.v (.int q (q.wrap (m*2^(min d.toNat q.bits))))) [] []:=
 AW _ ho hg (by simp [AO.au,ha,hb,binA,hd,RM.opt])
theorem wW (a b:Arg) (q q':IntKind) (m d:Int) (ho:o.ao= .bin false .shr a b) (hg:bO (slot x.t) o.guard=some true) (ha:aG (slot x.t) a= .v (.int q m)) (hb:aG (slot x.t) b= .v (.int q' d)) (hd:¬d<0):dh o x= .done (.v (.int q (m.fdiv (2^(min d.toNat q.bits))))) [] []:=
 AW _ ho hg (by simp [AO.au,ha,hb,binA,hd,RM.opt])
end
section
variable {o:az} {x:L3}
theorem run_bind {α β:Type} {g:Nat->Option Bk} {f:α->RM β}:∀(m:RM α) {a:α},m.run g=some a->(m.bind f).run g=(f a).run g/\(m.bind f).acc g=m.acc g++(f a).acc g/\(m.bind f).see g=m.see g++(f a).see g
 | .ret b,a,h=>by simp only [RM.run,N6] at h;subst h;exact ⟨rfl,rfl,rfl⟩
 | .fail,a,h=>by simp [RM.run] at h
 | .rd id k,a,h=>by
  cases hg:g id with
  |none=>simp [RM.run,hg] at h
  |some B=>
   simp only [RM.run,hg] at h
   obtain ⟨h1,h2,h3⟩:=run_bind (f:=f) (k B) h
   exact ⟨by simp [RM.bind,RM.run,hg,h1],by simp [RM.bind,RM.acc,hg,h2],by simp [RM.bind,RM.see,hg,h3]⟩
 | .lv id k,a,h=>by
  cases hg:g id with
  |none=>simp [RM.run,hg] at h
  |some B=>
   simp only [RM.run,hg] at h
   obtain ⟨h1,h2,h3⟩:=run_bind (f:=f) k h
   exact ⟨by simp [RM.bind,RM.run,hg,h1],by simp [RM.bind,RM.acc,h2],by simp [RM.bind,RM.see,h3]⟩
end
open Go.RowKit
inductive fw where
 |old (id:Nat) (raw:Bool)
 |new (sz:Nat)
def newOf:List fw->Nat->Nat->Option Nat
 |[],_,_=>none
 | .old i _::r,j,id=>bif Nat.beq i id then some j else newOf r (j+1) id
 | .new _::r,j,id=>newOf r (j+1) id
def fK (ρ:Nat->Option Nat):Nat->AV->AV
 |0,_=> .dead
 |d+1, .agg cs=> .agg (cs.map (fK ρ d))
 |d+1, .aK cs=> .aK (cs.map (fK ρ d))
 |d+1, .fn f cs=> .fn f (cs.map (fK ρ d))
 |d+1, .bf f cs=> .bf f (cs.map (fK ρ d))
 |d+1, .af r cs=> .af r (cs.map (fK ρ d))
 |_+1, .ref id sz i o=>match ρ id with
  |some j=> .ref j sz i o
  |none=> .dead
 |_+1, .own id sz off n=>match ρ id with
  |some j=> .own j sz off n
  |none=> .dead
 |_+1, .mp id=>match ρ id with
  |some j=> .mp j
  |none=> .dead
 |_+1,a=>a
def nF (ρ:Nat->Option Nat) (B:Bk):Bk:=⟨B.sz,B.els.map fun cs=>cs.map (fK ρ 3)⟩
def kg (m:List (Option Bk)) (src:List fw) (id:Nat):Option Nat:=bif (look m id).isSome then newOf src 0 id else none
def sT (ρ:Nat->Option Nat) (src:List fw) (es:List (Nat×Nat)) (j:Nat) (a:AV):AV:=
 match a,es.lookup j with
 | .emp,some i=>match src[i]? with
  |some (.new sz)=> .own i sz 0 0
  |_=> .emp
 |a,_=>fK ρ 4 a
def jG (m:List (Option Bk)) (src:List fw):fw->Option Bk
 | .old i raw=>(look m i).map fun B=>bif raw then B else nF (kg m src) B
 | .new sz=>some ⟨sz,[]⟩
def srcOK (k0:Nat) (src:List fw):Bool:=
 (List.range src.length).all (fun i=>match src[i]? with
  |some (.old id _)=>match newOf src 0 id with
   |some j=>Nat.beq j i
   |none=>false
  |some (.new sz)=>Nat.ble 1 sz
  |_=>true)&&(List.range k0).all fun i=>match src[i]? with
  |some (.old id _)=>Nat.beq id i
  |_=>false
def wX (k0:Nat) (live:List Nat) (src:List fw) (es:List (Nat×Nat)) (x:L3):Option L3:=
 bif srcOK k0 src then some ⟨live.map fun j=>(j,sT (kg x.m src) src es j (slot x.t j)),src.map (jG x.m src)⟩ else none
def qF (ln:Nat->Nat):Option fw->Nat
 |some (.old id _)=>ln id
 |_=>0
def oQ (loc:Nat->Option Nat):Option fw->Option Nat
 |some (.old id _)=>loc id
 |_=>none
theorem qG {v:Value} (h:aj E v .emp):∃A,v= .slice A 0 0:=by
 cases h with
 |emp=>exact ⟨_,rfl⟩
theorem wY:∀(src:List fw) (k id j:Nat),newOf src k id=some j->k<=j/\∃raw,src[j - k]? =some (.old id raw)
 |[],k,id,j,h=>by simp [newOf] at h
 | .old i raw::r,k,id,j,h=>by
  simp only [newOf] at h
  cases hb:Nat.beq i id with
  |true=>
   rw [hb] at h
   simp only [Ob,N6] at h
   subst h
   have:=Ol hb
   subst this
   exact ⟨by omega,raw,by simp⟩
  |false=>
   rw [hb,Ot] at h
   obtain ⟨h1,h2⟩:=wY r (k+1) id j h
   refine ⟨by omega, ?_⟩
   rw [show j - k=(j - (k+1))+1 by omega,OX]
   exact h2
 | .new _::r,k,id,j,h=>by
  simp only [newOf] at h
  obtain ⟨h1,h2⟩:=wY r (k+1) id j h
  refine ⟨by omega, ?_⟩
  rw [show j - k=(j - (k+1))+1 by omega,OX]
  exact h2
theorem AX (G:Nat->AV):∀(live:List Nat) (i:Nat),slot (live.map fun j=>(j,G j)) i=G i\/slot (live.map fun j=>(j,G j)) i= .dead
 |[],i=> .inr rfl
 |j::r,i=>by
  simp only [Om,slot]
  cases hb:Nat.beq i j with
  |true=>
   have:=Ol hb
   subst this
   exact .inl rfl
  |false=>exact AX G r i
theorem qH (m:List (Option Bk)) (src:List fw) (i:Nat):look (src.map (jG m src)) i=(src[i]?).bind (jG m src):=by
 unfold look
 rw [Oy]
 cases src[i]? <;>simp
section
variable {E E':Env} {ρ:Nat->Option Nat}
theorem Hm (hI:E'.I=E.I) (hw:E'.w=E.w) (hg:∀l,E.rg l->E'.rg l) (fL:∀id j,ρ id=some j->E'.kn j/\¬E'.dead j/\E'.loc j=E.loc id/\¬E.dead id/\E'.ln j=E.ln id):∀(d:Nat) {v:Value} {a:AV},aj E v a->aj E' v (fK ρ d a):=by
 have hp:∀{v:Value} {a:AV},aj E v a->Pu a->aj E' v a:=fun h hp=>h.pure (fun b hb=>⟨by rw [hI];exact hb,fun o=>by rw [hw]⟩) hp
 intro d
 induction d with
 |zero=>intro v a h;exact .dead
 |succ d ih=>
  have fG:∀{vs:Array Value} {cs:List AV},vs.size=cs.length->(∀(i:Nat) v c,vs[i]? =some v->cs[i]? =some c->aj E v c)->vs.size=(cs.map (fK ρ d)).length/\∀(i:Nat) v c,vs[i]? =some v->(cs.map (fK ρ d))[i]? =some c->aj E' v c:=by
   intro vs cs hl h
   refine ⟨by simpa using hl,fun i v c hv hc=> ?_⟩
   rw [Oy,Od] at hc
   obtain ⟨c0,j3,rfl⟩:=hc
   exact ih (h i v c0 hv j3)
  intro v a h
  cases a with
  |v x=>exact hp h .v
  |agg cs=>cases h with|agg hl hh=>obtain ⟨q1,q2⟩:=fG hl hh;exact .agg q1 q2
  |aK cs=>cases h with|aK hl hh=>obtain ⟨q1,q2⟩:=fG hl hh;exact .aK q1 q2
  |fn f cs=>cases h with|fn hl hh=>obtain ⟨q1,q2⟩:=fG hl hh;exact .fn q1 q2
  |bf f cs=>cases h with|bf hl hh=>obtain ⟨q1,q2⟩:=fG hl hh;exact .bf q1 q2
  |af r cs=>cases h with|af h1 h2 h3 hl hh=>obtain ⟨q1,q2⟩:=fG hl hh;exact .af (hg _ h1) (by rw [hI];exact h2) (by rw [hw];exact h3) q1 q2
  |aU sz els=>exact hp h .aU
  |ck sz els=>exact hp h .ck
  |emp=>exact hp h .emp
  |pim cs o=>exact hp h .pim
  |cZ=>exact hp h .cZ
  |dead=>exact .dead
  |ref id sz i o=>
   simp only [fK]
   cases hr:ρ id with
   |none=>exact .dead
   |some j=>
    obtain ⟨r1,r2,r3,r4,r5⟩:=fL id j hr
    cases h with
    |ref hi hd hb hq=>exact .ref r1 r2 (r3.trans hb) hq
    |dL hi hd ho=>exact absurd hd r4
  |own id sz off n=>
   simp only [fK]
   cases hr:ρ id with
   |none=>exact .dead
   |some j=>
    obtain ⟨r1,r2,r3,r4,r5⟩:=fL id j hr
    cases h with
    |own hi hd hb hq hs hm hl hc bh=>exact .own r1 r2 (r3.trans hb) hq (by rw [hw];exact hs) hm hl hc (by rw [r5];exact bh)
    |bQ hi hd hb bh=>exact .bQ r1 r2 (r3.trans hb) (r5.trans bh)
    |cg hi hd ho=>exact absurd hd r4
  |mp id=>
   simp only [fK]
   cases hr:ρ id with
   |none=>exact .dead
   |some j=>
    obtain ⟨r1,r2,r3,r4,r5⟩:=fL id j hr
    cases h with
    |mp hi hd hb=>exact .mp r1 r2 (r3.trans hb)
    |gj hi hd ho=>exact absurd hd r4
end
def kV (m:List (Option Bk)):List fw->Prop
 |[]=>True
 | .old id true::r=>(∃(α:Type) (f:α->List AV) (xs:List α) (sz:Nat),look m id=some ⟨sz,xs.map f⟩/\∀y,(f y).all AV.pu1=true)/\kV m r
 |_::r=>kV m r
abbrev Hn (m:List (Option Bk)) (id:Nat):Prop:=∃(α:Type) (f:α->List AV) (xs:List α) (sz:Nat),look m id=some ⟨sz,xs.map f⟩/\∀y,(f y).all AV.pu1=true
theorem pu {α:Type} {id:Nat} (sz:Nat) (f:α->List AV) (xs:List α) (h:look m id=some ⟨sz,xs.map f⟩) (hp:∀y,(f y).all AV.pu1=true):Hn m id:=⟨α,f,xs,sz,h,hp⟩
theorem kV.get {m:List (Option Bk)}:∀{src:List fw},kV m src->∀(i id:Nat),src[i]? =some (.old id true)->∀B,look m id=some B->∀cs,cs∈B.els->∀c,c∈cs->Pu c
 |[],_,i,id,h,B,hB,cs,hcs,c,hc=>by simp at h
 | .new _::r,hp,i,id,h,B,hB,cs,hcs,c,hc=>by
  cases i with
  |zero=>simp at h
  |succ i=>exact kV.get (src:=r) hp i id (by simpa using h) B hB cs hcs c hc
 | .old _ false::r,hp,i,id,h,B,hB,cs,hcs,c,hc=>by
  cases i with
  |zero=>simp at h
  |succ i=>exact kV.get (src:=r) hp i id (by simpa using h) B hB cs hcs c hc
 | .old _ true::r,hp,i,id,h,B,hB,cs,hcs,c,hc=>by
  cases i with
  |zero=>
   simp only [OI,N6,fw.old.injEq,and_true] at h
   subst h
   obtain ⟨⟨α,f,xs,sz,h1,h2⟩,_⟩:=hp
   rw [h1] at hB
   simp only [N6] at hB
   subst hB
   simp only [OE] at hcs
   obtain ⟨y,_,rfl⟩:=hcs
   have:=h2 y
   simp only [Oc] at this
   exact AV.qi (this c hc)
  |succ i=>exact kV.get (src:=r) hp.2 i id (by simpa using h) B hB cs hcs c hc
theorem Mk.same {E':Env} (hI:E'.I=E.I) (hw:E'.w=E.w) {lo:Nat} {ds:List Deferred} (h:Mk E lo ds):Mk E' lo ds:=by
 induction h with
 |nil=>exact .nil
 |cons h1 hD hh hne t ih=>exact .cons (by rw [hI];exact h1) hD (by rw [hw];exact hh) hne ih
theorem norm_le {live:List Nat} {src:List fw} {es:List (Nat×Nat)} {y:L3} (h:wX k0 live src es x=some y) (qI:kV x.m src):x.s.Le k0 n y.s:=by
 have hp:=qI.get
 unfold wX at h
 cases hok:srcOK k0 src with
 |false=>rw [hok] at h;simp at h
 |true=>
 rw [hok,Ob,N6] at h
 subst h
 simp only [srcOK,N9,Oc,OL] at hok
 obtain ⟨AY,Ho⟩:=hok
 have inj:∀i id raw,src[i]? =some (.old id raw)->newOf src 0 id=some i:=by
  intro i id raw hi
  have hlt:i<src.length:=(Oe.1 hi).1
  have:=AY i hlt
  rw [hi] at this
  simp only at this
  cases hn:newOf src 0 id with
  |none=>rw [hn] at this;simp at this
  |some j=>rw [hn] at this;simp only at this;rw [Ol this]
 have low:∀i,i<k0->∃raw,src[i]? =some (.old i raw):=by
  intro i hi
  have:=Ho i hi
  cases hs:src[i]? with
  |none=>rw [hs] at this;simp at this
  |some q=>
   cases q with
   |old id raw=>rw [hs] at this;simp only at this;exact ⟨raw,by rw [Ol this]⟩
   |new sz=>rw [hs] at this;simp at this
 intro E0 J base w0 a w hk hr
 obtain ⟨E,rfl,hle,hs,hm,aX,hmk⟩:=hr.ex
 let E':Env:={ w:=E.w,kn:=fun i=>i<src.length,loc:=fun i=>oQ E.loc (src[i]?),dead:=fun i=>look (src.map (jG x.m src)) i=none,I:=E.I,ln:=fun i=>qF E.ln (src[i]?),rg:=E.rg,X:=E.X }
 have ma:∀id,look x.m id≠none->E.kn id/\¬E.dead id:=fun id hid=>by
  obtain ⟨B,hB⟩:=Option.ne_none_iff_exists'.1 hid
  exact (hm.live id).2 ⟨B,hB⟩
 have fL:∀id j,kg x.m src id=some j->E'.kn j/\¬E'.dead j/\E'.loc j=E.loc id/\¬E.dead id/\E'.ln j=E.ln id:=by
  intro id j hj
  unfold kg at hj
  cases hB:look x.m id with
  |none=>rw [hB] at hj;simp at hj
  |some B=>
   rw [hB] at hj
   simp only [Option.isSome_some,Ob] at hj
   obtain ⟨_,raw,h2⟩:=wY src 0 id j hj
   simp only [Nat.sub_zero] at h2
   refine ⟨(Oe.1 h2).1, ?_, ?_,(ma id (by rw [hB];simp)).2,by show qF E.ln (src[j]?)=_;rw [h2];rfl⟩
   ·show ¬look _ j=none
    rw [qH,h2];simp [jG,hB]
   ·show oQ E.loc (src[j]?)=_
    rw [h2];rfl
 have hR:∀(d:Nat) {v:Value} {a:AV},aj E v a->aj E' v (fK (kg x.m src) d a):=Hm (E:=E) (E':=E') rfl rfl (fun _ h=>h) fL
 have eP:∀i B',look (src.map (jG x.m src)) i=some B'->(∃id raw B,src[i]? =some (.old id raw)/\look x.m id=some B/\B'=(bif raw then B else nF (kg x.m src) B)/\E'.loc i=E.loc id)\/(∃sz,src[i]? =some (.new sz)/\B'=⟨sz,[]⟩/\E'.loc i=none):=by
  intro i B' aL
  rw [qH] at aL
  cases hsi:src[i]? with
  |none=>rw [hsi] at aL;simp at aL
  |some q=>
   rw [hsi] at aL
   cases q with
   |old id raw=>
    simp only [Pg,jG,Od] at aL
    obtain ⟨B,hB,rfl⟩:=aL
    refine .inl ⟨id,raw,B,rfl,hB,rfl, ?_⟩
    show oQ E.loc (src[i]?)=_
    rw [hsi];rfl
   |new sz=>
    simp only [Pg,jG,N6] at aL
    subst aL
    refine .inr ⟨sz,rfl,rfl, ?_⟩
    show oQ E.loc (src[i]?)=_
    rw [hsi];rfl
 have hM:aE E' J base (look (src.map (jG x.m src))):=by
  refine ⟨fun i=> ?_,fun i B' aL=> ?_,fun i i' b B1 B2 h1 h2 h3 h4=> ?_,fun i b B' aL hl=> ?_,hm.low,hm.size,fun i B' aL cE=> ?_,hm.fb,fun b hb=>⟨(hm.xo b hb).1,(hm.xo b hb).2.1,fun i B' aL he=> ?_⟩⟩
  ·show (i<src.length/\¬look _ i=none)↔_
   constructor
   ·rintro ⟨_,h2⟩
    exact Option.ne_none_iff_exists'.1 h2
   ·rintro ⟨B,hB⟩
    refine ⟨?_,by rw [hB];simp⟩
    rw [qH] at hB
    cases hsi:src[i]? with
    |none=>rw [hsi] at hB;simp at hB
    |some q=>exact (Oe.1 hsi).1
  ·rcases eP i B' aL with ⟨id,raw,B,e1,e2,kN,e4⟩|⟨sz,e1,rfl,e3⟩
   ·rw [e4]
    have:=hm.at_ id B e2
    have hsz:B'.sz=B.sz/\B'.els.length=B.els.length:=by subst kN;cases raw<;>simp [nF]
    have fj:∀(i:Nat) ff,B'.els[i]? =some ff->∃cs,B.els[i]? =some cs/\ff.length=cs.length/\∀(j:Nat) c',ff[j]? =some c'->∃c,cs[j]? =some c/\∀u,aj E u c->aj E' u c':=by
     subst kN
     cases raw with
     |true=>
      intro i' cs hi
      refine ⟨cs,hi,rfl,fun j c hj=>⟨c,hj,fun u hu=> ?_⟩⟩
      exact aj.pure (E:=E) (E':=E') (fun b hb=>⟨hb,fun _=>rfl⟩) hu (hp i id e1 B e2 cs (OG hi) c (OG hj))
     |false=>
      intro i' ff hi
      simp only [Ot,nF,Oy,Od] at hi
      obtain ⟨cs,hcs,rfl⟩:=hi
      refine ⟨cs,hcs,by simp,fun j c' hj=> ?_⟩
      rw [Oy,Od] at hj
      obtain ⟨c,hc,rfl⟩:=hj
      exact ⟨c,hc,fun u hu=>hR 3 hu⟩
    cases hl:E.loc id with
    |none=>
     rw [hl] at this
     show B'.els=[]
     have h0:B.els=[]:=this
     have:=hsz.2
     rw [h0] at this
     exact Pj this
    |some b=>
     rw [hl] at this
     obtain ⟨q1,⟨hz,arr,t,q2,q3,q4⟩|⟨hz,Hp,clock,q2,q3,q4⟩⟩:=this
     ·refine .iK ⟨q1,arr,t,q2,by rw [hsz.1,hsz.2];exact q3,fun i ff hi=> ?_⟩ (by rw [hsz.1];exact hz)
      obtain ⟨cs,hcs,hlen,fE⟩:=fj i ff hi
      obtain ⟨p1,p2⟩:=q4 i cs hcs
      refine ⟨by rw [hlen,hsz.1];exact p1,fun j c' hj=> ?_⟩
      obtain ⟨c,hc,cv⟩:=fE j c' hj
      obtain ⟨u,u1,u2,u3⟩:=p2 j c hc
      exact ⟨u,by rw [hsz.1];exact u1,u2,cv u u3⟩
     ·refine .ofMap ⟨q1,Hp,clock,q2,by rw [hsz.2];exact q3,fun i' e ff he hi=> ?_⟩ (by rw [hsz.1];exact hz)
      subst kN
      cases raw with
      |true=>
       obtain ⟨y,k1,k2,k3⟩:=q4 i' e ff he hi
       refine ⟨y,k1,k2,aj.pure (E:=E) (E':=E') (fun b hb=>⟨hb,fun _=>rfl⟩) k3 (hp i id e1 B e2 ff (OG hi) y (by rw [k1];simp))⟩
      |false=>
       simp only [Ot,nF,Oy,Od] at hi
       obtain ⟨cs,hcs,rfl⟩:=hi
       obtain ⟨y,rfl,k2,k3⟩:=q4 i' e cs he hcs
       exact ⟨fK (kg x.m src) 3 y,rfl,k2,hR 3 k3⟩
   ·rw [e3];rfl
  ·rcases eP i B1 h1 with ⟨id,raw,B,e1,e2,_,e4⟩|⟨sz,_,_,e3⟩
   ·rcases eP i' B2 h2 with ⟨b5,Hq,B',f1,f2,_,f4⟩|⟨sz,_,_,f3⟩
    ·rw [e4] at h3;rw [f4] at h4
     have:=hm.apart id b5 b B B' e2 f2 h3 h4
     subst this
     have a1:=inj i id raw e1
     have a2:=inj i' id Hq f1
     rw [a1] at a2
     exact Option.some.inj a2
    ·rw [f3] at h4;simp at h4
   ·rw [e3] at h3;simp at h3
  ·rcases eP i B' aL with ⟨id,raw,B,e1,e2,_,e4⟩|⟨sz,_,_,e3⟩
   ·rw [e4] at hl;exact hm.out id b B e2 hl
   ·rw [e3] at hl;simp at hl
  ·show _=qF E.ln (src[i]?)
   rcases eP i B' aL with ⟨id,raw,B,e1,e2,e3,e4⟩|⟨sz,e1,e2,e3⟩
   ·rw [e1];show _=E.ln id
    rw [<-hm.len id B e2 (by subst e3;cases raw<;>simpa [nF] using cE),e3];cases raw<;>simp [nF]
   ·rw [e1,e2];rfl
  ·rcases eP i B' aL with ⟨id,raw,B,e1,e2,_,e4⟩|⟨sz,_,_,e3⟩
   ·rw [e4] at he;exact (hm.xo b hb).2.2 id B e2 he
   ·rw [e3] at he;simp at he
 have Hr:E0.Le E':=by
  have Hs:∀id,E0.kn id->E'.loc id=E.loc id:=fun id hid=>by
   show oQ E.loc (src[id]?)=_
   obtain ⟨raw,hl⟩:=low id (hk id hid)
   rw [hl];rfl
  have sU:∀id,E0.kn id->E.dead id->E'.dead id:=fun id hid hd=>by
   show look _ id=none
   obtain ⟨raw,hl⟩:=low id (hk id hid)
   rw [qH,hl]
   cases hB:look x.m id with
   |none=>simp [jG,hB]
   |some B=>exact absurd hd (ma id (by rw [hB];simp)).2
  refine ⟨fun id hid=>(low id (hk id hid)).elim fun _ hl=>(Oe.1 hl).1,hle.cz,fun id hid hd=>sU id hid (hle.dead id hid hd),fun id hid hd=> ?_,fun id b hid hd hb=> ?_,fun id hid hd=> ?_,hle.rg,hle.fx⟩
  ·rcases hle.loc id hid hd with h|h
   ·exact .inl (sU id hid h)
   ·exact .inr ((Hs id hid).trans h)
  ·rcases hle.shape id b hid hd hb with h|h
   ·exact .inl (sU id hid h)
   ·exact .inr h
  ·rcases hle.ln id hid hd with h|h
   ·exact .inl (sU id hid h)
   ·refine .inr (Eq.trans ?_ h)
    show qF E.ln (src[id]?)=_
    obtain ⟨raw,hl⟩:=low id (hk id hid)
    rw [hl];rfl
 have Ht:Mk E' w0.heap.size a.defers:=Mk.same (E:=E) (E':=E') rfl rfl hmk
 refine ⟨⟨E',rfl,Hr,fun t=> ?_,hM,fun id hid=> ?_,Ht⟩,hr.size,hr.below,hr.gl⟩
 ·show aj E' _ (slot (live.map fun j=>(j,sT (kg x.m src) src es j (slot x.t j))) t)
  rcases AX (fun j=>sT (kg x.m src) src es j (slot x.t j)) live t with h|h
  ·rw [h]
   have ht:=hs t
   have sV:aj E (a.tmps.getD t undef) (slot x.t t):=ht
   have Hu:aj E' (a.tmps.getD t undef) (fK (kg x.m src) 4 (slot x.t t)):=hR 4 sV
   unfold sT
   split
   ·rename_i i he hl
    rw [he] at sV
    split
    ·rename_i sz hsz
     obtain ⟨A,hA⟩:=qG sV
     rw [hA]
     have aL:look (src.map (jG x.m src)) i=some ⟨sz,[]⟩:=by rw [qH,hsz];rfl
     have hz:sz≠0:=by
      have:=AY i (Oe.1 hsz).1
      rw [hsz] at this
      have:=ON this
      omega
     refine .bQ (Oe.1 hsz).1 (by show ¬look _ i=none;rw [aL];simp) ?_ ?_
     ·show oQ E.loc (src[i]?)=_
      rw [hsz];rfl
     ·show qF E.ln (src[i]?)=_
      rw [hsz];rfl
    ·obtain ⟨A,hA⟩:=qG sV
     rw [hA]
     exact .emp
   ·exact Hu
  ·rw [h];exact .dead
 ·show id<(src.map _).length
  rw [Ox];exact hid
section
variable {P:Program} {n k0:Nat} {x:L3} {Q:Ex->L3->Prop}
theorem EL.norm {y:L3} (live:List Nat) (src:List fw) (es:List (Nat×Nat)) (h:wX k0 live src es x=some y) (qI:kV x.m src) (hy:EL P n k0 ac y Q):EL P n k0 ac x Q:=EL.fJ (norm_le h qI) hy
end
section
variable {g:Nat->Option Bk}
end
def aP (a b:AV):Prop:=∀(E:Env) (v:Value),aj E v a->aj E v b
theorem aP.refl:aP a a:=fun _ _ h=>h
theorem aP.of_eq {b:AV} (h:a=b):aP a b:=h▸aP.refl
theorem aP.trans {b c:AV} (h:aP a b) (k:aP b c):aP a c:=fun E v r=>k E v (h E v r)
theorem aP.emp {sz:Nat}:aP .emp (.aU sz []):=fun E v h=>by
 obtain ⟨A,rfl⟩:=qG h
 exact .dD (by omega)
inductive dY:List AV->List AV->Prop
 |nil:dY [] []
 |cons {a b:AV} {r s:List AV} (h:aP a b) (t:dY r s):dY (a::r) (b::s)
theorem dY.get {r:List AV} (h:dY r s):r.length=s.length/\∀(i:Nat) b,s[i]? =some b->∃a,r[i]? =some a/\aP a b:=by
 induction h with
 |nil=>exact ⟨rfl,fun i b h=>by simp at h⟩
 |cons h t ih=>
  refine ⟨by simp [ih.1],fun i b hb=> ?_⟩
  cases i with
  |zero=>simp only [OI,N6] at hb;subst hb;exact ⟨_,by simp,h⟩
  |succ i=>exact ih.2 i b (by simpa using hb)
theorem aP.aK {r s:List AV} (h:dY r s):aP (.aK r) (.aK s):=fun E v hv=>by
 cases hv with
 |aK hl hh=>exact .aK (hl.trans h.get.1) fun i u c hu hc=>let ⟨a,ha,wZ⟩:=h.get.2 i c hc;wZ _ _ (hh i u a hu ha)
theorem aP.agg {r s:List AV} (h:dY r s):aP (.agg r) (.agg s):=fun E v hv=>by
 cases hv with
 |agg hl hh=>exact .agg (hl.trans h.get.1) fun i u c hu hc=>let ⟨a,ha,wZ⟩:=h.get.2 i c hc;wZ _ _ (hh i u a hu ha)
theorem Fn.args {bq:List AV} (h:Fn P f as_ r) (ha:dY bq as_):Fn P f bq r:=fun w J vs hJ hG bF=>
 h w J vs hJ hG ⟨bF.1.trans ha.get.1,fun i u c hu hc=>let ⟨a,h1,h2⟩:=ha.get.2 i c hc;h2 _ _ (bF.2 i u a hu h1)⟩
theorem AZ (hF:cFunc P f=some F) (hl:as_.length<=F.n)
  (h:EW P F.n 0 F.code ⟨b8 as_,fun _=>none,0⟩ fun x s'=>(x= .normal\/x= .ret)/\∃r',((resR s'.σ F.res).bind gC).run s'.g=some r'/\aP r' r):Fn P f as_ r:=by
 intro w J vs hJ hG bF
 obtain ⟨fn,c,h1,h2,h3,h4,h5⟩:=qy hF
 have hm:aE (E0 w J) J w.heap.size (fun _=>none):=⟨fun id=>by simp [E0],fun id B hg=>by simp at hg,fun id b5 b B B' hg=>by simp at hg,fun id b B hg=>by simp at hg,fun b hb=>⟨hJ b hb, .inl hb⟩,Og _,fun id B hg=>by simp at hg,fun _ h=>h.elim,fun _ h=>h.elim⟩
 refine qB h1 h2 (wpIn_mono (h none c (E0 w J) J w.heap.size w _ w (fun _=>rfl) h4 (fun id hid=>hid.elim) ⟨⟨E0 w J,rfl,Env.Le.refl _,oN bF _,hm,fun id hid=>hid.elim, .nil⟩, ?_,OK _ _,hG⟩) ?_)
 ·simp only [PY,P5,bF.1];omega
 ·rintro e a' w' ⟨x,s',⟨hx,r',hr,Hv⟩,rfl,hrel⟩
  obtain ⟨E1,rfl,hle,hs1,iu,hk,hmk⟩:=hrel.ex
  refine ⟨by rcases hx with rfl|rfl<;>simp [Ex.up],oO _ E1 hmk fun E' hS=> ?_⟩
  have hM:=hS.mem iu
  have hs:=fun t=>hS.rep (hs1 t)
  obtain ⟨r0,eD,cT⟩:=cA hr
  obtain ⟨v,e1,e2⟩:=qx hM hs h3 eD
  have hI:∀ids b,Handed E' s'.g ids b->J b\/(w.heap.size<=b/\b<E'.w.heap.size):=by
   intro ids b hb
   rcases hb with hb|⟨id,B,_,hg,hl⟩
   ·have:=hM.low b hb
    rcases this.2 with h|h
    ·exact .inl h
    ·exact .inr ⟨h,this.1⟩
   ·have:=hM.at_ id B hg
    rw [hl] at this
    exact .inr this.lt
  have cv:aj (Proofs.Ytimomnfobfjggaa.E0 E'.w fun b=>J b\/(w.heap.size<=b/\b<E'.w.heap.size)) v r:=by
   refine Hv _ _ ?_
   cases r0 with
   |aK us=>
    simp only [gC] at cT
    obtain ⟨l,m1,m2⟩:=cA cT
    simp only [RM.run,N6] at m2;subst m2
    obtain ⟨k1,k2⟩:=ql hM _ m1 (hI _)
    cases e2 with
    |aK hl h=>
     refine .aK (by rw [k1];exact hl) fun i v c hv hc=> ?_
     have hi:i<us.length:=by rw [<-k1];exact (Oe.1 hc).1
     exact k2 i v us[i] c (h i v _ hv (Oq hi)) (Oq hi) hc
   |_=>exact wu hM _ e2 cT (hI _)
  exact ⟨v,e1,v,rfl,cv,hS.below (Og _) hrel.below⟩
theorem fW (hF:cFunc P f=some F) (hl:as_.length<=F.n)
  (h:EL P F.n 0 F.code (start as_) fun e x=>(e= .normal\/e= .ret)/\∃r',((resR (slot x.t) F.res).bind gC).run (look x.m)=some r'/\aP r' r):Fn P f as_ r:=by
 refine AZ hF hl (EW.fJ (qE as_ _ _) (EW.cL h ?_))
 rintro e s ⟨x',rfl,h1,h2⟩
 exact ⟨h1,h2⟩
theorem A3 (hF:cFunc P f=some F) (hl:as_.length<=F.n)
  (h:EW P F.n k F.code ⟨b8 as_,g,k⟩ fun x s'=>(x= .normal\/x= .ret)/\∃y:S3,s'.Le k F.n y/\(resR y.σ F.res).run y.g=some r/\y.g=g'/\y.k=k'):Fi P f as_ g k r g' k':=by
 intro E J base vs hG hm aX bF
 obtain ⟨fn,c,h1,h2,h3,h4,h5⟩:=qy hF
 refine qB h1 h2 (wpIn_mono (h none c E J base E.w _ E.w (fun _=>rfl) h4 aX ⟨⟨E,rfl,Env.Le.refl E,oN bF _,hm,aX, .nil⟩, ?_,OK _ _,hG⟩) ?_)
 ·simp only [PY,P5,bF.1];omega
 ·rintro e a' w' ⟨x,s',⟨hx,y,hy,hr,rfl,rfl⟩,rfl,w8⟩
  have hrel:=hy E J base E.w a' w' aX w8
  obtain ⟨E',rfl,hle,hs,hM,hk,hmk⟩:=hrel.ex
  refine ⟨by rcases hx with rfl|rfl<;>simp [Ex.up],oO _ E' hmk fun E2 hS=> ?_⟩
  have kf:=hS.mem hM
  obtain ⟨v,e1,e2⟩:=qx kf (fun t=>hS.rep (hs t)) h3 hr
  exact ⟨v,e1,v,E2,rfl,rfl,hS.le hle (fun b hb=>(hm.low b hb).1) (fun b hb=>(hm.xo b hb).1),e2,kf,hS.below hm.size hrel.below,fun id hid=>hk id (by rw [<-hS.eqs.1];exact hid)⟩
theorem fV (hF:cFunc P f=some F) (hl:as_.length<=F.n)
  (h:EL P F.n m.length F.code ⟨gD 0 as_,m⟩ fun e x=>(e= .normal\/e= .ret)/\∃y:L3,x.s.Le m.length F.n y.s/\(resR (slot y.t) F.res).run (look y.m)=some r/\y.m=m'):Fi P f as_ (look m) m.length r (look m') m'.length:=by
 refine A3 hF hl (EW.fJ (qE as_ _ _) (EW.cL h ?_))
 rintro e s ⟨x',rfl,h1,y,h2,h3,rfl⟩
 exact ⟨h1,y.s,h2,h3,rfl,rfl⟩
section
variable {P:Program} {n k0:Nat} {x:L3} {K:L3->Prop} {R:List az} {k:Nat}
end
section
variable {o:az} {x:L3}
end
open Go.RowKit
def sW (sz:Nat):List az:=[⟨some 8, .mov (.s 0),none⟩,⟨some 9, .mov (.s 1),none⟩,⟨some 10, .mov (.s 2),none⟩,⟨some 11, .mov (.s 0),none⟩,⟨some 12, .len false (.s 11),none⟩,⟨some 13, .slc sz (.s 8) (some (.s 9)) (some (.s 10)) (some (.s 12)),none⟩]
def Hw:List az:=[⟨some 14, .mov (.s 1),none⟩,⟨some 15, .mov (.s 2),none⟩,⟨some 16, .bin false .eql (.s 14) (.s 15),none⟩]
def Hx:List az:=[⟨some 17, .mov (.s 0),none⟩,⟨some 6, .mov (.s 17),none⟩]
def sX:List az:=[⟨some 18, .mov (.s 0),none⟩,⟨some 19, .len false (.s 18),none⟩,⟨some 7, .mov (.s 19),none⟩]
def Hy (sz by_:Nat):List az:=[⟨some 20, .mov (.s 0),none⟩,⟨some 21, .mov (.s 1),none⟩,⟨some 22, .slc sz (.s 20) none (some (.s 21)) none,none⟩,⟨some 23, .mov (.s 0),none⟩,⟨some 24, .mov (.s 2),none⟩,⟨some 25, .slc sz (.s 23) (some (.s 24)) none none,none⟩,⟨some 26, .app sz by_ (.s 22) (.s 25),none⟩,⟨some 0, .mov (.s 26),none⟩]
def sY (sz:Nat) (zs:List AV):List az:=[⟨some 27, .mov (.s 0),none⟩,⟨some 28, .mov (.s 0),none⟩,⟨some 29, .len false (.s 28),none⟩,⟨some 30, .mov (.s 7),none⟩,⟨some 31, .slc sz (.s 27) (some (.s 29)) (some (.s 30)) none,none⟩,⟨none, .clr zs (.s 31),none⟩]
def Hz:List az:=[⟨some 32, .mov (.s 0),none⟩,⟨some 6, .mov (.s 32),none⟩]
def HA:List (List Nat):=[[],[],[0,1],[],[],[3,4],[2,5,0,1,3,4],[6,0,1,2,3,4,5]]
def w9 (sz by_:Nat) (zs:List AV):cP:=⟨33,[.tmp 6],
 .seq (.bG [⟨some 6, .mov (.c .emp),none⟩] none)
 (.seq (.bG (sW sz) none)
 (.seq (.seq (.bG Hw none)
 (.cond (.s 16)
  (.seq (.bG Hx none)
  (.ret))
  (.skip)))
 (.seq (.bG sX none)
 (.seq (.bG (Hy sz by_) (some HA))
 (.seq (.bG (sY sz zs) none)
 (.seq (.bG Hz none)
 (.ret)))))))⟩
def kW (m:List (Option Bk)) (id:Nat) (B:Bk):List (Option Bk):=m.set id none++[none,some B]
theorem HB {id sz c t0:Nat} {els:List (List AV)} (hB:look x.m id=some ⟨sz,els⟩) (hc:c<=els.length) (hs:slot x.t t0= .own id sz 0 c) {y:L3} (hy:y.t=[(t0, .own x.m.length sz 0 c)]) (hm:y.m=x.m.set id none++[some ⟨sz,els.take c⟩]):x.s.Le k0 n y.s:=by
 intro E0 J base w0 a w hk hr
 obtain ⟨E,rfl,hle,cm,c9,aX,hmk⟩:=hr.ex
 have hid:id<x.m.length:=by
  rcases OT id x.m.length with h|h
  ·exact h
  ·unfold look at hB;rw [PI h] at hB;simp at hB
 have hf:¬E.kn x.m.length:=fun hh=>Pl _ (aX _ hh)
 have hz0:sz≠0:=(show aj E (a.tmps.getD t0 undef) (.own id sz 0 c) by rw [<-hs];exact cm t0).sh ((c9.live id).2 ⟨_,hB⟩).2
 obtain ⟨E',hw,hE,hM,k1,k2,k3,k4,k5⟩:=c9.move hf id ⟨sz,els⟩ ⟨sz,els.take c⟩ hB E.w (fun _ _=>rfl) rfl (fun _ _=>rfl) (fun E' hE hw=>by
  have:=(c9.at_ id _ hB)
  cases hl:E.loc id with
  |none=>
   rw [hl] at this
   have h0:els=[]:=this
   show els.take c=[]
   rw [h0];simp
  |some b=>
   rw [hl] at this
   obtain ⟨q1,arr,t,q2,q3,q4⟩:=this.cells hz0
   refine .iK ⟨q1,arr,t,by rw [hw];exact q2, ?_,fun i cs hi=> ?_⟩ hz0
   ·refine OF (OC _ ?_) q3
    simp only [Pp];omega
   ·have aN:els[i]? =some cs:=by
     simp only [Pe] at hi
     split at hi
     ·exact hi
     ·simp at hi
    refine ⟨(q4 i cs aN).1,fun j x hj=> ?_⟩
    obtain ⟨u,u1,u2,u3⟩:=(q4 i cs aN).2 j x hj
    exact ⟨u,u1,u2,u3.step hE⟩)
 have hg:aA (look x.m) [(id,none),(x.m.length,some ⟨sz,els.take c⟩)]=look y.m:=by
  rw [hm]
  have e1:=wQ x.m id none (by omega)
  rw [N8 hid] at e1
  have e2:=wQ (x.m.set id none) x.m.length (some ⟨sz,els.take c⟩) (by simp)
  rw [N7 (by simp)] at e2
  rw [e2,e1]
  rfl
 have hM:=hg▸(show aE E' J base (aA (look x.m) [(id,none),(x.m.length,some ⟨sz,els.take c⟩)]) from hM)
 refine ⟨⟨E',hw,hle.trans hE,fun t=> ?_,hM,fun j hj=> ?_,hmk.step hE⟩,hr.size,hr.below,hr.gl⟩
 ·show aj E' _ (slot y.t t)
  rw [hy]
  simp only [slot]
  cases hb:Nat.beq t t0 with
  |false=>exact .dead
  |true=>
   have:=Ol hb
   subst this
   have hv:=cm t
   have hv':aj E (a.tmps.getD t undef) (.own id sz 0 c):=by rw [<-hs];exact hv
   have ma:=(c9.live id).2 ⟨_,hB⟩
   have hlen:c<=els.length:=hc
   simp only [Ob]
   obtain ⟨vv,b6⟩:∃vv,vv=a.tmps.getD t undef:=⟨_,rfl⟩
   rw [<-b6] at hv' ⊢
   cases hv' with
   |cg hi hd=>exact absurd hd ma.2
   |own hi hd hb hq nz di hl hcc bh=>
    refine .own k1 k2 (k3.trans hb) hq (by rw [hw];exact nz) di hl hcc (by rw [k5];simp only [Pp];omega)
   |bQ hi hd hb bh=>exact .bQ k1 k2 (k3.trans hb) (by rw [k5];simp)
 ·show j<y.m.length
  rw [hm]
  simp only [Pk,List.length_set,List.length_cons,List.length_nil]
  rcases k4 j hj with h|h
  ·have h':j<x.m.length:=aX j h
   omega
  ·omega
section
variable {o:az} {x:L3}
theorem nG {a:Arg} (h:aG σ a=VI n):cN (aG σ) (some a)=some (some n):=by
 simp only [cN,h,natOf]
 rw [N8 (by omega)];simp
theorem A4 (a:Arg) (lo hi:Option Arg) (sz id off n l h:Nat) (jH aN:Option Nat) (B:Bk) (ho:o.ao= .slc sz a lo hi none) (hg:bO (slot x.t) o.guard=some true) (ha:aG (slot x.t) a= .own id sz off n) (gx:cN (aG (slot x.t)) lo=some jH) (ek:cN (aG (slot x.t)) hi=some aN) (gz:bounds n jH aN=some (l,h)) (hB:look x.m id=some B):
  dh o x= .done (.own id sz (off+l) (h - l)) [] [id]:=by
 have hn:cN (aG (slot x.t)) none=some none:=rfl
 have hs:(AO.slc sz a lo hi none).au x.m.length (aG (slot x.t))= .lv id (.ret (.done (.own id sz (off+l) (h - l)) [])):=by simp [AO.au,ha,gx,ek,hn,gz,RM.opt]
 exact kU _ (acc:=[]) (see:=[id]) ho hg (by rw [hs];simp [RM.run,hB]) (by rw [hs];rfl) (by rw [hs];rfl)
theorem HC (a:Arg) (lo hi:Option Arg) (mx:Arg) (sz id off n l h mm:Nat) (jH aN:Option Nat) (B:Bk) (ho:o.ao= .slc sz a lo hi (some mx)) (hg:bO (slot x.t) o.guard=some true) (ha:aG (slot x.t) a= .own id sz off n) (gx:cN (aG (slot x.t)) lo=some jH) (ek:cN (aG (slot x.t)) hi=some aN) (gQ:cN (aG (slot x.t)) (some mx)=some (some mm)) (gz:bounds n jH aN=some (l,h)) (hB:look x.m id=some B) (h1:B.els.length<=off+mm) (h2:h<=mm/\mm<=n) (h3:mm≠l) (j2:B.sz=sz:=by rfl):
  dh o x= .done (.own id sz (off+l) (h - l)) [] [id,id]:=by
 have hs:(AO.slc sz a lo hi (some mx)).au x.m.length (aG (slot x.t))= .lv id (.rd id fun B=>if B.sz=sz/\B.els.length<=off+mm then .ret (.done (.own id sz (off+l) (h - l)) []) else .fail):=by
  simp [AO.au,ha,gx,ek,gQ,gz,RM.opt,h2,h3]
 exact kU _ (acc:=[id]) (see:=[id]) ho hg (by rw [hs];simp [RM.run,hB,h1,j2]) (by rw [hs];simp [RM.acc,hB,h1,j2]) (by rw [hs];simp [RM.see,hB,h1,j2])
theorem HD (a:Arg) (lo hi:Option Arg) (sz id off n l h:Nat) (jH:Option Nat) (hh:Nat) (B:Bk) (ho:o.ao= .slc sz a lo hi none) (hg:bO (slot x.t) o.guard=some true) (ha:aG (slot x.t) a= .own id sz off n) (gx:cN (aG (slot x.t)) lo=some jH) (ek:cN (aG (slot x.t)) hi=some (some hh)) (eF:bounds n jH (some hh)=none) (hB:look x.m id=some B) (gz:bounds (B.els.length - off) jH (some hh)=some (l,h)) (j2:B.sz=sz:=by rfl):
  dh o x= .done (.own id sz (off+l) (h - l)) [] [id,id]:=by
 have hn:cN (aG (slot x.t)) none=some none:=rfl
 have hs:(AO.slc sz a lo hi none).au x.m.length (aG (slot x.t))= .lv id (.rd id fun B=>if B.sz=sz then .opt ((bounds (B.els.length - off) jH (some hh)).map fun b=> .done (.own id sz (off+b.1) (b.2 - b.1)) []) else .fail):=by simp [AO.au,ha,gx,ek,hn,eF]
 exact kU _ (acc:=[id]) (see:=[id]) ho hg (by rw [hs];simp [RM.run,RM.opt,hB,gz,j2]) (by rw [hs];simp [RM.acc,RM.opt,hB,gz,j2]) (by rw [hs];simp [RM.see,RM.opt,hB,gz,j2])
theorem HE (s a:Arg) (sz by_ id off n:Nat) (els ys:List (List AV)) (w:AV) (acc:List Nat) (ho:o.ao= .app sz by_ s a) (hg:bO (slot x.t) o.guard=some true) (hs:aG (slot x.t) s= .own id sz off n) (ha:aG (slot x.t) a=w) (c1:(content sz w).run (look x.m)=some ys) (c2:(content sz w).acc (look x.m)=acc) (c3:(content sz w).see (look x.m)=[])
  (hB:look x.m id=some ⟨sz,els⟩) (eF:¬(off=0/\n=els.length)) (hfit:off+n+ys.length<=els.length):
  dh o x= .done (.own id sz off (n+ys.length)) [(id,some ⟨sz,els.take (off+n)++ys++els.drop (off+n+ys.length)⟩),(x.m.length,none)] (acc++[id]):=by
 let F:List (List AV)->RM Out:=fun ys=> .rd id fun B=>if sz=sz/\B.sz=sz/\off=0/\n=B.els.length/\(n+ys.length)*by_<=140737488355328 then .ret (.done (.own x.m.length sz 0 (n+ys.length)) [(id,none),(x.m.length,some ⟨sz,B.els++ys⟩)])
  else if sz=sz/\B.sz=sz/\off+n+ys.length<=B.els.length then .ret (.done (.own id sz off (n+ys.length)) [(id,some ⟨B.sz,B.els.take (off+n)++ys++B.els.drop (off+n+ys.length)⟩),(x.m.length,none)]) else .fail
 have da:(AO.app sz by_ s a).au x.m.length (aG (slot x.t))=(content sz w).bind F:=by simp [AO.au,hs,ha,F]
 obtain ⟨r1,r2,r3⟩:=run_bind (f:=F) _ c1
 have xc:¬(off=0/\n=els.length/\(n+ys.length)*by_<=140737488355328):=fun h=>eF ⟨h.1,h.2.1⟩
 have HF:(F ys).run (look x.m)=some (.done (.own id sz off (n+ys.length)) [(id,some ⟨sz,els.take (off+n)++ys++els.drop (off+n+ys.length)⟩),(x.m.length,none)]):=by
  simp only [F,RM.run,hB,true_and];rw [N7 xc,N8 hfit];rfl
 have HG:(F ys).acc (look x.m)=[id]:=by
  simp only [F,RM.acc,hB,true_and];rw [N7 xc,N8 hfit];rfl
 have HH:(F ys).see (look x.m)=[]:=by
  simp only [F,RM.see,hB,true_and];rw [N7 xc,N8 hfit];rfl
 have:=kU (AO.app sz by_ s a) (o:=o) (x:=x) (acc:=acc++[id]) (see:=[]) ho hg (by rw [da,r1];exact HF) (by rw [da,r2,c2,HG]) (by rw [da,r3,c3,HH];rfl)
 simpa using this
theorem HI (zs:List AV) (a:Arg) (sz id off n:Nat) (els:List (List AV)) (ho:o.ao= .clr zs a) (hg:bO (slot x.t) o.guard=some true) (hz:zs.length=sz) (ha:aG (slot x.t) a= .own id sz off n) (hB:look x.m id=some ⟨sz,els⟩) (hfit:off+n<=els.length):
  dh o x= .done (.v undef) [(id,some ⟨sz,els.take off++List.replicate n zs++els.drop (off+n)⟩)] [id]:=by
 subst hz
 have hs:(AO.clr zs a).au x.m.length (aG (slot x.t))= .rd id fun B=>if B.sz=zs.length/\off+n<=B.els.length then .ret (.done (.v undef) [(id,some ⟨B.sz,B.els.take off++List.replicate n zs++B.els.drop (off+n)⟩)]) else .fail:=by simp [AO.au,ha]
 exact kU _ (acc:=[id]) (see:=[]) ho hg (by rw [hs];simp [RM.run,hB,hfit]) (by rw [hs];simp [RM.acc,hB,hfit]) (by rw [hs];simp [RM.see,hB,hfit])
end
section
variable {P:Program} {sz by_:Nat} {zs:List AV} {m:List (Option Bk)} {id i:Nat} {els:List (List AV)}
theorem HJ {B:Bk} (hB:look m id=some B):id<m.length:=by
 rcases OT id m.length with h|h
 ·exact h
 ·unfold look at hB;rw [PI h] at hB;simp at hB
theorem HK (hF:cFunc P f=some (w9 sz by_ zs)) (hz:zs.length=sz) (hB:look m id=some ⟨sz,els⟩) (hi:i<els.length) (hb:els.length<=4611686018427387904):
  Fi P f [.own id sz 0 els.length,VI i,VI (i+1:Nat)] (look m) m.length (.own (m.length+1) sz 0 (els.length - 1)) (look (kW m id ⟨sz,els.eraseIdx i⟩)) (kW m id ⟨sz,els.eraseIdx i⟩).length:=by
 have hid:=HJ hB
 have e1:((i:Int)).toNat=i:=by omega
 have e2:(((i+1:Nat):Int)).toNat=i+1:=by omega
 have e3:((els.length:Int)).toNat=els.length:=by omega
 have p1:(0:Int)<=(i:Int):=by omega
 have p2:(0:Int)<=((i+1:Nat):Int):=by omega
 have p3:(0:Int)<=(els.length:Int):=by omega
 refine fV hF (by show 3<=33;omega) ?_
 refine EL.aq ?_
 refine OW.last 1 [0,1,2] (x':=⟨[(0, .own id sz 0 els.length),(1,VI i),(2,VI (i+1:Nat))],m⟩) (by kernel_rfl) (by kernel_rfl) ?_
 refine EL.aq ?_
 refine OW.run 4 (x':=⟨[(11, .own id sz 0 els.length),(10,VI (i+1:Nat)),(9,VI i),(8, .own id sz 0 els.length),(0, .own id sz 0 els.length),(1,VI i),(2,VI (i+1:Nat))],m⟩) (by kernel_rfl) ?_
 refine OW.fv (v:=VI els.length) (u:=[]) (acc:=[id]) (x':=⟨[(12,VI els.length),(11, .own id sz 0 els.length),(10,VI (i+1:Nat)),(9,VI i),(8, .own id sz 0 els.length),(0, .own id sz 0 els.length),(1,VI i),(2,VI (i+1:Nat))],m⟩) (by kernel_rfl) (kU _ (acc:=[]) (see:=[id]) rfl rfl (by simp [opD,sW,AO.au,aG,slot,RM.run,hB,goInt]) (by simp [opD,sW,AO.au,aG,slot,RM.acc]) (by simp [opD,sW,AO.au,aG,slot,RM.see])) (by kernel_rfl) ?_
 refine OW.fv (v:= .own id sz (0+i) (i+1 - i)) (u:=[]) (acc:=[id,id]) (x':=⟨[(13, .own id sz (0+i) (i+1 - i)),(12,VI els.length),(11, .own id sz 0 els.length),(10,VI (i+1:Nat)),(9,VI i),(8, .own id sz 0 els.length),(0, .own id sz 0 els.length),(1,VI i),(2,VI (i+1:Nat))],m⟩) (by kernel_rfl)
  (HC (.s 8) (some (.s 9)) (some (.s 10)) (.s 12) sz id 0 els.length i (i+1) els.length (some i) (some (i+1)) ⟨sz,els⟩ rfl rfl rfl (nG (by rfl)) (nG (by rfl)) (nG (by rfl)) (by simp [bounds];omega) hB (by simp) ⟨by omega,by omega⟩ (by omega)) (by kernel_rfl) ?_
 refine OW.last 0 [0,1,2] (x':=⟨[(0, .own id sz 0 els.length),(1,VI i),(2,VI (i+1:Nat))],m⟩) (by kernel_rfl) (by kernel_rfl) ?_
 refine EL.seq ?_
 refine EL.aq ?_
 refine OW.last 3 [0,1,2,16] (x':=⟨[(16, .v (.bool ((i:Int)==((i+1:Nat):Int)))),(0, .own id sz 0 els.length),(1,VI i),(2,VI (i+1:Nat))],m⟩) (by kernel_rfl) (by kernel_rfl) ?_
 have hne:((i:Int)==((i+1:Nat):Int))=false:=by simp;omega
 rw [hne]
 refine EL.aJ (by kernel_rfl) ?_
 refine EL.skip ?_
 refine tN ?_
 refine EL.aq ?_
 refine OW.run 1 (x':=⟨[(18, .own id sz 0 els.length),(16, .v (.bool false)),(0, .own id sz 0 els.length),(1,VI i),(2,VI (i+1:Nat))],m⟩) (by kernel_rfl) ?_
 refine OW.fv (v:=VI els.length) (u:=[]) (acc:=[id]) (x':=⟨[(19,VI els.length),(18, .own id sz 0 els.length),(16, .v (.bool false)),(0, .own id sz 0 els.length),(1,VI i),(2,VI (i+1:Nat))],m⟩) (by kernel_rfl) (kU _ (acc:=[]) (see:=[id]) rfl rfl (by simp [opD,sX,AO.au,aG,slot,RM.run,hB,goInt]) (by simp [opD,sX,AO.au,aG,slot,RM.acc]) (by simp [opD,sX,AO.au,aG,slot,RM.see])) (by kernel_rfl) ?_
 refine OW.last 1 [0,1,2,7] (x':=⟨[(7,VI els.length),(0, .own id sz 0 els.length),(1,VI i),(2,VI (i+1:Nat))],m⟩) (by kernel_rfl) (by kernel_rfl) ?_
 refine EL.AU ?_
 refine DW.run 2 (x':=⟨[(21,VI i),(20, .own id sz 0 els.length),(7,VI els.length),(0, .own id sz 0 els.length),(1,VI i),(2,VI (i+1:Nat))],m⟩) (by kernel_rfl) ?_
 refine DW.fv (v:= .own id sz (0+0) (i - 0)) (u:=[]) (acc:=[id]) (x':=⟨[(22, .own id sz (0+0) (i - 0)),(21,VI i),(20, .own id sz 0 els.length),(7,VI els.length),(0, .own id sz 0 els.length),(1,VI i),(2,VI (i+1:Nat))],m⟩) (by kernel_rfl)
  (A4 (.s 20) none (some (.s 21)) sz id 0 els.length 0 i none (some i) ⟨sz,els⟩ rfl rfl rfl rfl (nG (by rfl)) (by simp [bounds];omega) hB) (by kernel_rfl) ?_
 refine DW.run 2 (x':=⟨[(24,VI (i+1:Nat)),(23, .own id sz 0 els.length),(22, .own id sz (0+0) (i - 0)),(21,VI i),(20, .own id sz 0 els.length),(7,VI els.length),(0, .own id sz 0 els.length),(1,VI i),(2,VI (i+1:Nat))],m⟩) (by kernel_rfl) ?_
 refine DW.fv (v:= .own id sz (0+(i+1)) (els.length - (i+1))) (u:=[]) (acc:=[id]) (x':=⟨[(25, .own id sz (0+(i+1)) (els.length - (i+1))),(24,VI (i+1:Nat)),(23, .own id sz 0 els.length),(22, .own id sz (0+0) (i - 0)),(21,VI i),(20, .own id sz 0 els.length),(7,VI els.length),(0, .own id sz 0 els.length),(1,VI i),(2,VI (i+1:Nat))],m⟩) (by kernel_rfl)
  (A4 (.s 23) (some (.s 24)) none sz id 0 els.length (i+1) els.length (some (i+1)) none ⟨sz,els⟩ rfl rfl rfl (nG (by rfl)) rfl (by simp [bounds];omega) hB) (by kernel_rfl) ?_
 obtain ⟨ys,j4⟩:∃ys,ys=(els.drop (0+(i+1))).take (els.length - (i+1)):=⟨_,rfl⟩
 have Aw:ys.length=els.length - (i+1):=by rw [j4];simp
 obtain ⟨gE,xd⟩:∃gE,gE=els.take (0+0+(i - 0))++ys++els.drop (0+0+(i - 0)+ys.length):=⟨_,rfl⟩
 have sZ:gE.length=els.length:=by rw [xd];simp;omega
 obtain ⟨m2,gp⟩:∃m2,m2=m.set id (some ⟨sz,gE⟩)++[none]:=⟨_,rfl⟩
 have eo:dB m [(id,some ⟨sz,gE⟩),(m.length,none)]=m2:=by
  simp only [dB]
  rw [N8 hid,N7 (by simp),gp]
 have oR:m2.length=m.length+1:=by rw [gp];simp
 have xe:look m2 id=some ⟨sz,gE⟩:=by
  rw [gp];unfold look
  rw [O4 (by simpa using hid)]
  simp [hid]
 have nH:(content sz (.own id sz (0+(i+1)) (els.length - (i+1)))).run (look m)=some ys:=by
  simp only [content,RM.run,hB,true_and];rw [N8 (by omega),j4];rfl
 have xf:(content sz (.own id sz (0+(i+1)) (els.length - (i+1)))).acc (look m)=[id]:=by
  simp only [content,RM.acc,hB,true_and];rw [N8 (by omega)];rfl
 have xg:(content sz (.own id sz (0+(i+1)) (els.length - (i+1)))).see (look m)=[]:=by
  simp only [content,RM.see,hB,true_and];rw [N8 (by omega)];rfl
 have oS:upsOK m.length [(id,some (⟨sz,gE⟩:Bk)),(m.length,none)]=true:=by
  simp only [upsOK];rw [N8 hid];simp;omega
 refine DW.fv (v:= .own id sz (0+0) (i - 0+ys.length)) (u:=[(id,some ⟨sz,gE⟩),(m.length,none)]) (acc:=[id]++[id]) (x':=⟨[(26, .own id sz (0+0) (i - 0+ys.length)),(25, .own id sz (0+(i+1)) (els.length - (i+1))),(24,VI (i+1:Nat)),(23, .own id sz 0 els.length),(22, .own id sz (0+0) (i - 0)),(21,VI i),(20, .own id sz 0 els.length),(7,VI els.length),(0, .own id sz 0 els.length),(1,VI i),(2,VI (i+1:Nat))],m2⟩) (by kernel_rfl)
  (by rw [xd];exact HE (.s 22) (.s 25) sz by_ id (0+0) (i - 0) els ys _ [id] rfl rfl rfl rfl nH xf xg hB (by rintro ⟨_,h⟩;omega) (by omega)) (by
   show (bif dstOK 33 (some 26)&&upsOK m.length [(id,some (⟨sz,gE⟩:Bk)),(m.length,none)] then _ else _)=_
   rw [oS,eo];rfl) ?_
 obtain ⟨t3,NC⟩:∃t3:List (Nat×AV),t3=[(0, .own id sz (0+0) (i - 0+ys.length)),(2,VI (i+1:Nat)),(7,VI els.length)]:=⟨_,rfl⟩
 refine DW.last 1 [0,7] (x':=⟨[(0, .own id sz (0+0) (i - 0+ys.length)),(7,VI els.length)],m2⟩) (by kernel_rfl) (by kernel_rfl) ?_
 have q1:i - 0+ys.length=els.length - 1:=by omega
 rw [q1]
 refine EL.aq ?_
 refine OW.run 2 (x':=⟨[(28, .own id sz (0+0) (els.length - 1)),(27, .own id sz (0+0) (els.length - 1)),(0, .own id sz (0+0) (els.length - 1)),(7,VI els.length)],m2⟩) (by kernel_rfl) ?_
 refine OW.fv (v:=VI (els.length - 1:Nat)) (u:=[]) (acc:=[id]) (x':=⟨[(29,VI (els.length - 1:Nat)),(28, .own id sz (0+0) (els.length - 1)),(27, .own id sz (0+0) (els.length - 1)),(0, .own id sz (0+0) (els.length - 1)),(7,VI els.length)],m2⟩) (by kernel_rfl) (kU _ (acc:=[]) (see:=[id]) rfl rfl (by simp [opD,sY,AO.au,aG,slot,RM.run,xe,goInt]) (by simp [opD,sY,AO.au,aG,slot,RM.acc]) (by simp [opD,sY,AO.au,aG,slot,RM.see])) (by kernel_rfl) ?_
 refine OW.run 1 (x':=⟨[(30,VI els.length),(29,VI (els.length - 1:Nat)),(28, .own id sz (0+0) (els.length - 1)),(27, .own id sz (0+0) (els.length - 1)),(0, .own id sz (0+0) (els.length - 1)),(7,VI els.length)],m2⟩) (by kernel_rfl) ?_
 refine OW.fv (v:= .own id sz (0+0+(els.length - 1)) (els.length - (els.length - 1))) (u:=[]) (acc:=[id,id]) (x':=⟨[(31, .own id sz (0+0+(els.length - 1)) (els.length - (els.length - 1))),(30,VI els.length),(29,VI (els.length - 1:Nat)),(28, .own id sz (0+0) (els.length - 1)),(27, .own id sz (0+0) (els.length - 1)),(0, .own id sz (0+0) (els.length - 1)),(7,VI els.length)],m2⟩) (by kernel_rfl)
  (HD (.s 27) (some (.s 29)) (some (.s 30)) sz id (0+0) (els.length - 1) (els.length - 1) els.length (some (els.length - 1)) els.length ⟨sz,gE⟩ rfl rfl rfl (nG (by rfl)) (nG (by rfl)) (by simp only [bounds,O8];rw [N7 (by omega)]) xe (by simp only [bounds,O8];rw [N8 ⟨by omega,by show _<=gE.length - (0+0);omega⟩])) (by kernel_rfl) ?_
 obtain ⟨eU,xh⟩:∃eU,eU=gE.take (0+0+(els.length - 1))++List.replicate (els.length - (els.length - 1)) zs++gE.drop (0+0+(els.length - 1)+(els.length - (els.length - 1))):=⟨_,rfl⟩
 have A5:id<m2.length:=by omega
 have HL:dB m2 [(id,some ⟨sz,eU⟩)]=m2.set id (some ⟨sz,eU⟩):=by
  simp only [dB];rw [N8 A5]
 have HM:upsOK m2.length [(id,some (⟨sz,eU⟩:Bk))]=true:=by simp [upsOK];omega
 refine OW.fv (v:= .v undef) (u:=[(id,some ⟨sz,eU⟩)]) (acc:=[id]) (x':=⟨[(31, .own id sz (0+0+(els.length - 1)) (els.length - (els.length - 1))),(30,VI els.length),(29,VI (els.length - 1:Nat)),(28, .own id sz (0+0) (els.length - 1)),(27, .own id sz (0+0) (els.length - 1)),(0, .own id sz (0+0) (els.length - 1)),(7,VI els.length)],m2.set id (some ⟨sz,eU⟩)⟩) (by kernel_rfl)
  (by rw [xh];exact HI zs (.s 31) sz id (0+0+(els.length - 1)) (els.length - (els.length - 1)) gE rfl rfl hz rfl xe (by omega)) (by
   show (bif dstOK 33 none&&upsOK m2.length [(id,some (⟨sz,eU⟩:Bk))] then _ else _)=_
   rw [HM,HL];rfl) ?_
 refine OW.last 0 [0] (x':=⟨[(0, .own id sz (0+0) (els.length - 1))],m2.set id (some ⟨sz,eU⟩)⟩) (by kernel_rfl) (by kernel_rfl) ?_
 refine EL.aq ?_
 refine OW.last 2 [6] (x':=⟨[(6, .own id sz (0+0) (els.length - 1))],m2.set id (some ⟨sz,eU⟩)⟩) (by kernel_rfl) (by kernel_rfl) ?_
 refine EL.ret ?_
 have ND:eU.length=els.length:=by rw [xh];simp;omega
 have HN:look (m2.set id (some ⟨sz,eU⟩)) id=some ⟨sz,eU⟩:=by
  unfold look;simp [A5]
 have mo:eU.take (els.length - 1)=els.eraseIdx i:=by
  have h1:eU.take (els.length - 1)=gE.take (els.length - 1):=by
   rw [xh,Po,List.take_append_of_le_length (by simp;omega),OY,On,List.take_take,Nat.min_self]
  rw [h1,xd]
  have h2:els.length - 1=i+ys.length:=by omega
  rw [h2,List.take_append_of_le_length (by simp;omega)]
  rw [PA (by simp;omega)]
  rw [List.eraseIdx_eq_take_drop_succ,j4]
  congr 1
  ·simp
  ·rw [On]
   exact PA (by simp)
 refine ⟨.inr rfl,⟨[(6, .own (m2.set id (some ⟨sz,eU⟩)).length sz 0 (els.length - 1))],(m2.set id (some ⟨sz,eU⟩)).set id none++[some ⟨sz,eU.take (els.length - 1)⟩]⟩,HB (t0:=6) HN (by omega) rfl rfl rfl, ?_, ?_⟩
 ·simp only [List.length_set,oR];rfl
 ·rw [mo,gp]
  simp only [kW]
  rw [List.set_set,List.set_append,N8 (by simpa using hid),List.set_set]
  simp
theorem HO {α:Type} {fe:α->List AV} {xs:List α} (hF:cFunc P f=some (w9 sz by_ zs)) (hz:zs.length=sz) (hB:look m id=some ⟨sz,xs.map fe⟩) {n:Int} (h0:0<=n) (h1:n<xs.length) (hb:xs.length<=1000000):
  Fi P f [.own id sz 0 xs.length,VI n,VI (n+1)] (look m) m.length (.own (m.length+1) sz 0 (xs.eraseIdx n.toNat).length) (look (kW m id ⟨sz,(xs.eraseIdx n.toNat).map fe⟩)) (kW m id ⟨sz,(xs.eraseIdx n.toNat).map fe⟩).length:=by
 have e0:((n.toNat:Nat):Int)=n:=by omega
 have e1:((n.toNat+1:Nat):Int)=n+1:=by omega
 have h:=HK (P:=P) (f:=f) (i:=n.toNat) (els:=xs.map fe) hF hz hB (by simp;omega) (by simp;omega)
 rw [e0,e1,Ox] at h
 have e2:(xs.map fe).eraseIdx n.toNat=(xs.eraseIdx n.toNat).map fe:=by
  rw [List.eraseIdx_eq_take_drop_succ,List.eraseIdx_eq_take_drop_succ,O9,List.map_take,List.map_drop]
 have e3:(xs.eraseIdx n.toNat).length=xs.length - 1:=by rw [List.length_eraseIdx,N8 (by omega)]
 rw [e2] at h
 rw [e3]
 exact h
end
open Go.RowKit
section
variable {o:az} {x:L3}
end
open Go.RowKit
def ct (hs:List (Option Nat)) (i:Nat):Bool:=match hs[i]? with|some (some _)=>true|_=>false
inductive eG (P:Program) (n:Nat):List az->(Nat->AV)->(Nat->Option Bk)->Nat->List Rec->List (Option Nat)->(Nat->AV)->(Nat->Option Bk)->Nat->Prop
 |nil {σ:Nat->AV} {g:Nat->Option Bk} {k:Nat}:eG P n [] σ g k [] [] σ g k
 |cons {o:az} {os:List az} {σ σ':Nat->AV} {g g':Nat->Option Bk} {k k1 k':Nat} {val:AV} {ups:List (Nat×Option Bk)} {acc:List Nat} {rs:List Rec} {hs:List (Option Nat)} (h:dk P σ g k o val ups acc) (hk:k<=k1) (hu:∀id,id∈ups.map Prod.fst->id<k1)
   (hr:eG P n os (bD n o.dst val σ) (aA g ups) k1 rs hs σ' g' k'):eG P n (o::os) σ g k (⟨o.dst,val,ups,acc,k⟩::rs) (none::hs) σ' g' k'
 |fi {o:az} {os:List az} {σ σ':Nat->AV} {g g':Nat->Option Bk} {k k1 k':Nat} {r:AV} {f:FuncId} {as_:List AV} {ups:List (Nat×Option Bk)} {rs:List Rec} {hs:List (Option Nat)} (hg:bO σ o.guard=some true) (hal:o.ao.allocs=false) (h:(o.ao.au k (aG σ)).run g=some (.call f as_)) (hc:bH P f=true) (hf:Fi P f as_ g k r (aA g ups) k1) (hk:k<=k1) (hu:∀id,id∈ups.map Prod.fst->id<k1)
   (hr:eG P n os (bD n o.dst r σ) (aA g ups) k1 rs hs σ' g' k'):eG P n (o::os) σ g k (⟨o.dst,r,ups,[],k⟩::rs) (some k1::hs) σ' g' k'
def qJ (P:Program) (n:Nat) (σ:Nat->AV) (g:Nat->Option Bk) (rs:List Rec) (hs:List (Option Nat)) (i:Nat) (o:az) (r:Rec):Prop:=
 (hs[i]? =some none/\dk P (bE n (upto i) rs σ) (bB (upto i) rs g) r.fr o r.val r.ups r.acc)\/
 ∃f as_ k1,hs[i]? =some (some k1)/\bO (bE n (upto i) rs σ) o.guard=some true/\o.ao.allocs=false/\(o.ao.au r.fr (aG (bE n (upto i) rs σ))).run (bB (upto i) rs g)=some (.call f as_)/\bH P f=true/\Fi P f as_ (bB (upto i) rs g) r.fr r.val (aA (bB (upto i) rs g) r.ups) k1
theorem s5 {os:List az} {σ':Nat->AV} {hs:List (Option Nat)} (h:eG P n os σ g k rs hs σ' g' k'):
  (rs.length=os.length/\hs.length=os.length)/\k<=k'/\(∀(i:Nat) o,os[i]? =some o->∃r,rs[i]? =some r/\r.dst=o.dst/\qJ P n σ g rs hs i o r/\k<=r.fr)/\
   (∀(i j:Nat) ri rj,i<j->rs[i]? =some ri->rs[j]? =some rj->(∀id,id∈ri.keys->id<rj.fr)/\∀k1,hs[i]? =some (some k1)->k1<=rj.fr)/\(∀(i:Nat) r,rs[i]? =some r->(∀id,id∈r.keys->id<k')/\∀k1,hs[i]? =some (some k1)->k1<=k')/\σ'=bE n (fun _=>true) rs σ/\g'=bB (fun _=>true) rs g:=by
 induction h with
 |nil=>exact ⟨⟨rfl,rfl⟩,Og _,fun i o ho=>by simp at ho,fun i j ri rj _ h=>by simp at h,fun i r h=>by simp at h,rfl,rfl⟩
 | @cons o os σ σ' g g' k k1 k' val ups acc rs hs h hk hu hr ih=>
  obtain ⟨⟨i1,xi⟩,i2,i3,i4,i5,i6,i7⟩:=ih
  have e1:∀i,bE n (upto (i+1)) (⟨o.dst,val,ups,acc,k⟩::rs) σ=bE n (upto i) rs (bD n o.dst val σ):=by
   intro i;funext t
   show db _ _ 1 rs _=_
   rw [ix]
   unfold bE
   congr 1
   ·funext j;simp [upto]
   ·rw [N8 (by simp [upto])];exact (kQ n t ⟨o.dst,val,ups,acc,k⟩ σ).symm
  have e2:∀i,bB (upto (i+1)) (⟨o.dst,val,ups,acc,k⟩::rs) g=bB (upto i) rs (aA g ups):=by
   intro i;funext id
   show db _ _ 1 rs _=_
   rw [ix]
   unfold bB
   congr 1
   ·funext j;simp [upto]
   ·rw [N8 (by simp [upto]),j9];rfl
  refine ⟨⟨by simp [i1],by simp [xi]⟩,OF hk i2,fun i o' ho=> ?_,fun i j ri rj aW hi hj=> ?_,fun i r' hr'=> ?_, ?_, ?_⟩
  ·cases i with
   |zero=>
    simp only [OI,N6] at ho
    subst ho
    refine ⟨_,rfl,rfl, ?_,Og _⟩
    have s0:bE n (upto 0) (⟨o.dst,val,ups,acc,k⟩::rs) σ=σ:=by funext t;exact jD _ 0 _ fun j r _ hl=>by simp [upto] at hl
    have g0:bB (upto 0) (⟨o.dst,val,ups,acc,k⟩::rs) g=g:=by funext t;exact jD _ 0 _ fun j r _ hl=>by simp [upto] at hl
    unfold qJ
    rw [s0,g0]
    exact .inl ⟨rfl,h⟩
   |succ i=>
    obtain ⟨r',r1,r2,r3,r4⟩:=i3 i o' (by simpa using ho)
    refine ⟨r',by simpa using r1,r2, ?_,OF hk r4⟩
    unfold qJ
    rw [e1,e2,OX];exact r3
  ·cases j with
   |zero=>omega
   |succ j=>
    simp only [OX] at hj
    cases i with
    |zero=>
     simp only [OI,N6] at hi
     subst hi
     have bj:j<os.length:=by rw [<-i1];exact (Oe.1 hj).1
     obtain ⟨r',r1,_,_,r4⟩:=i3 j _ (Oq bj)
     rw [hj] at r1
     simp only [N6] at r1
     subst r1
     exact ⟨fun id hid=>Oz (hu id hid) r4,fun x hx=>by first|(simp at hx;done)|(simp at hx;subst hx;exact r4)⟩
    |succ i=>simp only [OX] at hi ⊢; exact i4 i j ri rj (by omega) hi hj
  ·cases i with
   |zero=>
    simp only [OI,N6] at hr'
    subst hr'
    exact ⟨fun id hid=>Oz (hu id hid) i2,fun x hx=>by first|(simp at hx;done)|(simp at hx;subst hx;exact i2)⟩
   |succ i=>simp only [OX] at hr' ⊢; exact i5 i r' hr'
  ·rw [i6]
   funext t
   unfold bE
   simp only [db]
   rw [ix,Oa,kQ n t ⟨o.dst,val,ups,acc,k⟩ σ]
  ·rw [i7]
   funext id
   unfold bB
   simp only [db]
   rw [ix,Oa,j9]
   rfl
 | @fi o os σ σ' g g' k k1 k' r f as_ ups rs hs hg hal h hc hf hk hu hr ih=>
  obtain ⟨⟨i1,xi⟩,i2,i3,i4,i5,i6,i7⟩:=ih
  have e1:∀i,bE n (upto (i+1)) (⟨o.dst,r,ups,[],k⟩::rs) σ=bE n (upto i) rs (bD n o.dst r σ):=by
   intro i;funext t
   show db _ _ 1 rs _=_
   rw [ix]
   unfold bE
   congr 1
   ·funext j;simp [upto]
   ·rw [N8 (by simp [upto])];exact (kQ n t ⟨o.dst,r,ups,[],k⟩ σ).symm
  have e2:∀i,bB (upto (i+1)) (⟨o.dst,r,ups,[],k⟩::rs) g=bB (upto i) rs (aA g ups):=by
   intro i;funext id
   show db _ _ 1 rs _=_
   rw [ix]
   unfold bB
   congr 1
   ·funext j;simp [upto]
   ·rw [N8 (by simp [upto]),j9];rfl
  refine ⟨⟨by simp [i1],by simp [xi]⟩,OF hk i2,fun i o' ho=> ?_,fun i j ri rj aW hi hj=> ?_,fun i r' hr'=> ?_, ?_, ?_⟩
  ·cases i with
   |zero=>
    simp only [OI,N6] at ho
    subst ho
    refine ⟨_,rfl,rfl, ?_,Og _⟩
    have s0:bE n (upto 0) (⟨o.dst,r,ups,[],k⟩::rs) σ=σ:=by funext t;exact jD _ 0 _ fun j r _ hl=>by simp [upto] at hl
    have g0:bB (upto 0) (⟨o.dst,r,ups,[],k⟩::rs) g=g:=by funext t;exact jD _ 0 _ fun j r _ hl=>by simp [upto] at hl
    unfold qJ
    rw [s0,g0]
    exact .inr ⟨f,as_,k1,rfl,hg,hal,h,hc,hf⟩
   |succ i=>
    obtain ⟨r',r1,r2,r3,r4⟩:=i3 i o' (by simpa using ho)
    refine ⟨r',by simpa using r1,r2, ?_,OF hk r4⟩
    unfold qJ
    rw [e1,e2,OX];exact r3
  ·cases j with
   |zero=>omega
   |succ j=>
    simp only [OX] at hj
    cases i with
    |zero=>
     simp only [OI,N6] at hi
     subst hi
     have bj:j<os.length:=by rw [<-i1];exact (Oe.1 hj).1
     obtain ⟨r',r1,_,_,r4⟩:=i3 j _ (Oq bj)
     rw [hj] at r1
     simp only [N6] at r1
     subst r1
     exact ⟨fun id hid=>Oz (hu id hid) r4,fun x hx=>by first|(simp at hx;done)|(simp at hx;subst hx;exact r4)⟩
    |succ i=>simp only [OX] at hi ⊢; exact i4 i j ri rj (by omega) hi hj
  ·cases i with
   |zero=>
    simp only [OI,N6] at hr'
    subst hr'
    exact ⟨fun id hid=>Oz (hu id hid) i2,fun x hx=>by first|(simp at hx;done)|(simp at hx;subst hx;exact i2)⟩
   |succ i=>simp only [OX] at hr' ⊢; exact i5 i r' hr'
  ·rw [i6]
   funext t
   unfold bE
   simp only [db]
   rw [ix,Oa,kQ n t ⟨o.dst,r,ups,[],k⟩ σ]
  ·rw [i7]
   funext id
   unfold bB
   simp only [db]
   rw [ix,Oa,j9]
   rfl
section
variable {P:Program} {E0:Env} {n:Nat} {ops:Array Oper} {J:Nat->Prop} {base:Nat} {w0:World} {Q:Exit->Act->World->Prop} {os:List az} {dep:List (List Nat)} {σ σ':Nat->AV} {g g':Nat->Option Bk} {k k':Nat} {rs:List Rec} {hs:List (Option Nat)}
theorem eG.snoc {val:AV} (h0:eG P n os σ g k rs hs σ' g' k') (h:dk P σ' g' k' o val ups acc) (hk:k'<=k1) (hu:∀id,id∈ups.map Prod.fst->id<k1):eG P n (os++[o]) σ g k (rs++[⟨o.dst,val,ups,acc,k'⟩]) (hs++[none]) (bD n o.dst val σ') (aA g' ups) k1:=by
 induction h0 with
 |nil=>exact .cons h hk hu .nil
 |cons h1 h2 h3 h4 ih=>exact .cons h1 h2 h3 (ih h hk)
 |fi h1 h2 h3 h4 h5 h6 h7 h8 ih=>exact .fi h1 h2 h3 h4 h5 h6 h7 (ih h hk)
theorem eG.HP (h0:eG P n os σ g k rs hs σ' g' k') (hg:bO σ' o.guard=some true) (hal:o.ao.allocs=false) (h:(o.ao.au k' (aG σ')).run g'=some (.call f as_)) (hc:bH P f=true) (hf:Fi P f as_ g' k' r (aA g' ups) k1) (hk:k'<=k1) (hu:∀id,id∈ups.map Prod.fst->id<k1):
  eG P n (os++[o]) σ g k (rs++[⟨o.dst,r,ups,[],k'⟩]) (hs++[some k1]) (bD n o.dst r σ') (aA g' ups) k1:=by
 induction h0 with
 |nil=>exact .fi hg hal h hc hf hk hu .nil
 |cons h1 h2 h3 h4 ih=>exact .cons h1 h2 h3 (ih hg h hf hk)
 |fi h1 h2 h3 h4 h5 h6 h7 h8 ih=>exact .fi h1 h2 h3 h4 h5 h6 h7 (ih hg h hf hk)
end
section
variable {P:Program} {n k k0:Nat} {x:L3} {K:L3->Prop} {Q:Ex->L3->Prop} {R:List az} {dep:List (List Nat)} {rs:List Rec} {hs:List (Option Nat)}
end
open Go.RowKit
def hP (o:az):Bool:=match o.ao,o.guard with| .new _,none=>true|_,_=>false
def mq (dep:List (List Nat)) (i j:Nat):Bool:=dep.all fun d=> !d.contains j||d.contains i
def iV (jn:Nat) (rs:List Rec) (hs:List (Option Nat)) (dep:List (List Nat)):Bool:=
 (List.range rs.length).all fun j=>(List.range j).all fun i=>((dep[j]?).getD []).contains i||(match rs[i]?,rs[j]? with|some x,some y=> !(ct hs i&&ct hs j)&&((!ct hs i||(y.ups.isEmpty||(Nat.beq j jn&&mq dep i j)))&&(!ct hs j||x.ups.isEmpty))|_,_=>false)
theorem aj.HQ {Y:Nat->Prop} {v:Value} (h:aj E v a):aj { E with X:=Y } v a:=by
 induction h with
 |v h=>exact .v h
 |agg hl h ih=>exact .agg hl ih
 |aK hl h ih=>exact .aK hl ih
 |dD hc=>exact .dD hc
 |eg u hn hl hcc hb hz hu h1 h ih=>exact .eg u hn hl hcc hb hz hu h1 ih
 |ck h ih=>exact .ck ih
 |emp=>exact .emp
 |pim u hb hq hu h1 h ih=>exact .pim u hb hq hu h1 ih
 |ref hi hd hb hq=>exact .ref hi hd hb hq
 |own hi hd hb hq nz hm hl hcc bh=>exact .own hi hd hb hq nz hm hl hcc bh
 |bQ hi hd hb bh=>exact .bQ hi hd hb bh
 |dL hi hd ho=>exact .dL hi hd ho
 |cg hi hd ho=>exact .cg hi hd ho
 |mp hi hd hb=>exact .mp hi hd hb
 |gj hi hd ho=>exact .gj hi hd ho
 |fn hl h ih=>exact .fn hl ih
 |bf hl h ih=>exact .bf hl ih
 |af hg hI hh dj h ih=>exact .af hg hI hh dj ih
 |cZ=>exact .cZ
 |dead=>exact .dead
section
variable {E:Env} {J:Nat->Prop} {base:Nat} {g:Nat->Option Bk}
theorem aE.HR (h:aE E J base g) (ob:Obj):∃E':Env,E'.w=E.w.alloc ob/\E.Le E'/\aE E' J base g/\(∀id,E'.kn id->E.kn id)/\E'.X E.w.heap.size:=by
 have hlt:∀id b B,g id=some B->E.loc id=some b->b<E.w.heap.size:=fun id b B hg hb=>by
  have:=h.at_ id B hg;rw [hb] at this;exact this.lt.2
 have hs:(E.w.alloc ob).heap.size=E.w.heap.size+1:=by simp
 let E':Env:={ E with w:=E.w.alloc ob,X:=fun b=>E.X b\/b=E.w.heap.size }
 have hE:E.Le E':=by
  refine ⟨fun _ h=>h,fun b hb=>⟨hb,O7 _ _ _ (h.low b hb).1⟩,fun _ _ h=>h,fun _ _ _=> .inr rfl,fun id b hi hd hb=> .inr ?_,fun _ _ _=> .inr rfl,fun _ h=>h,fun b hb=>⟨.inl hb,O7 _ _ _ (h.xo b hb).1⟩⟩
  obtain ⟨B',aL⟩:=(h.live id).1 ⟨hi,hd⟩
  show (E.w.alloc _).shape? b=_
  simp only [World.shape?]
  rw [O7 _ _ _ (hlt id b B' aL hb)]
 refine ⟨E',rfl,hE,⟨h.live,fun id B hg=>(h.at_ id B hg).bL hE fun b hb=>O7 _ _ _ (hlt id b B hg hb),h.apart,h.out,fun b hb=>⟨?_,(h.low b hb).2⟩, ?_,h.len,h.fb,fun b hb=> ?_⟩,fun _ h=>h, .inr rfl⟩
 ·have:=(h.low b hb).1
  show b<(E.w.alloc ob).heap.size
  omega
 ·have:=h.size
  show base<=(E.w.alloc ob).heap.size
  omega
 ·show b<(E.w.alloc ob).heap.size/\_
  rcases hb with hb|hb
  ·have:=h.xo b hb
   exact ⟨by omega,this.2⟩
  ·subst hb
   refine ⟨by omega,fun hI=> ?_,fun id B hg he=> ?_⟩
   ·have:=(h.low _ hI).1;omega
   ·have:=hlt id _ B hg he;omega
theorem aE.HS (h:aE E J base g) (fr:Nat) (hf:¬E.kn fr) (b:Nat) (hX:E.X b) (B:Bk) (hB:∀E':Env,E'.w=E.w->cD E' base B (some b)):
  ∃E':Env,E'.w=E.w/\(∀{v a},aj E v a->aj E' v a)/\aE E' J base (aA g [(fr,some B)])/\(∀id,E'.kn id->E.kn id\/id=fr)/\E'.kn fr/\¬E'.dead fr/\E'.loc fr=some b/\(∀E0:Env,E0.Le E->¬E0.X b->E0.Le E')/\(∀b,E.I b->E'.I b):=by
 have hne:∀id,E.kn id->id≠fr:=fun id hi he=>hf (he▸hi)
 let E1:Env:={ E with X:=fun x=>E.X x/\x≠b }
 let E':Env:={ E1 with kn:=fun id=>E.kn id\/id=fr,loc:=fun id=>if id=fr then some b else E.loc id,dead:=fun id=>E.dead id/\id≠fr,ln:=fun id=>if id=fr then B.els.length else E.ln id }
 have fk:E1.Le E':=⟨fun _ h=> .inl h,fun b hb=>⟨hb,rfl⟩,fun id hi hd=>⟨hd,hne id hi⟩,fun id hi hd=> .inr (N7 (hne id hi)),fun _ _ _ _ _=> .inr rfl,fun id hi _=> .inr (N7 (hne id hi)),fun _ h=>h,fun b hb=>⟨hb,rfl⟩⟩
 have hR:∀{v a},aj E v a->aj E' v a:=fun hr=>(aj.HQ (Y:=fun x=>E.X x/\x≠b) hr).step fk
 have eo:∀k,aA g [(fr,some B)] k=if k=fr then some B else g k:=fun k=>by simp only [aA]
 refine ⟨E',rfl,hR,⟨fun k=> ?_,fun k Bk hk=> ?_,fun k k' b' B1 B2 h1 h2 h3 h4=> ?_,fun k b' B1 hk hb hI=> ?_,h.low,h.size,fun k B1 hk cE=> ?_,h.fb,fun b' bm=>⟨(h.xo b' bm.1).1,(h.xo b' bm.1).2.1,fun k B1 hk he=> ?_⟩⟩,fun _ h=>h, .inr rfl,fun hd=>hd.2 rfl,N8 rfl,fun E0 k xj=> ?_,fun _ h=>h⟩
 ·rw [eo]
  by_cases h1:k=fr
  ·subst h1;simp [E']
  ·simp only [h1,OH, <-h.live k]
   simp [E',E1,h1]
 ·rw [eo] at hk
  by_cases h1:k=fr
  ·subst h1
   simp only [Oa,N6] at hk
   subst hk
   show cD E' base _ (if k=k then _ else _)
   rw [N8 rfl]
   exact hB E' rfl
  ·rw [N7 h1] at hk
   show cD E' base Bk (if k=fr then _ else _)
   rw [N7 h1]
   have:=h.at_ k Bk hk
   cases hl:E.loc k with
   |none=>rw [hl] at this;exact this
   |some c=>
    rw [hl] at this
    obtain ⟨h1,⟨hz,arr,t,h2,h3,h4⟩|⟨hz,es,clock,h2,h3,h4⟩⟩:=this
    ·refine ⟨h1, .inl ⟨hz,arr,t,h2,h3,fun i cs hi=>⟨(h4 i cs hi).1,fun j x hj=> ?_⟩⟩⟩
     obtain ⟨u,k1,k2,k3⟩:=(h4 i cs hi).2 j x hj
     exact ⟨u,k1,k2,hR k3⟩
    ·refine ⟨h1, .inr ⟨hz,es,clock,h2,h3,fun i e cs he hi=> ?_⟩⟩
     obtain ⟨x,k1,k2,k3⟩:=h4 i e cs he hi
     exact ⟨x,k1,k2,hR k3⟩
 ·rw [eo] at h1 h2
  have e3:(if k=fr then some b else E.loc k)=some b':=h3
  have e4:(if k'=fr then some b else E.loc k')=some b':=h4
  by_cases a1:k=fr<;>by_cases a2:k'=fr
  ·rw [a1,a2]
  ·rw [N8 a1] at e3;rw [N7 a2] at e4 h2
   exact absurd (e4.trans e3.symm) ((h.xo b hX).2.2 k' B2 h2)
  ·rw [N7 a1] at e3 h1;rw [N8 a2] at e4
   exact absurd (e3.trans e4.symm) ((h.xo b hX).2.2 k B1 h1)
  ·rw [N7 a1] at e3 h1;rw [N7 a2] at e4 h2
   exact h.apart k k' b' B1 B2 h1 h2 e3 e4
 ·rw [eo] at hk
  have e3:(if k=fr then some b else E.loc k)=some b':=hb
  by_cases a1:k=fr
  ·rw [N8 a1] at e3
   simp only [N6] at e3
   exact (h.xo b hX).2.1 (e3▸hI)
  ·rw [N7 a1] at e3 hk
   exact h.out k b' B1 hk e3 hI
 ·rw [eo] at hk
  show _=if k=fr then _ else _
  by_cases a1:k=fr
  ·rw [N8 a1] at hk ⊢
   simp only [N6] at hk;rw [<-hk]
  ·rw [N7 a1] at hk ⊢
   exact h.len k B1 hk cE
 ·rw [eo] at hk
  have e3:(if k=fr then some b else E.loc k)=some b':=he
  by_cases a1:k=fr
  ·rw [N8 a1] at e3
   simp only [N6] at e3
   exact bm.2 e3.symm
  ·rw [N7 a1] at e3 hk
   exact (h.xo b' bm.1).2.2 k B1 hk e3
 ·exact ⟨fun id hi=> .inl (k.kn id hi),fun b hb=>k.cz b hb,fun id hi hd=>⟨k.dead id hi hd,hne id (k.kn id hi)⟩,fun id hi hd=>(k.loc id hi hd).imp (fun q=>⟨q,hne id (k.kn id hi)⟩) fun q=>(N7 (hne id (k.kn id hi))).trans q,fun id b hi hd hb=>(k.shape id b hi hd hb).imp (fun q=>⟨q,hne id (k.kn id hi)⟩) fun q=>q,fun id hi hd=>(k.ln id hi hd).imp (fun q=>⟨q,hne id (k.kn id hi)⟩) fun q=>(N7 (hne id (k.kn id hi))).trans q,k.rg,fun b' bm=>⟨⟨(k.fx b' bm).1,fun e=>xj (e▸bm)⟩,(k.fx b' bm).2⟩⟩
end
section
variable {P:Program} {E0:Env} {n:Nat} {ops:Array Oper} {J:Nat->Prop} {base:Nat} {w0:World} {Q:Exit->Act->World->Prop} {os:List az} {dep:List (List Nat)} {σ σ':Nat->AV} {g g':Nat->Option Bk} {k k':Nat} {rs:List Rec} {hs:List (Option Nat)}
structure fN (E0:Env) (n:Nat) (ops:Array Oper) (dep:List (List Nat)) (J:Nat->Prop) (base:Nat) (w0:World) (σ:Nat->AV) (g:Nat->Option Bk) (k:Nat) (rs:List Rec) (hs:List (Option Nat)) (sx:Nat->Bool) (pd:Env->Act->Prop) (listed:Array Bool) (a:Act) (w:World):Prop where
 ex:∃E:Env,E.w=w/\E0.Le E/\(∀t,sx t=false->aj E (a.tmps.getD t undef) (bE n (fun j=>listed.getD j false) rs σ t))/\aE E J base (bB (fun j=>listed.getD j false) rs g)/\
  (∀id,E.kn id->id<k\/∃j r,listed.getD j false=true/\rs[j]? =some r/\(id∈r.keys\/∃k1,hs[j]? =some (some k1)/\id<k1))/\Mk E w0.heap.size a.defers/\pd E a
 size:a.tmps.size=n
 below:Below base w0 w
 gl:dW E0
 fI:listed.size=ops.size
 closed:∀(j:Nat),j<ops.size->listed.getD j false=true->∀e,e∈(dep[j]?).getD []->listed.getD e false=true
theorem A6 {rd:Option Nat} (cp:eG P n os σ g k rs hs σ' g' k') (hlen:os.length=ops.size) (cm:fq os dep=true) (hid:dX rs dep=true) (hcs:iV jn rs hs dep=true)
  {sx:Nat->Bool} {pd:Env->Act->Prop} {a:Act} (hI:fN E0 n ops dep J base w0 σ g k rs hs sx pd listed a w) (m2:ops[i]? =some op) (ho:os[i]? =some o) (iU:fo P ops op=some o) (cK:listed.getD i false=false)
  (dv:∀e,e∈(dep[i]?).getD []->listed.getD e false=true) (hu:∀t,t∈o.iO->sx t=false) (hq:ct hs i=true->listed.getD jn false=true->i<jn->i∈(dep[jn]?).getD []) (s6:i=jn->∀c,c<i->ct hs c=true->¬c∈(dep[i]?).getD []->listed.getD c false=true)
  (HT:∀E E' v,pd E a->E.Le E'->pd E' (a.put o.dst v)) (hK:∀a' w',fN E0 n ops dep J base w0 σ g k rs hs sx pd (listed.setIfInBounds i true) a' w'->K a' w'):wpOpIn (cx rd) 0 P ops Q i K a w:=by
 obtain ⟨⟨c1,xk⟩,c2,c3,c4,c5,c6,c7⟩:=s5 cp
 have cw:i<ops.size:=(OJ.1 m2).1
 obtain ⟨r,cr,b7,hrun,ep⟩:=c3 i o ho
 obtain ⟨E,rfl,hle,mY,h2,h3,hmk,HU⟩:=hI.ex
 have h1:∀t,aj E (a.tmps.getD t undef) ((fun t=>if sx t=true then AV.dead else bE n (fun j=>listed.getD j false) rs σ t) t):=fun t=>by
  show aj E _ (if sx t=true then AV.dead else _)
  cases ht:sx t with
  |true=>rw [N8 rfl];exact .dead
  |false=>rw [N7 (by simp)];exact mY t ht
 -- GJ is listed out of turn is free of this one
 have free:∀j rj oj,j≠i->rs[j]? =some rj->os[j]? =some oj->listed.getD j false≠upto i j->(iQ (if i<j then o else oj) (if i<j then oj else o)=true/\fp (if i<j then r else rj) (if i<j then rj else r)=true):=by
  intro j rj oj hne aO bo hl
  have bj:j<os.length:=(Oe.1 bo).1
  unfold fq at cm
  unfold dX at hid
  simp only [Oc,OL,OA,Pm] at cm hid
  by_cases aW:i<j
  ·rw [N8 aW,N8 aW,N8 aW,N8 aW]
   have aQ:listed.getD j false=true:=by
    have hu:upto i j=false:=by simp [upto];omega
    rw [hu] at hl
    simpa using hl
   have cG:i∉(dep[j]?).getD []:=by
    intro cS
    have iS:j<ops.size:=by omega
    have:=hI.closed j iS aQ i cS
    rw [cK] at this;simp at this
   have s1:=(cm j bj i aW).resolve_left cG
   have s2:=(hid j (by rw [c1];exact bj) i aW).resolve_left cG
   rw [ho,bo] at s1;rw [cr,aO] at s2
   exact ⟨s1,s2⟩
  ·rw [N7 aW,N7 aW,N7 aW,N7 aW]
   have bC:j<i:=by omega
   have aQ:listed.getD j false=false:=by
    have hu:upto i j=true:=by simp [upto];omega
    rw [hu] at hl
    simpa using hl
   have cG:j∉(dep[i]?).getD []:=by
    intro cS
    have:=dv j cS
    rw [aQ] at this;simp at this
   have s1:=(cm i (by omega) j bC).resolve_left cG
   have s2:=(hid i (by omega) j bC).resolve_left cG
   rw [ho,bo] at s1;rw [cr,aO] at s2
   exact ⟨s1,s2⟩
 have gy:∀(j:Nat) rj,rs[j]? =some rj->∃oj,os[j]? =some oj/\rj.dst=oj.dst:=fun j rj aO=>by
  have bj:j<os.length:=by rw [<-c1];exact (Oe.1 aO).1
  obtain ⟨r',q1,q2,_,_⟩:=c3 j _ (Oq bj)
  rw [aO] at q1;simp only [N6] at q1;subst q1
  exact ⟨_,Oq bj,q2⟩
 -- a slot qt it looks at is as it comes one behind jA other
 have hσ:∀t,t∈o.iO->(if sx t=true then AV.dead else bE n (fun j=>listed.getD j false) rs σ t)=bE n (upto i) rs σ t:=by
  intro t ht
  rw [N7 (by rw [hu t ht];simp)]
  refine jC _ 0 _ fun j rj aO hl=> ?_
  rw [On] at hl
  by_cases hne:j=i
  ·subst hne;rw [cK] at hl;simp [upto] at hl
  ·obtain ⟨oj,bo,cJ⟩:=gy j rj aO
   have hf:=(free j rj oj hne aO bo hl).1
   unfold iP
   rw [N7]
   rintro ⟨dg,_⟩
   rw [cJ] at dg
   unfold iQ at hf
   by_cases aW:i<j
   ·simp only [N8 aW,dg,N9,Ov,OP,OQ] at hf
    exact hf.2 ht
   ·simp only [N7 aW,dg,N9,Ov,OP,OQ] at hf
    exact hf.1.1 ht
 have hg:∀id,id∈r.acc->bB (fun j=>listed.getD j false) rs g id=bB (upto i) rs g id:=by
  intro id qu
  refine jC _ 0 _ fun j rj aO hl=> ?_
  rw [On] at hl
  by_cases hne:j=i
  ·subst hne;rw [cK] at hl;simp [upto] at hl
  ·obtain ⟨oj,bo,cJ⟩:=gy j rj aO
   have hf:=(free j rj oj hne aO bo hl).2
   cases hw:wg id rj with
   |none=>rfl
   |some y=>
    exfalso
    have hk:id∈rj.keys:=kP (by unfold wg at hw;rw [hw];simp)
    unfold fp at hf
    by_cases aW:i<j
    ·simp only [N8 aW,N9,Oc,Ov,OP,OQ] at hf
     exact hf.2 id hk qu
    ·simp only [N7 aW,N9,Oc,Ov,OP,OQ] at hf
     exact (hf.1 id hk).1 qu
 have xl:∀{j x},hs[j]? =some (some x)->ct hs j=true:=fun h=>by unfold ct;rw [h]
 have xm:∀j rj,j≠i->rs[j]? =some rj->listed.getD j false≠upto i j->(ct hs i&&ct hs j)=false/\(ct hs i=true->rj.ups=[])/\(ct hs j=true->r.ups=[]):=by
  intro j rj hne aO hl
  have bj:j<rs.length:=(Oe.1 aO).1
  unfold iV at hcs
  simp only [Oc,OL,OA,Pm] at hcs
  by_cases aW:i<j
  ·have aQ:listed.getD j false=true:=by
    have hu:upto i j=false:=by simp [upto];omega
    rw [hu] at hl
    simpa using hl
   have cG:i∉(dep[j]?).getD []:=by
    intro cS
    have iS:j<ops.size:=by omega
    have:=hI.closed j iS aQ i cS
    rw [cK] at this;simp at this
   have s2:=(hcs j bj i aW).resolve_left cG
   rw [cr,aO] at s2
   simp only [N9,OA,Ov,OZ] at s2
   exact ⟨s2.1,fun h=>(s2.2.1.resolve_left (by rw [h];simp)).resolve_right fun q=>by
    have ej:=Ol q.1
    exact cG (by rw [ej];exact hq h (by rw [<-ej];exact aQ) (by omega)),fun h=>s2.2.2.resolve_left (by rw [h];simp)⟩
  ·have bC:j<i:=by omega
   have aQ:listed.getD j false=false:=by
    have hu:upto i j=true:=by simp [upto];omega
    rw [hu] at hl
    simpa using hl
   have cG:j∉(dep[i]?).getD []:=by
    intro cS
    have:=dv j cS
    rw [aQ] at this;simp at this
   have s2:=(hcs i (by omega) j bC).resolve_left cG
   rw [cr,aO] at s2
   simp only [N9,OA,Ov,OZ] at s2
   exact ⟨by rw [Bool.and_comm];exact s2.1,fun h=>s2.2.2.resolve_left (by rw [h];simp),fun h=>(s2.2.1.resolve_left (by rw [h];simp)).resolve_right fun q=>by
    have:=s6 (Ol q.1) j bC h cG
    rw [aQ] at this;simp at this⟩
 have fin:∀v E',E.Le E'->aj E' v r.val->aE E' J base (aA (bB (fun j=>listed.getD j false) rs g) r.ups)->Below base E.w E'.w->(∀id,E'.kn id->(E.kn id\/id∈r.keys)\/∃k1,hs[i]? =some (some k1)/\id<k1)->K (a.put o.dst v) E'.w:=by
  intro v E' hE hv hM hB aX
  -- it is listed now
  have cV:∀j,(listed.setIfInBounds i true).getD j false=if j=0+i then true else listed.getD j false:=by
   intro j
   rw [On]
   have gY:i<listed.size:=by rw [hI.fI];exact cw
   by_cases bC:j=i
   ·subst bC;simp [gY]
   ·rw [N7 bC,getD_set_ne false (Ne.symm bC)]
  have nu:∀t,bE n (fun j=>(listed.setIfInBounds i true).getD j false) rs σ t=bD n o.dst r.val (bE n (fun j=>listed.getD j false) rs σ) t:=by
   intro t
   rw [<-b7,kQ]
   refine nj rs 0 i _ r cr (by rw [On];exact cK) cV fun j rj aW aO aQ=> ?_
   rw [On] at aQ
   obtain ⟨oj,bo,cJ⟩:=gy j rj aO
   have hf:=(free j rj oj (by omega) aO bo (by rw [aQ];simp [upto];omega)).1
   unfold iQ at hf
   simp only [N8 aW] at hf
   by_cases iv:r.dst=some t
   ·left
    unfold iP
    rw [N7]
    rintro ⟨dg,_⟩
    rw [b7] at iv
    rw [cJ] at dg
    simp only [iv,dg,N9,bne_iff_ne,ne_eq] at hf
    exact hf.1.2 trivial
   ·right
    unfold iP
    rw [N7]
    rintro ⟨dg,_⟩
    exact iv dg
  have ng:∀id,bB (fun j=>(listed.setIfInBounds i true).getD j false) rs g id=aA (bB (fun j=>listed.getD j false) rs g) r.ups id:=by
   intro id
   rw [j9]
   refine nj rs 0 i _ r cr (by rw [On];exact cK) cV fun j rj aW aO aQ=> ?_
   rw [On] at aQ
   obtain ⟨oj,bo,cJ⟩:=gy j rj aO
   have hf:=(free j rj oj (by omega) aO bo (by rw [aQ];simp [upto];omega)).2
   unfold fp at hf
   simp only [N8 aW,N9,Oc,Ov,OP,OQ] at hf
   cases hw:wg id r with
   |none=>exact .inr rfl
   |some y=>
    left
    cases hw2:wg id rj with
    |none=>rfl
    |some y2=>
     exfalso
     have k1:id∈r.keys:=kP (by unfold wg at hw;rw [hw];simp)
     have k2:id∈rj.keys:=kP (by unfold wg at hw2;rw [hw2];simp)
     exact (hf.1 id k1).2 k2
  refine hK _ _ ⟨⟨E',rfl,hle.trans hE,fun t ht=> ?_, ?_,fun id hh=> ?_, ?_,HT E E' v HU hE⟩, ?_,hI.below.trans hB,hI.gl,by simpa using hI.fI,fun j hj aQ e he=> ?_⟩
  ·rw [nu t]
   have:=oH hE h1 hv o.dst t
   rw [hI.size] at this
   have e9:bD n o.dst r.val (fun t=>if sx t=true then AV.dead else bE n (fun j=>listed.getD j false) rs σ t) t=bD n o.dst r.val (bE n (fun j=>listed.getD j false) rs σ) t:=by
    unfold bD
    split
    ·rfl
    ·exact N7 (by rw [ht];simp)
   rw [<-e9]
   exact this
  ·rw [show bB (fun j=>(listed.setIfInBounds i true).getD j false) rs g=aA (bB (fun j=>listed.getD j false) rs g) r.ups from funext ng]
   exact hM
  ·rcases aX id hh with (h|h)|h
   ·rcases h3 id h with h|⟨j,rj,q1,q2,q3⟩
    ·exact .inl h
    ·exact .inr ⟨j,rj,getD_set_true q1,q2,q3⟩
   ·refine .inr ⟨i,r, ?_,cr, .inl h⟩
    rw [cV i,On,N8 rfl]
   ·refine .inr ⟨i,r, ?_,cr, .inr h⟩
    rw [cV i,On,N8 rfl]
  ·rw [(gW a o.dst v).2];exact hmk.step hE
  ·rw [(gW a o.dst v).1];exact hI.size
  ·rw [cV j,On] at aQ
   by_cases bC:j=i
   ·subst bC
    exact getD_set_true (dv e he)
   ·rw [N7 bC] at aQ
    exact getD_set_true (hI.closed j hj aQ e he)
 rcases hrun with ⟨oT,hrun⟩|⟨f,as_,k1,A7,cq,hal,da,bY,HV⟩
 ·-- a name qt GK has
  have qe:∃gw,¬E.kn gw/\(r.fr∈r.ups.map Prod.fst->gw=r.fr):=by
   by_cases gS:r.fr∈r.ups.map Prod.fst
   ·refine ⟨r.fr,fun hk=> ?_,fun _=>rfl⟩
    rcases h3 _ hk with h|⟨j,rj,aQ,aO,cH⟩
    ·omega
    ·by_cases hne:j=i
     ·subst hne;rw [cK] at aQ;simp at aQ
     ·rcases cH with cH|⟨k1,bU,cH⟩
      rotate_left
      ·by_cases aW:i<j
       ·have:=(xm j rj hne aO (by rw [aQ];simp [upto];omega)).2.2 (xl bU)
        rw [this] at gS;simp at gS
       ·have:=(c4 j i rj r (by omega) aO cr).2 k1 bU
        omega
      by_cases aW:i<j
      ·obtain ⟨oj,bo,_⟩:=gy j rj aO
       have hf:=(free j rj oj hne aO bo (by rw [aQ];simp [upto];omega)).2
       unfold fp at hf
       simp only [N8 aW,N9,Oc,Ov,OP,OQ] at hf
       exact (hf.1 _ gS).2 cH
      ·have:=(c4 j i rj r (by omega) aO cr).1 _ cH
       exact Pl _ this
   ·refine ⟨k',fun hk=> ?_,fun h=>absurd h gS⟩
    rcases h3 _ hk with h|⟨j,rj,aQ,aO,cH|⟨k1,bU,cH⟩⟩
    ·omega
    ·exact Pl _ ((c5 j rj aO).1 _ cH)
    ·exact Pl _ (Oz cH ((c5 j rj aO).2 k1 bU))
  obtain ⟨gw,wF,wG⟩:=qe
  obtain ⟨wB,wH⟩:=hrun.local hσ hg wG
  exact wA (hI.gl.step hle) h1 h2 wF m2 iU wH fun v E' hE hv hM hB aX=>fin v E' hE hv hM hB fun id h=> .inl (aX id h)
 ·have xn:=xl A7
  have xp:bB (fun j=>listed.getD j false) rs g=bB (upto i) rs g:=by
   funext id
   refine jC _ 0 _ fun j rj aO hl=> ?_
   rw [On] at hl
   by_cases hne:j=i
   ·subst hne;rw [cK] at hl;simp [upto] at hl
   ·unfold wg;rw [(xm j rj hne aO hl).2.1 xn];rfl
  have HW:∀id,E.kn id->id<r.fr:=by
   intro id hid
   rcases h3 id hid with h|⟨j,rj,aQ,aO,cH⟩
   ·omega
   ·by_cases hne:j=i
    ·subst hne;rw [cK] at aQ;simp at aQ
    ·by_cases aW:i<j
     ·have gV:=xm j rj hne aO (by rw [aQ];simp [upto];omega)
      rcases cH with cH|⟨x,hx,cH⟩
      ·unfold Rec.keys at cH;rw [gV.2.1 xn] at cH;simp at cH
      ·have:=gV.1;rw [xn,xl hx] at this;simp at this
     ·rcases cH with cH|⟨x,hx,cH⟩
      ·exact (c4 j i rj r (by omega) aO cr).1 _ cH
      ·have:=(c4 j i rj r (by omega) aO cr).2 x hx;omega
  have HX:bO (fun t=>if sx t=true then AV.dead else bE n (fun j=>listed.getD j false) rs σ t) o.guard=some true:=by
   rw [<-cq]
   cases hg0:o.guard with
   |none=>rfl
   |some p=>
    obtain ⟨t,w⟩:=p
    simp only [bO,hσ t (by simp [az.iO,hg0])]
  have HZ:(o.ao.au r.fr (aG (fun t=>if sx t=true then AV.dead else bE n (fun j=>listed.getD j false) rs σ t))).run (bB (fun j=>listed.getD j false) rs g)=some (.call f as_):=by
   rw [xp,Az r.fr fun t ht=>hσ t (by simp [az.iO,ht])];exact da
  have hdd:=qn iU
  have xq:∀e,op.semAt (cx rd).round e=execOp e op:=fun e=>P0 (cx rd) _ _ (oG hdd.2)
  unfold wpOpIn
  simp only [m2]
  rw [kO h1 iU HX,N8 rfl]
  obtain ⟨vs,e1,e2⟩:=qg (dx.of (hI.gl.step hle) h1) hdd.2 HZ bY
  unfold Oper.wpIn
  rw [xq,e1,Oper.uponIn_enter]
  have s7:=h2
  rw [xp] at s7
  refine ⟨j7,nh,oF ((HV E J base vs (hI.gl.step hle) s7 HW e2).mono ?_)⟩
  rintro e w' ⟨v,E',rfl,rfl,q1,q2,q3,q4,q5⟩
  have mo:=fin v E' q1 q2 (by rw [xp];exact q3) q4 fun id h=> .inr ⟨k1,A7,q5 id h⟩
  rw [hdd.1] at mo
  exact mo
theorem H0 (cp:eG P n os σ g k rs hs σ' g' k') (hlen:os.length=ops.size) (cm:fq os dep=true) (hid:dX rs dep=true) (bY:∀(j:Nat),j<ops.size->listed.getD j false=true->∀e,e∈(dep[j]?).getD []->listed.getD e false=true) (cU:listed.size=ops.size)
 {r:Rec} (cw:i<ops.size) (ho:os[i]? =some o) (cr:rs[i]? =some r) (b7:r.dst=o.dst) (cK:listed.getD i false=false):
  (∀t,bE n (fun j=>(listed.setIfInBounds i true).getD j false) rs σ t=bD n o.dst r.val (bE n (fun j=>listed.getD j false) rs σ) t)/\(∀id,bB (fun j=>(listed.setIfInBounds i true).getD j false) rs g id=aA (bB (fun j=>listed.getD j false) rs g) r.ups id)/\∀j rj,i<j->rs[j]? =some rj->listed.getD j false=true->¬i∈(dep[j]?).getD []/\fp r rj=true:=by
 obtain ⟨⟨c1,xk⟩,c2,c3,c4,c5,c6,c7⟩:=s5 cp
 have gy:∀(j:Nat) rj,rs[j]? =some rj->∃oj,os[j]? =some oj/\rj.dst=oj.dst:=fun j rj aO=>by
  have bj:j<os.length:=by rw [<-c1];exact (Oe.1 aO).1
  obtain ⟨r',q1,q2,_,_⟩:=c3 j _ (Oq bj)
  rw [aO] at q1;simp only [N6] at q1;subst q1
  exact ⟨_,Oq bj,q2⟩
 have eF:∀j,i<j->j<ops.size->listed.getD j false=true->¬i∈(dep[j]?).getD []:=fun j aW hj aQ cS=>by
  have:=bY j hj aQ i cS
  rw [cK] at this;simp at this
 have free:∀j rj oj,i<j->rs[j]? =some rj->os[j]? =some oj->listed.getD j false=true->(iQ o oj=true/\fp r rj=true):=by
  intro j rj oj aW aO bo aQ
  have bj:j<os.length:=(Oe.1 bo).1
  unfold fq at cm
  unfold dX at hid
  simp only [Oc,OL,OA,Pm] at cm hid
  have cG:=eF j aW (by omega) aQ
  have s1:=(cm j bj i aW).resolve_left cG
  have s2:=(hid j (by rw [c1];exact bj) i aW).resolve_left cG
  rw [ho,bo] at s1;rw [cr,aO] at s2
  exact ⟨s1,s2⟩
 -- it is listed now
 have cV:∀j,(listed.setIfInBounds i true).getD j false=if j=0+i then true else listed.getD j false:=by
  intro j
  rw [On]
  have gY:i<listed.size:=by rw [cU];exact cw
  by_cases bC:j=i
  ·subst bC;simp [gY]
  ·rw [N7 bC,getD_set_ne false (Ne.symm bC)]
 have nu:∀t,bE n (fun j=>(listed.setIfInBounds i true).getD j false) rs σ t=bD n o.dst r.val (bE n (fun j=>listed.getD j false) rs σ) t:=by
  intro t
  rw [<-b7,kQ]
  refine nj rs 0 i _ r cr (by rw [On];exact cK) cV fun j rj aW aO aQ=> ?_
  rw [On] at aQ
  obtain ⟨oj,bo,cJ⟩:=gy j rj aO
  have hf:=(free j rj oj aW aO bo aQ).1
  unfold iQ at hf
  by_cases iv:r.dst=some t
  ·left
   unfold iP
   rw [N7]
   rintro ⟨dg,_⟩
   rw [b7] at iv
   rw [cJ] at dg
   simp only [iv,dg,N9,bne_iff_ne,ne_eq] at hf
   exact hf.1.2 trivial
  ·right
   unfold iP
   rw [N7]
   rintro ⟨dg,_⟩
   exact iv dg
 have ng:∀id,bB (fun j=>(listed.setIfInBounds i true).getD j false) rs g id=aA (bB (fun j=>listed.getD j false) rs g) r.ups id:=by
  intro id
  rw [j9]
  refine nj rs 0 i _ r cr (by rw [On];exact cK) cV fun j rj aW aO aQ=> ?_
  rw [On] at aQ
  obtain ⟨oj,bo,cJ⟩:=gy j rj aO
  have hf:=(free j rj oj aW aO bo aQ).2
  unfold fp at hf
  simp only [N9,Oc,Ov,OP,OQ] at hf
  cases hw:wg id r with
  |none=>exact .inr rfl
  |some y=>
   left
   cases hw2:wg id rj with
   |none=>rfl
   |some y2=>
    exfalso
    have k1:id∈r.keys:=kP (by unfold wg at hw;rw [hw];simp)
    have k2:id∈rj.keys:=kP (by unfold wg at hw2;rw [hw2];simp)
    exact (hf.1 id k1).2 k2
 refine ⟨nu,ng,fun j rj aW aO aQ=> ?_⟩
 obtain ⟨oj,bo,_⟩:=gy j rj aO
 exact ⟨eF j aW (by rw [<-hlen];exact (Oe.1 bo).1) aQ,(free j rj oj aW aO bo aQ).2⟩
def H2 (w:World) (b:Nat) (zs:List AV):Prop:=∃(arr:Array Value) (t:TypeId),w.heap[b]? =some (.cells arr t (0,0))/\zs.length<=arr.size/\∀(j:Nat) x,zs[j]? =some x->∃u,arr[j]? =some u/\u.oneCell'=true/\∀E:Env,aj E u x
def oV (E0:Env) (n base b:Nat) (zs:List AV) (d:Option Nat) (E:Env) (a:Act):Prop:=E.X b/\¬E0.X b/\base<=b/\(∀t,d=some t->t<n->a.tmps.getD t undef= .pointer (some ⟨b,0,none⟩))/\H2 E.w b zs
def kX (n:Nat) (d:Option Nat) (t:Nat):Bool:=d==some t&&Nat.blt t n
theorem fN.bG (cp:eG P n os σ g k rs hs σ' g' k') (hlen:os.length=ops.size) (cm:fq os dep=true) (hid:dX rs dep=true) (hcs:iV jn rs hs dep=true) {r:Rec} {zs:List AV} {b:Nat} {a:Act}
  (hI:fN E0 n ops dep J base w0 σ g k rs hs (kX n o.dst) (oV E0 n base b zs o.dst) listed a w) (cw:jn<ops.size) (ho:os[jn]? =some o) (cr:rs[jn]? =some r) (b7:r.dst=o.dst) (cK:listed.getD jn false=false) (dv:∀e,e∈(dep[jn]?).getD []->listed.getD e false=true)
  (hz:0<zs.length) (s8:r.val= .ref r.fr zs.length 0 0) (oS:r.ups=[(r.fr,some ⟨zs.length,[zs]⟩)]) (ep:k<=r.fr):
  fN E0 n ops dep J base w0 σ g k rs hs (fun _=>false) (fun _ _=>True) (listed.setIfInBounds jn true) a w:=by
 obtain ⟨⟨c1,xk⟩,c2,c3,c4,c5,c6,c7⟩:=s5 cp
 obtain ⟨nu,ng,H3⟩:=H0 cp hlen cm hid hI.closed hI.fI cw ho cr b7 cK
 obtain ⟨E,rfl,hle,h1,h2,h3,hmk,⟨p1,p2,p3,p4,arr,t0,p5,p6,p7⟩⟩:=hI.ex
 have hk:r.fr∈r.keys:=by unfold Rec.keys;rw [oS];simp
 have hf:¬E.kn r.fr:=fun aX=>by
  rcases h3 _ aX with h|⟨j,rj,aQ,aO,cH⟩
  ·omega
  ·by_cases hne:j=jn
   ·subst hne;rw [cK] at aQ;simp at aQ
   ·by_cases aW:jn<j
    ·obtain ⟨q1,q2⟩:=H3 j rj aW aO aQ
     rcases cH with cH|⟨k1,bU,_⟩
     ·unfold fp at q2
      simp only [N9,Oc,Ov,OP,OQ] at q2
      exact (q2.1 _ hk).2 cH
     ·have bj:j<rs.length:=(Oe.1 aO).1
      unfold iV at hcs
      simp only [Oc,OL,OA,Pm] at hcs
      have s2:=(hcs j bj jn aW).resolve_left q1
      rw [cr,aO] at s2
      simp only [N9,OA,Ov,OZ] at s2
      have hc:ct hs j=true:=by unfold ct;rw [bU]
      have:=s2.2.2.resolve_left (by rw [hc];simp)
      rw [this] at oS;simp at oS
    ·have bC:j<jn:=by omega
     rcases cH with cH|⟨k1,bU,cH⟩
     ·exact Pl _ ((c4 j jn rj r bC aO cr).1 _ cH)
     ·have:=(c4 j jn rj r bC aO cr).2 k1 bU
      omega
 obtain ⟨E',hw,hR,hM,q1,q2,q3,q4,q5,q6⟩:=h2.HS r.fr hf b p1 ⟨zs.length,[zs]⟩ (fun lY hw=>by
  refine cD.iK ⟨p3,arr,(t0,0),by rw [hw];exact p5,by simpa using p6,fun i cs hi=> ?_⟩ (by show zs.length≠0;omega)
  cases i with
  |zero=>
   simp only [OI,N6] at hi
   subst hi
   refine ⟨rfl,fun j x hj=> ?_⟩
   obtain ⟨u,u1,u2,u3⟩:=p7 j x hj
   exact ⟨u,by simpa using u1,u2,u3 _⟩
  |succ i=>simp at hi)
 refine ⟨⟨E',hw,q5 E0 hle p2,fun t _=> ?_, ?_,fun id hh=> ?_,hmk.wz fun b hb=>⟨q6 b hb,by rw [hw]⟩,trivial⟩,hI.size,hI.below,hI.gl,by simpa using hI.fI,fun j hj aQ e he=> ?_⟩
 ·rw [nu t]
  by_cases ht:o.dst=some t/\t<n
  ·rw [show bD n o.dst r.val (bE n (fun j=>listed.getD j false) rs σ) t=r.val from N8 ht,s8,p4 t ht.1 ht.2]
   exact .ref q2 q3 q4 (by simp) (by omega)
  ·rw [show bD n o.dst r.val (bE n (fun j=>listed.getD j false) rs σ) t=bE n (fun j=>listed.getD j false) rs σ t from N7 ht]
   refine hR (h1 t ?_)
   unfold kX
   rw [Bool.and_eq_false_iff]
   by_cases hd:o.dst=some t
   ·right
    have:¬t<n:=fun h=>ht ⟨hd,h⟩
    cases hb:Nat.blt t n with
    |false=>rfl
    |true=>exact absurd (ON hb) this
   ·left;simpa using hd
 ·rw [show bB (fun j=>(listed.setIfInBounds jn true).getD j false) rs g=aA (bB (fun j=>listed.getD j false) rs g) r.ups from funext ng,oS]
  exact hM
 ·rcases q1 id hh with h|h
  ·rcases h3 id h with h|⟨j,rj,q1,q2,q3⟩
   ·exact .inl h
   ·exact .inr ⟨j,rj,getD_set_true q1,q2,q3⟩
  ·refine .inr ⟨jn,r, ?_,cr, .inl (h▸hk)⟩
   have gY:jn<listed.size:=by rw [hI.fI];exact cw
   simp [gY]
 ·by_cases bC:j=jn
  ·subst bC;exact getD_set_true (dv e he)
  ·rw [getD_set_ne false (Ne.symm bC)] at aQ
   exact getD_set_true (hI.closed j hj aQ e he)
theorem H4 {o:Oper} {zs:List AV} (h:bM P o=some (.new zs)):∃t,o.op= .alloc t/\gn P t=some zs/\0<zs.length:=by
 obtain ⟨dst,op,type,pos,after,guard⟩:=o
 cases op
 case alloc t=>
  simp only [bM] at h
  split at h
  ·split at h
   ·simp only [N6,AO.new.injEq] at h;subst h;exact ⟨t,rfl,by assumption,by assumption⟩
   ·simp at h
  ·simp at h
 all_goals
  exfalso
  simp only [bM] at h
  first
   |(simp at h;done)
   |((repeat' split at h)<;>simp at h<;>done)
   |((repeat' split at h)<;>simp_all)
theorem H5 {rd:Option Nat} {a:Act} (hI:fN E0 n ops dep J base w0 σ g k rs hs (fun _=>false) (fun _ _=>True) listed a w) {zs:List AV} (m2:ops[i]? =some op) (iU:fo P ops op=some o) (hg:o.guard=none) (cC:o.ao= .new zs)
 (hK:∀a' w' b,0<zs.length->fN E0 n ops dep J base w0 σ g k rs hs (kX n o.dst) (oV E0 n base b zs o.dst) listed a' w'->K a' w'):wpOpIn (cx rd) 0 P ops Q i K a w:=by
 obtain ⟨E,rfl,hle,mY,h2,h3,hmk,_⟩:=hI.ex
 have h1:∀t,aj E (a.tmps.getD t undef) (bE n (fun j=>listed.getD j false) rs σ t):=fun t=>mY t rfl
 have hdd:=qn iU
 have xq:∀e,op.semAt (cx rd).round e=execOp e op:=fun e=>P0 (cx rd) _ _ (oG hdd.2)
 obtain ⟨t,bV,H6,hz0⟩:=H4 (hdd.2.trans (by rw [cC]))
 obtain ⟨ii,z,hi,hz,hsz,hcs,dF,cv⟩:=mX H6
 have hrun:(execOp a.eval op).run P E.w= .ok (.value (.pointer (some ⟨E.w.heap.size,0,none⟩))) (E.w.alloc (.cells z.cells t)):=by
  obtain ⟨dst,op,type,pos,after,guard⟩:=op
  simp only at bV
  subst bV
  simp [execOp,Instr.alloc,zeroValue,typeInfo,hi,hz,newVar,newRow]
 unfold wpOpIn
 simp only [m2]
 rw [kO h1 iU (b:=true) (by rw [hg];rfl),N8 rfl]
 unfold Oper.wpIn
 rw [xq,hrun]
 obtain ⟨E',hw,hE,hM,aX,hX⟩:=h2.HR (.cells z.cells t)
 have mo:K (a.put o.dst (.pointer (some ⟨E.w.heap.size,0,none⟩))) E'.w:=by
  refine hK _ _ E.w.heap.size hz0 ⟨⟨E',rfl,hle.trans hE,fun s hs=> ?_,hM,fun id h=>h3 id (aX id h),by rw [(gW a o.dst _).2];exact hmk.step hE,hX,fun xj=> ?_,h2.size,fun s hd hn=> ?_,z.cells,t,by rw [hw];exact heap_alloc_new E.w _,by omega,fun j x hj=> ?_⟩,by rw [(gW a o.dst _).1];exact hI.size,by rw [hw];exact hI.below.alloc h2.size _,hI.gl,hI.fI,hI.closed⟩
  ·have:(a.put o.dst (.pointer (some ⟨E.w.heap.size,0,none⟩))).tmps.getD s undef=a.tmps.getD s undef:=by
    unfold kX at hs
    cases hd:o.dst with
    |none=>rfl
    |some d=>
     rw [hd] at hs
     simp only [Act.put]
     by_cases e:d=s
     ·subst e
      have hn:¬d<n:=fun h=>by
       have hb:Nat.blt d n=true:=Nat.ble_eq_true_of_le h
       rw [hb] at hs;simp at hs
      rw [<-hI.size] at hn
      simp [hn]
     ·simp [Pz,PX,e]
   rw [this]
   exact (h1 s).step hE
  ·have:=(h2.xo _ (hle.fx _ xj).1).1
   omega
  ·rw [hd]
   simp only [Act.put]
   rw [<-hI.size] at hn
   simp [hn]
  ·have jx:j<zs.length:=(Oe.1 hj).1
   have iT:j<z.cells.size:=by omega
   have H7:=(cv E j z.cells[j] x (Oo iT) hj).one (by simp only [Oc] at dF;exact dF _ (OG hj))
   exact ⟨z.cells[j],Oo iT,H7,fun lY=>cv lY j _ x (Oo iT) hj⟩
 rw [hw] at mo
 rw [hdd.1] at mo
 exact ⟨j7,mo⟩
theorem s9 {A:Array Bool} (h:i<A.size):(A.setIfInBounds i true).getD i false=true:=by simp [h]
theorem H8 {rd:Option Nat} (cp:eG P n os σ g k rs hs σ' g' k') (hlen:os.length=ops.size) (dI:∀(j:Nat) op,ops[j]? =some op->∃o,os[j]? =some o/\fo P ops op=some o)
  (hd:iy ops.toList dep=true) (cm:fq os dep=true) (hid:dX rs dep=true) (hcs:iV jn rs hs dep=true) (kY:∀o,os[jn]? =some o->hP o=true) (hQ:∀a w,eE E0 J base w0 n σ' g' k' a w->Q .normal a w):
  ∀(fuel:Nat) (listed:Array Bool) (a:Act) (w:World),listed.size=ops.size->(∀(j:Nat) op,ops[j]? =some op->listed.getD j false=true->∀e,e∈dm op->listed.getD e false=true)->
   ((fN E0 n ops dep J base w0 σ g k rs hs (fun _=>false) (fun _ _=>True) listed a w/\(listed.getD jn false=true->∀c,c<jn->ct hs c=true->¬c∈(dep[jn]?).getD []->listed.getD c false=true))\/
    ∃(L:Array Bool) (o:az) (zs:List AV) (b:Nat),os[jn]? =some o/\o.ao= .new zs/\0<zs.length/\listed.getD jn false=true/\(∀j,L.getD j false=(listed.getD j false&& !Nat.beq j jn))/\fN E0 n ops dep J base w0 σ g k rs hs (kX n o.dst) (oV E0 n base b zs o.dst) L a w/\∃c,c<jn/\ct hs c=true/\¬c∈(dep[jn]?).getD []/\mq dep c jn=true)->
   (∀m:List Nat,(∀j,j∈m->j<ops.size/\listed.getD j true=false)->m.Nodup->m.length<=fuel)->wpAnyIn (cx rd) 0 P .any ops Q fuel listed a w:=by
 have xr:=cp
 obtain ⟨⟨c1,xk⟩,c2,c3,c4,c5,c6,c7⟩:=s5 cp
 have A8:∀(listed:Array Bool),listed.size=ops.size->Region.ready .any ops listed=[]->∀j,j<ops.size->listed.getD j false=true:=by
  intro listed cU nI j
  induction j using Nat.strongRecOn with
  |_ j ih=>
   intro hj
   cases hl:listed.getD j false with
   |true=>rfl
   |false=>
    exfalso
    have hjs:j<listed.size:=by rw [cU];exact hj
    have:j∈Region.ready .any ops listed:=by
     rw [mem_ready]
     refine ⟨by simp [hjs] at hl ⊢; exact hl,ops[j],Oo hj,fun e he hb=> ?_⟩
     have cJ:=hd
     unfold iy at cJ
     simp only [N9,Oc,OL,Pb] at cJ
     have iT:=(cJ.2 j (by simpa using hj)).1
     have nq:ops.toList[j]? =some ops[j]:=by simp [hj]
     simp only [nq,Oh,O8] at iT
     have hlt:=iT e.on (oJ.2 ⟨e,he,hb,rfl⟩)
     exact ih e.on hlt (by omega)
    rw [nI] at this
    simp at this
 have H9:∀j,j<ops.size->∀e,e∈(dep[j]?).getD []->e<j:=fun j hj e he=>by
  have cJ:=hd
  unfold iy at cJ
  simp only [N9,Oc,OL,Pb] at cJ
  have:=((cJ.2 j (by simpa using hj)).2 e he).1
  simpa using this
 -- jA block qt waits NF NG own where all calls ahead of it FQ done
 have norm:∀(listed:Array Bool) (a:Act) (w:World),listed.size=ops.size->(∀(j:Nat) op,ops[j]? =some op->listed.getD j false=true->∀e,e∈dm op->listed.getD e false=true)->
   (∃(L:Array Bool) (o:az) (zs:List AV) (b:Nat),os[jn]? =some o/\o.ao= .new zs/\0<zs.length/\listed.getD jn false=true/\(∀j,L.getD j false=(listed.getD j false&& !Nat.beq j jn))/\fN E0 n ops dep J base w0 σ g k rs hs (kX n o.dst) (oV E0 n base b zs o.dst) L a w/\∃c,c<jn/\ct hs c=true/\¬c∈(dep[jn]?).getD []/\mq dep c jn=true)->
   (∀c,c<jn->ct hs c=true->¬c∈(dep[jn]?).getD []->listed.getD c false=true)->
   fN E0 n ops dep J base w0 σ g k rs hs (fun _=>false) (fun _ _=>True) listed a w:=by
  rintro listed a w cU bY ⟨L,o,zs,b,ho,cC,hz,aQ,hL,hI,_⟩ bI
  have cw:jn<ops.size:=by rw [<-hlen];exact (Oe.1 ho).1
  obtain ⟨r,cr,b7,hrun,ep⟩:=c3 jn o ho
  have hg:o.guard=none:=by
   have:=kY o ho
   unfold hP at this
   split at this
   ·assumption
   ·simp at this
  have A9:r.val= .ref r.fr zs.length 0 0/\r.ups=[(r.fr,some ⟨zs.length,[zs]⟩)]:=by
   rcases hrun with ⟨_,hrun⟩|⟨f,as_,k1,_,_,_,da,_⟩
   ·generalize hv:r.val=v at hrun ⊢
    generalize hu:r.ups=u at hrun ⊢
    generalize ha:r.acc=ac at hrun
    cases hrun with
    |skip cq=>rw [hg] at cq;simp [bO] at cq
    |done cq h=>rw [cC] at h;simp [AO.au,RM.run] at h;exact ⟨h.1.symm,h.2.symm⟩
    |call cq h=>rw [cC] at h;simp [AO.au,RM.run] at h
    |ni cq h=>rw [cC] at h;simp [AO.au,RM.run] at h
   ·rw [cC] at da;simp [AO.au,RM.run] at da
  have Ia:L.getD jn false=false:=by rw [hL];simp [Nat.beq_refl]
  have dv:∀e,e∈(dep[jn]?).getD []->L.getD e false=true:=fun e he=>by
   have hlt:=H9 jn cw e he
   have h1:=np hd bY jn ops[jn] (Oo cw) (bY jn _ (Oo cw) aQ) e he
   rw [hL,h1]
   cases hb:Nat.beq e jn with
   |false=>rfl
   |true=>have:=Ol hb;omega
  have Ba:=hI.bG xr hlen cm hid hcs cw ho cr b7 Ia dv hz A9.1 A9.2 ep
  have Ib:L.size=listed.size:=by rw [hI.fI,cU]
  have:L.setIfInBounds jn true=listed:=by
   apply Array.ext
   ·simp [Ib]
   ·intro i h1 h2
    have m8:i<L.size:=by simpa using h1
    have e1:(L.setIfInBounds jn true)[i]=(L.setIfInBounds jn true).getD i false:=by rw [Pz,Oo h1];rfl
    have e2:listed[i]=listed.getD i false:=by rw [Pz,Oo h2];rfl
    rw [e1,e2]
    by_cases e:jn=i
    ·subst e;rw [s9 m8,aQ]
    ·rw [getD_set_ne false e,hL]
     have:Nat.beq i jn=false:=by
      cases hb:Nat.beq i jn with
      |false=>rfl
      |true=>exact absurd (Ol hb).symm e
     rw [this];simp
  rw [this] at Ba
  exact Ba
 have done:∀(listed:Array Bool) (a:Act) (w:World),listed.size=ops.size->Region.ready .any ops listed=[]->fN E0 n ops dep J base w0 σ g k rs hs (fun _=>false) (fun _ _=>True) listed a w->Q .normal a w:=by
  intro listed a w cU nI hI
  have bI:=A8 listed cU nI
  obtain ⟨E,rfl,hle,h1,h2,h3,hmk,_⟩:=hI.ex
  have h1:∀t,aj E (a.tmps.getD t undef) (bE n (fun j=>listed.getD j false) rs σ t):=fun t=>h1 t rfl
  have e6:bE n (fun j=>listed.getD j false) rs σ=σ':=by
   rw [c6];funext t
   refine jC _ 0 _ fun j r hr hl=>absurd ?_ hl
   rw [On,bI j (by rw [<-hlen, <-c1];exact (Oe.1 hr).1)]
  have e7:bB (fun j=>listed.getD j false) rs g=g':=by
   rw [c7];funext t
   refine jC _ 0 _ fun j r hr hl=>absurd ?_ hl
   rw [On,bI j (by rw [<-hlen, <-c1];exact (Oe.1 hr).1)]
  rw [funext fun t=>congrFun e6 t] at h1
  rw [e7] at h2
  refine hQ a E.w ⟨⟨E,rfl,hle,h1,h2,fun id hh=> ?_,hmk⟩,hI.size,hI.below,hI.gl⟩
  rcases h3 id hh with h|⟨j,r,_,hr,hk|⟨k1,bU,hk⟩⟩
  ·exact Oz h c2
  ·exact (c5 j r hr).1 id hk
  ·exact Oz hk ((c5 j r hr).2 k1 bU)
 have Bb:∀(listed:Array Bool) (a:Act) (w:World),listed.size=ops.size->(∀(j:Nat) op,ops[j]? =some op->listed.getD j false=true->∀e,e∈dm op->listed.getD e false=true)->_->Region.ready .any ops listed=[]->Q .normal a w:=fun listed a w cU bY hI nI=>by
  have hI:(fN E0 n ops dep J base w0 σ g k rs hs (fun _=>false) (fun _ _=>True) listed a w/\(listed.getD jn false=true->∀c,c<jn->ct hs c=true->¬c∈(dep[jn]?).getD []->listed.getD c false=true))\/
    ∃(L:Array Bool) (o:az) (zs:List AV) (b:Nat),os[jn]? =some o/\o.ao= .new zs/\0<zs.length/\listed.getD jn false=true/\(∀j,L.getD j false=(listed.getD j false&& !Nat.beq j jn))/\fN E0 n ops dep J base w0 σ g k rs hs (kX n o.dst) (oV E0 n base b zs o.dst) L a w/\∃c,c<jn/\ct hs c=true/\¬c∈(dep[jn]?).getD []/\mq dep c jn=true:=hI
  rcases hI with ⟨hI,_⟩|hI
  ·exact done listed a w cU nI hI
  ·refine done listed a w cU nI (norm listed a w cU bY hI fun c hc _ _=> ?_)
   obtain ⟨_,o,_,_,ho,_⟩:=hI
   exact A8 listed cU nI c (by have:=(Oe.1 ho).1;omega)
 intro fuel
 induction fuel with
 |zero=>
  intro listed a w cU bY hI fu
  have hr:Region.ready .any ops listed=[]:=by
   cases hr:Region.ready .any ops listed with
   |nil=>rfl
   |cons x xs=>
    have hx:x∈Region.ready .any ops listed:=by rw [hr];simp
    obtain ⟨m1,o,m2,_⟩:=mem_ready.1 hx
    have:=fu [x] (fun j hj=>by simp at hj;subst hj;exact ⟨(OJ.1 m2).1,m1⟩) (by simp)
    simp at this
  exact ⟨hr,Bb listed a w cU bY hI hr⟩
 |succ fuel ih=>
  intro listed a w cU bY hI fu
  refine ⟨Bb listed a w cU bY hI,fun i hi=> ?_⟩
  obtain ⟨m1,op,m2,m3⟩:=mem_ready.1 hi
  have cw:i<ops.size:=(OJ.1 m2).1
  have gY:i<listed.size:=by rw [cU];exact cw
  have cK:listed.getD i false=false:=by
   simp [gY] at m1 ⊢; exact m1
  have Bc:∀e,e∈dm op->listed.getD e false=true:=fun e he=>by
   obtain ⟨x,hx,hb,rfl⟩:=oJ.1 he
   exact m3 x hx hb
  have dv:∀e,e∈(dep[i]?).getD []->listed.getD e false=true:=fun e he=>np hd bY i op m2 Bc e he
  obtain ⟨o,ho,iU⟩:=dI i op m2
  have xt:∀(j:Nat) op,ops[j]? =some op->(listed.setIfInBounds i true).getD j false=true->∀e,e∈dm op->(listed.setIfInBounds i true).getD e false=true:=fun j oj bo aQ e he=>by
   by_cases bC:j=i
   ·subst bC
    rw [m2] at bo;simp only [N6] at bo;subst bo
    exact getD_set_true (Bc e he)
   ·rw [getD_set_ne false (Ne.symm bC)] at aQ
    exact getD_set_true (bY j oj bo aQ e he)
  have xu:∀m:List Nat,(∀j,j∈m->j<ops.size/\(listed.setIfInBounds i true).getD j true=false)->m.Nodup->m.length<=fuel:=fun m hm cG=>by
   have mg:i∉m:=fun cS=>by
    have:=(hm i cS).2
    simp [gY] at this
   have:=fu (i::m) (fun j hj=>by
    rcases Oj.1 hj with rfl|hj
    ·exact ⟨cw,m1⟩
    ·refine ⟨(hm j hj).1, ?_⟩
     have h5:=(hm j hj).2
     have bC:i≠j:=fun e=>mg (e▸hj)
     rwa [getD_set_ne true bC] at h5) (List.nodup_cons.2 ⟨mg,cG⟩)
   simpa using this
  have xv:(listed.setIfInBounds i true).size=ops.size:=by simpa using cU
  -- either nothing waits, or a call ahead of jA block is still to be done
  have j6:(fN E0 n ops dep J base w0 σ g k rs hs (fun _=>false) (fun _ _=>True) listed a w/\(listed.getD jn false=true->∀c,c<jn->ct hs c=true->¬c∈(dep[jn]?).getD []->listed.getD c false=true))\/
    ((∃(L:Array Bool) (o:az) (zs:List AV) (b:Nat),os[jn]? =some o/\o.ao= .new zs/\0<zs.length/\listed.getD jn false=true/\(∀j,L.getD j false=(listed.getD j false&& !Nat.beq j jn))/\fN E0 n ops dep J base w0 σ g k rs hs (kX n o.dst) (oV E0 n base b zs o.dst) L a w/\∃c,c<jn/\ct hs c=true/\¬c∈(dep[jn]?).getD []/\mq dep c jn=true)/\∃c,c<jn/\ct hs c=true/\¬c∈(dep[jn]?).getD []/\listed.getD c false=false):=by
   rcases hI with hI|hI
   ·exact .inl hI
   ·by_cases bI:∀c,c<jn->ct hs c=true->¬c∈(dep[jn]?).getD []->listed.getD c false=true
    ·exact .inl ⟨norm listed a w cU bY hI bI,fun _=>bI⟩
    ·right
     refine ⟨hI,Classical.byContradiction fun hx=>bI fun c q1 q2 q3=> ?_⟩
     cases hc:listed.getD c false with
     |true=>rfl
     |false=>exact absurd ⟨c,q1,q2,q3,hc⟩ hx
  clear hI
  rcases j6 with ⟨hI,hq⟩|⟨⟨L,oj,zs,b,bo,cC,hz,aQ,hL,hI,xw⟩,c0,j3,nH,xf,xg⟩
  ·have plain:(i=jn->∀c,c<i->ct hs c=true->¬c∈(dep[i]?).getD []->listed.getD c false=true)->wpOpIn (cx rd) 0 P ops Q i (fun a w=>wpAnyIn (cx rd) 0 P .any ops Q fuel (listed.setIfInBounds i true) a w) a w:=fun s6=>by
    refine A6 xr hlen cm hid hcs hI m2 ho iU cK dv (fun _ _=>rfl) (fun hc hl hlt=> ?_) s6 (fun _ _ _ _ _=>trivial) fun a' w' iz=>ih _ a' w' xv xt (.inl ⟨iz,fun hl c q1 q2 q3=> ?_⟩) xu
    ·exact Classical.byContradiction fun hx=>by
      have:=hq hl i hlt hc hx
      rw [cK] at this;simp at this
    ·by_cases e:i=jn
     ·have:=s6 e c (by omega) q2 (by rw [e];exact q3)
      exact getD_set_true this
     ·rw [getD_set_ne false e] at hl
      exact getD_set_true (hq hl c q1 q2 q3)
   by_cases e:i=jn
   ·by_cases bI:∀c,c<i->ct hs c=true->¬c∈(dep[i]?).getD []->listed.getD c false=true
    ·exact plain fun _=>bI
    ·have j0:=kY o (by rw [<-e];exact ho)
     obtain ⟨zs,cC,hg⟩:∃zs,o.ao= .new zs/\o.guard=none:=by
      unfold hP at j0
      split at j0
      ·rename_i zs h1 h2;exact ⟨zs,h1,h2⟩
      ·simp at j0
     obtain ⟨r,cr,b7,hrun,ep⟩:=c3 i o ho
     have nJ:r.ups≠[]:=by
      rcases hrun with ⟨_,hrun⟩|⟨f,as_,k1,_,_,_,da,_⟩
      ·generalize hu:r.ups=u at hrun
       generalize hv:r.val=v at hrun
       generalize ha:r.acc=ac at hrun
       cases hrun with
       |skip cq=>rw [hg] at cq;simp [bO] at cq
       |done cq h=>rw [cC] at h;simp [AO.au,RM.run] at h;rw [<-h.2];simp
       |call cq h=>rw [cC] at h;simp [AO.au,RM.run] at h
       |ni cq h=>rw [cC] at h;simp [AO.au,RM.run] at h
      ·rw [cC] at da;simp [AO.au,RM.run] at da
     have hex:∃c,c<i/\ct hs c=true/\¬c∈(dep[i]?).getD []:=Classical.byContradiction fun hx=>bI fun c q1 q2 q3=>absurd ⟨c,q1,q2,q3⟩ hx
     obtain ⟨c,q1,q2,q3⟩:=hex
     have xw:mq dep c i=true:=by
      have nK:=hcs
      unfold iV at nK
      simp only [Oc,OL,OA,Pm] at nK
      have Ic:i<rs.length:=(Oe.1 cr).1
      have s2:=(nK i Ic c q1).resolve_left q3
      have xx:rs[c]? =some (rs[c]'(by omega)):=Oq (by omega)
      rw [xx,cr] at s2
      simp only [N9,OA,Ov,OZ] at s2
      exact ((s2.2.1.resolve_left (by rw [q2];simp)).resolve_left nJ).2
     refine H5 hI m2 iU hg cC fun a' w' b hz iz=>ih _ a' w' xv xt (.inr ⟨listed,o,zs,b,by rw [<-e];exact ho,cC,hz,by rw [<-e];exact s9 gY,fun j=> ?_,iz,c,by omega,q2,by rw [<-e];exact q3,by rw [<-e];exact xw⟩) xu
     by_cases ej:i=j
     ·subst ej;rw [cK,e,Nat.beq_refl];simp
     ·rw [getD_set_ne false ej]
      have:Nat.beq j jn=false:=by
       cases hb:Nat.beq j jn with
       |false=>rfl
       |true=>exact absurd ((Ol hb).trans e.symm).symm ej
      rw [this];simp
   ·exact plain fun h=>absurd h e
  ·have bC:i≠jn:=fun e=>by rw [e,aQ] at cK;simp at cK
   have Be:¬jn∈(dep[i]?).getD []:=fun cS=>by
    obtain ⟨c,q1,q2,q3,q4⟩:∃c,c<jn/\ct hs c=true/\¬c∈(dep[jn]?).getD []/\listed.getD c false=false:=⟨c0,j3,nH,xf,xg⟩
    have bj:jn<rs.length:=by rw [c1];exact (Oe.1 bo).1
    obtain ⟨r,cr,b7,hrun,ep⟩:=c3 jn oj bo
    have hg:oj.guard=none:=by
     have:=kY oj bo
     unfold hP at this
     split at this
     ·assumption
     ·simp at this
    have nJ:r.ups≠[]:=by
     rcases hrun with ⟨_,hrun⟩|⟨f,as_,k1,_,_,_,da,_⟩
     ·generalize hu:r.ups=u at hrun
      generalize hv:r.val=v at hrun
      generalize ha:r.acc=ac at hrun
      cases hrun with
      |skip cq=>rw [hg] at cq;simp [bO] at cq
      |done cq h=>rw [cC] at h;simp [AO.au,RM.run] at h;rw [<-h.2];simp
      |call cq h=>rw [cC] at h;simp [AO.au,RM.run] at h
      |ni cq h=>rw [cC] at h;simp [AO.au,RM.run] at h
     ·rw [cC] at da;simp [AO.au,RM.run] at da
    have nK:=hcs
    unfold iV at nK
    simp only [Oc,OL,OA,Pm] at nK
    have s2:=(nK jn bj c q1).resolve_left q3
    have xx:rs[c]? =some (rs[c]'(by omega)):=Oq (by omega)
    rw [xx,cr] at s2
    simp only [N9,OA,Ov,OZ] at s2
    have xy:=((s2.2.1.resolve_left (by rw [q2];simp)).resolve_left nJ).2
    unfold mq at xy
    simp only [Oc,OA,Ov,OP,OQ,Pb] at xy
    have Ie:(dep[i]?).getD []∈dep:=by
     cases hx:dep[i]? with
     |none=>rw [hx] at cS;simp at cS
     |some d=>exact OG hx
    have:=dv c ((xy _ Ie).resolve_left fun h=>h cS)
    rw [q4] at this;simp at this
   have Ig:L.getD i false=false:=by rw [hL,cK];simp
   have Ih:∀e,e∈(dep[i]?).getD []->L.getD e false=true:=fun e he=>by
    rw [hL,dv e he]
    have:Nat.beq e jn=false:=by
     cases hb:Nat.beq e jn with
     |false=>rfl
     |true=>exact absurd ((Ol hb)▸he) Be
    rw [this];simp
   have Ii:L.getD jn false=false:=by rw [hL];simp [Nat.beq_refl]
   have bj:jn<os.length:=(Oe.1 bo).1
   have Ij:i<os.length:=(Oe.1 ho).1
   -- jA slot of jA block qt waits is not looked at
   have Bf:∀d,oj.dst=some d->¬d∈o.iO/\o.dst≠some d:=fun d fc=>by
    have tb:=cm
    unfold fq at tb
    simp only [Oc,OL,OA,Pm] at tb
    by_cases hlt:jn<i
    ·have s1:=(tb i Ij jn hlt).resolve_left Be
     rw [bo,ho] at s1
     unfold iQ at s1
     simp only [fc,N9,Ov,OP,OQ,bne_iff_ne,ne_eq] at s1
     exact ⟨s1.1.1,fun h=>by rw [h] at s1;simp at s1⟩
    ·have sF:i<jn:=by omega
     have cG:¬i∈(dep[jn]?).getD []:=fun cS=>by
      have:=np hd bY jn _ (Oo (by omega)) (bY jn _ (Oo (by omega)) aQ) i cS
      rw [cK] at this;simp at this
     have s1:=(tb jn bj i sF).resolve_left cG
     rw [bo,ho] at s1
     unfold iQ at s1
     simp only [fc,N9,Ov,OP,OQ,bne_iff_ne,ne_eq] at s1
     cases hx:o.dst with
     |none=>rw [hx] at s1;simp at s1;exact ⟨s1,by simp⟩
     |some d2=>
      rw [hx] at s1
      simp at s1
      exact ⟨s1.2,fun h=>s1.1.2 (Option.some.inj h).symm⟩
   refine A6 xr hlen cm hid hcs hI m2 ho iU Ig Ih (fun t ht=> ?_) (fun _ hl=>by rw [Ii] at hl;simp at hl) (fun h=>absurd h bC) (fun E1 E2 v hp hE=> ?_) fun a' w' iz=>ih _ a' w' xv xt (.inr ⟨L.setIfInBounds i true,oj,zs,b,bo,cC,hz,getD_set_true aQ,fun j=> ?_,iz,xw⟩) xu
   ·unfold kX
    rw [Bool.and_eq_false_iff]
    left
    cases hx:oj.dst with
    |none=>rfl
    |some d=>
     have:=(Bf d hx).1
     simp only [beq_eq_false_iff_ne,ne_eq,N6]
     intro e;subst e;exact this ht
   ·obtain ⟨p1,p2,p3,p4,arr,t0,p5,p6,p7⟩:=hp
    refine ⟨(hE.fx b p1).1,p2,p3,fun t ht hn=> ?_,arr,t0,by rw [(hE.fx b p1).2];exact p5,p6,p7⟩
    rw [<-p4 t ht hn]
    have hne:=(Bf t ht).2
    cases hx:o.dst with
    |none=>rfl
    |some d=>
     rw [hx] at hne
     have dg:d≠t:=fun e=>hne (by rw [e])
     simp only [Act.put]
     simp [Pz,PX,dg]
   ·by_cases ej:i=j
    ·subst ej
     have hb:Nat.beq i jn=false:=by
      cases hb:Nat.beq i jn with
      |false=>rfl
      |true=>exact absurd (Ol hb) bC
     rw [s9 (by rw [hI.fI];exact cw),s9 gY,hb];rfl
    ·rw [getD_set_ne false ej,getD_set_ne false ej,hL]
theorem Ik {id:Nat} (wK:P.follows .mixedOrders=true) (cp:eG P n os σ g k rs hs σ' g' k') (hlen:os.length=ops.size) (dI:∀(j:Nat) op,ops[j]? =some op->∃o,os[j]? =some o/\fo P ops op=some o)
  (hd:iy ops.toList dep=true) (cm:fq os dep=true) (hid:dX rs dep=true) (hcs:iV jn rs hs dep=true) (kY:∀o,os[jn]? =some o->hP o=true) (hQ:∀a w,eE E0 J base w0 n σ' g' k' a w->Q .normal a w) {a:Act} (hrel:eE E0 J base w0 n σ g k a w) {rd:Option Nat}:(Code.region id ops true).wpIn (cx rd) 0 P Q a w:=by
 refine wpIn_region_any wK ?_
 obtain ⟨E,rfl,hle,h1,h2,h3,hmk⟩:=hrel.ex
 obtain ⟨E',hw,hE,hM,_,hk,_,_⟩:=h2.drew
 have cv:∀(j:Nat),(Array.replicate ops.size false).getD j false=false:=by
  intro j
  rcases OT j ops.size with h|h
  ·simp [h]
  ·simp [h]
 refine H8 cp hlen dI hd cm hid hcs kY hQ ops.size _ a _ (by simp) (fun j op bV hl=>by rw [cv] at hl;simp at hl) (.inl ⟨⟨⟨E',hw,hle.trans hE,fun t _=> ?_, ?_,fun id hh=> .inl (h3 id ((hk id).1 hh)),hmk.step hE,trivial⟩,hrel.size,hrel.below.drew,hrel.gl,by simp,fun j hj hl=>by rw [cv] at hl;simp at hl⟩,fun hl=>by rw [cv] at hl;simp at hl⟩) fun m hm cG=> ?_
 ·have:bE n (fun j=>(Array.replicate ops.size false).getD j false) rs σ t=σ t:=jD _ 0 _ fun j r _ hl=>by rw [cv] at hl;simp at hl
  rw [this];exact (h1 t).step hE
 ·have:bB (fun j=>(Array.replicate ops.size false).getD j false) rs g=g:=by funext id;exact jD _ 0 _ fun j r _ hl=>by rw [cv] at hl;simp at hl
  rw [this];exact hM
 ·exact wD _ _ cG fun j hj=>(hm j hj).1
inductive iW (P:Program) (n:Nat) (dep:List (List Nat)) (jn:Nat):List az->(Nat->AV)->(Nat->Option Bk)->Nat->List Rec->List (Option Nat)->(Nat->AV)->(Nat->Option Bk)->Nat->Prop
 |nil {σ:Nat->AV} {g:Nat->Option Bk} {k:Nat} {rs:List Rec} {hs:List (Option Nat)} (hid:dX rs dep=true) (hcs:iV jn rs hs dep=true):iW P n dep jn [] σ g k rs hs σ g k
 |cons {o:az} {os:List az} {σ σ':Nat->AV} {g g':Nat->Option Bk} {k k1 k':Nat} {val:AV} {ups:List (Nat×Option Bk)} {acc:List Nat} {rs:List Rec} {hs:List (Option Nat)} (h:dk P σ g k o val ups acc) (hk:k<=k1) (hu:∀id,id∈ups.map Prod.fst->id<k1)
   (hr:iW P n dep jn os (bD n o.dst val σ) (aA g ups) k1 (rs++[⟨o.dst,val,ups,acc,k⟩]) (hs++[none]) σ' g' k'):iW P n dep jn (o::os) σ g k rs hs σ' g' k'
 |fi {o:az} {os:List az} {σ σ':Nat->AV} {g g':Nat->Option Bk} {k k1 k':Nat} {r:AV} {f:FuncId} {as_:List AV} {ups:List (Nat×Option Bk)} {rs:List Rec} {hs:List (Option Nat)} (hg:bO σ o.guard=some true) (hal:o.ao.allocs=false) (h:(o.ao.au k (aG σ)).run g=some (.call f as_)) (hc:bH P f=true) (hf:Fi P f as_ g k r (aA g ups) k1) (hk:k<=k1) (hu:∀id,id∈ups.map Prod.fst->id<k1)
   (hr:iW P n dep jn os (bD n o.dst r σ) (aA g ups) k1 (rs++[⟨o.dst,r,ups,[],k⟩]) (hs++[some k1]) σ' g' k'):iW P n dep jn (o::os) σ g k rs hs σ' g' k'
theorem iW.all {pre:List az} {b8:Nat->AV} {g0:Nat->Option Bk} {kk:Nat} (h0:eG P n pre b8 g0 kk rs hs σ g k) (h:iW P n dep jn os σ g k rs hs σ' g' k'):∃kT iM,eG P n (pre++os) b8 g0 kk kT iM σ' g' k'/\dX kT dep=true/\iV jn kT iM dep=true:=by
 induction h generalizing pre with
 |nil h1 h2=>exact ⟨_,_,by rw [List.append_nil];exact h0,h1,h2⟩
 | @cons o os σ σ' g g' k k1 k' val ups acc rs hs h hk hu hr ih=>
  have:=ih (pre:=pre++[o]) (h0.snoc h hk hu)
  rwa [Po] at this
 | @fi o os σ σ' g g' k k1 k' r f as_ ups rs hs hg hal h hc hf hk hu hr ih=>
  have:=ih (pre:=pre++[o]) (h0.HP hg hal h hc hf hk hu)
  rwa [Po] at this
theorem EW.Il {s:S3} {Q:Ex->S3->Prop} {s':S3} (kY:∀o,os[jn]? =some o->hP o=true) (h:iW P n dep jn os s.σ s.g s.k [] [] s'.σ s'.g s'.k) (hq:Q .normal s'):EW P n k0 (.bG os (some dep)) s Q:=by
 intro rd c E0 J base w0 a w b7 hc hk hr
 obtain ⟨id,ops,draw,rfl,h1,h2⟩:=sK hc
 rcases h2 with ⟨rfl,hh⟩|⟨rfl,d,hd,h3,h4,h5⟩
 ·simp at hh
 ·simp only [N6] at hd
  subst hd
  obtain ⟨k1,k2⟩:=qv h1
  obtain ⟨kT,iM,a1,a2,a3⟩:=iW.all .nil h
  rw [List.nil_append] at a1
  exact Ik h5 a1 (by rw [<-k1];simp) (fun j op hj=>k2 j op (by simpa using hj)) h3 h4 a2 a3 kY (fun a' w' hr'=>⟨.normal,s',hq,rfl,hr'⟩) hr
end
abbrev cl (f:Nat) (as_:List Arg):AO:= .call (.c (.fn f [])) as_
abbrev zi (n:Int):AV:= .v (.int .i64 n)
abbrev zs:AV:= .v (.string ⟨#[]⟩)
abbrev ms (k:Nat):AO:= .mov (.s k)
abbrev fd (a k:Nat):AO:= .fad a (.s k)
abbrev rg (R:List az):AC:= .bG R none
def cf (P:Program) (k:Nat):cP:=(cFunc P k).getD ⟨0,[], .skip⟩
theorem hY (h:(cFunc P k).isSome=true):cFunc P k=some (cf P k):=by
 unfold cf
 cases hc:cFunc P k with
 |none=>rw [hc] at h;cases h
 |some F=>rfl
noncomputable def F5:cP:=cf Try.prog 5
theorem Bg:cFunc Try.prog 5=some F5:=hY (by kernel_rfl)
theorem Bh:bH Try.prog 5=true:=by kernel_rfl
noncomputable def F6:cP:=cf Try.prog 6
theorem Bi:cFunc Try.prog 6=some F6:=hY (by kernel_rfl)
theorem Bj:bH Try.prog 6=true:=by kernel_rfl
noncomputable def F7:cP:=cf Try.prog 7
theorem Bl:cFunc Try.prog 7=some F7:=hY (by kernel_rfl)
theorem Bm:bH Try.prog 7=true:=by kernel_rfl
noncomputable def F8:cP:=cf Try.prog 8
theorem Bn:cFunc Try.prog 8=some F8:=hY (by kernel_rfl)
theorem Bo:bH Try.prog 8=true:=by kernel_rfl
noncomputable def F9:cP:=cf Try.prog 9
theorem Im:cFunc Try.prog 9=some F9:=hY (by kernel_rfl)
theorem Bp:bH Try.prog 9=true:=by kernel_rfl
noncomputable def Bq:cP:=cf Try.prog 10
theorem Br:cFunc Try.prog 10=some Bq:=hY (by kernel_rfl)
theorem Bs:bH Try.prog 10=true:=by kernel_rfl
noncomputable def Bt:cP:=cf Try.prog 11
theorem tc:cFunc Try.prog 11=some Bt:=hY (by kernel_rfl)
theorem td:bH Try.prog 11=true:=by kernel_rfl
noncomputable def Bu:cP:=cf Try.prog 12
theorem Bv:cFunc Try.prog 12=some Bu:=hY (by kernel_rfl)
theorem tg:bH Try.prog 12=true:=by kernel_rfl
noncomputable def Bw:cP:=cf Try.prog 13
theorem Bx:cFunc Try.prog 13=some Bw:=hY (by kernel_rfl)
theorem dZ:bH Try.prog 13=true:=by kernel_rfl
noncomputable def By:cP:=cf Try.prog 14
theorem Io:cFunc Try.prog 14=some By:=hY (by kernel_rfl)
theorem Ip:bH Try.prog 14=true:=by kernel_rfl
noncomputable def Bz:cP:=cf Try.prog 16
theorem Iq:cFunc Try.prog 16=some Bz:=hY (by kernel_rfl)
theorem bZ:bH Try.prog 16=true:=by kernel_rfl
noncomputable def BA:cP:=cf Try.prog 17
theorem BB:cFunc Try.prog 17=some BA:=hY (by kernel_rfl)
theorem BC:bH Try.prog 17=true:=by kernel_rfl
noncomputable def BD:cP:=cf Try.prog 19
theorem Ir:cFunc Try.prog 19=some BD:=hY (by kernel_rfl)
theorem Is:bH Try.prog 19=true:=by kernel_rfl
noncomputable def BE:cP:=cf Try.prog 20
theorem It:cFunc Try.prog 20=some BE:=hY (by kernel_rfl)
theorem Iu:bH Try.prog 20=true:=by kernel_rfl
noncomputable def Iv:FuncId->Option cP:=nD (
 (5,F5)::
 (6,F6)::
 (7,F7)::
 (8,F8)::
 (9,F9)::
 (10,Bq)::
 (11,Bt)::
 (12,Bu)::
 (13,Bw)::
 (14,By)::
 (16,Bz)::
 (17,BA)::
 (19,BD)::
 (20,BE)::
 [])
theorem iC:Table Try.prog Iv:=
 hH Bg Bh<|
 hH Bi Bj<|
 hH Bl Bm<|
 hH Bn Bo<|
 hH Im Bp<|
 hH Br Bs<|
 hH tc td<|
 hH Bv tg<|
 hH Bx dZ<|
 hH Io Ip<|
 hH Iq bZ<|
 hH BB BC<|
 hH Ir Is<|
 hH It Iu<|
 Hj
open Go.RowKit
section
variable {P:Program} {n k k0:Nat} {x:L3} {K:L3->Prop} {Q:Ex->L3->Prop} {R:List az} {dep:List (List Nat)} {rs:List Rec} {hs:List (Option Nat)} {b:AC}
end
open Go.RowKit
abbrev uf (i:Nat):fw:= .old i false
theorem fO {α:Type} [BEq α] [LawfulBEq α] {a b:α} (h:(a !=b)=true):¬a=b:=fun e=>by subst e;simp at h
theorem fP {α:Type} [BEq α] [LawfulBEq α] {a b:α} (h:(a !=b)=false):a=b:=by simpa using h
section
variable {x:L3} {res:List ka} {r':AV}
end
section
variable {P:Program} {n k k0:Nat} {x:L3} {K:L3->Prop} {R:List az}
end
section
variable {o:az} {x:L3}
end
theorem aT {a:List AV} {b:List AV} {r:List AV} (h:dY a b) (t:dY r s):dY (.agg a::r) (.agg b::s):= .cons (aP.agg h) t
open Go.RowKit
def ny:Nat->AV->Bool
 |0,_=>false
 |d+1, .agg cs=>cs.all (ny d)
 |d+1, .aK cs=>cs.all (ny d)
 |d+1, .fn _ cs=>cs.all (ny d)
 |d+1, .bf _ cs=>cs.all (ny d)
 |_+1, .af _ _=>false
 |_+1,_=>true
theorem aj.ny {E E':Env} (hI:∀b,E.I b->E'.I b/\∀o,E'.w.cell? ⟨b,o,none⟩=E.w.cell? ⟨b,o,none⟩) (hs:∀b,E'.w.shape? b=E.w.shape? b) (h1:E'.kn=E.kn) (h2:E'.dead=E.dead) (h3:E'.loc=E.loc) (h4:E'.ln=E.ln):
  ∀(d:Nat) {v:Value} {a:AV},aj E v a->Ytimomnfobfjggaa.ny d a=true->aj E' v a:=by
 intro d
 induction d with
 |zero=>intro v a _ h;simp [Ytimomnfobfjggaa.ny] at h
 |succ d ih=>
  have fG:∀{vs:Array Value} {cs:List AV},(∀(i:Nat) v c,vs[i]? =some v->cs[i]? =some c->aj E v c)->cs.all (Ytimomnfobfjggaa.ny d)=true->∀(i:Nat) v c,vs[i]? =some v->cs[i]? =some c->aj E' v c:=by
   intro vs cs h hn i v c hv hc
   simp only [Oc] at hn
   exact ih (h i v c hv hc) (hn c (OG hc))
  intro v a h hn
  cases a with
  |v x=>exact h.pure hI .v
  |agg cs=>cases h with|agg hl hh=>exact .agg hl (fG hh hn)
  |aK cs=>cases h with|aK hl hh=>exact .aK hl (fG hh hn)
  |fn f cs=>cases h with|fn hl hh=>exact .fn hl (fG hh hn)
  |bf f cs=>cases h with|bf hl hh=>exact .bf hl (fG hh hn)
  |af r cs=>simp [Ytimomnfobfjggaa.ny] at hn
  |aU sz els=>exact h.pure hI .aU
  |ck sz els=>exact h.pure hI .ck
  |emp=>exact h.pure hI .emp
  |pim cs o=>exact h.pure hI .pim
  |cZ=>exact h.pure hI .cZ
  |dead=>exact .dead
  |ref id sz i o=>cases h with
   |ref hi hd hb hq=>exact .ref (by rw [h1];exact hi) (by rw [h2];exact hd) (by rw [h3];exact hb) hq
   |dL hi hd ho=>exact .dL (by rw [h1];exact hi) (by rw [h2];exact hd) ho
  |own id sz off n=>cases h with
   |own hi hd hb hq nz hm hl hc bh=>exact .own (by rw [h1];exact hi) (by rw [h2];exact hd) (by rw [h3];exact hb) hq ((hs _).trans nz) hm hl hc (by rw [h4];exact bh)
   |bQ hi hd hb bh=>exact .bQ (by rw [h1];exact hi) (by rw [h2];exact hd) (by rw [h3];exact hb) (by rw [h4];exact bh)
   |cg hi hd ho=>exact .cg (by rw [h1];exact hi) (by rw [h2];exact hd) ho
  |mp id=>cases h with
   |mp hi hd hb=>exact .mp (by rw [h1];exact hi) (by rw [h2];exact hd) (by rw [h3];exact hb)
   |gj hi hd ho=>exact .gj (by rw [h1];exact hi) (by rw [h2];exact hd) ho
def jI (g:Nat->Option Bk):Prop:=∀id B,g id=some B->∀cs,cs∈B.els->∀c,c∈cs->ny 5 c=true
def kZ:List (Option Bk)->Prop
 |[]=>True
 |none::r=>kZ r
 |some B::r=>((B.els.all fun cs=>cs.all (ny 5))=true\/∃(α:Type) (f:α->List AV) (xs:List α),B.els=xs.map f/\∀y,(f y).all (ny 5)=true)/\kZ r
theorem kZ.jI:∀{m:List (Option Bk)},kZ m->jI (look m)
 |[],_=>fun id B hg=>by simp [look] at hg
 |none::r,h=>fun id B hg=>by
  cases id with
  |zero=>simp [look] at hg
  |succ i=>exact kZ.jI (m:=r) h i B (by simpa [look] using hg)
 |some B::r,h=>fun id B' hg=>by
  cases id with
  |zero=>
   simp only [look,OI,Option.join_some,N6] at hg
   subst hg
   rcases h.1 with h1|⟨α,f,xs,h1,h2⟩
   ·intro cs hcs c hc
    simp only [Oc] at h1
    exact h1 cs hcs c hc
   ·rw [h1]
    intro cs hcs c hc
    simp only [OE] at hcs
    obtain ⟨y,_,rfl⟩:=hcs
    have:=h2 y
    simp only [Oc] at this
    exact this c hc
  |succ i=>exact kZ.jI (m:=r) h.2 i B' (by simpa [look] using hg)
section
variable {P:Program}
theorem aE.ny {E E':Env} {J:Nat->Prop} {base:Nat} {g:Nat->Option Bk} (hm:aE E J base g) (hR:∀{v a},aj E v a->Ytimomnfobfjggaa.ny 5 a=true->aj E' v a) (hg:jI g) (fE:(∀(b:Nat) arr t x,E.w.heap[b]? =some (.cells arr t x)->E'.w.heap[b]? =some (.cells arr t x))/\∀(b:Nat) o,E.w.heap[b]? =some o->(∀r,o≠ .loop r)->E'.w.heap[b]? =some o) (hsz:E'.w.heap.size=E.w.heap.size)
  (h1:E'.kn=E.kn) (h2:E'.dead=E.dead) (h3:E'.loc=E.loc) (h4:E'.ln=E.ln) (hI:∀b,E'.I b->E.I b) (qp:∀l,E'.rg l->E.rg l) (hX:∀b,E'.X b->E.X b):aE E' J base g:=by
 refine ⟨fun id=>by rw [h1,h2];exact hm.live id,fun id B hgi=> ?_,fun id b5 b B B' a1 a2 a3 a4=>hm.apart id b5 b B B' a1 a2 (by rw [<-h3];exact a3) (by rw [<-h3];exact a4),fun id b B hgi hb hi=>hm.out id b B hgi (by rw [<-h3];exact hb) (hI b hi),fun b hb=>⟨by rw [hsz];exact (hm.low b (hI b hb)).1,(hm.low b (hI b hb)).2⟩,by rw [hsz];exact hm.size,fun id B hgi=>by rw [h4];exact hm.len id B hgi,fun l hl=>hm.fb l (qp l hl),fun b hb=>⟨by rw [hsz];exact (hm.xo b (hX b hb)).1,fun hi=>(hm.xo b (hX b hb)).2.1 (hI b hi),fun id B hgi=>by rw [h3];exact (hm.xo b (hX b hb)).2.2 id B hgi⟩⟩
 have:=hm.at_ id B hgi
 rw [h3]
 cases hl:E.loc id with
 |none=>rw [hl] at this;exact this
 |some b=>
  rw [hl] at this
  obtain ⟨q1,⟨hz0,arr,t,q2,q3,q4⟩|⟨hz0,es,c,q2,q3,q4⟩⟩:=this
  ·refine .iK ⟨q1,arr,t,fE.1 _ _ _ _ q2,q3,fun i cs hi=>⟨(q4 i cs hi).1,fun j x hj=> ?_⟩⟩ hz0
   obtain ⟨u,k1,k2,k3⟩:=(q4 i cs hi).2 j x hj
   exact ⟨u,k1,k2,hR k3 (hg id B hgi cs (OG hi) x (OG hj))⟩
  ·refine .ofMap ⟨q1,es,c,fE.2 _ _ q2 (fun r e=>by cases e),q3,fun i e cs he hi=> ?_⟩ hz0
   obtain ⟨x,rfl,x2,x3⟩:=q4 i e cs he hi
   exact ⟨x,rfl,x2,hR x3 (hg id B hgi _ (OG hi) x (by simp))⟩
def mr (n:Nat):List Nat->List AV->(Nat->AV)->(Nat->AV)
 |p::ps,a::as_,σ=>mr n ps as_ fun t=>if t=p/\p<n then a else σ t
 |_,_,σ=>σ
theorem BF {E:Env}:∀(ps:List Nat) (vs:List Value) (as_:List AV) (tmps:Array Value) (σ:Nat->AV),vs.length=as_.length->(∀(i:Nat) v c,vs[i]? =some v->as_[i]? =some c->aj E v c)->(∀t,aj E (tmps.getD t undef) (σ t))->
  ((ps.zip vs).foldl (fun (t:Array Value) (p:Nat×Value)=>t.setIfInBounds p.1 p.2) tmps).size=tmps.size/\∀t,aj E (((ps.zip vs).foldl (fun (t:Array Value) (p:Nat×Value)=>t.setIfInBounds p.1 p.2) tmps).getD t undef) (mr tmps.size ps as_ σ t)
 |[],vs,as_,tmps,σ,_,_,h=>⟨by simp,by simpa [mr] using h⟩
 |p::ps,[],as_,tmps,σ,hl,_,h=>by
  have:as_=[]:=Pj (by simpa using hl.symm)
  subst this
  exact ⟨by simp,by simpa [mr] using h⟩
 |p::ps,v::vs,[],tmps,σ,hl,_,h=>by simp at hl
 |p::ps,v::vs,a::as_,tmps,σ,hl,hr,h=>by
  have ih:=BF ps vs as_ (tmps.setIfInBounds p v) (fun t=>if t=p/\p<tmps.size then a else σ t) (by simpa using hl) (fun i u c hu hc=>hr (i+1) u c (by simpa using hu) (by simpa using hc)) (fun t=>by
   by_cases hc:t=p/\p<tmps.size
   ·rw [N8 hc]
    obtain ⟨rfl,hlt⟩:=hc
    have:=hr 0 v a rfl rfl
    simpa [hlt] using this
   ·rw [N7 hc]
    have e:(tmps.setIfInBounds p v).getD t undef=tmps.getD t undef:=by
     simp only [Pz,PX]
     by_cases BG:p=t
     ·subst BG
      have:¬p<tmps.size:=fun hlt=>hc ⟨rfl,hlt⟩
      simp [this]
     ·simp [BG]
    rw [e];exact h t)
  rw [Array.size_setIfInBounds] at ih
  exact ih
theorem Iw {vs:Array Value} {cs:List AV} (h:RC E vs cs) (t:Nat):aj E (vs.getD t undef) (b8 cs t):=by
 have:=oN h 0 t
 simpa using this
def ti (P:Program) (kb:Nat) (f:FuncId) (as_:List AV) (g:Nat->Option Bk) (k:Nat) (r:AV) (g':Nat->Option Bk) (k':Nat):Prop:=
 ∀(E:Env) (J:Nat->Prop) (base:Nat) (vs:Array Value),dW E->aE E J base g->(∀id,E.kn id->id<k)->RC E vs as_->
  Calls P f vs E.w fun e w'=>∃v E',e= .returned v/\E'.w=w'/\(E.lt kb).Le E'/\aj E' v r/\aE E' J base g'/\Below base E.w w'/\∀id,E'.kn id->id<k'
theorem Ix (hF:cFunc P f=some F) (hl:as_.length<=F.n)
  (h:EW P F.n kb F.code ⟨b8 as_,g,k⟩ fun x s'=>(x= .normal\/x= .ret)/\∃y:S3,s'.Le kb F.n y/\(resR y.σ F.res).run y.g=some r/\y.g=g'/\y.k=k'):ti P kb f as_ g k r g' k':=by
 intro E J base vs hG hm aX bF
 obtain ⟨fn,c,h1,h2,h3,h4,h5⟩:=qy hF
 refine qB h1 h2 (wpIn_mono (h none c (E.lt kb) J base E.w _ E.w (fun _=>rfl) h4 (fun id hi=>hi.2) ⟨⟨E,rfl,E.Ap kb,oN bF _,hm,aX, .nil⟩, ?_,OK _ _,hG⟩) ?_)
 ·simp only [PY,P5,bF.1];omega
 ·rintro e a' w' ⟨x,s',⟨hx,y,hy,hr,rfl,rfl⟩,rfl,w8⟩
  have hrel:=hy (E.lt kb) J base E.w a' w' (fun id hi=>hi.2) w8
  obtain ⟨E',rfl,hle,hs,hM,hk,hmk⟩:=hrel.ex
  refine ⟨by rcases hx with rfl|rfl<;>simp [Ex.up],oO _ E' hmk fun E2 hS=> ?_⟩
  have kf:=hS.mem hM
  obtain ⟨v,e1,e2⟩:=qx kf (fun t=>hS.rep (hs t)) h3 hr
  exact ⟨v,e1,v,E2,rfl,rfl,hS.le hle (fun b hb=>(hm.low b hb).1) (fun b hb=>(hm.xo b hb).1),e2,kf,hS.below hm.size hrel.below,fun id hid=>hk id (by rw [<-hS.eqs.1];exact hid)⟩
theorem fib_walk (hF:cFunc P f=some F) (hl:as_.length<=F.n)
  (h:EL P F.n kb F.code ⟨gD 0 as_,m⟩ fun e x=>(e= .normal\/e= .ret)/\∃y:L3,x.s.Le kb F.n y.s/\(resR (slot y.t) F.res).run (look y.m)=some r/\y.m=m'):ti P kb f as_ (look m) m.length r (look m') m'.length:=by
 refine Ix hF hl (EW.fJ (qE as_ _ _) (EW.cL h ?_))
 rintro e s ⟨x',rfl,h1,y,h2,h3,rfl⟩
 exact ⟨h1,y.s,h2,h3,rfl,rfl⟩
theorem Iy {r:Loop} {x:AC} (hx:cCode P r.assign=some x) (hy:cCode P r.body=some y) (dd:r.state= .ready) (tj:r.pending=none) (tl:r.params=ps.toArray) (hlen:ps.length=as_.length)
  (hn:caps.length=n) (oW:x.gZ=false) (Iz:y.gZ=false)
  (h:EW P n kb x ⟨mr n ps as_ (b8 caps),g,k⟩ fun e s1=>e= .normal/\(∀t,ny 5 (s1.σ t)=true)/\jI s1.g/\EW P n kb y s1 fun e s2=>e= .normal/\∃s3:S3,s2.Le kb n s3/\jI s3.g/\s3.g=g'/\s3.k=k'):Yd P kb r caps as_ g k g' k':=by
 refine ⟨by rw [tl];simpa using hlen,fun E J base l vs hG hm aX qp bF sG hI hh=> ?_⟩
 have IA:=hm.low l hI
 have bk:base<=l\/J l:=IA.2.symm
 have xz:=BF (E:=E) ps vs.toList as_ r.tmps (b8 caps) (by simpa using bF.1) (fun i v c hv hc=>bF.2 i v c (by simpa using hv) hc) (fun t=>Iw sG t)
 have hfe:(r.params.zip vs).foldl (fun t (p,v)=>t.setIfInBounds p v) r.tmps=(ps.zip vs.toList).foldl (fun (t:Array Value) (p:Nat×Value)=>t.setIfInBounds p.1 p.2) r.tmps:=by
  rw [tl, <-Array.foldl_toList,Array.toList_zip]
 have hsz:r.tmps.size=n:=sG.1.trans hn
 rw [hfe]
 rw [hsz] at xz
 refine roundIn_of_wpIn (F:=Fence.wide) (n:=0) trivial ?_
 have h1:=h (some l) r.assign (E.lt kb) J base E.w { tmps:=(ps.zip vs.toList).foldl (fun (t:Array Value) (p:Nat×Value)=>t.setIfInBounds p.1 p.2) r.tmps,defers:=[] } E.w (fun hh=>by rw [oW] at hh;simp at hh) hx (fun id hi=>hi.2)
  ⟨⟨E,rfl,E.Ap kb,xz.2,hm,aX, .nil⟩,xz.1,OK _ _,trivial⟩
 refine wpIn_mono h1 ?_
 rintro e a1 w1 ⟨x1,s1,⟨rfl,IB,IC,ID⟩,rfl,hrel⟩
 obtain ⟨E1,rfl,iX,hs1,l6,bU,IE⟩:=hrel.ex
 have qK:E1.w.heap[l]? =some (.loop r):=(iX.cz l hI).2.trans hh
 have nc:E1.I l:=(iX.cz l hI).1
 refine ⟨_,run_beginRound qK dd, ?_⟩
 have IF:=(OJ.1 qK).1
 obtain ⟨w2,hw2⟩:∃w2,w2=E1.w.putObj l (.loop { r with state:= .busy }):=⟨_,rfl⟩
 rw [<-hw2]
 have BH:w2.heap[l]? =some (.loop { r with state:= .busy }):=by rw [hw2];exact World.putObj_heap_same IF
 have qL:∀b,b≠l->w2.heap[b]? =E1.w.heap[b]? :=fun b hb=>by rw [hw2];exact Pn hb
 obtain ⟨c1,c2,c3⟩:=qz (.loop { r with state:= .busy }) qK rfl rfl
 rw [<-hw2] at c1 c2 c3
 let E2:Env:={ E1 with w:=w2 }
 have BI:∀{v a},aj E1 v a->ny 5 a=true->aj E2 v a:=fun hr hn=>aj.ny (E:=E1) (E':=E2) (fun b hb=>⟨hb,c1 b⟩) c2 rfl rfl rfl rfl 5 hr hn
 have hsz2:w2.heap.size=E1.w.heap.size:=by rw [hw2];simp
 have gp:aE E2 J base s1.g:=l6.ny (E':=E2) BI IC ⟨c3,fun b o hb ho=>by
  by_cases e:b=l
  ·subst e;rw [qK] at hb;simp only [N6] at hb;exact absurd hb.symm (ho _)
  ·exact (qL b e).trans hb⟩ hsz2 rfl rfl rfl rfl (fun b hb=>hb) (fun b hb=>hb) (fun b hb=>hb)
 have IG:Mk E2 E.w.heap.size a1.defers:=by
  have:∀{ds},Mk E1 E.w.heap.size ds->Mk E2 E.w.heap.size ds:=by
   intro ds hmk
   induction hmk with
   |nil=>exact .nil
   | @cons D ds iz hD qA hne t ih=>
    refine .cons iz hD ((qL D fun e=> ?_).trans qA) hne ih
    rw [e,qK] at qA;simp at qA
  exact this IE
 have bk:=hm.fb l qp
 have hb2:Below base E.w w2:=hrel.below.trans ⟨by rw [hw2];rfl,by rw [hw2];rfl,by rw [hw2];rfl,by rw [hsz2];exact Og _,fun k hk=>qL k (by omega)⟩
 have nL:=(OJ.1 hh).1
 obtain ⟨wb,xA⟩:∃wb,wb=E.w.putObj l (.loop { r with state:= .busy }):=⟨_,rfl⟩
 obtain ⟨b1,b2,b3⟩:=qz (.loop { r with state:= .busy }) hh rfl rfl
 rw [<-xA] at b1 b2 b3
 have xB:wb.heap[l]? =some (.loop { r with state:= .busy }):=by rw [xA];exact World.putObj_heap_same nL
 have tm:∀b,b≠l->wb.heap[b]? =E.w.heap[b]? :=fun b hb=>by rw [xA];exact Pn hb
 let Eb:Env:={ E.lt kb with w:=wb }
 have IH:Eb.Le E2:=by
  refine ⟨iX.kn,fun b hb=>⟨(iX.cz b hb).1, ?_⟩,iX.dead,iX.loc,fun id b hi hd hb=> ?_,iX.ln,iX.rg,fun b hb=>⟨(iX.fx b hb).1, ?_⟩⟩
  ·show w2.heap[b]? =wb.heap[b]?
   by_cases bk:b=l
   ·subst bk;rw [BH,xB]
   ·rw [qL b bk,tm b bk];exact (iX.cz b hb).2
  ·rcases iX.shape id b hi hd hb with k1|k1
   ·exact .inl k1
   ·exact .inr ((c2 b).trans (k1.trans (b2 b).symm))
  ·show w2.heap[b]? =wb.heap[b]?
   by_cases bk:b=l
   ·subst bk;rw [BH,xB]
   ·rw [qL b bk,tm b bk];exact (iX.fx b hb).2
 have h2:=ID (some l) r.body Eb J base E.w a1 w2 (fun hh=>by rw [Iz] at hh;simp at hh) hy (fun id hi=>hi.2)
  ⟨⟨E2,rfl,IH,fun t=>BI (hs1 t) (IB t),gp,bU,IG⟩,hrel.size,hb2,trivial⟩
 refine wpIn_mono h2 ?_
 rintro e a3 w3 ⟨x2,s2,⟨rfl,s3,II,IJ,rfl,rfl⟩,rfl,IM⟩
 have BJ:=II Eb J base E.w a3 w3 (fun id hi=>hi.2) IM
 obtain ⟨E3,rfl,gF,NH,xC,IN,NI⟩:=BJ.ex
 have tn:E3.w.heap[l]? =some (.loop { r with state:= .busy }):=(gF.cz l hI).2.trans xB
 have IP:=(OJ.1 tn).1
 have nM:=run_endRound (P:=P) none tn
 have IQ:({ ({ r with state:= .busy }:Loop) with state:= .ready,pending:=none }:Loop)=r:=by
  cases r;simp only at dd tj;subst dd;subst tj;rfl
 simp only [Option.isNone_none,Oa] at nM
 rw [IQ] at nM
 obtain ⟨w4,fQ⟩:∃w4,w4=E3.w.putObj l (.loop r):=⟨_,rfl⟩
 rw [<-fQ] at nM
 obtain ⟨d1,d2,d3⟩:=qz (.loop r) tn rfl rfl
 rw [<-fQ] at d1 d2 d3
 have ki:∀b,b≠l->w4.heap[b]? =E3.w.heap[b]? :=fun b hb=>by rw [fQ];exact Pn hb
 have qM:w4.heap.size=E3.w.heap.size:=by rw [fQ];simp
 let E4:Env:={ E3 with w:=w4 }
 have IS:∀{v a},aj E3 v a->ny 5 a=true->aj E4 v a:=fun hr hn=>aj.ny (E:=E3) (E':=E4) (fun b hb=>⟨hb,d1 b⟩) d2 rfl rfl rfl rfl 5 hr hn
 have IT:aE E4 J base s3.g:=xC.ny (E':=E4) IS IJ ⟨d3,fun b o hb ho=>by
  by_cases e:b=l
  ·subst e;rw [tn] at hb;simp only [N6] at hb;exact absurd hb.symm (ho _)
  ·exact (ki b e).trans hb⟩ qM rfl rfl rfl rfl (fun b hb=>hb) (fun b hb=>hb) (fun b hb=>hb)
 have IU:∀b,E.I b->w4.heap[b]? =E.w.heap[b]? :=fun b hb=>by
  by_cases bk:b=l
  ·subst bk;rw [hh,fQ];exact World.putObj_heap_same IP
  ·rw [ki b bk,(gF.cz b hb).2]
   exact tm b bk
 have IV:(E.lt kb).Le E4:=by
  refine ⟨gF.kn,fun b hb=>⟨(gF.cz b hb).1,IU b hb⟩,gF.dead,gF.loc,fun id b hi hd hb=> ?_,gF.ln,gF.rg,fun b hb=>⟨(gF.fx b hb).1, ?_⟩⟩
  ·rcases gF.shape id b hi hd hb with k1|k1
   ·exact .inl k1
   ·exact .inr ((d2 b).trans (k1.trans (b2 b)))
  ·have bk:b≠l:=fun e=>(hm.xo b hb).2.1 (e▸hI)
   show w4.heap[b]? =_
   rw [ki b bk,(gF.fx b hb).2]
   exact tm b bk
 have xD:Below base E.w w4:=BJ.below.trans ⟨by rw [fQ];rfl,by rw [fQ];rfl,by rw [fQ];rfl,by rw [qM];exact Og _,fun k hk=>ki k (by omega)⟩
 exact ⟨_,w4,nM,rfl,E4,rfl,IV,IT,xD,IN⟩
theorem EW.gB {gA:Arg} {ps:List Nat} {x y:AC} {f:FuncId} {caps:List AV} {n k0 kb:Nat} {s:S3} {g':Nat->Option Bk} {k':Nat} {res:AV} {Q:Ex->S3->Prop} (ox:k0<=kb) (j8:∀t,nb kb 6 (s.σ t)=true) (hg:aG s.σ gA= .fn f caps) (hc:bH P f=true) (oC:jI g')
  (h:∀r:Loop,cCode P r.assign=some x->cCode P r.body=some y->r.state= .ready->r.pending=none->r.params=ps.toArray->ti P kb f (.af r ((List.range n).map s.σ)::caps) s.g s.k res g' k') (hq:Q .normal ⟨s.σ,g',k'⟩):EW P n k0 (.gB gA ps x y) s Q:=by
 intro rd c E0 J base w0 a w b7 hcc hk hr
 obtain rfl:=b7 rfl
 obtain ⟨go,oX,ca,cb,rfl,eV,hx,hy,IW⟩:∃go oX ca cb,c= .rangeFunc go oX ca cb/\cArg go=some gA/\cCode P ca=some x/\cCode P cb=some y/\oX.toList=ps:=by
  cases c with
  |rangeFunc go oX ca cb=>
   simp only [cCode] at hcc
   split at hcc
   ·rename_i h1 h2 h3
    simp only [N6,AC.gB.injEq] at hcc
    obtain ⟨rfl,rfl,rfl,rfl⟩:=hcc
    exact ⟨go,oX,ca,cb,rfl,h1,h2,h3,rfl⟩
   ·simp at hcc
  |_=>
   exfalso
   simp only [cCode] at hcc
   repeat' (first|(simp at hcc;done)|split at hcc)
 obtain ⟨E,rfl,hle,hs,hm,aX,hmk⟩:=hr.ex
 have hgv:=dx.of (hr.gl.step hle) hs go gA eV
 rw [hg] at hgv
 obtain ⟨vv,b6⟩:∃vv,vv=a.eval go:=⟨_,rfl⟩
 rw [<-b6] at hgv
 cases hgv with
 | @fn _ lb _ IX qN=>
 refine wpIn_rangeFunc ?_
 intro fn eR
 obtain ⟨rec,cp⟩:∃rec:Loop,rec={ state:= .ready,pending:=none,fn,tmps:=a.tmps,params:=oX,assign:=ca,body:=cb,defers:=E.w.heap.size }:=⟨_,rfl⟩
 obtain ⟨W1,o6⟩:∃W1,(E.w.alloc (.deferred (some []))).alloc (.loop rec)=W1:=⟨_,rfl⟩
 have BK:W1.heap[E.w.heap.size+1]? =some (.loop rec):=by
  rw [<-o6];have:=World.alloc_heap_new (E.w.alloc (.deferred (some []))) (.loop rec);rwa [World.size_alloc] at this
 have IY:W1.heap[E.w.heap.size]? =some (.deferred (some [])):=by
  rw [<-o6];exact (O7 _ _ _ (by simp)).trans (World.alloc_heap_new E.w _)
 have hold:∀b,b<E.w.heap.size->W1.heap[b]? =E.w.heap[b]? :=fun b hb=>by
  rw [<-o6];exact (O7 _ _ _ (by simp;omega)).trans (O7 _ _ _ hb)
 have hsz1:W1.heap.size=E.w.heap.size+2:=by rw [<-o6];simp
 have l7:Below base E.w W1:=by
  rw [<-o6];exact ((OK _ E.w).alloc hm.size _).alloc (by have:=hm.size;simp;omega) _
 have xE:∀id b B,s.g id=some B->E.loc id=some b->b<E.w.heap.size:=fun id b B hgi hb=>by
  have:=hm.at_ id B hgi;rw [hb] at this;exact this.lt.2
 let E1:Env:={ E with w:=W1,I:=fun b=>E.I b\/b=E.w.heap.size\/b=E.w.heap.size+1,rg:=fun l=>E.rg l\/l=E.w.heap.size+1 }
 have fk:E.Le E1:=by
  refine ⟨fun _ h=>h,fun b hb=>⟨.inl hb,hold b (hm.low b hb).1⟩,fun _ _ h=>h,fun _ _ _=> .inr rfl,fun id b hi hd hb=> .inr ?_,fun _ _ _=> .inr rfl,fun _ h=> .inl h,fun b hb=>⟨hb,hold b (hm.xo b hb).1⟩⟩
  obtain ⟨B,hB⟩:=(hm.live id).1 ⟨hi,hd⟩
  show W1.shape? b=_
  simp only [World.shape?,hold b (xE id b B hB hb)]
 have l6:aE E1 J base s.g:=by
  refine ⟨hm.live,fun id B hgi=>(hm.at_ id B hgi).bL fk fun b hb=>hold b (xE id b B hgi hb),hm.apart,fun id b B hgi hb hi=> ?_,fun b hb=> ?_,by show base<=W1.heap.size;have:=hm.size;omega,hm.len,fun l hl=> ?_,fun b hb=>⟨by show b<W1.heap.size;have:=(hm.xo b hb).1;omega,fun hi=> ?_,(hm.xo b hb).2.2⟩⟩
  ·have:=xE id b B hgi hb
   rcases hi with hi|hi|hi
   ·exact hm.out id b B hgi hb hi
   ·omega
   ·omega
  ·show b<W1.heap.size/\_
   have:=hm.size
   rcases hb with hb|hb|hb
   ·have:=hm.low b hb;exact ⟨by omega,this.2⟩
   ·exact ⟨by omega, .inr (by omega)⟩
   ·exact ⟨by omega, .inr (by omega)⟩
  ·have:=hm.size
   rcases hl with hl|hl
   ·exact hm.fb l hl
   ·omega
  ·have:=(hm.xo b hb).1
   rcases hi with hi|hi|hi
   ·exact (hm.xo b hb).2.1 hi
   ·omega
   ·omega
 have sH:=h rec (by rw [cp];exact hx) (by rw [cp];exact hy) (by rw [cp]) (by rw [cp]) (by rw [cp];simp [<-IW])
 have BL:a.tmps.size=n:=hr.size
 have bF:RC E1 (#[.func (.yield (E.w.heap.size+1)) #[] #[]]++lb) (.af rec ((List.range n).map s.σ)::caps):=by
  refine ⟨by simp [IX];omega,fun j u c hu hc=> ?_⟩
  cases j with
  |zero=>
   rw [PZ (by simp)] at hu
   simp at hu hc;subst hu;subst hc
   refine .af (.inr rfl) (.inr (.inr rfl)) BK (by rw [cp];simp [BL]) fun i v c hv hc=> ?_
   rw [cp] at hv
   have hi:i<n:=by rw [<-BL];exact (OJ.1 hv).1
   rw [Oy,List.getElem?_range hi] at hc
   simp only [Oh,N6] at hc
   subst hc
   have:=(hs i).step fk
   simp only at hv
   simpa [Pz,hv] using this
  |succ j=>
   rw [P7 (by simp)] at hu
   simp at hu hc
   exact (qN j u c hu hc).step fk
 refine ⟨E.w.heap.size+1,[{ target:= .collected E.w.heap.size,args:= #[] }],W1,{ target:= .fn (.func f) lb,args:= #[.func (.yield (E.w.heap.size+1)) #[] #[]] },W1,f,
  #[.func (.yield (E.w.heap.size+1)) #[] #[]]++lb,W1, ?_, ?_,fun _ _=>trivial, ?_,nh, ?_⟩
 ·rw [<-o6,cp];exact run_enterLoop_outer _ _ _ _ _
 ·simp only [resolve, <-b6]
  simp [Deferred.ofValue]
  rfl
 ·simp only [invoke]
  exact wh hc _ _
 ·refine oF ((sH E1 J base _ trivial l6 aX bF).mono ?_)
  rintro e w' ⟨v,E2,rfl,rfl,iD,_,gp,hb2,hk2⟩
  have sZ:E2.w.heap[E.w.heap.size+1]? =some (.loop rec):=(iD.cz _ (.inr (.inr rfl))).2.trans BK
  have IZ:E2.w.heap[E.w.heap.size]? =some (.deferred (some [])):=(iD.cz _ (.inr (.inl rfl))).2.trans IY
  have nM:=run_endLoop (P:=P) sZ (by rw [cp];simp)
  obtain ⟨w4,fQ⟩:∃w4,w4=E2.w.putObj (E.w.heap.size+1) (.loop { rec with state:= .exhausted }):=⟨_,rfl⟩
  rw [<-fQ] at nM
  refine ⟨_,w4,nM, ?_⟩
  rw [show rec.pending=none by rw [cp]]
  obtain ⟨d1,d2,d3⟩:=qz (.loop { rec with state:= .exhausted }) sZ rfl rfl
  rw [<-fQ] at d1 d2 d3
  have ki:∀b,b≠E.w.heap.size+1->w4.heap[b]? =E2.w.heap[b]? :=fun b hb=>by rw [fQ];exact Pn hb
  have qM:w4.heap.size=E2.w.heap.size:=by rw [fQ];simp
  let E3:Env:={ E2 with w:=w4 }
  have hR:∀{v a},aj E2 v a->ny 5 a=true->aj E3 v a:=fun hr hn=>aj.ny (E:=E2) (E':=E3) (fun b hb=>⟨hb,d1 b⟩) d2 rfl rfl rfl rfl 5 hr hn
  have xC:aE E3 J base g':=gp.ny (E':=E3) hR oC ⟨d3,fun b o hb ho=>by
   by_cases e:b=E.w.heap.size+1
   ·subst e;rw [sZ] at hb;simp only [N6] at hb;exact absurd hb.symm (ho _)
   ·exact (ki b e).trans hb⟩ qM rfl rfl rfl rfl (fun b hb=>hb) (fun b hb=>hb) (fun b hb=>hb)
  have gF:(E.lt kb).Le E3:=by
   refine ⟨fun id hi=>iD.kn id hi,fun b hb=>⟨(iD.cz b (.inl hb)).1, ?_⟩,fun id hi hd=>iD.dead id hi hd,fun id hi hd=>iD.loc id hi hd,fun id b hi hd hb=> ?_,fun id hi hd=>iD.ln id hi hd,fun l hl=>iD.rg l (.inl hl),fun b hb=>⟨(iD.fx b hb).1,(ki b (by have:=(hm.xo b hb).1;omega)).trans ((iD.fx b hb).2.trans (hold b (hm.xo b hb).1))⟩⟩
   ·have:=(hm.low b hb).1
    exact (ki b (by omega)).trans ((iD.cz b (.inl hb)).2.trans (hold b this))
   ·rcases iD.shape id b hi hd hb with k1|k1
    ·exact .inl k1
    ·exact .inr ((d2 b).trans (k1.trans ((fk.shape id b hi.1 hd hb).resolve_left hd)))
  have xD:Below base E2.w w4:=⟨by rw [fQ];rfl,by rw [fQ];rfl,by rw [fQ];rfl,by rw [qM];exact Og _,fun k hk=>ki k (by have:=hm.size;omega)⟩
  refine ⟨.normal,⟨s.σ,g',k'⟩,hq,rfl,⟨⟨E3,rfl,hle.cut (fun id hi=>Oz (hk id hi) ox) gF,fun t=>(hs t).Aq gF 6 (j8 t),xC,hk2, ?_⟩,hr.size,hr.below.trans (l7.trans (hb2.trans xD)),hr.gl⟩⟩
  refine Mk.cons (iD.cz _ (.inr (.inl rfl))).1 hr.below.size ((ki _ (by omega)).trans IZ) (fun d hd e=> ?_) (Mk.wz (E:=E) gF.cz hmk)
  have:=hmk.lt d hd _ e
  omega
def nN:List Nat->List AV->List (Nat×AV)->List (Nat×AV)
 |p::ps,a::as_,t=>nN ps as_ (eu t (some p) a)
 |_,_,t=>t
theorem BM {n:Nat}:∀(ps:List Nat) (as_:List AV) (t:List (Nat×AV)) (σ:Nat->AV),(ps.all fun p=>Nat.blt p n)=true->(∀i,slot t i=σ i\/slot t i= .dead)->∀i,slot (nN ps as_ t) i=mr n ps as_ σ i\/slot (nN ps as_ t) i= .dead
 |[],as_,t,σ,_,h,i=>by simpa [nN,mr] using h i
 |p::ps,[],t,σ,_,h,i=>by simpa [nN,mr] using h i
 |p::ps,a::as_,t,σ,hp,h,i=>by
  simp only [PJ,N9] at hp
  refine BM ps as_ (eu t (some p) a) (fun t=>if t=p/\p<n then a else σ t) hp.2 (fun j=> ?_) i
  rw [nA (n:=n) t (some p) hp.1 a]
  unfold bD
  have BN:p<n:=ON hp.1
  by_cases hj:j=p
  ·subst hj
   left
   rw [N8 ⟨rfl,BN⟩,N8 ⟨rfl,BN⟩]
  ·rw [N7 (fun hc=>hj (Option.some.inj hc.1).symm),N7 (fun hc=>hj hc.1)]
   exact h j
theorem BO {d:Nat}:∀(t:List (Nat×AV)),(t.all fun p=>ny (d+1) p.2)=true->∀i,ny (d+1) (slot t i)=true
 |[],_,i=>rfl
 |(j,v)::r,h,i=>by
  simp only [PJ,N9] at h
  simp only [slot]
  cases Nat.beq i j with
  |true=>exact h.1
  |false=>exact BO r h.2 i
theorem yd_walk {r:Loop} {x:AC} (hx:cCode P r.assign=some x) (hy:cCode P r.body=some y) (dd:r.state= .ready) (tj:r.pending=none) (tl:r.params=ps.toArray)
  (hok:(Nat.beq ps.length as_.length&&(Nat.beq caps.length n&&((ps.all fun p=>Nat.blt p n)&&(!x.gZ&& !y.gZ))))=true)
  (h:EL P n kb x ⟨nN ps as_ (gD 0 caps),m⟩ fun e x1=>e= .normal/\(x1.t.all fun p=>ny 5 p.2)=true/\kZ x1.m/\EL P n kb y x1 fun e x2=>e= .normal/\∃z:L3,x2.s.Le kb n z.s/\kZ z.m/\z.m=m'):Yd P kb r caps as_ (look m) m.length (look m') m'.length:=by
 simp only [N9,Ov] at hok
 obtain ⟨h1,h2,h3,h4,h5⟩:=hok
 refine Iy hx hy dd tj tl (Ol h1) (Ol h2) h4 h5 ?_
 refine EW.fJ (s':=(⟨nN ps as_ (gD 0 caps),m⟩:L3).s) (S3.wT (fun t=> ?_) rfl rfl) (EW.cL h ?_)
 ·have:=BM (n:=n) ps as_ (gD 0 caps) (b8 caps) h3 (fun i=> ?_) t
  ·rcases this with h|h
   ·exact .inl h
   ·exact .inr (.inl h)
  ·rw [sN,N8 (Nat.zero_le _),Nat.sub_zero]
   unfold b8
   cases caps[i]? with
   |none=>exact .inr rfl
   |some a=>exact .inl rfl
 ·rintro e s ⟨x1,rfl,rfl,zG,pQ,hb⟩
  refine ⟨rfl,BO x1.t zG,pQ.jI,EW.cL hb ?_⟩
  rintro e s ⟨x2,rfl,rfl,z,hz1,hz2,rfl⟩
  exact ⟨rfl,z.s,hz1,hz2.jI,rfl,rfl⟩
theorem xF {kb d:Nat}:∀(t:List (Nat×AV)),(t.all fun p=>nb kb (d+1) p.2)=true->∀i,nb kb (d+1) (slot t i)=true
 |[],_,i=>rfl
 |(j,v)::r,h,i=>by
  simp only [PJ,N9] at h
  simp only [slot]
  cases Nat.beq i j with
  |true=>exact h.1
  |false=>exact xF r h.2 i
theorem EL.gB {gA:Arg} {ps:List Nat} {a b:AC} {f:FuncId} {caps cs:List AV} {n k0:Nat} {x:L3} {m':List (Option Bk)} {res:AV} {Q:Ex->L3->Prop} (kb:Nat) (j8:(Nat.ble k0 kb&&x.t.all fun p=>nb kb 6 p.2)=true) (hg:aG (slot x.t) gA= .fn f caps) (hc:bH P f=true) (hcs:(List.range n).map (slot x.t)=cs) (oC:kZ m')
  (h:∀r:Loop,cCode P r.assign=some a->cCode P r.body=some b->r.state= .ready->r.pending=none->r.params=ps.toArray->ti P kb f (.af r cs::caps) (look x.m) x.m.length res (look m') m'.length) (hq:Q .normal ⟨x.t,m'⟩):EL P n k0 (.gB gA ps a b) x Q:=
 have qO:=Bool.and_eq_true_iff.1 j8
 EW.gB (ON qO.1) (xF x.t qO.2) hg hc oC.jI (fun r h1 h2 h3 h4 h5=>by have:=h r h1 h2 h3 h4 h5;rw [<-hcs] at this;exact this) ⟨⟨x.t,m'⟩,rfl,hq⟩
theorem OW.af {n k k0:Nat} {R:List az} {x:L3} {K:L3->Prop} {a:Arg} {args:List Arg} {r:Loop} {caps aa:List AV} {m':List (Option Bk)} {x':L3} (hl:Nat.blt k R.length=true) (cq:bO (slot x.t) (opD R k).guard=some true) (ho:(opD R k).ao= .call a args) (hx:aG (slot x.t) a= .af r caps) (has:args.map (aG (slot x.t))=aa) {kb:Nat} (j8:(Nat.ble k0 kb&&x.t.all fun p=>nb kb 6 p.2)=true)
  (hy:Yd P kb r caps aa (look x.m) x.m.length (look m') m'.length) (cF:(bif dstOK n (opD R k).dst then some (⟨eu x.t (opD R k).dst (.v (.bool true)),m'⟩:L3) else none)=some x') (hr:OW P n k0 (R.drop (k+1)) x' K):OW P n k0 (R.drop k) x K:=by
 rw [sQ hl]
 cases hd:dstOK n (opD R k).dst with
 |false=>rw [hd] at cF;simp at cF
 |true=>
  rw [hd,Ob] at cF
  simp only [N6] at cF
  subst cF
  obtain ⟨z,h1,h3⟩:=hr
  simp only [nA _ _ hd] at h1
  subst has
  have qO:=Bool.and_eq_true_iff.1 j8
  exact ⟨z, .af cq ho hx (ON qO.1) (xF x.t qO.2) hy h1,h3⟩
end
end Go.Proofs.Ytimomnfobfjggaa
