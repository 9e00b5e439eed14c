/- The code of the program's functions as operations upon abstract values, checked against the program. No condition. -/
import Derived.Test.YtpoikkflcpklgaaPAvNorm
import Derived.Test.YtpoikkflcpklgaaRows
set_option linter.unusedSimpArgs false
set_option linter.unusedVariables false
set_option maxRecDepth 100000
namespace Go.Proofs.Ytpoikkflcpklgaa
variable {o:az} {a:Act} {K:Act->World->Prop} {listed:Array Bool} {f:FuncId} {ups:List (Nat×Option Bk)} {jn i n k0 k k1:Nat} {σ:Nat->AV} {op:Oper} {P:Program} {r:Rec} {w:World}
open Go.RowKit
abbrev LW:=@List.map_append
abbrev ME:=@List.take_of_length_le
def qt (sz:Nat):List az:=[⟨some 8, .mov (.s 0),none⟩,⟨some 9, .mov (.s 1),none⟩,⟨some 10, .mov (.s 2),none⟩,⟨some 11, .mov (.s 0),none⟩,⟨some 12, .len false (.s 11),none⟩,⟨some 13, .slc sz (.s 8) (some (.s 9)) (some (.s 10)) (some (.s 12)),none⟩]
def Eb:List az:=[⟨some 14, .mov (.s 1),none⟩,⟨some 15, .mov (.s 2),none⟩,⟨some 16, .bin false .eql (.s 14) (.s 15),none⟩]
def Ec:List az:=[⟨some 17, .mov (.s 0),none⟩,⟨some 6, .mov (.s 17),none⟩]
def qu:List az:=[⟨some 18, .mov (.s 0),none⟩,⟨some 19, .len false (.s 18),none⟩,⟨some 7, .mov (.s 19),none⟩]
def Ed (sz by_:Nat):List az:=[⟨some 20, .mov (.s 0),none⟩,⟨some 21, .mov (.s 1),none⟩,⟨some 22, .slc sz (.s 20) none (some (.s 21)) none,none⟩,⟨some 23, .mov (.s 0),none⟩,⟨some 24, .mov (.s 2),none⟩,⟨some 25, .slc sz (.s 23) (some (.s 24)) none none,none⟩,⟨some 26, .app sz by_ (.s 22) (.s 25),none⟩,⟨some 0, .mov (.s 26),none⟩]
def qv (sz:Nat) (zs:List AV):List az:=[⟨some 27, .mov (.s 0),none⟩,⟨some 28, .mov (.s 0),none⟩,⟨some 29, .len false (.s 28),none⟩,⟨some 30, .mov (.s 7),none⟩,⟨some 31, .slc sz (.s 27) (some (.s 29)) (some (.s 30)) none,none⟩,⟨none, .clr zs (.s 31),none⟩]
def Ee:List az:=[⟨some 32, .mov (.s 0),none⟩,⟨some 6, .mov (.s 32),none⟩]
def Ef:List (List Nat):=[[],[],[0,1],[],[],[3,4],[2,5,0,1,3,4],[6,0,1,2,3,4,5]]
def tI (sz by_:Nat) (zs:List AV):da:=⟨33,[.tmp 6],
 .seq (.bM [⟨some 6, .mov (.c .emp),none⟩] none)
 (.seq (.bM (qt sz) none)
 (.seq (.seq (.bM Eb none)
 (.cond (.s 16)
  (.seq (.bM Ec none)
  (.ret))
  (.skip)))
 (.seq (.bM qu none)
 (.seq (.bM (Ed sz by_) (some Ef))
 (.seq (.bM (qv sz zs) none)
 (.seq (.bM Ee none)
 (.ret)))))))⟩
def jG (m:List (Option Bk)) (id:Nat) (B:Bk):List (Option Bk):=m.set id none++[none,some B]
theorem Eg {x:L3} {id sz c t0:Nat} {els:List (List AV)} (hB:look x.m id=some ⟨sz,els⟩) (hc:c<=els.length) (hs:slot x.t t0= .own id sz 0 c) {y:L3} (hy:y.t=[(t0, .own x.m.length sz 0 c)]) (hm:y.m=x.m.set id none++[some ⟨sz,els.take c⟩]):x.s.Le k0 n y.s:=by
 intro E0 J base w0 a w hk hr
 obtain ⟨E,rfl,hle,cd,cV,ba,hmk⟩:=hr.ex
 have hid:id<x.m.length:=by
  rcases LM id x.m.length with h|h
  ·exact h
  ·unfold look at hB;rw [MC h] at hB;simp at hB
 have hf:¬E.kn x.m.length:=fun hh=>Mh _ (ba _ hh)
 have hz0:sz≠0:=(show af E (a.tmps.getD t0 undef) (.own id sz 0 c) by rw [<-hs];exact cd t0).pO ((cV.live id).2 ⟨_,hB⟩).2
 obtain ⟨E',hw,hE,hM,k1,k2,k3,k4,k5⟩:=cV.move hf id ⟨sz,els⟩ ⟨sz,els.take c⟩ hB E.w (fun _ _=>rfl) rfl (fun _ _=>rfl) (fun E' hE hw=>by
  have:=(cV.at_ id _ hB)
  cases hl:E.loc id with
  |none=>
   rw [hl] at this
   have h0:els=[]:=this
   show els.take c=[]
   rw [h0];simp
  |some b=>
   rw [hl] at this
   obtain ⟨q1,arr,t,q2,q3,q4⟩:=this.cells hz0
   refine .iI ⟨q1,arr,t,by rw [hw];exact q2, ?_,fun i cs hi=> ?_⟩ hz0
   ·refine Lw (Lv _ ?_) q3
    simp only [Mm];omega
   ·have aH:els[i]? =some cs:=by
     simp only [Me] at hi
     split at hi
     ·exact hi
     ·simp at hi
    refine ⟨(q4 i cs aH).1,fun j x hj=> ?_⟩
    obtain ⟨u,u1,u2,u3⟩:=(q4 i cs aH).2 j x hj
    exact ⟨u,u1,u2,u3.step hE⟩)
 have hg:au (look x.m) [(id,none),(x.m.length,some ⟨sz,els.take c⟩)]=look y.m:=by
  rw [hm]
  have e1:=tz x.m id none (by omega)
  rw [K1 hid] at e1
  have e2:=tz (x.m.set id none) x.m.length (some ⟨sz,els.take c⟩) (by simp)
  rw [K0 (by simp)] at e2
  rw [e2,e1]
  rfl
 have hM:=hg▸(show aD E' J base (au (look x.m) [(id,none),(x.m.length,some ⟨sz,els.take c⟩)]) from hM)
 refine ⟨⟨E',hw,hle.trans hE,fun t=> ?_,hM,fun j hj=> ?_,hmk.step hE⟩,hr.size,hr.below,hr.gl⟩
 ·show af E' _ (slot y.t t)
  rw [hy]
  simp only [slot]
  cases hb:Nat.beq t t0 with
  |false=>exact .dead
  |true=>
   have:=Lk hb
   subst this
   have hv:=cd t
   have hv':af E (a.tmps.getD t undef) (.own id sz 0 c):=by rw [<-hs];exact hv
   have nR:=(cV.live id).2 ⟨_,hB⟩
   have hlen:c<=els.length:=hc
   simp only [K5]
   obtain ⟨vv,b7⟩:∃vv,vv=a.tmps.getD t undef:=⟨_,rfl⟩
   rw [<-b7] at hv' ⊢
   cases hv' with
   |cr hi hd=>exact absurd hd nR.2
   |own hi hd hb hq oq dc hl hcc bh=>
    refine .own k1 k2 (k3.trans hb) hq (by rw [hw];exact oq) dc hl hcc (by rw [k5];simp only [Mm];omega)
   |bP hi hd hb bh=>exact .bP k1 k2 (k3.trans hb) (by rw [k5];simp)
 ·show j<y.m.length
  rw [hm]
  simp only [Ms,List.length_set,ML,List.length_nil]
  rcases k4 j hj with h|h
  ·have h':j<x.m.length:=ba j h
   omega
  ·omega
section
variable {o:az} {x:L3}
theorem lL {a:Arg} (h:aE σ a=VI n):cH (aE σ) (some a)=some (some n):=by
 simp only [cH,h,natOf]
 rw [K1 (by omega)];simp
theorem yk (a:Arg) (lo hi:Option Arg) (sz id off n l h:Nat) (iv aH:Option Nat) (B:Bk) (ho:o.ao= .slc sz a lo hi none) (hg:bL (slot x.t) o.guard=some true) (ha:aE (slot x.t) a= .own id sz off n) (fE:cH (aE (slot x.t)) lo=some iv) (dU:cH (aE (slot x.t)) hi=some aH) (fG:bounds n iv aH=some (l,h)) (hB:look x.m id=some B):
  e8 o x= .done (.own id sz (off+l) (h - l)) [] [id]:=by
 have hn:cH (aE (slot x.t)) none=some none:=rfl
 have hs:(AO.slc sz a lo hi none).ae x.m.length (aE (slot x.t))= .lv id (.ret (.done (.own id sz (off+l) (h - l)) [])):=by simp [AO.ae,ha,fE,dU,hn,fG,RM.opt]
 exact kI _ (acc:=[]) (see:=[id]) ho hg (by rw [hs];simp [RM.run,hB]) (by rw [hs];rfl) (by rw [hs];rfl)
theorem Eh (a:Arg) (lo hi:Option Arg) (mx:Arg) (sz id off n l h mm:Nat) (iv aH:Option Nat) (B:Bk) (ho:o.ao= .slc sz a lo hi (some mx)) (hg:bL (slot x.t) o.guard=some true) (ha:aE (slot x.t) a= .own id sz off n) (fE:cH (aE (slot x.t)) lo=some iv) (dU:cH (aE (slot x.t)) hi=some aH) (fS:cH (aE (slot x.t)) (some mx)=some (some mm)) (fG:bounds n iv aH=some (l,h)) (hB:look x.m id=some B) (h1:B.els.length<=off+mm) (h2:h<=mm/\mm<=n) (h3:mm≠l) (iP:B.sz=sz:=by rfl):
  e8 o x= .done (.own id sz (off+l) (h - l)) [] [id,id]:=by
 have hs:(AO.slc sz a lo hi (some mx)).ae x.m.length (aE (slot x.t))= .lv id (.rd id fun B=>if B.sz=sz/\B.els.length<=off+mm then .ret (.done (.own id sz (off+l) (h - l)) []) else .fail):=by
  simp [AO.ae,ha,fE,dU,fS,fG,RM.opt,h2,h3]
 exact kI _ (acc:=[id]) (see:=[id]) ho hg (by rw [hs];simp [RM.run,hB,h1,iP]) (by rw [hs];simp [RM.acc,hB,h1,iP]) (by rw [hs];simp [RM.see,hB,h1,iP])
theorem Ei (a:Arg) (lo hi:Option Arg) (sz id off n l h:Nat) (iv:Option Nat) (hh:Nat) (B:Bk) (ho:o.ao= .slc sz a lo hi none) (hg:bL (slot x.t) o.guard=some true) (ha:aE (slot x.t) a= .own id sz off n) (fE:cH (aE (slot x.t)) lo=some iv) (dU:cH (aE (slot x.t)) hi=some (some hh)) (ek:bounds n iv (some hh)=none) (hB:look x.m id=some B) (fG:bounds (B.els.length - off) iv (some hh)=some (l,h)) (iP:B.sz=sz:=by rfl):
  e8 o x= .done (.own id sz (off+l) (h - l)) [] [id,id]:=by
 have hn:cH (aE (slot x.t)) none=some none:=rfl
 have hs:(AO.slc sz a lo hi none).ae x.m.length (aE (slot x.t))= .lv id (.rd id fun B=>if B.sz=sz then .opt ((bounds (B.els.length - off) iv (some hh)).map fun b=> .done (.own id sz (off+b.1) (b.2 - b.1)) []) else .fail):=by simp [AO.ae,ha,fE,dU,hn,ek]
 exact kI _ (acc:=[id]) (see:=[id]) ho hg (by rw [hs];simp [RM.run,RM.opt,hB,fG,iP]) (by rw [hs];simp [RM.acc,RM.opt,hB,fG,iP]) (by rw [hs];simp [RM.see,RM.opt,hB,fG,iP])
theorem Ej (s a:Arg) (sz by_ id off n:Nat) (els ys:List (List AV)) (w:AV) (acc:List Nat) (ho:o.ao= .app sz by_ s a) (hg:bL (slot x.t) o.guard=some true) (hs:aE (slot x.t) s= .own id sz off n) (ha:aE (slot x.t) a=w) (c1:(content sz w).run (look x.m)=some ys) (c2:(content sz w).acc (look x.m)=acc) (c3:(content sz w).see (look x.m)=[])
  (hB:look x.m id=some ⟨sz,els⟩) (ek:¬(off=0/\n=els.length)) (hfit:off+n+ys.length<=els.length):
  e8 o x= .done (.own id sz off (n+ys.length)) [(id,some ⟨sz,els.take (off+n)++ys++els.drop (off+n+ys.length)⟩),(x.m.length,none)] (acc++[id]):=by
 let F:List (List AV)->RM Out:=fun ys=> .rd id fun B=>if sz=sz/\B.sz=sz/\off=0/\n=B.els.length/\(n+ys.length)*by_<=140737488355328 then .ret (.done (.own x.m.length sz 0 (n+ys.length)) [(id,none),(x.m.length,some ⟨sz,B.els++ys⟩)])
  else if sz=sz/\B.sz=sz/\off+n+ys.length<=B.els.length then .ret (.done (.own id sz off (n+ys.length)) [(id,some ⟨B.sz,B.els.take (off+n)++ys++B.els.drop (off+n+ys.length)⟩),(x.m.length,none)]) else .fail
 have cW:(AO.app sz by_ s a).ae x.m.length (aE (slot x.t))=(content sz w).bind F:=by simp [AO.ae,hs,ha,F]
 obtain ⟨r1,r2,r3⟩:=run_bind (f:=F) _ c1
 have tJ:¬(off=0/\n=els.length/\(n+ys.length)*by_<=140737488355328):=fun h=>ek ⟨h.1,h.2.1⟩
 have Ek:(F ys).run (look x.m)=some (.done (.own id sz off (n+ys.length)) [(id,some ⟨sz,els.take (off+n)++ys++els.drop (off+n+ys.length)⟩),(x.m.length,none)]):=by
  simp only [F,RM.run,hB,true_and];rw [K0 tJ,K1 hfit];rfl
 have El:(F ys).acc (look x.m)=[id]:=by
  simp only [F,RM.acc,hB,true_and];rw [K0 tJ,K1 hfit];rfl
 have Em:(F ys).see (look x.m)=[]:=by
  simp only [F,RM.see,hB,true_and];rw [K0 tJ,K1 hfit];rfl
 have:=kI (AO.app sz by_ s a) (o:=o) (x:=x) (acc:=acc++[id]) (see:=[]) ho hg (by rw [cW,r1];exact Ek) (by rw [cW,r2,c2,El]) (by rw [cW,r3,c3,Em];rfl)
 simpa using this
theorem En (zs:List AV) (a:Arg) (sz id off n:Nat) (els:List (List AV)) (ho:o.ao= .clr zs a) (hg:bL (slot x.t) o.guard=some true) (hz:zs.length=sz) (ha:aE (slot x.t) a= .own id sz off n) (hB:look x.m id=some ⟨sz,els⟩) (hfit:off+n<=els.length):
  e8 o x= .done (.v undef) [(id,some ⟨sz,els.take off++List.replicate n zs++els.drop (off+n)⟩)] [id]:=by
 subst hz
 have hs:(AO.clr zs a).ae x.m.length (aE (slot x.t))= .rd id fun B=>if B.sz=zs.length/\off+n<=B.els.length then .ret (.done (.v undef) [(id,some ⟨B.sz,B.els.take off++List.replicate n zs++B.els.drop (off+n)⟩)]) else .fail:=by simp [AO.ae,ha]
 exact kI _ (acc:=[id]) (see:=[]) ho hg (by rw [hs];simp [RM.run,hB,hfit]) (by rw [hs];simp [RM.acc,hB,hfit]) (by rw [hs];simp [RM.see,hB,hfit])
end
section
variable {P:Program} {sz by_:Nat} {zs:List AV} {m:List (Option Bk)} {id i:Nat} {els:List (List AV)}
theorem Eo {B:Bk} (hB:look m id=some B):id<m.length:=by
 rcases LM id m.length with h|h
 ·exact h
 ·unfold look at hB;rw [MC h] at hB;simp at hB
theorem Ep (hF:cFunc P f=some (tI sz by_ zs)) (hz:zs.length=sz) (hB:look m id=some ⟨sz,els⟩) (hi:i<els.length) (hb:els.length<=4611686018427387904):
  Fi P f [.own id sz 0 els.length,VI i,VI (i+1:Nat)] (look m) m.length (.own (m.length+1) sz 0 (els.length - 1)) (look (jG m id ⟨sz,els.eraseIdx i⟩)) (jG m id ⟨sz,els.eraseIdx i⟩).length:=by
 have hid:=Eo hB
 have e1:((i:Int)).toNat=i:=by omega
 have e2:(((i+1:Nat):Int)).toNat=i+1:=by omega
 have e3:((els.length:Int)).toNat=els.length:=by omega
 have p1:(0:Int)<=(i:Int):=by omega
 have p2:(0:Int)<=((i+1:Nat):Int):=by omega
 have p3:(0:Int)<=(els.length:Int):=by omega
 refine fV hF (by show 3<=33;omega) ?_
 refine EL.mL ?_
 refine OW.last 1 [0,1,2] (x':=⟨[(0, .own id sz 0 els.length),(1,VI i),(2,VI (i+1:Nat))],m⟩) (by kernel_rfl) (by kernel_rfl) ?_
 refine EL.mL ?_
 refine OW.run 4 (x':=⟨[(11, .own id sz 0 els.length),(10,VI (i+1:Nat)),(9,VI i),(8, .own id sz 0 els.length),(0, .own id sz 0 els.length),(1,VI i),(2,VI (i+1:Nat))],m⟩) (by kernel_rfl) ?_
 refine OW.iY (v:=VI els.length) (u:=[]) (acc:=[id]) (x':=⟨[(12,VI els.length),(11, .own id sz 0 els.length),(10,VI (i+1:Nat)),(9,VI i),(8, .own id sz 0 els.length),(0, .own id sz 0 els.length),(1,VI i),(2,VI (i+1:Nat))],m⟩) (by kernel_rfl) (kI _ (acc:=[]) (see:=[id]) rfl rfl (by simp [opD,qt,AO.ae,aE,slot,RM.run,hB,goInt]) (by simp [opD,qt,AO.ae,aE,slot,RM.acc]) (by simp [opD,qt,AO.ae,aE,slot,RM.see])) (by kernel_rfl) ?_
 refine OW.iY (v:= .own id sz (0+i) (i+1 - i)) (u:=[]) (acc:=[id,id]) (x':=⟨[(13, .own id sz (0+i) (i+1 - i)),(12,VI els.length),(11, .own id sz 0 els.length),(10,VI (i+1:Nat)),(9,VI i),(8, .own id sz 0 els.length),(0, .own id sz 0 els.length),(1,VI i),(2,VI (i+1:Nat))],m⟩) (by kernel_rfl)
  (Eh (.s 8) (some (.s 9)) (some (.s 10)) (.s 12) sz id 0 els.length i (i+1) els.length (some i) (some (i+1)) ⟨sz,els⟩ rfl rfl rfl (lL (by rfl)) (lL (by rfl)) (lL (by rfl)) (by simp [bounds];omega) hB (by simp) ⟨by omega,by omega⟩ (by omega)) (by kernel_rfl) ?_
 refine OW.last 0 [0,1,2] (x':=⟨[(0, .own id sz 0 els.length),(1,VI i),(2,VI (i+1:Nat))],m⟩) (by kernel_rfl) (by kernel_rfl) ?_
 refine EL.seq ?_
 refine EL.mL ?_
 refine OW.last 3 [0,1,2,16] (x':=⟨[(16, .v (.bool ((i:Int)==((i+1:Nat):Int)))),(0, .own id sz 0 els.length),(1,VI i),(2,VI (i+1:Nat))],m⟩) (by kernel_rfl) (by kernel_rfl) ?_
 have aC:((i:Int)==((i+1:Nat):Int))=false:=by simp;omega
 rw [aC]
 refine EL.D6 (by kernel_rfl) ?_
 refine EL.skip ?_
 refine tN ?_
 refine EL.mL ?_
 refine OW.run 1 (x':=⟨[(18, .own id sz 0 els.length),(16, .v (.bool false)),(0, .own id sz 0 els.length),(1,VI i),(2,VI (i+1:Nat))],m⟩) (by kernel_rfl) ?_
 refine OW.iY (v:=VI els.length) (u:=[]) (acc:=[id]) (x':=⟨[(19,VI els.length),(18, .own id sz 0 els.length),(16, .v (.bool false)),(0, .own id sz 0 els.length),(1,VI i),(2,VI (i+1:Nat))],m⟩) (by kernel_rfl) (kI _ (acc:=[]) (see:=[id]) rfl rfl (by simp [opD,qu,AO.ae,aE,slot,RM.run,hB,goInt]) (by simp [opD,qu,AO.ae,aE,slot,RM.acc]) (by simp [opD,qu,AO.ae,aE,slot,RM.see])) (by kernel_rfl) ?_
 refine OW.last 1 [0,1,2,7] (x':=⟨[(7,VI els.length),(0, .own id sz 0 els.length),(1,VI i),(2,VI (i+1:Nat))],m⟩) (by kernel_rfl) (by kernel_rfl) ?_
 refine EL.D5 ?_
 refine DW.run 2 (x':=⟨[(21,VI i),(20, .own id sz 0 els.length),(7,VI els.length),(0, .own id sz 0 els.length),(1,VI i),(2,VI (i+1:Nat))],m⟩) (by kernel_rfl) ?_
 refine DW.iY (v:= .own id sz (0+0) (i - 0)) (u:=[]) (acc:=[id]) (x':=⟨[(22, .own id sz (0+0) (i - 0)),(21,VI i),(20, .own id sz 0 els.length),(7,VI els.length),(0, .own id sz 0 els.length),(1,VI i),(2,VI (i+1:Nat))],m⟩) (by kernel_rfl)
  (yk (.s 20) none (some (.s 21)) sz id 0 els.length 0 i none (some i) ⟨sz,els⟩ rfl rfl rfl rfl (lL (by rfl)) (by simp [bounds];omega) hB) (by kernel_rfl) ?_
 refine DW.run 2 (x':=⟨[(24,VI (i+1:Nat)),(23, .own id sz 0 els.length),(22, .own id sz (0+0) (i - 0)),(21,VI i),(20, .own id sz 0 els.length),(7,VI els.length),(0, .own id sz 0 els.length),(1,VI i),(2,VI (i+1:Nat))],m⟩) (by kernel_rfl) ?_
 refine DW.iY (v:= .own id sz (0+(i+1)) (els.length - (i+1))) (u:=[]) (acc:=[id]) (x':=⟨[(25, .own id sz (0+(i+1)) (els.length - (i+1))),(24,VI (i+1:Nat)),(23, .own id sz 0 els.length),(22, .own id sz (0+0) (i - 0)),(21,VI i),(20, .own id sz 0 els.length),(7,VI els.length),(0, .own id sz 0 els.length),(1,VI i),(2,VI (i+1:Nat))],m⟩) (by kernel_rfl)
  (yk (.s 23) (some (.s 24)) none sz id 0 els.length (i+1) els.length (some (i+1)) none ⟨sz,els⟩ rfl rfl rfl (lL (by rfl)) rfl (by simp [bounds];omega) hB) (by kernel_rfl) ?_
 obtain ⟨ys,iQ⟩:∃ys,ys=(els.drop (0+(i+1))).take (els.length - (i+1)):=⟨_,rfl⟩
 have xS:ys.length=els.length - (i+1):=by rw [iQ];simp
 obtain ⟨fH,tK⟩:∃fH,fH=els.take (0+0+(i - 0))++ys++els.drop (0+0+(i - 0)+ys.length):=⟨_,rfl⟩
 have KD:fH.length=els.length:=by rw [tK];simp;omega
 obtain ⟨m2,ib⟩:∃m2,m2=m.set id (some ⟨sz,fH⟩)++[none]:=⟨_,rfl⟩
 have dV:eT m [(id,some ⟨sz,fH⟩),(m.length,none)]=m2:=by
  simp only [eT]
  rw [K1 hid,K0 (by simp),ib]
 have mM:m2.length=m.length+1:=by rw [ib];simp
 have tL:look m2 id=some ⟨sz,fH⟩:=by
  rw [ib];unfold look
  rw [L5 (by simpa using hid)]
  simp [hid]
 have lM:(content sz (.own id sz (0+(i+1)) (els.length - (i+1)))).run (look m)=some ys:=by
  simp only [content,RM.run,hB,true_and];rw [K1 (by omega),iQ];rfl
 have hc2:(content sz (.own id sz (0+(i+1)) (els.length - (i+1)))).acc (look m)=[id]:=by
  simp only [content,RM.acc,hB,true_and];rw [K1 (by omega)];rfl
 have tM:(content sz (.own id sz (0+(i+1)) (els.length - (i+1)))).see (look m)=[]:=by
  simp only [content,RM.see,hB,true_and];rw [K1 (by omega)];rfl
 have mN:upsOK m.length [(id,some (⟨sz,fH⟩:Bk)),(m.length,none)]=true:=by
  simp only [upsOK];rw [K1 hid];simp;omega
 refine DW.iY (v:= .own id sz (0+0) (i - 0+ys.length)) (u:=[(id,some ⟨sz,fH⟩),(m.length,none)]) (acc:=[id]++[id]) (x':=⟨[(26, .own id sz (0+0) (i - 0+ys.length)),(25, .own id sz (0+(i+1)) (els.length - (i+1))),(24,VI (i+1:Nat)),(23, .own id sz 0 els.length),(22, .own id sz (0+0) (i - 0)),(21,VI i),(20, .own id sz 0 els.length),(7,VI els.length),(0, .own id sz 0 els.length),(1,VI i),(2,VI (i+1:Nat))],m2⟩) (by kernel_rfl)
  (by rw [tK];exact Ej (.s 22) (.s 25) sz by_ id (0+0) (i - 0) els ys _ [id] rfl rfl rfl rfl lM hc2 tM hB (by rintro ⟨_,h⟩;omega) (by omega)) (by
   show (bif dstOK 33 (some 26)&&upsOK m.length [(id,some (⟨sz,fH⟩:Bk)),(m.length,none)] then _ else _)=_
   rw [mN,dV];rfl) ?_
 obtain ⟨t3,KE⟩:∃t3:List (Nat×AV),t3=[(0, .own id sz (0+0) (i - 0+ys.length)),(2,VI (i+1:Nat)),(7,VI els.length)]:=⟨_,rfl⟩
 refine DW.last 1 [0,7] (x':=⟨[(0, .own id sz (0+0) (i - 0+ys.length)),(7,VI els.length)],m2⟩) (by kernel_rfl) (by kernel_rfl) ?_
 have q1:i - 0+ys.length=els.length - 1:=by omega
 rw [q1]
 refine EL.mL ?_
 refine OW.run 2 (x':=⟨[(28, .own id sz (0+0) (els.length - 1)),(27, .own id sz (0+0) (els.length - 1)),(0, .own id sz (0+0) (els.length - 1)),(7,VI els.length)],m2⟩) (by kernel_rfl) ?_
 refine OW.iY (v:=VI (els.length - 1:Nat)) (u:=[]) (acc:=[id]) (x':=⟨[(29,VI (els.length - 1:Nat)),(28, .own id sz (0+0) (els.length - 1)),(27, .own id sz (0+0) (els.length - 1)),(0, .own id sz (0+0) (els.length - 1)),(7,VI els.length)],m2⟩) (by kernel_rfl) (kI _ (acc:=[]) (see:=[id]) rfl rfl (by simp [opD,qv,AO.ae,aE,slot,RM.run,tL,goInt]) (by simp [opD,qv,AO.ae,aE,slot,RM.acc]) (by simp [opD,qv,AO.ae,aE,slot,RM.see])) (by kernel_rfl) ?_
 refine OW.run 1 (x':=⟨[(30,VI els.length),(29,VI (els.length - 1:Nat)),(28, .own id sz (0+0) (els.length - 1)),(27, .own id sz (0+0) (els.length - 1)),(0, .own id sz (0+0) (els.length - 1)),(7,VI els.length)],m2⟩) (by kernel_rfl) ?_
 refine OW.iY (v:= .own id sz (0+0+(els.length - 1)) (els.length - (els.length - 1))) (u:=[]) (acc:=[id,id]) (x':=⟨[(31, .own id sz (0+0+(els.length - 1)) (els.length - (els.length - 1))),(30,VI els.length),(29,VI (els.length - 1:Nat)),(28, .own id sz (0+0) (els.length - 1)),(27, .own id sz (0+0) (els.length - 1)),(0, .own id sz (0+0) (els.length - 1)),(7,VI els.length)],m2⟩) (by kernel_rfl)
  (Ei (.s 27) (some (.s 29)) (some (.s 30)) sz id (0+0) (els.length - 1) (els.length - 1) els.length (some (els.length - 1)) els.length ⟨sz,fH⟩ rfl rfl rfl (lL (by rfl)) (lL (by rfl)) (by simp only [bounds,L8];rw [K0 (by omega)]) tL (by simp only [bounds,L8];rw [K1 ⟨by omega,by show _<=fH.length - (0+0);omega⟩])) (by kernel_rfl) ?_
 obtain ⟨eF,tO⟩:∃eF,eF=fH.take (0+0+(els.length - 1))++List.replicate (els.length - (els.length - 1)) zs++fH.drop (0+0+(els.length - 1)+(els.length - (els.length - 1))):=⟨_,rfl⟩
 have yl:id<m2.length:=by omega
 have Er:eT m2 [(id,some ⟨sz,eF⟩)]=m2.set id (some ⟨sz,eF⟩):=by
  simp only [eT];rw [K1 yl]
 have Es:upsOK m2.length [(id,some (⟨sz,eF⟩:Bk))]=true:=by simp [upsOK];omega
 refine OW.iY (v:= .v undef) (u:=[(id,some ⟨sz,eF⟩)]) (acc:=[id]) (x':=⟨[(31, .own id sz (0+0+(els.length - 1)) (els.length - (els.length - 1))),(30,VI els.length),(29,VI (els.length - 1:Nat)),(28, .own id sz (0+0) (els.length - 1)),(27, .own id sz (0+0) (els.length - 1)),(0, .own id sz (0+0) (els.length - 1)),(7,VI els.length)],m2.set id (some ⟨sz,eF⟩)⟩) (by kernel_rfl)
  (by rw [tO];exact En zs (.s 31) sz id (0+0+(els.length - 1)) (els.length - (els.length - 1)) fH rfl rfl hz rfl tL (by omega)) (by
   show (bif dstOK 33 none&&upsOK m2.length [(id,some (⟨sz,eF⟩:Bk))] then _ else _)=_
   rw [Es,Er];rfl) ?_
 refine OW.last 0 [0] (x':=⟨[(0, .own id sz (0+0) (els.length - 1))],m2.set id (some ⟨sz,eF⟩)⟩) (by kernel_rfl) (by kernel_rfl) ?_
 refine EL.mL ?_
 refine OW.last 2 [6] (x':=⟨[(6, .own id sz (0+0) (els.length - 1))],m2.set id (some ⟨sz,eF⟩)⟩) (by kernel_rfl) (by kernel_rfl) ?_
 refine EL.ret ?_
 have KF:eF.length=els.length:=by rw [tO];simp;omega
 have Et:look (m2.set id (some ⟨sz,eF⟩)) id=some ⟨sz,eF⟩:=by
  unfold look;simp [yl]
 have kJ:eF.take (els.length - 1)=els.eraseIdx i:=by
  have h1:eF.take (els.length - 1)=fH.take (els.length - 1):=by
   rw [tO,Ml,List.take_append_of_le_length (by simp;omega),L1,Lh,List.take_take,Nat.min_self]
  rw [h1,tK]
  have h2:els.length - 1=i+ys.length:=by omega
  rw [h2,List.take_append_of_le_length (by simp;omega)]
  rw [ME (by simp;omega)]
  rw [List.eraseIdx_eq_take_drop_succ,iQ]
  congr 1
  ·simp
  ·rw [Lh]
   exact ME (by simp)
 refine ⟨.inr rfl,⟨[(6, .own (m2.set id (some ⟨sz,eF⟩)).length sz 0 (els.length - 1))],(m2.set id (some ⟨sz,eF⟩)).set id none++[some ⟨sz,eF.take (els.length - 1)⟩]⟩,Eg (t0:=6) Et (by omega) rfl rfl rfl, ?_, ?_⟩
 ·simp only [List.length_set,mM];rfl
 ·rw [kJ,ib]
  simp only [jG]
  rw [List.set_set,List.set_append,K1 (by simpa using hid),List.set_set]
  simp
theorem Eu {α:Type} {fe:α->List AV} {xs:List α} (hF:cFunc P f=some (tI sz by_ zs)) (hz:zs.length=sz) (hB:look m id=some ⟨sz,xs.map fe⟩) {n:Int} (h0:0<=n) (h1:n<xs.length) (hb:xs.length<=1000000):
  Fi P f [.own id sz 0 xs.length,VI n,VI (n+1)] (look m) m.length (.own (m.length+1) sz 0 (xs.eraseIdx n.toNat).length) (look (jG m id ⟨sz,(xs.eraseIdx n.toNat).map fe⟩)) (jG m id ⟨sz,(xs.eraseIdx n.toNat).map fe⟩).length:=by
 have e0:((n.toNat:Nat):Int)=n:=by omega
 have e1:((n.toNat+1:Nat):Int)=n+1:=by omega
 have h:=Ep (P:=P) (f:=f) (i:=n.toNat) (els:=xs.map fe) hF hz hB (by simp;omega) (by simp;omega)
 rw [e0,e1,Lq] at h
 have e2:(xs.map fe).eraseIdx n.toNat=(xs.eraseIdx n.toNat).map fe:=by
  rw [List.eraseIdx_eq_take_drop_succ,List.eraseIdx_eq_take_drop_succ,LW,List.map_take,List.map_drop]
 have e3:(xs.eraseIdx n.toNat).length=xs.length - 1:=by rw [List.length_eraseIdx,K1 (by omega)]
 rw [e2] at h
 rw [e3]
 exact h
end
open Go.RowKit
section
variable {o:az} {x:L3}
end
open Go.RowKit
def cj (hs:List (Option Nat)) (i:Nat):Bool:=match hs[i]? with|some (some _)=>true|_=>false
inductive eo (P:Program) (n:Nat):List az->(Nat->AV)->(Nat->Option Bk)->Nat->List Rec->List (Option Nat)->(Nat->AV)->(Nat->Option Bk)->Nat->Prop
 |nil {σ:Nat->AV} {g:Nat->Option Bk} {k:Nat}:eo P n [] σ g k [] [] σ g k
 |cons {o:az} {os:List az} {σ σ':Nat->AV} {g g':Nat->Option Bk} {k k1 k':Nat} {val:AV} {ups:List (Nat×Option Bk)} {acc:List Nat} {rs:List Rec} {hs:List (Option Nat)} (h:de P σ g k o val ups acc) (hk:k<=k1) (hu:∀id,id∈ups.map Prod.fst->id<k1)
   (hr:eo P n os (bw n o.dst val σ) (au g ups) k1 rs hs σ' g' k'):eo P n (o::os) σ g k (⟨o.dst,val,ups,acc,k⟩::rs) (none::hs) σ' g' k'
 |fi {o:az} {os:List az} {σ σ':Nat->AV} {g g':Nat->Option Bk} {k k1 k':Nat} {r:AV} {f:FuncId} {as_:List AV} {ups:List (Nat×Option Bk)} {rs:List Rec} {hs:List (Option Nat)} (hg:bL σ o.guard=some true) (hal:o.ao.allocs=false) (h:(o.ao.ae k (aE σ)).run g=some (.call f as_)) (hc:bW P f=true) (hf:Fi P f as_ g k r (au g ups) k1) (hk:k<=k1) (hu:∀id,id∈ups.map Prod.fst->id<k1)
   (hr:eo P n os (bw n o.dst r σ) (au g ups) k1 rs hs σ' g' k'):eo P n (o::os) σ g k (⟨o.dst,r,ups,[],k⟩::rs) (some k1::hs) σ' g' k'
def ou (P:Program) (n:Nat) (σ:Nat->AV) (g:Nat->Option Bk) (rs:List Rec) (hs:List (Option Nat)) (i:Nat) (o:az) (r:Rec):Prop:=
 (hs[i]? =some none/\de P (bu n (upto i) rs σ) (bq (upto i) rs g) r.fr o r.val r.ups r.acc)\/
 ∃f as_ k1,hs[i]? =some (some k1)/\bL (bu n (upto i) rs σ) o.guard=some true/\o.ao.allocs=false/\(o.ao.ae r.fr (aE (bu n (upto i) rs σ))).run (bq (upto i) rs g)=some (.call f as_)/\bW P f=true/\Fi P f as_ (bq (upto i) rs g) r.fr r.val (au (bq (upto i) rs g) r.ups) k1
theorem qw {os:List az} {σ':Nat->AV} {g g':Nat->Option Bk} {k':Nat} {rs:List Rec} {hs:List (Option Nat)} (h:eo P n os σ g k rs hs σ' g' k'):
  (rs.length=os.length/\hs.length=os.length)/\k<=k'/\(∀(i:Nat) o,os[i]? =some o->∃r,rs[i]? =some r/\r.dst=o.dst/\ou P n σ g rs hs i o r/\k<=r.fr)/\
   (∀(i j:Nat) ri rj,i<j->rs[i]? =some ri->rs[j]? =some rj->(∀id,id∈ri.keys->id<rj.fr)/\∀k1,hs[i]? =some (some k1)->k1<=rj.fr)/\(∀(i:Nat) r,rs[i]? =some r->(∀id,id∈r.keys->id<k')/\∀k1,hs[i]? =some (some k1)->k1<=k')/\σ'=bu n (fun _=>true) rs σ/\g'=bq (fun _=>true) rs g:=by
 induction h with
 |nil=>exact ⟨⟨rfl,rfl⟩,K4 _,fun i o ho=>by simp at ho,fun i j ri rj _ h=>by simp at h,fun i r h=>by simp at h,rfl,rfl⟩
 | @cons o os σ σ' g g' k k1 k' val ups acc rs hs h hk hu hr ih=>
  obtain ⟨⟨i1,tP⟩,i2,i3,i4,i5,i6,i7⟩:=ih
  have e1:∀i,bu n (upto (i+1)) (⟨o.dst,val,ups,acc,k⟩::rs) σ=bu n (upto i) rs (bw n o.dst val σ):=by
   intro i;funext t
   show cX _ _ 1 rs _=_
   rw [gy]
   unfold bu
   congr 1
   ·funext j;simp [upto]
   ·rw [K1 (by simp [upto])];exact (jy n t ⟨o.dst,val,ups,acc,k⟩ σ).symm
  have e2:∀i,bq (upto (i+1)) (⟨o.dst,val,ups,acc,k⟩::rs) g=bq (upto i) rs (au g ups):=by
   intro i;funext id
   show cX _ _ 1 rs _=_
   rw [gy]
   unfold bq
   congr 1
   ·funext j;simp [upto]
   ·rw [K1 (by simp [upto]),iU];rfl
  refine ⟨⟨by simp [i1],by simp [tP]⟩,Lw hk i2,fun i o' ho=> ?_,fun i j ri rj aQ hi hj=> ?_,fun i r' hr'=> ?_, ?_, ?_⟩
  ·cases i with
   |zero=>
    simp only [LB,KZ] at ho
    subst ho
    refine ⟨_,rfl,rfl, ?_,K4 _⟩
    have s0:bu n (upto 0) (⟨o.dst,val,ups,acc,k⟩::rs) σ=σ:=by funext t;exact im _ 0 _ fun j r _ hl=>by simp [upto] at hl
    have g0:bq (upto 0) (⟨o.dst,val,ups,acc,k⟩::rs) g=g:=by funext t;exact im _ 0 _ fun j r _ hl=>by simp [upto] at hl
    unfold ou
    rw [s0,g0]
    exact .inl ⟨rfl,h⟩
   |succ i=>
    obtain ⟨r',r1,r2,r3,r4⟩:=i3 i o' (by simpa using ho)
    refine ⟨r',by simpa using r1,r2, ?_,Lw hk r4⟩
    unfold ou
    rw [e1,e2,L2];exact r3
  ·cases j with
   |zero=>omega
   |succ j=>
    simp only [L2] at hj
    cases i with
    |zero=>
     simp only [LB,KZ] at hi
     subst hi
     have aX:j<os.length:=by rw [<-i1];exact (K8.1 hj).1
     obtain ⟨r',r1,_,_,r4⟩:=i3 j _ (Lj aX)
     rw [hj] at r1
     simp only [KZ] at r1
     subst r1
     exact ⟨fun id hid=>Lr (hu id hid) r4,fun x hx=>by first|(simp at hx;done)|(simp at hx;subst hx;exact r4)⟩
    |succ i=>simp only [L2] at hi ⊢; exact i4 i j ri rj (by omega) hi hj
  ·cases i with
   |zero=>
    simp only [LB,KZ] at hr'
    subst hr'
    exact ⟨fun id hid=>Lr (hu id hid) i2,fun x hx=>by first|(simp at hx;done)|(simp at hx;subst hx;exact i2)⟩
   |succ i=>simp only [L2] at hr' ⊢; exact i5 i r' hr'
  ·rw [i6]
   funext t
   unfold bu
   simp only [cX]
   rw [gy,K3,jy n t ⟨o.dst,val,ups,acc,k⟩ σ]
  ·rw [i7]
   funext id
   unfold bq
   simp only [cX]
   rw [gy,K3,iU]
   rfl
 | @fi o os σ σ' g g' k k1 k' r f as_ ups rs hs hg hal h hc hf hk hu hr ih=>
  obtain ⟨⟨i1,tP⟩,i2,i3,i4,i5,i6,i7⟩:=ih
  have e1:∀i,bu n (upto (i+1)) (⟨o.dst,r,ups,[],k⟩::rs) σ=bu n (upto i) rs (bw n o.dst r σ):=by
   intro i;funext t
   show cX _ _ 1 rs _=_
   rw [gy]
   unfold bu
   congr 1
   ·funext j;simp [upto]
   ·rw [K1 (by simp [upto])];exact (jy n t ⟨o.dst,r,ups,[],k⟩ σ).symm
  have e2:∀i,bq (upto (i+1)) (⟨o.dst,r,ups,[],k⟩::rs) g=bq (upto i) rs (au g ups):=by
   intro i;funext id
   show cX _ _ 1 rs _=_
   rw [gy]
   unfold bq
   congr 1
   ·funext j;simp [upto]
   ·rw [K1 (by simp [upto]),iU];rfl
  refine ⟨⟨by simp [i1],by simp [tP]⟩,Lw hk i2,fun i o' ho=> ?_,fun i j ri rj aQ hi hj=> ?_,fun i r' hr'=> ?_, ?_, ?_⟩
  ·cases i with
   |zero=>
    simp only [LB,KZ] at ho
    subst ho
    refine ⟨_,rfl,rfl, ?_,K4 _⟩
    have s0:bu n (upto 0) (⟨o.dst,r,ups,[],k⟩::rs) σ=σ:=by funext t;exact im _ 0 _ fun j r _ hl=>by simp [upto] at hl
    have g0:bq (upto 0) (⟨o.dst,r,ups,[],k⟩::rs) g=g:=by funext t;exact im _ 0 _ fun j r _ hl=>by simp [upto] at hl
    unfold ou
    rw [s0,g0]
    exact .inr ⟨f,as_,k1,rfl,hg,hal,h,hc,hf⟩
   |succ i=>
    obtain ⟨r',r1,r2,r3,r4⟩:=i3 i o' (by simpa using ho)
    refine ⟨r',by simpa using r1,r2, ?_,Lw hk r4⟩
    unfold ou
    rw [e1,e2,L2];exact r3
  ·cases j with
   |zero=>omega
   |succ j=>
    simp only [L2] at hj
    cases i with
    |zero=>
     simp only [LB,KZ] at hi
     subst hi
     have aX:j<os.length:=by rw [<-i1];exact (K8.1 hj).1
     obtain ⟨r',r1,_,_,r4⟩:=i3 j _ (Lj aX)
     rw [hj] at r1
     simp only [KZ] at r1
     subst r1
     exact ⟨fun id hid=>Lr (hu id hid) r4,fun x hx=>by first|(simp at hx;done)|(simp at hx;subst hx;exact r4)⟩
    |succ i=>simp only [L2] at hi ⊢; exact i4 i j ri rj (by omega) hi hj
  ·cases i with
   |zero=>
    simp only [LB,KZ] at hr'
    subst hr'
    exact ⟨fun id hid=>Lr (hu id hid) i2,fun x hx=>by first|(simp at hx;done)|(simp at hx;subst hx;exact i2)⟩
   |succ i=>simp only [L2] at hr' ⊢; exact i5 i r' hr'
  ·rw [i6]
   funext t
   unfold bu
   simp only [cX]
   rw [gy,K3,jy n t ⟨o.dst,r,ups,[],k⟩ σ]
  ·rw [i7]
   funext id
   unfold bq
   simp only [cX]
   rw [gy,K3,iU]
   rfl
section
variable {P:Program} {E0:Env} {n:Nat} {ops:Array Oper} {J:Nat->Prop} {base:Nat} {w0:World} {Q:Exit->Act->World->Prop} {os:List az} {dep:List (List Nat)} {σ σ':Nat->AV} {g g':Nat->Option Bk} {k k':Nat} {rs:List Rec} {hs:List (Option Nat)}
theorem eo.snoc {val:AV} {acc:List Nat} (h0:eo P n os σ g k rs hs σ' g' k') (h:de P σ' g' k' o val ups acc) (hk:k'<=k1) (hu:∀id,id∈ups.map Prod.fst->id<k1):eo P n (os++[o]) σ g k (rs++[⟨o.dst,val,ups,acc,k'⟩]) (hs++[none]) (bw n o.dst val σ') (au g' ups) k1:=by
 induction h0 with
 |nil=>exact .cons h hk hu .nil
 |cons h1 h2 h3 h4 ih=>exact .cons h1 h2 h3 (ih h hk)
 |fi h1 h2 h3 h4 h5 h6 h7 h8 ih=>exact .fi h1 h2 h3 h4 h5 h6 h7 (ih h hk)
theorem eo.Ev {r:AV} {as_:List AV} (h0:eo P n os σ g k rs hs σ' g' k') (hg:bL σ' o.guard=some true) (hal:o.ao.allocs=false) (h:(o.ao.ae k' (aE σ')).run g'=some (.call f as_)) (hc:bW P f=true) (hf:Fi P f as_ g' k' r (au g' ups) k1) (hk:k'<=k1) (hu:∀id,id∈ups.map Prod.fst->id<k1):
  eo P n (os++[o]) σ g k (rs++[⟨o.dst,r,ups,[],k'⟩]) (hs++[some k1]) (bw n o.dst r σ') (au g' ups) k1:=by
 induction h0 with
 |nil=>exact .fi hg hal h hc hf hk hu .nil
 |cons h1 h2 h3 h4 ih=>exact .cons h1 h2 h3 (ih hg h hf hk)
 |fi h1 h2 h3 h4 h5 h6 h7 h8 ih=>exact .fi h1 h2 h3 h4 h5 h6 h7 (ih hg h hf hk)
end
section
variable {P:Program} {n k k0:Nat} {x:L3} {K:L3->Prop} {Q:Ex->L3->Prop} {R:List az} {dep:List (List Nat)} {rs:List Rec} {hs:List (Option Nat)}
end
open Go.RowKit
def gg (o:az):Bool:=match o.ao,o.guard with| .new _,none=>true|_,_=>false
def kK (dep:List (List Nat)) (i j:Nat):Bool:=dep.all fun d=> !d.contains j||d.contains i
def gU (jn:Nat) (rs:List Rec) (hs:List (Option Nat)) (dep:List (List Nat)):Bool:=
 (List.range rs.length).all fun j=>(List.range j).all fun i=>((dep[j]?).getD []).contains i||(match rs[i]?,rs[j]? with|some x,some y=> !(cj hs i&&cj hs j)&&((!cj hs i||(y.ups.isEmpty||(Nat.beq j jn&&kK dep i j)))&&(!cj hs j||x.ups.isEmpty))|_,_=>false)
theorem af.Ew {E:Env} {Y:Nat->Prop} {v:Value} {a:AV} (h:af E v a):af { E with X:=Y } v a:=by
 induction h with
 |v h=>exact .v h
 |agg hl h ih=>exact .agg hl ih
 |aJ hl h ih=>exact .aJ hl ih
 |dA hc=>exact .dA hc
 |dR u hn hl hcc hb hz hu h1 h ih=>exact .dR u hn hl hcc hb hz hu h1 ih
 |cA h ih=>exact .cA ih
 |emp=>exact .emp
 |pim u hb hq hu h1 h ih=>exact .pim u hb hq hu h1 ih
 |ref hi hd hb hq=>exact .ref hi hd hb hq
 |own hi hd hb hq oq hm hl hcc bh=>exact .own hi hd hb hq oq hm hl hcc bh
 |bP hi hd hb bh=>exact .bP hi hd hb bh
 |ef hi hd ho=>exact .ef hi hd ho
 |cr hi hd ho=>exact .cr hi hd ho
 |mp hi hd hb=>exact .mp hi hd hb
 |gH hi hd ho=>exact .gH hi hd ho
 |fn hl h ih=>exact .fn hl ih
 |bf hl h ih=>exact .bf hl ih
 |ee hg hI hh dd h ih=>exact .ee hg hI hh dd ih
 |dt=>exact .dt
 |dead=>exact .dead
section
variable {E:Env} {J:Nat->Prop} {base:Nat} {g:Nat->Option Bk}
theorem aD.Ey (h:aD E J base g) (ob:Obj):∃E':Env,E'.w=E.w.alloc ob/\E.Le E'/\aD E' J base g/\(∀id,E'.kn id->E.kn id)/\E'.X E.w.heap.size:=by
 have hlt:∀id b B,g id=some B->E.loc id=some b->b<E.w.heap.size:=fun id b B hg hb=>by
  have:=h.at_ id B hg;rw [hb] at this;exact this.lt.2
 have hs:(E.w.alloc ob).heap.size=E.w.heap.size+1:=by simp
 let E':Env:={ E with w:=E.w.alloc ob,X:=fun b=>E.X b\/b=E.w.heap.size }
 have hE:E.Le E':=by
  refine ⟨fun _ h=>h,fun b hb=>⟨hb,LC _ _ _ (h.low b hb).1⟩,fun _ _ h=>h,fun _ _ _=> .inr rfl,fun id b hi hd hb=> .inr ?_,fun _ _ _=> .inr rfl,fun _ h=>h,fun b hb=>⟨.inl hb,LC _ _ _ (h.xo b hb).1⟩⟩
  obtain ⟨B',aR⟩:=(h.live id).1 ⟨hi,hd⟩
  show (E.w.alloc _).shape? b=_
  simp only [World.shape?]
  rw [LC _ _ _ (hlt id b B' aR hb)]
 refine ⟨E',rfl,hE,⟨h.live,fun id B hg=>(h.at_ id B hg).bH hE fun b hb=>LC _ _ _ (hlt id b B hg hb),h.apart,h.out,fun b hb=>⟨?_,(h.low b hb).2⟩, ?_,h.len,h.gq,fun b hb=> ?_⟩,fun _ h=>h, .inr rfl⟩
 ·have:=(h.low b hb).1
  show b<(E.w.alloc ob).heap.size
  omega
 ·have:=h.size
  show base<=(E.w.alloc ob).heap.size
  omega
 ·show b<(E.w.alloc ob).heap.size/\_
  rcases hb with hb|hb
  ·have:=h.xo b hb
   exact ⟨by omega,this.2⟩
  ·subst hb
   refine ⟨by omega,fun hI=> ?_,fun id B hg he=> ?_⟩
   ·have:=(h.low _ hI).1;omega
   ·have:=hlt id _ B hg he;omega
theorem aD.Ez (h:aD E J base g) (fr:Nat) (hf:¬E.kn fr) (b:Nat) (hX:E.X b) (B:Bk) (hB:∀E':Env,E'.w=E.w->cx E' base B (some b)):
  ∃E':Env,E'.w=E.w/\(∀{v a},af E v a->af E' v a)/\aD E' J base (au g [(fr,some B)])/\(∀id,E'.kn id->E.kn id\/id=fr)/\E'.kn fr/\¬E'.dead fr/\E'.loc fr=some b/\(∀E0:Env,E0.Le E->¬E0.X b->E0.Le E')/\(∀b,E.I b->E'.I b):=by
 have aC:∀id,E.kn id->id≠fr:=fun id hi he=>hf (he▸hi)
 let E1:Env:={ E with X:=fun x=>E.X x/\x≠b }
 let E':Env:={ E1 with kn:=fun id=>E.kn id\/id=fr,loc:=fun id=>if id=fr then some b else E.loc id,dead:=fun id=>E.dead id/\id≠fr,ln:=fun id=>if id=fr then B.els.length else E.ln id }
 have gK:E1.Le E':=⟨fun _ h=> .inl h,fun b hb=>⟨hb,rfl⟩,fun id hi hd=>⟨hd,aC id hi⟩,fun id hi hd=> .inr (K0 (aC id hi)),fun _ _ _ _ _=> .inr rfl,fun id hi _=> .inr (K0 (aC id hi)),fun _ h=>h,fun b hb=>⟨hb,rfl⟩⟩
 have hR:∀{v a},af E v a->af E' v a:=fun hr=>(af.Ew (Y:=fun x=>E.X x/\x≠b) hr).step gK
 have dV:∀k,au g [(fr,some B)] k=if k=fr then some B else g k:=fun k=>by simp only [au]
 refine ⟨E',rfl,hR,⟨fun k=> ?_,fun k Bk hk=> ?_,fun k k' b' B1 B2 h1 h2 h3 h4=> ?_,fun k b' B1 hk hb hI=> ?_,h.low,h.size,fun k B1 hk cG=> ?_,h.gq,fun b' aY=>⟨(h.xo b' aY.1).1,(h.xo b' aY.1).2.1,fun k B1 hk he=> ?_⟩⟩,fun _ h=>h, .inr rfl,fun hd=>hd.2 rfl,K1 rfl,fun E0 k tQ=> ?_,fun _ h=>h⟩
 ·rw [dV]
  by_cases h1:k=fr
  ·subst h1;simp [E']
  ·simp only [h1,Lx, <-h.live k]
   simp [E',E1,h1]
 ·rw [dV] at hk
  by_cases h1:k=fr
  ·subst h1
   simp only [K3,KZ] at hk
   subst hk
   show cx E' base _ (if k=k then _ else _)
   rw [K1 rfl]
   exact hB E' rfl
  ·rw [K0 h1] at hk
   show cx E' base Bk (if k=fr then _ else _)
   rw [K0 h1]
   have:=h.at_ k Bk hk
   cases hl:E.loc k with
   |none=>rw [hl] at this;exact this
   |some c=>
    rw [hl] at this
    obtain ⟨h1,⟨hz,arr,t,h2,h3,h4⟩|⟨hz,es,clock,h2,h3,h4⟩⟩:=this
    ·refine ⟨h1, .inl ⟨hz,arr,t,h2,h3,fun i cs hi=>⟨(h4 i cs hi).1,fun j x hj=> ?_⟩⟩⟩
     obtain ⟨u,k1,k2,k3⟩:=(h4 i cs hi).2 j x hj
     exact ⟨u,k1,k2,hR k3⟩
    ·refine ⟨h1, .inr ⟨hz,es,clock,h2,h3,fun i e cs he hi=> ?_⟩⟩
     obtain ⟨x,k1,k2,k3⟩:=h4 i e cs he hi
     exact ⟨x,k1,k2,hR k3⟩
 ·rw [dV] at h1 h2
  have e3:(if k=fr then some b else E.loc k)=some b':=h3
  have e4:(if k'=fr then some b else E.loc k')=some b':=h4
  by_cases a1:k=fr<;>by_cases a2:k'=fr
  ·rw [a1,a2]
  ·rw [K1 a1] at e3;rw [K0 a2] at e4 h2
   exact absurd (e4.trans e3.symm) ((h.xo b hX).2.2 k' B2 h2)
  ·rw [K0 a1] at e3 h1;rw [K1 a2] at e4
   exact absurd (e3.trans e4.symm) ((h.xo b hX).2.2 k B1 h1)
  ·rw [K0 a1] at e3 h1;rw [K0 a2] at e4 h2
   exact h.apart k k' b' B1 B2 h1 h2 e3 e4
 ·rw [dV] at hk
  have e3:(if k=fr then some b else E.loc k)=some b':=hb
  by_cases a1:k=fr
  ·rw [K1 a1] at e3
   simp only [KZ] at e3
   exact (h.xo b hX).2.1 (e3▸hI)
  ·rw [K0 a1] at e3 hk
   exact h.out k b' B1 hk e3 hI
 ·rw [dV] at hk
  show _=if k=fr then _ else _
  by_cases a1:k=fr
  ·rw [K1 a1] at hk ⊢
   simp only [KZ] at hk;rw [<-hk]
  ·rw [K0 a1] at hk ⊢
   exact h.len k B1 hk cG
 ·rw [dV] at hk
  have e3:(if k=fr then some b else E.loc k)=some b':=he
  by_cases a1:k=fr
  ·rw [K1 a1] at e3
   simp only [KZ] at e3
   exact aY.2 e3.symm
  ·rw [K0 a1] at e3 hk
   exact (h.xo b' aY.1).2.2 k B1 hk e3
 ·exact ⟨fun id hi=> .inl (k.kn id hi),fun b hb=>k.dS b hb,fun id hi hd=>⟨k.dead id hi hd,aC id (k.kn id hi)⟩,fun id hi hd=>(k.loc id hi hd).imp (fun q=>⟨q,aC id (k.kn id hi)⟩) fun q=>(K0 (aC id (k.kn id hi))).trans q,fun id b hi hd hb=>(k.shape id b hi hd hb).imp (fun q=>⟨q,aC id (k.kn id hi)⟩) fun q=>q,fun id hi hd=>(k.ln id hi hd).imp (fun q=>⟨q,aC id (k.kn id hi)⟩) fun q=>(K0 (aC id (k.kn id hi))).trans q,k.rg,fun b' aY=>⟨⟨(k.fx b' aY).1,fun e=>tQ (e▸aY)⟩,(k.fx b' aY).2⟩⟩
end
section
variable {P:Program} {E0:Env} {n:Nat} {ops:Array Oper} {J:Nat->Prop} {base:Nat} {w0:World} {Q:Exit->Act->World->Prop} {os:List az} {dep:List (List Nat)} {σ σ':Nat->AV} {g g':Nat->Option Bk} {k k':Nat} {rs:List Rec} {hs:List (Option Nat)}
structure fa (E0:Env) (n:Nat) (ops:Array Oper) (dep:List (List Nat)) (J:Nat->Prop) (base:Nat) (w0:World) (σ:Nat->AV) (g:Nat->Option Bk) (k:Nat) (rs:List Rec) (hs:List (Option Nat)) (sx:Nat->Bool) (pd:Env->Act->Prop) (listed:Array Bool) (a:Act) (w:World):Prop where
 ex:∃E:Env,E.w=w/\E0.Le E/\(∀t,sx t=false->af E (a.tmps.getD t undef) (bu n (fun j=>listed.getD j false) rs σ t))/\aD E J base (bq (fun j=>listed.getD j false) rs g)/\
  (∀id,E.kn id->id<k\/∃j r,listed.getD j false=true/\rs[j]? =some r/\(id∈r.keys\/∃k1,hs[j]? =some (some k1)/\id<k1))/\Mk E w0.heap.size a.defers/\pd E a
 size:a.tmps.size=n
 below:Below base w0 w
 gl:dT E0
 eZ:listed.size=ops.size
 closed:∀(j:Nat),j<ops.size->listed.getD j false=true->∀e,e∈(dep[j]?).getD []->listed.getD e false=true
theorem ym {rd:Option Nat} (dj:eo P n os σ g k rs hs σ' g' k') (hlen:os.length=ops.size) (cd:eR os dep=true) (hid:eE rs dep=true) (hcs:gU jn rs hs dep=true)
  {sx:Nat->Bool} {pd:Env->Act->Prop} (hI:fa E0 n ops dep J base w0 σ g k rs hs sx pd listed a w) (m2:ops[i]? =some op) (ho:os[i]? =some o) (gT:eP P ops op=some o) (cD:listed.getD i false=false)
  (dm:∀e,e∈(dep[i]?).getD []->listed.getD e false=true) (hu:∀t,t∈o.gO->sx t=false) (hq:cj hs i=true->listed.getD jn false=true->i<jn->i∈(dep[jn]?).getD []) (mO:i=jn->∀c,c<i->cj hs c=true->¬c∈(dep[i]?).getD []->listed.getD c false=true)
  (EA:∀E E' v,pd E a->E.Le E'->pd E' (a.put o.dst v)) (hK:∀a' w',fa E0 n ops dep J base w0 σ g k rs hs sx pd (listed.setIfInBounds i true) a' w'->K a' w'):wpOpIn (cp rd) 0 P ops Q i K a w:=by
 obtain ⟨⟨c1,tR⟩,c2,c3,c4,c5,c6,c7⟩:=qw dj
 have cm:i<ops.size:=(LQ.1 m2).1
 obtain ⟨r,cg,bX,hrun,dW⟩:=c3 i o ho
 obtain ⟨E,rfl,hle,lj,h2,h3,hmk,EB⟩:=hI.ex
 have h1:∀t,af E (a.tmps.getD t undef) ((fun t=>if sx t=true then AV.dead else bu n (fun j=>listed.getD j false) rs σ t) t):=fun t=>by
  show af E _ (if sx t=true then AV.dead else _)
  cases ht:sx t with
  |true=>rw [K1 rfl];exact .dead
  |false=>rw [K0 (by simp)];exact lj t ht
 -- Du is listed out of turn is free of this one
 have free:∀j rj oj,j≠i->rs[j]? =some rj->os[j]? =some oj->listed.getD j false≠upto i j->(gQ (if i<j then o else oj) (if i<j then oj else o)=true/\eQ (if i<j then r else rj) (if i<j then rj else r)=true):=by
  intro j rj oj aC aI bd hl
  have aX:j<os.length:=(K8.1 bd).1
  unfold eR at cd
  unfold eE at hid
  simp only [K6,LH,Ls,Mi] at cd hid
  by_cases aQ:i<j
  ·rw [K1 aQ,K1 aQ,K1 aQ,K1 aQ]
   have aK:listed.getD j false=true:=by
    have hu:upto i j=false:=by simp [upto];omega
    rw [hu] at hl
    simpa using hl
   have cy:i∉(dep[j]?).getD []:=by
    intro cN
    have gR:j<ops.size:=by omega
    have:=hI.closed j gR aK i cN
    rw [cD] at this;simp at this
   have s1:=(cd j aX i aQ).resolve_left cy
   have s2:=(hid j (by rw [c1];exact aX) i aQ).resolve_left cy
   rw [ho,bd] at s1;rw [cg,aI] at s2
   exact ⟨s1,s2⟩
  ·rw [K0 aQ,K0 aQ,K0 aQ,K0 aQ]
   have br:j<i:=by omega
   have aK:listed.getD j false=false:=by
    have hu:upto i j=true:=by simp [upto];omega
    rw [hu] at hl
    simpa using hl
   have cy:j∉(dep[i]?).getD []:=by
    intro cN
    have:=dm j cN
    rw [aK] at this;simp at this
   have s1:=(cd i (by omega) j br).resolve_left cy
   have s2:=(hid i (by omega) j br).resolve_left cy
   rw [ho,bd] at s1;rw [cg,aI] at s2
   exact ⟨s1,s2⟩
 have fF:∀(j:Nat) rj,rs[j]? =some rj->∃oj,os[j]? =some oj/\rj.dst=oj.dst:=fun j rj aI=>by
  have aX:j<os.length:=by rw [<-c1];exact (K8.1 aI).1
  obtain ⟨r',q1,q2,_,_⟩:=c3 j _ (Lj aX)
  rw [aI] at q1;simp only [KZ] at q1;subst q1
  exact ⟨_,Lj aX,q2⟩
 -- a slot od it looks at is as it comes one behind ig other
 have hσ:∀t,t∈o.gO->(if sx t=true then AV.dead else bu n (fun j=>listed.getD j false) rs σ t)=bu n (upto i) rs σ t:=by
  intro t ht
  rw [K0 (by rw [hu t ht];simp)]
  refine ik _ 0 _ fun j rj aI hl=> ?_
  rw [Lh] at hl
  by_cases aC:j=i
  ·subst aC;rw [cD] at hl;simp [upto] at hl
  ·obtain ⟨oj,bd,cC⟩:=fF j rj aI
   have hf:=(free j rj oj aC aI bd hl).1
   unfold gP
   rw [K0]
   rintro ⟨c9,_⟩
   rw [cC] at c9
   unfold gQ at hf
   by_cases aQ:i<j
   ·simp only [K1 aQ,c9,K2,Lm,LI,Lo] at hf
    exact hf.2 ht
   ·simp only [K0 aQ,c9,K2,Lm,LI,Lo] at hf
    exact hf.1.1 ht
 have hg:∀id,id∈r.acc->bq (fun j=>listed.getD j false) rs g id=bq (upto i) rs g id:=by
  intro id oe
  refine ik _ 0 _ fun j rj aI hl=> ?_
  rw [Lh] at hl
  by_cases aC:j=i
  ·subst aC;rw [cD] at hl;simp [upto] at hl
  ·obtain ⟨oj,bd,cC⟩:=fF j rj aI
   have hf:=(free j rj oj aC aI bd hl).2
   cases hw:wg id rj with
   |none=>rfl
   |some y=>
    exfalso
    have hk:id∈rj.keys:=jx (by unfold wg at hw;rw [hw];simp)
    unfold eQ at hf
    by_cases aQ:i<j
    ·simp only [K1 aQ,K2,K6,Lm,LI,Lo] at hf
     exact hf.2 id hk oe
    ·simp only [K0 aQ,K2,K6,Lm,LI,Lo] at hf
     exact (hf.1 id hk).1 oe
 have tS:∀{j x},hs[j]? =some (some x)->cj hs j=true:=fun h=>by unfold cj;rw [h]
 have tT:∀j rj,j≠i->rs[j]? =some rj->listed.getD j false≠upto i j->(cj hs i&&cj hs j)=false/\(cj hs i=true->rj.ups=[])/\(cj hs j=true->r.ups=[]):=by
  intro j rj aC aI hl
  have aX:j<rs.length:=(K8.1 aI).1
  unfold gU at hcs
  simp only [K6,LH,Ls,Mi] at hcs
  by_cases aQ:i<j
  ·have aK:listed.getD j false=true:=by
    have hu:upto i j=false:=by simp [upto];omega
    rw [hu] at hl
    simpa using hl
   have cy:i∉(dep[j]?).getD []:=by
    intro cN
    have gR:j<ops.size:=by omega
    have:=hI.closed j gR aK i cN
    rw [cD] at this;simp at this
   have s2:=(hcs j aX i aQ).resolve_left cy
   rw [cg,aI] at s2
   simp only [K2,Ls,Lm,L9] at s2
   exact ⟨s2.1,fun h=>(s2.2.1.resolve_left (by rw [h];simp)).resolve_right fun q=>by
    have ej:=Lk q.1
    exact cy (by rw [ej];exact hq h (by rw [<-ej];exact aK) (by omega)),fun h=>s2.2.2.resolve_left (by rw [h];simp)⟩
  ·have br:j<i:=by omega
   have aK:listed.getD j false=false:=by
    have hu:upto i j=true:=by simp [upto];omega
    rw [hu] at hl
    simpa using hl
   have cy:j∉(dep[i]?).getD []:=by
    intro cN
    have:=dm j cN
    rw [aK] at this;simp at this
   have s2:=(hcs i (by omega) j br).resolve_left cy
   rw [cg,aI] at s2
   simp only [K2,Ls,Lm,L9] at s2
   exact ⟨by rw [Bool.and_comm];exact s2.1,fun h=>s2.2.2.resolve_left (by rw [h];simp),fun h=>(s2.2.1.resolve_left (by rw [h];simp)).resolve_right fun q=>by
    have:=mO (Lk q.1) j br h cy
    rw [aK] at this;simp at this⟩
 have fin:∀v E',E.Le E'->af E' v r.val->aD E' J base (au (bq (fun j=>listed.getD j false) rs g) r.ups)->Below base E.w E'.w->(∀id,E'.kn id->(E.kn id\/id∈r.keys)\/∃k1,hs[i]? =some (some k1)/\id<k1)->K (a.put o.dst v) E'.w:=by
  intro v E' hE hv hM hB ba
  -- it is listed now
  have cR:∀j,(listed.setIfInBounds i true).getD j false=if j=0+i then true else listed.getD j false:=by
   intro j
   rw [Lh]
   have gf:i<listed.size:=by rw [hI.eZ];exact cm
   by_cases br:j=i
   ·subst br;simp [gf]
   ·rw [K0 br,getD_set_ne false (Ne.symm br)]
  have lK:∀t,bu n (fun j=>(listed.setIfInBounds i true).getD j false) rs σ t=bw n o.dst r.val (bu n (fun j=>listed.getD j false) rs σ) t:=by
   intro t
   rw [<-bX,jy]
   refine lG rs 0 i _ r cg (by rw [Lh];exact cD) cR fun j rj aQ aI aK=> ?_
   rw [Lh] at aK
   obtain ⟨oj,bd,cC⟩:=fF j rj aI
   have hf:=(free j rj oj (by omega) aI bd (by rw [aK];simp [upto];omega)).1
   unfold gQ at hf
   simp only [K1 aQ] at hf
   by_cases gx:r.dst=some t
   ·left
    unfold gP
    rw [K0]
    rintro ⟨c9,_⟩
    rw [bX] at gx
    rw [cC] at c9
    simp only [gx,c9,K2,bne_iff_ne,ne_eq] at hf
    exact hf.1.2 trivial
   ·right
    unfold gP
    rw [K0]
    rintro ⟨c9,_⟩
    exact gx c9
  have ng:∀id,bq (fun j=>(listed.setIfInBounds i true).getD j false) rs g id=au (bq (fun j=>listed.getD j false) rs g) r.ups id:=by
   intro id
   rw [iU]
   refine lG rs 0 i _ r cg (by rw [Lh];exact cD) cR fun j rj aQ aI aK=> ?_
   rw [Lh] at aK
   obtain ⟨oj,bd,cC⟩:=fF j rj aI
   have hf:=(free j rj oj (by omega) aI bd (by rw [aK];simp [upto];omega)).2
   unfold eQ at hf
   simp only [K1 aQ,K2,K6,Lm,LI,Lo] at hf
   cases hw:wg id r with
   |none=>exact .inr rfl
   |some y=>
    left
    cases hw2:wg id rj with
    |none=>rfl
    |some y2=>
     exfalso
     have k1:id∈r.keys:=jx (by unfold wg at hw;rw [hw];simp)
     have k2:id∈rj.keys:=jx (by unfold wg at hw2;rw [hw2];simp)
     exact (hf.1 id k1).2 k2
  refine hK _ _ ⟨⟨E',rfl,hle.trans hE,fun t ht=> ?_, ?_,fun id hh=> ?_, ?_,EA E E' v EB hE⟩, ?_,hI.below.trans hB,hI.gl,by simpa using hI.eZ,fun j hj aK e he=> ?_⟩
  ·rw [lK t]
   have:=mE hE h1 hv o.dst t
   rw [hI.size] at this
   have e9:bw n o.dst r.val (fun t=>if sx t=true then AV.dead else bu n (fun j=>listed.getD j false) rs σ t) t=bw n o.dst r.val (bu n (fun j=>listed.getD j false) rs σ) t:=by
    unfold bw
    split
    ·rfl
    ·exact K0 (by rw [ht];simp)
   rw [<-e9]
   exact this
  ·rw [show bq (fun j=>(listed.setIfInBounds i true).getD j false) rs g=au (bq (fun j=>listed.getD j false) rs g) r.ups from funext ng]
   exact hM
  ·rcases ba id hh with (h|h)|h
   ·rcases h3 id h with h|⟨j,rj,q1,q2,q3⟩
    ·exact .inl h
    ·exact .inr ⟨j,rj,getD_set_true q1,q2,q3⟩
   ·refine .inr ⟨i,r, ?_,cg, .inl h⟩
    rw [cR i,Lh,K1 rfl]
   ·refine .inr ⟨i,r, ?_,cg, .inr h⟩
    rw [cR i,Lh,K1 rfl]
  ·rw [(fZ a o.dst v).2];exact hmk.step hE
  ·rw [(fZ a o.dst v).1];exact hI.size
  ·rw [cR j,Lh] at aK
   by_cases br:j=i
   ·subst br
    exact getD_set_true (dm e he)
   ·rw [K0 br] at aK
    exact getD_set_true (hI.closed j hj aK e he)
 rcases hrun with ⟨mP,hrun⟩|⟨f,as_,k1,yn,cv,hal,cW,bS,EC⟩
 ·-- a name od Dv has
  have nV:∃fD,¬E.kn fD/\(r.fr∈r.ups.map Prod.fst->fD=r.fr):=by
   by_cases fW:r.fr∈r.ups.map Prod.fst
   ·refine ⟨r.fr,fun hk=> ?_,fun _=>rfl⟩
    rcases h3 _ hk with h|⟨j,rj,aK,aI,cz⟩
    ·omega
    ·by_cases aC:j=i
     ·subst aC;rw [cD] at aK;simp at aK
     ·rcases cz with cz|⟨k1,hk1,cz⟩
      rotate_left
      ·by_cases aQ:i<j
       ·have:=(tT j rj aC aI (by rw [aK];simp [upto];omega)).2.2 (tS hk1)
        rw [this] at fW;simp at fW
       ·have:=(c4 j i rj r (by omega) aI cg).2 k1 hk1
        omega
      by_cases aQ:i<j
      ·obtain ⟨oj,bd,_⟩:=fF j rj aI
       have hf:=(free j rj oj aC aI bd (by rw [aK];simp [upto];omega)).2
       unfold eQ at hf
       simp only [K1 aQ,K2,K6,Lm,LI,Lo] at hf
       exact (hf.1 _ fW).2 cz
      ·have:=(c4 j i rj r (by omega) aI cg).1 _ cz
       exact Mh _ this
   ·refine ⟨k',fun hk=> ?_,fun h=>absurd h fW⟩
    rcases h3 _ hk with h|⟨j,rj,aK,aI,cz|⟨k1,hk1,cz⟩⟩
    ·omega
    ·exact Mh _ ((c5 j rj aI).1 _ cz)
    ·exact Mh _ (Lr cz ((c5 j rj aI).2 k1 hk1))
  obtain ⟨fD,tj,tl⟩:=nV
  obtain ⟨td,tm⟩:=hrun.local hσ hg tl
  exact tc (hI.gl.step hle) h1 h2 tj m2 gT tm fun v E' hE hv hM hB ba=>fin v E' hE hv hM hB fun id h=> .inl (ba id h)
 ·have tU:=tS yn
  have tV:bq (fun j=>listed.getD j false) rs g=bq (upto i) rs g:=by
   funext id
   refine ik _ 0 _ fun j rj aI hl=> ?_
   rw [Lh] at hl
   by_cases aC:j=i
   ·subst aC;rw [cD] at hl;simp [upto] at hl
   ·unfold wg;rw [(tT j rj aC aI hl).2.1 tU];rfl
  have EE:∀id,E.kn id->id<r.fr:=by
   intro id hid
   rcases h3 id hid with h|⟨j,rj,aK,aI,cz⟩
   ·omega
   ·by_cases aC:j=i
    ·subst aC;rw [cD] at aK;simp at aK
    ·by_cases aQ:i<j
     ·have gM:=tT j rj aC aI (by rw [aK];simp [upto];omega)
      rcases cz with cz|⟨x,hx,cz⟩
      ·unfold Rec.keys at cz;rw [gM.2.1 tU] at cz;simp at cz
      ·have:=gM.1;rw [tU,tS hx] at this;simp at this
     ·rcases cz with cz|⟨x,hx,cz⟩
      ·exact (c4 j i rj r (by omega) aI cg).1 _ cz
      ·have:=(c4 j i rj r (by omega) aI cg).2 x hx;omega
  have EF:bL (fun t=>if sx t=true then AV.dead else bu n (fun j=>listed.getD j false) rs σ t) o.guard=some true:=by
   rw [<-cv]
   cases hg0:o.guard with
   |none=>rfl
   |some p=>
    obtain ⟨t,w⟩:=p
    simp only [bL,hσ t (by simp [az.gO,hg0])]
  have EG:(o.ao.ae r.fr (aE (fun t=>if sx t=true then AV.dead else bu n (fun j=>listed.getD j false) rs σ t))).run (bq (fun j=>listed.getD j false) rs g)=some (.call f as_):=by
   rw [tV,xV r.fr fun t ht=>hσ t (by simp [az.gO,ht])];exact cW
  have hdd:=n8 gT
  have tW:∀e,op.semAt (cp rd).round e=execOp e op:=fun e=>MS (cp rd) _ _ (mD hdd.2)
  unfold wpOpIn
  simp only [m2]
  rw [jw h1 gT EF,K1 rfl]
  obtain ⟨vs,e1,e2⟩:=nX (dC.of (hI.gl.step hle) h1) hdd.2 EG bS
  unfold Oper.wpIn
  rw [tW,e1,Oper.uponIn_enter]
  have yp:=h2
  rw [tV] at yp
  refine ⟨iT,mC,n6 ((EC E J base vs (hI.gl.step hle) yp EE e2).mono ?_)⟩
  rintro e w' ⟨v,E',rfl,rfl,q1,q2,q3,q4,q5⟩
  have kJ:=fin v E' q1 q2 (by rw [tV];exact q3) q4 fun id h=> .inr ⟨k1,yn,q5 id h⟩
  rw [hdd.1] at kJ
  exact kJ
theorem EH (dj:eo P n os σ g k rs hs σ' g' k') (hlen:os.length=ops.size) (cd:eR os dep=true) (hid:eE rs dep=true) (bS:∀(j:Nat),j<ops.size->listed.getD j false=true->∀e,e∈(dep[j]?).getD []->listed.getD e false=true) (cQ:listed.size=ops.size)
 (cm:i<ops.size) (ho:os[i]? =some o) (cg:rs[i]? =some r) (bX:r.dst=o.dst) (cD:listed.getD i false=false):
  (∀t,bu n (fun j=>(listed.setIfInBounds i true).getD j false) rs σ t=bw n o.dst r.val (bu n (fun j=>listed.getD j false) rs σ) t)/\(∀id,bq (fun j=>(listed.setIfInBounds i true).getD j false) rs g id=au (bq (fun j=>listed.getD j false) rs g) r.ups id)/\∀j rj,i<j->rs[j]? =some rj->listed.getD j false=true->¬i∈(dep[j]?).getD []/\eQ r rj=true:=by
 obtain ⟨⟨c1,tR⟩,c2,c3,c4,c5,c6,c7⟩:=qw dj
 have fF:∀(j:Nat) rj,rs[j]? =some rj->∃oj,os[j]? =some oj/\rj.dst=oj.dst:=fun j rj aI=>by
  have aX:j<os.length:=by rw [<-c1];exact (K8.1 aI).1
  obtain ⟨r',q1,q2,_,_⟩:=c3 j _ (Lj aX)
  rw [aI] at q1;simp only [KZ] at q1;subst q1
  exact ⟨_,Lj aX,q2⟩
 have ek:∀j,i<j->j<ops.size->listed.getD j false=true->¬i∈(dep[j]?).getD []:=fun j aQ hj aK cN=>by
  have:=bS j hj aK i cN
  rw [cD] at this;simp at this
 have free:∀j rj oj,i<j->rs[j]? =some rj->os[j]? =some oj->listed.getD j false=true->(gQ o oj=true/\eQ r rj=true):=by
  intro j rj oj aQ aI bd aK
  have aX:j<os.length:=(K8.1 bd).1
  unfold eR at cd
  unfold eE at hid
  simp only [K6,LH,Ls,Mi] at cd hid
  have cy:=ek j aQ (by omega) aK
  have s1:=(cd j aX i aQ).resolve_left cy
  have s2:=(hid j (by rw [c1];exact aX) i aQ).resolve_left cy
  rw [ho,bd] at s1;rw [cg,aI] at s2
  exact ⟨s1,s2⟩
 -- it is listed now
 have cR:∀j,(listed.setIfInBounds i true).getD j false=if j=0+i then true else listed.getD j false:=by
  intro j
  rw [Lh]
  have gf:i<listed.size:=by rw [cQ];exact cm
  by_cases br:j=i
  ·subst br;simp [gf]
  ·rw [K0 br,getD_set_ne false (Ne.symm br)]
 have lK:∀t,bu n (fun j=>(listed.setIfInBounds i true).getD j false) rs σ t=bw n o.dst r.val (bu n (fun j=>listed.getD j false) rs σ) t:=by
  intro t
  rw [<-bX,jy]
  refine lG rs 0 i _ r cg (by rw [Lh];exact cD) cR fun j rj aQ aI aK=> ?_
  rw [Lh] at aK
  obtain ⟨oj,bd,cC⟩:=fF j rj aI
  have hf:=(free j rj oj aQ aI bd aK).1
  unfold gQ at hf
  by_cases gx:r.dst=some t
  ·left
   unfold gP
   rw [K0]
   rintro ⟨c9,_⟩
   rw [bX] at gx
   rw [cC] at c9
   simp only [gx,c9,K2,bne_iff_ne,ne_eq] at hf
   exact hf.1.2 trivial
  ·right
   unfold gP
   rw [K0]
   rintro ⟨c9,_⟩
   exact gx c9
 have ng:∀id,bq (fun j=>(listed.setIfInBounds i true).getD j false) rs g id=au (bq (fun j=>listed.getD j false) rs g) r.ups id:=by
  intro id
  rw [iU]
  refine lG rs 0 i _ r cg (by rw [Lh];exact cD) cR fun j rj aQ aI aK=> ?_
  rw [Lh] at aK
  obtain ⟨oj,bd,cC⟩:=fF j rj aI
  have hf:=(free j rj oj aQ aI bd aK).2
  unfold eQ at hf
  simp only [K2,K6,Lm,LI,Lo] at hf
  cases hw:wg id r with
  |none=>exact .inr rfl
  |some y=>
   left
   cases hw2:wg id rj with
   |none=>rfl
   |some y2=>
    exfalso
    have k1:id∈r.keys:=jx (by unfold wg at hw;rw [hw];simp)
    have k2:id∈rj.keys:=jx (by unfold wg at hw2;rw [hw2];simp)
    exact (hf.1 id k1).2 k2
 refine ⟨lK,ng,fun j rj aQ aI aK=> ?_⟩
 obtain ⟨oj,bd,_⟩:=fF j rj aI
 exact ⟨ek j aQ (by rw [<-hlen];exact (K8.1 bd).1) aK,(free j rj oj aQ aI bd aK).2⟩
def EI (w:World) (b:Nat) (zs:List AV):Prop:=∃(arr:Array Value) (t:TypeId),w.heap[b]? =some (.cells arr t (0,0))/\zs.length<=arr.size/\∀(j:Nat) x,zs[j]? =some x->∃u,arr[j]? =some u/\u.oneCell'=true/\∀E:Env,af E u x
def mQ (E0:Env) (n base b:Nat) (zs:List AV) (d:Option Nat) (E:Env) (a:Act):Prop:=E.X b/\¬E0.X b/\base<=b/\(∀t,d=some t->t<n->a.tmps.getD t undef= .pointer (some ⟨b,0,none⟩))/\EI E.w b zs
def jH (n:Nat) (d:Option Nat) (t:Nat):Bool:=d==some t&&Nat.blt t n
theorem fa.bM (dj:eo P n os σ g k rs hs σ' g' k') (hlen:os.length=ops.size) (cd:eR os dep=true) (hid:eE rs dep=true) (hcs:gU jn rs hs dep=true) {zs:List AV} {b:Nat}
  (hI:fa E0 n ops dep J base w0 σ g k rs hs (jH n o.dst) (mQ E0 n base b zs o.dst) listed a w) (cm:jn<ops.size) (ho:os[jn]? =some o) (cg:rs[jn]? =some r) (bX:r.dst=o.dst) (cD:listed.getD jn false=false) (dm:∀e,e∈(dep[jn]?).getD []->listed.getD e false=true)
  (hz:0<zs.length) (qx:r.val= .ref r.fr zs.length 0 0) (mN:r.ups=[(r.fr,some ⟨zs.length,[zs]⟩)]) (dW:k<=r.fr):
  fa E0 n ops dep J base w0 σ g k rs hs (fun _=>false) (fun _ _=>True) (listed.setIfInBounds jn true) a w:=by
 obtain ⟨⟨c1,tR⟩,c2,c3,c4,c5,c6,c7⟩:=qw dj
 obtain ⟨lK,ng,EJ⟩:=EH dj hlen cd hid hI.closed hI.eZ cm ho cg bX cD
 obtain ⟨E,rfl,hle,h1,h2,h3,hmk,⟨p1,p2,p3,p4,arr,t0,p5,p6,p7⟩⟩:=hI.ex
 have hk:r.fr∈r.keys:=by unfold Rec.keys;rw [mN];simp
 have hf:¬E.kn r.fr:=fun ba=>by
  rcases h3 _ ba with h|⟨j,rj,aK,aI,cz⟩
  ·omega
  ·by_cases aC:j=jn
   ·subst aC;rw [cD] at aK;simp at aK
   ·by_cases aQ:jn<j
    ·obtain ⟨q1,q2⟩:=EJ j rj aQ aI aK
     rcases cz with cz|⟨k1,hk1,_⟩
     ·unfold eQ at q2
      simp only [K2,K6,Lm,LI,Lo] at q2
      exact (q2.1 _ hk).2 cz
     ·have aX:j<rs.length:=(K8.1 aI).1
      unfold gU at hcs
      simp only [K6,LH,Ls,Mi] at hcs
      have s2:=(hcs j aX jn aQ).resolve_left q1
      rw [cg,aI] at s2
      simp only [K2,Ls,Lm,L9] at s2
      have hc:cj hs j=true:=by unfold cj;rw [hk1]
      have:=s2.2.2.resolve_left (by rw [hc];simp)
      rw [this] at mN;simp at mN
    ·have br:j<jn:=by omega
     rcases cz with cz|⟨k1,hk1,cz⟩
     ·exact Mh _ ((c4 j jn rj r br aI cg).1 _ cz)
     ·have:=(c4 j jn rj r br aI cg).2 k1 hk1
      omega
 obtain ⟨E',hw,hR,hM,q1,q2,q3,q4,q5,q6⟩:=h2.Ez r.fr hf b p1 ⟨zs.length,[zs]⟩ (fun kr hw=>by
  refine cx.iI ⟨p3,arr,(t0,0),by rw [hw];exact p5,by simpa using p6,fun i cs hi=> ?_⟩ (by show zs.length≠0;omega)
  cases i with
  |zero=>
   simp only [LB,KZ] at hi
   subst hi
   refine ⟨rfl,fun j x hj=> ?_⟩
   obtain ⟨u,u1,u2,u3⟩:=p7 j x hj
   exact ⟨u,by simpa using u1,u2,u3 _⟩
  |succ i=>simp at hi)
 refine ⟨⟨E',hw,q5 E0 hle p2,fun t _=> ?_, ?_,fun id hh=> ?_,hmk.xN fun b hb=>⟨q6 b hb,by rw [hw]⟩,trivial⟩,hI.size,hI.below,hI.gl,by simpa using hI.eZ,fun j hj aK e he=> ?_⟩
 ·rw [lK t]
  by_cases ht:o.dst=some t/\t<n
  ·rw [show bw n o.dst r.val (bu n (fun j=>listed.getD j false) rs σ) t=r.val from K1 ht,qx,p4 t ht.1 ht.2]
   exact .ref q2 q3 q4 (by simp) (by omega)
  ·rw [show bw n o.dst r.val (bu n (fun j=>listed.getD j false) rs σ) t=bu n (fun j=>listed.getD j false) rs σ t from K0 ht]
   refine hR (h1 t ?_)
   unfold jH
   rw [Bool.and_eq_false_iff]
   by_cases hd:o.dst=some t
   ·right
    have:¬t<n:=fun h=>ht ⟨hd,h⟩
    cases hb:Nat.blt t n with
    |false=>rfl
    |true=>exact absurd (LV hb) this
   ·left;simpa using hd
 ·rw [show bq (fun j=>(listed.setIfInBounds jn true).getD j false) rs g=au (bq (fun j=>listed.getD j false) rs g) r.ups from funext ng,mN]
  exact hM
 ·rcases q1 id hh with h|h
  ·rcases h3 id h with h|⟨j,rj,q1,q2,q3⟩
   ·exact .inl h
   ·exact .inr ⟨j,rj,getD_set_true q1,q2,q3⟩
  ·refine .inr ⟨jn,r, ?_,cg, .inl (h▸hk)⟩
   have gf:jn<listed.size:=by rw [hI.eZ];exact cm
   simp [gf]
 ·by_cases br:j=jn
  ·subst br;exact getD_set_true (dm e he)
  ·rw [getD_set_ne false (Ne.symm br)] at aK
   exact getD_set_true (hI.closed j hj aK e he)
theorem EK {o:Oper} {zs:List AV} (h:bA P o=some (.new zs)):∃t,o.op= .alloc t/\fu P t=some zs/\0<zs.length:=by
 obtain ⟨dst,op,type,pos,after,guard⟩:=o
 cases op
 case alloc t=>
  simp only [bA] at h
  split at h
  ·split at h
   ·simp only [KZ,AO.new.injEq] at h;subst h;exact ⟨t,rfl,by assumption,by assumption⟩
   ·simp at h
  ·simp at h
 all_goals
  exfalso
  simp only [bA] at h
  first
   |(simp at h;done)
   |((repeat' split at h)<;>simp at h<;>done)
   |((repeat' split at h)<;>simp_all)
theorem EM {rd:Option Nat} (hI:fa E0 n ops dep J base w0 σ g k rs hs (fun _=>false) (fun _ _=>True) listed a w) {zs:List AV} (m2:ops[i]? =some op) (gT:eP P ops op=some o) (hg:o.guard=none) (cw:o.ao= .new zs)
 (hK:∀a' w' b,0<zs.length->fa E0 n ops dep J base w0 σ g k rs hs (jH n o.dst) (mQ E0 n base b zs o.dst) listed a' w'->K a' w'):wpOpIn (cp rd) 0 P ops Q i K a w:=by
 obtain ⟨E,rfl,hle,lj,h2,h3,hmk,_⟩:=hI.ex
 have h1:∀t,af E (a.tmps.getD t undef) (bu n (fun j=>listed.getD j false) rs σ t):=fun t=>lj t rfl
 have hdd:=n8 gT
 have tW:∀e,op.semAt (cp rd).round e=execOp e op:=fun e=>MS (cp rd) _ _ (mD hdd.2)
 obtain ⟨t,bK,EN,hz0⟩:=EK (hdd.2.trans (by rw [cw]))
 obtain ⟨ii,z,hi,hz,hsz,hcs,dD,cI⟩:=lg EN
 have hrun:(execOp a.eval op).run P E.w= .ok (.value (.pointer (some ⟨E.w.heap.size,0,none⟩))) (E.w.alloc (.cells z.cells t)):=by
  obtain ⟨dst,op,type,pos,after,guard⟩:=op
  simp only at bK
  subst bK
  simp [execOp,Instr.alloc,zeroValue,typeInfo,hi,hz,newVar,newRow]
 unfold wpOpIn
 simp only [m2]
 rw [jw h1 gT (b:=true) (by rw [hg];rfl),K1 rfl]
 unfold Oper.wpIn
 rw [tW,hrun]
 obtain ⟨E',hw,hE,hM,ba,hX⟩:=h2.Ey (.cells z.cells t)
 have kJ:K (a.put o.dst (.pointer (some ⟨E.w.heap.size,0,none⟩))) E'.w:=by
  refine hK _ _ E.w.heap.size hz0 ⟨⟨E',rfl,hle.trans hE,fun s hs=> ?_,hM,fun id h=>h3 id (ba id h),by rw [(fZ a o.dst _).2];exact hmk.step hE,hX,fun tQ=> ?_,h2.size,fun s hd hn=> ?_,z.cells,t,by rw [hw];exact heap_alloc_new E.w _,by omega,fun j x hj=> ?_⟩,by rw [(fZ a o.dst _).1];exact hI.size,by rw [hw];exact hI.below.alloc h2.size _,hI.gl,hI.eZ,hI.closed⟩
  ·have:(a.put o.dst (.pointer (some ⟨E.w.heap.size,0,none⟩))).tmps.getD s undef=a.tmps.getD s undef:=by
    unfold jH at hs
    cases hd:o.dst with
    |none=>rfl
    |some d=>
     rw [hd] at hs
     simp only [Act.put]
     by_cases e:d=s
     ·subst e
      have hn:¬d<n:=fun h=>by
       have hb:Nat.blt d n=true:=Nat.ble_eq_true_of_le h
       rw [hb] at hs;simp at hs
      rw [<-hI.size] at hn
      simp [hn]
     ·simp [MP,MV,e]
   rw [this]
   exact (h1 s).step hE
  ·have:=(h2.xo _ (hle.fx _ tQ).1).1
   omega
  ·rw [hd]
   simp only [Act.put]
   rw [<-hI.size] at hn
   simp [hn]
  ·have hY:j<zs.length:=(K8.1 hj).1
   have gS:j<z.cells.size:=by omega
   have EO:=(cI E j z.cells[j] x (Lg gS) hj).one (by simp only [K6] at dD;exact dD _ (LJ hj))
   exact ⟨z.cells[j],Lg gS,EO,fun kr=>cI kr j _ x (Lg gS) hj⟩
 rw [hw] at kJ
 rw [hdd.1] at kJ
 exact ⟨iT,kJ⟩
theorem qy {A:Array Bool} (h:i<A.size):(A.setIfInBounds i true).getD i false=true:=by simp [h]
theorem EP {rd:Option Nat} (dj:eo P n os σ g k rs hs σ' g' k') (hlen:os.length=ops.size) (dG:∀(j:Nat) op,ops[j]? =some op->∃o,os[j]? =some o/\eP P ops op=some o)
  (hd:gz ops.toList dep=true) (cd:eR os dep=true) (hid:eE rs dep=true) (hcs:gU jn rs hs dep=true) (jI:∀o,os[jn]? =some o->gg o=true) (hQ:∀a w,eg E0 J base w0 n σ' g' k' a w->Q .normal a w):
  ∀(fuel:Nat) (listed:Array Bool) (a:Act) (w:World),listed.size=ops.size->(∀(j:Nat) op,ops[j]? =some op->listed.getD j false=true->∀e,e∈dg op->listed.getD e false=true)->
   ((fa E0 n ops dep J base w0 σ g k rs hs (fun _=>false) (fun _ _=>True) listed a w/\(listed.getD jn false=true->∀c,c<jn->cj hs c=true->¬c∈(dep[jn]?).getD []->listed.getD c false=true))\/
    ∃(L:Array Bool) (o:az) (zs:List AV) (b:Nat),os[jn]? =some o/\o.ao= .new zs/\0<zs.length/\listed.getD jn false=true/\(∀j,L.getD j false=(listed.getD j false&& !Nat.beq j jn))/\fa E0 n ops dep J base w0 σ g k rs hs (jH n o.dst) (mQ E0 n base b zs o.dst) L a w/\∃c,c<jn/\cj hs c=true/\¬c∈(dep[jn]?).getD []/\kK dep c jn=true)->
   (∀m:List Nat,(∀j,j∈m->j<ops.size/\listed.getD j true=false)->m.Nodup->m.length<=fuel)->wpAnyIn (cp rd) 0 P .any ops Q fuel listed a w:=by
 have tX:=dj
 obtain ⟨⟨c1,tR⟩,c2,c3,c4,c5,c6,c7⟩:=qw dj
 have yq:∀(listed:Array Bool),listed.size=ops.size->Region.ready .any ops listed=[]->∀j,j<ops.size->listed.getD j false=true:=by
  intro listed cQ lN j
  induction j using Nat.strongRecOn with
  |_ j ih=>
   intro hj
   cases hl:listed.getD j false with
   |true=>rfl
   |false=>
    exfalso
    have jz:j<listed.size:=by rw [cQ];exact hj
    have:j∈Region.ready .any ops listed:=by
     rw [mem_ready]
     refine ⟨by simp [jz] at hl ⊢; exact hl,ops[j],Lg hj,fun e he hb=> ?_⟩
     have cC:=hd
     unfold gz at cC
     simp only [K2,K6,LH,Ly] at cC
     have gS:=(cC.2 j (by simpa using hj)).1
     have lI:ops.toList[j]? =some ops[j]:=by simp [hj]
     simp only [lI,Ld,L8] at gS
     have hlt:=gS e.on (mG.2 ⟨e,he,hb,rfl⟩)
     exact ih e.on hlt (by omega)
    rw [lN] at this
    simp at this
 have ER:∀j,j<ops.size->∀e,e∈(dep[j]?).getD []->e<j:=fun j hj e he=>by
  have cC:=hd
  unfold gz at cC
  simp only [K2,K6,LH,Ly] at cC
  have:=((cC.2 j (by simpa using hj)).2 e he).1
  simpa using this
 -- ig block od waits KG KH own where all calls ahead of it CH done
 have norm:∀(listed:Array Bool) (a:Act) (w:World),listed.size=ops.size->(∀(j:Nat) op,ops[j]? =some op->listed.getD j false=true->∀e,e∈dg op->listed.getD e false=true)->
   (∃(L:Array Bool) (o:az) (zs:List AV) (b:Nat),os[jn]? =some o/\o.ao= .new zs/\0<zs.length/\listed.getD jn false=true/\(∀j,L.getD j false=(listed.getD j false&& !Nat.beq j jn))/\fa E0 n ops dep J base w0 σ g k rs hs (jH n o.dst) (mQ E0 n base b zs o.dst) L a w/\∃c,c<jn/\cj hs c=true/\¬c∈(dep[jn]?).getD []/\kK dep c jn=true)->
   (∀c,c<jn->cj hs c=true->¬c∈(dep[jn]?).getD []->listed.getD c false=true)->
   fa E0 n ops dep J base w0 σ g k rs hs (fun _=>false) (fun _ _=>True) listed a w:=by
  rintro listed a w cQ bS ⟨L,o,zs,b,ho,cw,hz,aK,hL,hI,_⟩ bz
  have cm:jn<ops.size:=by rw [<-hlen];exact (K8.1 ho).1
  obtain ⟨r,cg,bX,hrun,dW⟩:=c3 jn o ho
  have hg:o.guard=none:=by
   have:=jI o ho
   unfold gg at this
   split at this
   ·assumption
   ·simp at this
  have yr:r.val= .ref r.fr zs.length 0 0/\r.ups=[(r.fr,some ⟨zs.length,[zs]⟩)]:=by
   rcases hrun with ⟨_,hrun⟩|⟨f,as_,k1,_,_,_,cW,_⟩
   ·generalize hv:r.val=v at hrun ⊢
    generalize hu:r.ups=u at hrun ⊢
    generalize ha:r.acc=ac at hrun
    cases hrun with
    |skip cv=>rw [hg] at cv;simp [bL] at cv
    |done cv h=>rw [cw] at h;simp [AO.ae,RM.run] at h;exact ⟨h.1.symm,h.2.symm⟩
    |call cv h=>rw [cw] at h;simp [AO.ae,RM.run] at h
    |lF cv h=>rw [cw] at h;simp [AO.ae,RM.run] at h
   ·rw [cw] at cW;simp [AO.ae,RM.run] at cW
  have ES:L.getD jn false=false:=by rw [hL];simp [Nat.beq_refl]
  have dm:∀e,e∈(dep[jn]?).getD []->L.getD e false=true:=fun e he=>by
   have hlt:=ER jn cm e he
   have h1:=lH hd bS jn ops[jn] (Lg cm) (bS jn _ (Lg cm) aK) e he
   rw [hL,h1]
   cases hb:Nat.beq e jn with
   |false=>rfl
   |true=>have:=Lk hb;omega
  have yu:=hI.bM tX hlen cd hid hcs cm ho cg bX ES dm hz yr.1 yr.2 dW
  have ET:L.size=listed.size:=by rw [hI.eZ,cQ]
  have:L.setIfInBounds jn true=listed:=by
   apply Array.ext
   ·simp [ET]
   ·intro i h1 h2
    have lB:i<L.size:=by simpa using h1
    have e1:(L.setIfInBounds jn true)[i]=(L.setIfInBounds jn true).getD i false:=by rw [MP,Lg h1];rfl
    have e2:listed[i]=listed.getD i false:=by rw [MP,Lg h2];rfl
    rw [e1,e2]
    by_cases e:jn=i
    ·subst e;rw [qy lB,aK]
    ·rw [getD_set_ne false e,hL]
     have:Nat.beq i jn=false:=by
      cases hb:Nat.beq i jn with
      |false=>rfl
      |true=>exact absurd (Lk hb).symm e
     rw [this];simp
  rw [this] at yu
  exact yu
 have done:∀(listed:Array Bool) (a:Act) (w:World),listed.size=ops.size->Region.ready .any ops listed=[]->fa E0 n ops dep J base w0 σ g k rs hs (fun _=>false) (fun _ _=>True) listed a w->Q .normal a w:=by
  intro listed a w cQ lN hI
  have bz:=yq listed cQ lN
  obtain ⟨E,rfl,hle,h1,h2,h3,hmk,_⟩:=hI.ex
  have h1:∀t,af E (a.tmps.getD t undef) (bu n (fun j=>listed.getD j false) rs σ t):=fun t=>h1 t rfl
  have e6:bu n (fun j=>listed.getD j false) rs σ=σ':=by
   rw [c6];funext t
   refine ik _ 0 _ fun j r hr hl=>absurd ?_ hl
   rw [Lh,bz j (by rw [<-hlen, <-c1];exact (K8.1 hr).1)]
  have e7:bq (fun j=>listed.getD j false) rs g=g':=by
   rw [c7];funext t
   refine ik _ 0 _ fun j r hr hl=>absurd ?_ hl
   rw [Lh,bz j (by rw [<-hlen, <-c1];exact (K8.1 hr).1)]
  rw [funext fun t=>congrFun e6 t] at h1
  rw [e7] at h2
  refine hQ a E.w ⟨⟨E,rfl,hle,h1,h2,fun id hh=> ?_,hmk⟩,hI.size,hI.below,hI.gl⟩
  rcases h3 id hh with h|⟨j,r,_,hr,hk|⟨k1,hk1,hk⟩⟩
  ·exact Lr h c2
  ·exact (c5 j r hr).1 id hk
  ·exact Lr hk ((c5 j r hr).2 k1 hk1)
 have yv:∀(listed:Array Bool) (a:Act) (w:World),listed.size=ops.size->(∀(j:Nat) op,ops[j]? =some op->listed.getD j false=true->∀e,e∈dg op->listed.getD e false=true)->_->Region.ready .any ops listed=[]->Q .normal a w:=fun listed a w cQ bS hI lN=>by
  have hI:(fa E0 n ops dep J base w0 σ g k rs hs (fun _=>false) (fun _ _=>True) listed a w/\(listed.getD jn false=true->∀c,c<jn->cj hs c=true->¬c∈(dep[jn]?).getD []->listed.getD c false=true))\/
    ∃(L:Array Bool) (o:az) (zs:List AV) (b:Nat),os[jn]? =some o/\o.ao= .new zs/\0<zs.length/\listed.getD jn false=true/\(∀j,L.getD j false=(listed.getD j false&& !Nat.beq j jn))/\fa E0 n ops dep J base w0 σ g k rs hs (jH n o.dst) (mQ E0 n base b zs o.dst) L a w/\∃c,c<jn/\cj hs c=true/\¬c∈(dep[jn]?).getD []/\kK dep c jn=true:=hI
  rcases hI with ⟨hI,_⟩|hI
  ·exact done listed a w cQ lN hI
  ·refine done listed a w cQ lN (norm listed a w cQ bS hI fun c hc _ _=> ?_)
   obtain ⟨_,o,_,_,ho,_⟩:=hI
   exact yq listed cQ lN c (by have:=(K8.1 ho).1;omega)
 intro fuel
 induction fuel with
 |zero=>
  intro listed a w cQ bS hI eS
  have hr:Region.ready .any ops listed=[]:=by
   cases hr:Region.ready .any ops listed with
   |nil=>rfl
   |cons x xs=>
    have hx:x∈Region.ready .any ops listed:=by rw [hr];simp
    obtain ⟨m1,o,m2,_⟩:=mem_ready.1 hx
    have:=eS [x] (fun j hj=>by simp at hj;subst hj;exact ⟨(LQ.1 m2).1,m1⟩) (by simp)
    simp at this
  exact ⟨hr,yv listed a w cQ bS hI hr⟩
 |succ fuel ih=>
  intro listed a w cQ bS hI eS
  refine ⟨yv listed a w cQ bS hI,fun i hi=> ?_⟩
  obtain ⟨m1,op,m2,m3⟩:=mem_ready.1 hi
  have cm:i<ops.size:=(LQ.1 m2).1
  have gf:i<listed.size:=by rw [cQ];exact cm
  have cD:listed.getD i false=false:=by
   simp [gf] at m1 ⊢; exact m1
  have yw:∀e,e∈dg op->listed.getD e false=true:=fun e he=>by
   obtain ⟨x,hx,hb,rfl⟩:=mG.1 he
   exact m3 x hx hb
  have dm:∀e,e∈(dep[i]?).getD []->listed.getD e false=true:=fun e he=>lH hd bS i op m2 yw e he
  obtain ⟨o,ho,gT⟩:=dG i op m2
  have tY:∀(j:Nat) op,ops[j]? =some op->(listed.setIfInBounds i true).getD j false=true->∀e,e∈dg op->(listed.setIfInBounds i true).getD e false=true:=fun j oj bd aK e he=>by
   by_cases br:j=i
   ·subst br
    rw [m2] at bd;simp only [KZ] at bd;subst bd
    exact getD_set_true (yw e he)
   ·rw [getD_set_ne false (Ne.symm br)] at aK
    exact getD_set_true (bS j oj bd aK e he)
  have tZ:∀m:List Nat,(∀j,j∈m->j<ops.size/\(listed.setIfInBounds i true).getD j true=false)->m.Nodup->m.length<=fuel:=fun m hm cy=>by
   have kC:i∉m:=fun cN=>by
    have:=(hm i cN).2
    simp [gf] at this
   have:=eS (i::m) (fun j hj=>by
    rcases Lc.1 hj with rfl|hj
    ·exact ⟨cm,m1⟩
    ·refine ⟨(hm j hj).1, ?_⟩
     have h5:=(hm j hj).2
     have br:i≠j:=fun e=>kC (e▸hj)
     rwa [getD_set_ne true br] at h5) (List.nodup_cons.2 ⟨kC,cy⟩)
   simpa using this
  have ua:(listed.setIfInBounds i true).size=ops.size:=by simpa using cQ
  -- either nothing waits, or a call ahead of ig block is still to be done
  have iS:(fa E0 n ops dep J base w0 σ g k rs hs (fun _=>false) (fun _ _=>True) listed a w/\(listed.getD jn false=true->∀c,c<jn->cj hs c=true->¬c∈(dep[jn]?).getD []->listed.getD c false=true))\/
    ((∃(L:Array Bool) (o:az) (zs:List AV) (b:Nat),os[jn]? =some o/\o.ao= .new zs/\0<zs.length/\listed.getD jn false=true/\(∀j,L.getD j false=(listed.getD j false&& !Nat.beq j jn))/\fa E0 n ops dep J base w0 σ g k rs hs (jH n o.dst) (mQ E0 n base b zs o.dst) L a w/\∃c,c<jn/\cj hs c=true/\¬c∈(dep[jn]?).getD []/\kK dep c jn=true)/\∃c,c<jn/\cj hs c=true/\¬c∈(dep[jn]?).getD []/\listed.getD c false=false):=by
   rcases hI with hI|hI
   ·exact .inl hI
   ·by_cases bz:∀c,c<jn->cj hs c=true->¬c∈(dep[jn]?).getD []->listed.getD c false=true
    ·exact .inl ⟨norm listed a w cQ bS hI bz,fun _=>bz⟩
    ·right
     refine ⟨hI,Classical.byContradiction fun hx=>bz fun c q1 q2 q3=> ?_⟩
     cases hc:listed.getD c false with
     |true=>rfl
     |false=>exact absurd ⟨c,q1,q2,q3,hc⟩ hx
  clear hI
  rcases iS with ⟨hI,hq⟩|⟨⟨L,oj,zs,b,bd,cw,hz,aK,hL,hI,hca⟩,c0,hc0,lM,hc2,tM⟩
  ·have plain:(i=jn->∀c,c<i->cj hs c=true->¬c∈(dep[i]?).getD []->listed.getD c false=true)->wpOpIn (cp rd) 0 P ops Q i (fun a w=>wpAnyIn (cp rd) 0 P .any ops Q fuel (listed.setIfInBounds i true) a w) a w:=fun mO=>by
    refine ym tX hlen cd hid hcs hI m2 ho gT cD dm (fun _ _=>rfl) (fun hc hl hlt=> ?_) mO (fun _ _ _ _ _=>trivial) fun a' w' ir=>ih _ a' w' ua tY (.inl ⟨ir,fun hl c q1 q2 q3=> ?_⟩) tZ
    ·exact Classical.byContradiction fun hx=>by
      have:=hq hl i hlt hc hx
      rw [cD] at this;simp at this
    ·by_cases e:i=jn
     ·have:=mO e c (by omega) q2 (by rw [e];exact q3)
      exact getD_set_true this
     ·rw [getD_set_ne false e] at hl
      exact getD_set_true (hq hl c q1 q2 q3)
   by_cases e:i=jn
   ·by_cases bz:∀c,c<i->cj hs c=true->¬c∈(dep[i]?).getD []->listed.getD c false=true
    ·exact plain fun _=>bz
    ·have iN:=jI o (by rw [<-e];exact ho)
     obtain ⟨zs,cw,hg⟩:∃zs,o.ao= .new zs/\o.guard=none:=by
      unfold gg at iN
      split at iN
      ·rename_i zs h1 h2;exact ⟨zs,h1,h2⟩
      ·simp at iN
     obtain ⟨r,cg,bX,hrun,dW⟩:=c3 i o ho
     have lO:r.ups≠[]:=by
      rcases hrun with ⟨_,hrun⟩|⟨f,as_,k1,_,_,_,cW,_⟩
      ·generalize hu:r.ups=u at hrun
       generalize hv:r.val=v at hrun
       generalize ha:r.acc=ac at hrun
       cases hrun with
       |skip cv=>rw [hg] at cv;simp [bL] at cv
       |done cv h=>rw [cw] at h;simp [AO.ae,RM.run] at h;rw [<-h.2];simp
       |call cv h=>rw [cw] at h;simp [AO.ae,RM.run] at h
       |lF cv h=>rw [cw] at h;simp [AO.ae,RM.run] at h
      ·rw [cw] at cW;simp [AO.ae,RM.run] at cW
     have hex:∃c,c<i/\cj hs c=true/\¬c∈(dep[i]?).getD []:=Classical.byContradiction fun hx=>bz fun c q1 q2 q3=>absurd ⟨c,q1,q2,q3⟩ hx
     obtain ⟨c,q1,q2,q3⟩:=hex
     have hca:kK dep c i=true:=by
      have lP:=hcs
      unfold gU at lP
      simp only [K6,LH,Ls,Mi] at lP
      have EU:i<rs.length:=(K8.1 cg).1
      have s2:=(lP i EU c q1).resolve_left q3
      have ub:rs[c]? =some (rs[c]'(by omega)):=Lj (by omega)
      rw [ub,cg] at s2
      simp only [K2,Ls,Lm,L9] at s2
      exact ((s2.2.1.resolve_left (by rw [q2];simp)).resolve_left lO).2
     refine EM hI m2 gT hg cw fun a' w' b hz ir=>ih _ a' w' ua tY (.inr ⟨listed,o,zs,b,by rw [<-e];exact ho,cw,hz,by rw [<-e];exact qy gf,fun j=> ?_,ir,c,by omega,q2,by rw [<-e];exact q3,by rw [<-e];exact hca⟩) tZ
     by_cases ej:i=j
     ·subst ej;rw [cD,e,Nat.beq_refl];simp
     ·rw [getD_set_ne false ej]
      have:Nat.beq j jn=false:=by
       cases hb:Nat.beq j jn with
       |false=>rfl
       |true=>exact absurd ((Lk hb).trans e.symm).symm ej
      rw [this];simp
   ·exact plain fun h=>absurd h e
  ·have br:i≠jn:=fun e=>by rw [e,aK] at cD;simp at cD
   have yx:¬jn∈(dep[i]?).getD []:=fun cN=>by
    obtain ⟨c,q1,q2,q3,q4⟩:∃c,c<jn/\cj hs c=true/\¬c∈(dep[jn]?).getD []/\listed.getD c false=false:=⟨c0,hc0,lM,hc2,tM⟩
    have aX:jn<rs.length:=by rw [c1];exact (K8.1 bd).1
    obtain ⟨r,cg,bX,hrun,dW⟩:=c3 jn oj bd
    have hg:oj.guard=none:=by
     have:=jI oj bd
     unfold gg at this
     split at this
     ·assumption
     ·simp at this
    have lO:r.ups≠[]:=by
     rcases hrun with ⟨_,hrun⟩|⟨f,as_,k1,_,_,_,cW,_⟩
     ·generalize hu:r.ups=u at hrun
      generalize hv:r.val=v at hrun
      generalize ha:r.acc=ac at hrun
      cases hrun with
      |skip cv=>rw [hg] at cv;simp [bL] at cv
      |done cv h=>rw [cw] at h;simp [AO.ae,RM.run] at h;rw [<-h.2];simp
      |call cv h=>rw [cw] at h;simp [AO.ae,RM.run] at h
      |lF cv h=>rw [cw] at h;simp [AO.ae,RM.run] at h
     ·rw [cw] at cW;simp [AO.ae,RM.run] at cW
    have lP:=hcs
    unfold gU at lP
    simp only [K6,LH,Ls,Mi] at lP
    have s2:=(lP jn aX c q1).resolve_left q3
    have ub:rs[c]? =some (rs[c]'(by omega)):=Lj (by omega)
    rw [ub,cg] at s2
    simp only [K2,Ls,Lm,L9] at s2
    have uc:=((s2.2.1.resolve_left (by rw [q2];simp)).resolve_left lO).2
    unfold kK at uc
    simp only [K6,Ls,Lm,LI,Lo,Ly] at uc
    have EV:(dep[i]?).getD []∈dep:=by
     cases hx:dep[i]? with
     |none=>rw [hx] at cN;simp at cN
     |some d=>exact LJ hx
    have:=dm c ((uc _ EV).resolve_left fun h=>h cN)
    rw [q4] at this;simp at this
   have EX:L.getD i false=false:=by rw [hL,cD];simp
   have EY:∀e,e∈(dep[i]?).getD []->L.getD e false=true:=fun e he=>by
    rw [hL,dm e he]
    have:Nat.beq e jn=false:=by
     cases hb:Nat.beq e jn with
     |false=>rfl
     |true=>exact absurd ((Lk hb)▸he) yx
    rw [this];simp
   have EZ:L.getD jn false=false:=by rw [hL];simp [Nat.beq_refl]
   have aX:jn<os.length:=(K8.1 bd).1
   have E3:i<os.length:=(K8.1 ho).1
   -- ig slot of ig block od waits is not looked at
   have yy:∀d,oj.dst=some d->¬d∈o.gO/\o.dst≠some d:=fun d eL=>by
    have qz:=cd
    unfold eR at qz
    simp only [K6,LH,Ls,Mi] at qz
    by_cases hlt:jn<i
    ·have s1:=(qz i E3 jn hlt).resolve_left yx
     rw [bd,ho] at s1
     unfold gQ at s1
     simp only [eL,K2,Lm,LI,Lo,bne_iff_ne,ne_eq] at s1
     exact ⟨s1.1.1,fun h=>by rw [h] at s1;simp at s1⟩
    ·have qh:i<jn:=by omega
     have cy:¬i∈(dep[jn]?).getD []:=fun cN=>by
      have:=lH hd bS jn _ (Lg (by omega)) (bS jn _ (Lg (by omega)) aK) i cN
      rw [cD] at this;simp at this
     have s1:=(qz jn aX i qh).resolve_left cy
     rw [bd,ho] at s1
     unfold gQ at s1
     simp only [eL,K2,Lm,LI,Lo,bne_iff_ne,ne_eq] at s1
     cases hx:o.dst with
     |none=>rw [hx] at s1;simp at s1;exact ⟨s1,by simp⟩
     |some d2=>
      rw [hx] at s1
      simp at s1
      exact ⟨s1.2,fun h=>s1.1.2 (Option.some.inj h).symm⟩
   refine ym tX hlen cd hid hcs hI m2 ho gT EX EY (fun t ht=> ?_) (fun _ hl=>by rw [EZ] at hl;simp at hl) (fun h=>absurd h br) (fun E1 E2 v hp hE=> ?_) fun a' w' ir=>ih _ a' w' ua tY (.inr ⟨L.setIfInBounds i true,oj,zs,b,bd,cw,hz,getD_set_true aK,fun j=> ?_,ir,hca⟩) tZ
   ·unfold jH
    rw [Bool.and_eq_false_iff]
    left
    cases hx:oj.dst with
    |none=>rfl
    |some d=>
     have:=(yy d hx).1
     simp only [beq_eq_false_iff_ne,ne_eq,KZ]
     intro e;subst e;exact this ht
   ·obtain ⟨p1,p2,p3,p4,arr,t0,p5,p6,p7⟩:=hp
    refine ⟨(hE.fx b p1).1,p2,p3,fun t ht hn=> ?_,arr,t0,by rw [(hE.fx b p1).2];exact p5,p6,p7⟩
    rw [<-p4 t ht hn]
    have aC:=(yy t ht).2
    cases hx:o.dst with
    |none=>rfl
    |some d=>
     rw [hx] at aC
     have c9:d≠t:=fun e=>aC (by rw [e])
     simp only [Act.put]
     simp [MP,MV,c9]
   ·by_cases ej:i=j
    ·subst ej
     have hb:Nat.beq i jn=false:=by
      cases hb:Nat.beq i jn with
      |false=>rfl
      |true=>exact absurd (Lk hb) br
     rw [qy (by rw [hI.eZ];exact cm),qy gf,hb];rfl
    ·rw [getD_set_ne false ej,getD_set_ne false ej,hL]
theorem E4 {id:Nat} (tq:P.follows .mixedOrders=true) (dj:eo P n os σ g k rs hs σ' g' k') (hlen:os.length=ops.size) (dG:∀(j:Nat) op,ops[j]? =some op->∃o,os[j]? =some o/\eP P ops op=some o)
  (hd:gz ops.toList dep=true) (cd:eR os dep=true) (hid:eE rs dep=true) (hcs:gU jn rs hs dep=true) (jI:∀o,os[jn]? =some o->gg o=true) (hQ:∀a w,eg E0 J base w0 n σ' g' k' a w->Q .normal a w) (hrel:eg E0 J base w0 n σ g k a w) {rd:Option Nat}:(Code.region id ops true).wpIn (cp rd) 0 P Q a w:=by
 refine wpIn_region_any tq ?_
 obtain ⟨E,rfl,hle,h1,h2,h3,hmk⟩:=hrel.ex
 obtain ⟨E',hw,hE,hM,_,hk,_,_⟩:=h2.drew
 have cI:∀(j:Nat),(Array.replicate ops.size false).getD j false=false:=by
  intro j
  rcases LM j ops.size with h|h
  ·simp [h]
  ·simp [h]
 refine EP dj hlen dG hd cd hid hcs jI hQ ops.size _ a _ (by simp) (fun j op bK hl=>by rw [cI] at hl;simp at hl) (.inl ⟨⟨⟨E',hw,hle.trans hE,fun t _=> ?_, ?_,fun id hh=> .inl (h3 id ((hk id).1 hh)),hmk.step hE,trivial⟩,hrel.size,hrel.below.drew,hrel.gl,by simp,fun j hj hl=>by rw [cI] at hl;simp at hl⟩,fun hl=>by rw [cI] at hl;simp at hl⟩) fun m hm cy=> ?_
 ·have:bu n (fun j=>(Array.replicate ops.size false).getD j false) rs σ t=σ t:=im _ 0 _ fun j r _ hl=>by rw [cI] at hl;simp at hl
  rw [this];exact (h1 t).step hE
 ·have:bq (fun j=>(Array.replicate ops.size false).getD j false) rs g=g:=by funext id;exact im _ 0 _ fun j r _ hl=>by rw [cI] at hl;simp at hl
  rw [this];exact hM
 ·exact tg _ _ cy fun j hj=>(hm j hj).1
inductive gV (P:Program) (n:Nat) (dep:List (List Nat)) (jn:Nat):List az->(Nat->AV)->(Nat->Option Bk)->Nat->List Rec->List (Option Nat)->(Nat->AV)->(Nat->Option Bk)->Nat->Prop
 |nil {σ:Nat->AV} {g:Nat->Option Bk} {k:Nat} {rs:List Rec} {hs:List (Option Nat)} (hid:eE rs dep=true) (hcs:gU jn rs hs dep=true):gV P n dep jn [] σ g k rs hs σ g k
 |cons {o:az} {os:List az} {σ σ':Nat->AV} {g g':Nat->Option Bk} {k k1 k':Nat} {val:AV} {ups:List (Nat×Option Bk)} {acc:List Nat} {rs:List Rec} {hs:List (Option Nat)} (h:de P σ g k o val ups acc) (hk:k<=k1) (hu:∀id,id∈ups.map Prod.fst->id<k1)
   (hr:gV P n dep jn os (bw n o.dst val σ) (au g ups) k1 (rs++[⟨o.dst,val,ups,acc,k⟩]) (hs++[none]) σ' g' k'):gV P n dep jn (o::os) σ g k rs hs σ' g' k'
 |fi {o:az} {os:List az} {σ σ':Nat->AV} {g g':Nat->Option Bk} {k k1 k':Nat} {r:AV} {f:FuncId} {as_:List AV} {ups:List (Nat×Option Bk)} {rs:List Rec} {hs:List (Option Nat)} (hg:bL σ o.guard=some true) (hal:o.ao.allocs=false) (h:(o.ao.ae k (aE σ)).run g=some (.call f as_)) (hc:bW P f=true) (hf:Fi P f as_ g k r (au g ups) k1) (hk:k<=k1) (hu:∀id,id∈ups.map Prod.fst->id<k1)
   (hr:gV P n dep jn os (bw n o.dst r σ) (au g ups) k1 (rs++[⟨o.dst,r,ups,[],k⟩]) (hs++[some k1]) σ' g' k'):gV P n dep jn (o::os) σ g k rs hs σ' g' k'
theorem gV.all {pre:List az} {cJ:Nat->AV} {g0:Nat->Option Bk} {kk:Nat} (h0:eo P n pre cJ g0 kk rs hs σ g k) (h:gV P n dep jn os σ g k rs hs σ' g' k'):∃qA gL,eo P n (pre++os) cJ g0 kk qA gL σ' g' k'/\eE qA dep=true/\gU jn qA gL dep=true:=by
 induction h generalizing pre with
 |nil h1 h2=>exact ⟨_,_,by rw [List.append_nil];exact h0,h1,h2⟩
 | @cons o os σ σ' g g' k k1 k' val ups acc rs hs h hk hu hr ih=>
  have:=ih (pre:=pre++[o]) (h0.snoc h hk hu)
  rwa [Ml] at this
 | @fi o os σ σ' g g' k k1 k' r f as_ ups rs hs hg hal h hc hf hk hu hr ih=>
  have:=ih (pre:=pre++[o]) (h0.Ev hg hal h hc hf hk hu)
  rwa [Ml] at this
theorem EW.E5 {s:S3} {Q:Ex->S3->Prop} {s':S3} (jI:∀o,os[jn]? =some o->gg o=true) (h:gV P n dep jn os s.σ s.g s.k [] [] s'.σ s'.g s'.k) (hq:Q .normal s'):EW P n k0 (.bM os (some dep)) s Q:=by
 intro rd c E0 J base w0 a w bX hc hk hr
 obtain ⟨id,ops,draw,rfl,h1,h2⟩:=qp hc
 rcases h2 with ⟨rfl,hh⟩|⟨rfl,d,hd,h3,h4,h5⟩
 ·simp at hh
 ·simp only [KZ] at hd
  subst hd
  obtain ⟨k1,k2⟩:=og h1
  obtain ⟨qA,gL,a1,a2,a3⟩:=gV.all .nil h
  rw [List.nil_append] at a1
  exact E4 h5 a1 (by rw [<-k1];simp) (fun j op hj=>k2 j op (by simpa using hj)) h3 h4 a2 a3 jI (fun a' w' hr'=>⟨.normal,s',hq,rfl,hr'⟩) hr
end
abbrev cl (f:Nat) (as_:List Arg):AO:= .call (.c (.fn f [])) as_
abbrev zi (n:Int):AV:= .v (.int .i64 n)
abbrev zs:AV:= .v (.string ⟨#[]⟩)
abbrev ms (k:Nat):AO:= .mov (.s k)
abbrev fd (a k:Nat):AO:= .fad a (.s k)
abbrev rg (R:List az):AC:= .bM R none
def cf (P:Program) (k:Nat):da:=(cFunc P k).getD ⟨0,[], .skip⟩
theorem eG (h:(cFunc P k).isSome=true):cFunc P k=some (cf P k):=by
 unfold cf
 cases hc:cFunc P k with
 |none=>rw [hc] at h;cases h
 |some F=>rfl
noncomputable def F4:da:=cf Try.prog 4
theorem E6:cFunc Try.prog 4=some F4:=eG (by kernel_rfl)
theorem E7:bW Try.prog 4=true:=by kernel_rfl
noncomputable def F9:da:=cf Try.prog 9
theorem E8:cFunc Try.prog 9=some F9:=eG (by kernel_rfl)
theorem E9:bW Try.prog 9=true:=by kernel_rfl
noncomputable def Fa:da:=cf Try.prog 10
theorem Fb:cFunc Try.prog 10=some Fa:=eG (by kernel_rfl)
theorem Fc:bW Try.prog 10=true:=by kernel_rfl
noncomputable def Fe:da:=cf Try.prog 11
theorem Ff:cFunc Try.prog 11=some Fe:=eG (by kernel_rfl)
theorem Fg:bW Try.prog 11=true:=by kernel_rfl
noncomputable def Fh:da:=cf Try.prog 13
theorem Fj:cFunc Try.prog 13=some Fh:=eG (by kernel_rfl)
theorem Fk:bW Try.prog 13=true:=by kernel_rfl
noncomputable def Fl:da:=cf Try.prog 14
theorem Fm:cFunc Try.prog 14=some Fl:=eG (by kernel_rfl)
theorem Fp:bW Try.prog 14=true:=by kernel_rfl
noncomputable def Fq:da:=cf Try.prog 15
theorem Fs:cFunc Try.prog 15=some Fq:=eG (by kernel_rfl)
theorem Ft:bW Try.prog 15=true:=by kernel_rfl
noncomputable def Fu:da:=cf Try.prog 16
theorem Fv:cFunc Try.prog 16=some Fu:=eG (by kernel_rfl)
theorem Fw:bW Try.prog 16=true:=by kernel_rfl
noncomputable def Fx:da:=cf Try.prog 17
theorem Fy:cFunc Try.prog 17=some Fx:=eG (by kernel_rfl)
theorem FA:bW Try.prog 17=true:=by kernel_rfl
noncomputable def FB:da:=cf Try.prog 19
theorem FC:cFunc Try.prog 19=some FB:=eG (by kernel_rfl)
theorem FD:bW Try.prog 19=true:=by kernel_rfl
noncomputable def FE:da:=cf Try.prog 20
theorem FF:cFunc Try.prog 20=some FE:=eG (by kernel_rfl)
theorem FG:bW Try.prog 20=true:=by kernel_rfl
noncomputable def FH:da:=cf Try.prog 21
theorem FI:cFunc Try.prog 21=some FH:=eG (by kernel_rfl)
theorem FJ:bW Try.prog 21=true:=by kernel_rfl
noncomputable def FK:da:=cf Try.prog 22
theorem FL:cFunc Try.prog 22=some FK:=eG (by kernel_rfl)
theorem FM:bW Try.prog 22=true:=by kernel_rfl
noncomputable def FN:da:=cf Try.prog 23
theorem FO:cFunc Try.prog 23=some FN:=eG (by kernel_rfl)
theorem FP:bW Try.prog 23=true:=by kernel_rfl
noncomputable def FQ:da:=cf Try.prog 27
theorem FR:cFunc Try.prog 27=some FQ:=eG (by kernel_rfl)
theorem FT:bW Try.prog 27=true:=by kernel_rfl
noncomputable def FU:da:=cf Try.prog 28
theorem FV:cFunc Try.prog 28=some FU:=eG (by kernel_rfl)
theorem FW:bW Try.prog 28=true:=by kernel_rfl
noncomputable def FX:da:=cf Try.prog 29
theorem FY:cFunc Try.prog 29=some FX:=eG (by kernel_rfl)
theorem F0:bW Try.prog 29=true:=by kernel_rfl
noncomputable def F1:da:=cf Try.prog 33
theorem F2:cFunc Try.prog 33=some F1:=eG (by kernel_rfl)
theorem F3:bW Try.prog 33=true:=by kernel_rfl
end Go.Proofs.Ytpoikkflcpklgaa
