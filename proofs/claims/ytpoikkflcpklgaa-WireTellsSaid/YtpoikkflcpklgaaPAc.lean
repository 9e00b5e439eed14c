/- The code of the program's functions as operations upon abstract values, checked against the program. No condition. -/
import Derived.Test.YtpoikkflcpklgaaPAvNorm
import Derived.Test.YtpoikkflcpklgaaRows
set_option linter.unusedSimpArgs false
set_option linter.unusedVariables false
set_option maxRecDepth 100000
namespace Go.Proofs.Ytpoikkflcpklgaa
variable {o:aw} {a:Act} {K:Act->World->Prop} {listed:Array Bool} {f:FuncId} {ups:List (Nat×Option Bk)} {jn i n k0 k k1:Nat} {σ:Nat->AV} {op:Oper} {P:Program} {r:Rec} {w:World}
open Go.RowKit
abbrev Lz:=@List.map_append
abbrev Mf:=@List.take_of_length_le
def qm (sz:Nat):List aw:=[⟨some 8, .mov (.s 0),none⟩,⟨some 9, .mov (.s 1),none⟩,⟨some 10, .mov (.s 2),none⟩,⟨some 11, .mov (.s 0),none⟩,⟨some 12, .len false (.s 11),none⟩,⟨some 13, .slc sz (.s 8) (some (.s 9)) (some (.s 10)) (some (.s 12)),none⟩]
def DX:List aw:=[⟨some 14, .mov (.s 1),none⟩,⟨some 15, .mov (.s 2),none⟩,⟨some 16, .bin false .eql (.s 14) (.s 15),none⟩]
def DY:List aw:=[⟨some 17, .mov (.s 0),none⟩,⟨some 6, .mov (.s 17),none⟩]
def qn:List aw:=[⟨some 18, .mov (.s 0),none⟩,⟨some 19, .len false (.s 18),none⟩,⟨some 7, .mov (.s 19),none⟩]
def DZ (sz by_:Nat):List aw:=[⟨some 20, .mov (.s 0),none⟩,⟨some 21, .mov (.s 1),none⟩,⟨some 22, .slc sz (.s 20) none (some (.s 21)) none,none⟩,⟨some 23, .mov (.s 0),none⟩,⟨some 24, .mov (.s 2),none⟩,⟨some 25, .slc sz (.s 23) (some (.s 24)) none none,none⟩,⟨some 26, .app sz by_ (.s 22) (.s 25),none⟩,⟨some 0, .mov (.s 26),none⟩]
def qo (sz:Nat) (zs:List AV):List aw:=[⟨some 27, .mov (.s 0),none⟩,⟨some 28, .mov (.s 0),none⟩,⟨some 29, .len false (.s 28),none⟩,⟨some 30, .mov (.s 7),none⟩,⟨some 31, .slc sz (.s 27) (some (.s 29)) (some (.s 30)) none,none⟩,⟨none, .clr zs (.s 31),none⟩]
def D0:List aw:=[⟨some 32, .mov (.s 0),none⟩,⟨some 6, .mov (.s 32),none⟩]
def D1:List (List Nat):=[[],[],[0,1],[],[],[3,4],[2,5,0,1,3,4],[6,0,1,2,3,4,5]]
def tH (sz by_:Nat) (zs:List AV):dc:=⟨33,[.tmp 6],
 .seq (.bI [⟨some 6, .mov (.c .emp),none⟩] none)
 (.seq (.bI (qm sz) none)
 (.seq (.seq (.bI DX none)
 (.cond (.s 16)
  (.seq (.bI DY none)
  (.ret))
  (.skip)))
 (.seq (.bI qn none)
 (.seq (.bI (DZ sz by_) (some D1))
 (.seq (.bI (qo sz zs) none)
 (.seq (.bI D0 none)
 (.ret)))))))⟩
def jD (m:List (Option Bk)) (id:Nat) (B:Bk):List (Option Bk):=m.set id none++[none,some B]
theorem D2 {x:L3} {id sz c t0:Nat} {els:List (List AV)} (hB:look x.m id=some ⟨sz,els⟩) (hc:c<=els.length) (hs:slot x.t t0= .own id sz 0 c) {y:L3} (hy:y.t=[(t0, .own x.m.length sz 0 c)]) (hm:y.m=x.m.set id none++[some ⟨sz,els.take c⟩]):x.s.Le k0 n y.s:=by
 intro E0 J base w0 a w hk hr
 obtain ⟨E,rfl,hle,bY,cR,aX,hmk⟩:=hr.ex
 have hid:id<x.m.length:=by
  rcases Ls id x.m.length with h|h
  ·exact h
  ·unfold look at hB;rw [Mo h] at hB;simp at hB
 have hf:¬E.kn x.m.length:=fun hh=>LZ _ (aX _ hh)
 have hz0:sz≠0:=(show ae E (a.tmps.getD t0 undef) (.own id sz 0 c) by rw [<-hs];exact bY t0).pI ((cR.live id).2 ⟨_,hB⟩).2
 obtain ⟨E',hw,hE,hM,k1,k2,k3,k4,k5⟩:=cR.move hf id ⟨sz,els⟩ ⟨sz,els.take c⟩ hB E.w (fun _ _=>rfl) rfl (fun _ _=>rfl) (fun E' hE hw=>by
  have:=(cR.at_ id _ hB)
  cases hl:E.loc id with
  |none=>
   rw [hl] at this
   have h0:els=[]:=this
   show els.take c=[]
   rw [h0];simp
  |some b=>
   rw [hl] at this
   obtain ⟨q1,arr,t,q2,q3,q4⟩:=this.cells hz0
   refine .iE ⟨q1,arr,t,by rw [hw];exact q2, ?_,fun i cs hi=> ?_⟩ hz0
   ·refine Lg (Lf _ ?_) q3
    simp only [L5];omega
   ·have aE:els[i]? =some cs:=by
     simp only [LV] at hi
     split at hi
     ·exact hi
     ·simp at hi
    refine ⟨(q4 i cs aE).1,fun j x hj=> ?_⟩
    obtain ⟨u,u1,u2,u3⟩:=(q4 i cs aE).2 j x hj
    exact ⟨u,u1,u2,u3.step hE⟩)
 have hg:aj (look x.m) [(id,none),(x.m.length,some ⟨sz,els.take c⟩)]=look y.m:=by
  rw [hm]
  have e1:=tx x.m id none (by omega)
  rw [KL hid] at e1
  have e2:=tx (x.m.set id none) x.m.length (some ⟨sz,els.take c⟩) (by simp)
  rw [KK (by simp)] at e2
  rw [e2,e1]
  rfl
 have hM:=hg▸(show aB E' J base (aj (look x.m) [(id,none),(x.m.length,some ⟨sz,els.take c⟩)]) from hM)
 refine ⟨⟨E',hw,hle.trans hE,fun t=> ?_,hM,fun j hj=> ?_,hmk.step hE⟩,hr.size,hr.below,hr.gl⟩
 ·show ae E' _ (slot y.t t)
  rw [hy]
  simp only [slot]
  cases hb:Nat.beq t t0 with
  |false=>exact .dead
  |true=>
   have:=K1 hb
   subst this
   have hv:=bY t
   have hv':ae E (a.tmps.getD t undef) (.own id sz 0 c):=by rw [<-hs];exact hv
   have nM:=(cR.live id).2 ⟨_,hB⟩
   have hlen:c<=els.length:=hc
   simp only [KP]
   obtain ⟨vv,bX⟩:∃vv,vv=a.tmps.getD t undef:=⟨_,rfl⟩
   rw [<-bX] at hv' ⊢
   cases hv' with
   |ck hi hd=>exact absurd hd nM.2
   |own hi hd hb hq od c8 hl hcc aZ=>
    refine .own k1 k2 (k3.trans hb) hq (by rw [hw];exact od) c8 hl hcc (by rw [k5];simp only [L5];omega)
   |bL hi hd hb aZ=>exact .bL k1 k2 (k3.trans hb) (by rw [k5];simp)
 ·show j<y.m.length
  rw [hm]
  simp only [Ma,List.length_set,List.length_cons,List.length_nil]
  rcases k4 j hj with h|h
  ·have h':j<x.m.length:=aX j h
   omega
  ·omega
section
variable {o:aw} {x:L3}
theorem lH {a:Arg} (h:aD σ a=VI n):cE (aD σ) (some a)=some (some n):=by
 simp only [cE,h,natOf]
 rw [KL (by omega)];simp
theorem yh (a:Arg) (lo hi:Option Arg) (sz id off n l h:Nat) (ik aE:Option Nat) (B:Bk) (ho:o.ao= .slc sz a lo hi none) (hg:bH (slot x.t) o.guard=some true) (ha:aD (slot x.t) a= .own id sz off n) (fB:cE (aD (slot x.t)) lo=some ik) (dR:cE (aD (slot x.t)) hi=some aE) (fD:bounds n ik aE=some (l,h)) (hB:look x.m id=some B):
  eX o x= .done (.own id sz (off+l) (h - l)) [] [id]:=by
 have hn:cE (aD (slot x.t)) none=some none:=rfl
 have hs:(AO.slc sz a lo hi none).af x.m.length (aD (slot x.t))= .lv id (.ret (.done (.own id sz (off+l) (h - l)) [])):=by simp [AO.af,ha,fB,dR,hn,fD,RM.opt]
 exact kE _ (acc:=[]) (see:=[id]) ho hg (by rw [hs];simp [RM.run,hB]) (by rw [hs];rfl) (by rw [hs];rfl)
theorem D3 (a:Arg) (lo hi:Option Arg) (mx:Arg) (sz id off n l h mm:Nat) (ik aE:Option Nat) (B:Bk) (ho:o.ao= .slc sz a lo hi (some mx)) (hg:bH (slot x.t) o.guard=some true) (ha:aD (slot x.t) a= .own id sz off n) (fB:cE (aD (slot x.t)) lo=some ik) (dR:cE (aD (slot x.t)) hi=some aE) (fO:cE (aD (slot x.t)) (some mx)=some (some mm)) (fD:bounds n ik aE=some (l,h)) (hB:look x.m id=some B) (h1:B.els.length<=off+mm) (h2:h<=mm/\mm<=n) (h3:mm≠l) (iL:B.sz=sz:=by rfl):
  eX o x= .done (.own id sz (off+l) (h - l)) [] [id,id]:=by
 have hs:(AO.slc sz a lo hi (some mx)).af x.m.length (aD (slot x.t))= .lv id (.rd id fun B=>if B.sz=sz/\B.els.length<=off+mm then .ret (.done (.own id sz (off+l) (h - l)) []) else .fail):=by
  simp [AO.af,ha,fB,dR,fO,fD,RM.opt,h2,h3]
 exact kE _ (acc:=[id]) (see:=[id]) ho hg (by rw [hs];simp [RM.run,hB,h1,iL]) (by rw [hs];simp [RM.acc,hB,h1,iL]) (by rw [hs];simp [RM.see,hB,h1,iL])
theorem D4 (a:Arg) (lo hi:Option Arg) (sz id off n l h:Nat) (ik:Option Nat) (hh:Nat) (B:Bk) (ho:o.ao= .slc sz a lo hi none) (hg:bH (slot x.t) o.guard=some true) (ha:aD (slot x.t) a= .own id sz off n) (fB:cE (aD (slot x.t)) lo=some ik) (dR:cE (aD (slot x.t)) hi=some (some hh)) (ed:bounds n ik (some hh)=none) (hB:look x.m id=some B) (fD:bounds (B.els.length - off) ik (some hh)=some (l,h)) (iL:B.sz=sz:=by rfl):
  eX o x= .done (.own id sz (off+l) (h - l)) [] [id,id]:=by
 have hn:cE (aD (slot x.t)) none=some none:=rfl
 have hs:(AO.slc sz a lo hi none).af x.m.length (aD (slot x.t))= .lv id (.rd id fun B=>if B.sz=sz then .opt ((bounds (B.els.length - off) ik (some hh)).map fun b=> .done (.own id sz (off+b.1) (b.2 - b.1)) []) else .fail):=by simp [AO.af,ha,fB,dR,hn,ed]
 exact kE _ (acc:=[id]) (see:=[id]) ho hg (by rw [hs];simp [RM.run,RM.opt,hB,fD,iL]) (by rw [hs];simp [RM.acc,RM.opt,hB,fD,iL]) (by rw [hs];simp [RM.see,RM.opt,hB,fD,iL])
theorem D5 (s a:Arg) (sz by_ id off n:Nat) (els ys:List (List AV)) (w:AV) (acc:List Nat) (ho:o.ao= .app sz by_ s a) (hg:bH (slot x.t) o.guard=some true) (hs:aD (slot x.t) s= .own id sz off n) (ha:aD (slot x.t) a=w) (c1:(content sz w).run (look x.m)=some ys) (c2:(content sz w).acc (look x.m)=acc) (c3:(content sz w).see (look x.m)=[])
  (hB:look x.m id=some ⟨sz,els⟩) (ed:¬(off=0/\n=els.length)) (hfit:off+n+ys.length<=els.length):
  eX o x= .done (.own id sz off (n+ys.length)) [(id,some ⟨sz,els.take (off+n)++ys++els.drop (off+n+ys.length)⟩),(x.m.length,none)] (acc++[id]):=by
 let F:List (List AV)->RM Out:=fun ys=> .rd id fun B=>if sz=sz/\B.sz=sz/\off=0/\n=B.els.length/\(n+ys.length)*by_<=140737488355328 then .ret (.done (.own x.m.length sz 0 (n+ys.length)) [(id,none),(x.m.length,some ⟨sz,B.els++ys⟩)])
  else if sz=sz/\B.sz=sz/\off+n+ys.length<=B.els.length then .ret (.done (.own id sz off (n+ys.length)) [(id,some ⟨B.sz,B.els.take (off+n)++ys++B.els.drop (off+n+ys.length)⟩),(x.m.length,none)]) else .fail
 have cS:(AO.app sz by_ s a).af x.m.length (aD (slot x.t))=(content sz w).bind F:=by simp [AO.af,hs,ha,F]
 obtain ⟨r1,r2,r3⟩:=run_bind (f:=F) _ c1
 have tI:¬(off=0/\n=els.length/\(n+ys.length)*by_<=140737488355328):=fun h=>ed ⟨h.1,h.2.1⟩
 have D6:(F ys).run (look x.m)=some (.done (.own id sz off (n+ys.length)) [(id,some ⟨sz,els.take (off+n)++ys++els.drop (off+n+ys.length)⟩),(x.m.length,none)]):=by
  simp only [F,RM.run,hB,true_and];rw [KK tI,KL hfit];rfl
 have D7:(F ys).acc (look x.m)=[id]:=by
  simp only [F,RM.acc,hB,true_and];rw [KK tI,KL hfit];rfl
 have D8:(F ys).see (look x.m)=[]:=by
  simp only [F,RM.see,hB,true_and];rw [KK tI,KL hfit];rfl
 have:=kE (AO.app sz by_ s a) (o:=o) (x:=x) (acc:=acc++[id]) (see:=[]) ho hg (by rw [cS,r1];exact D6) (by rw [cS,r2,c2,D7]) (by rw [cS,r3,c3,D8];rfl)
 simpa using this
theorem D9 (zs:List AV) (a:Arg) (sz id off n:Nat) (els:List (List AV)) (ho:o.ao= .clr zs a) (hg:bH (slot x.t) o.guard=some true) (hz:zs.length=sz) (ha:aD (slot x.t) a= .own id sz off n) (hB:look x.m id=some ⟨sz,els⟩) (hfit:off+n<=els.length):
  eX o x= .done (.v undef) [(id,some ⟨sz,els.take off++List.replicate n zs++els.drop (off+n)⟩)] [id]:=by
 subst hz
 have hs:(AO.clr zs a).af x.m.length (aD (slot x.t))= .rd id fun B=>if B.sz=zs.length/\off+n<=B.els.length then .ret (.done (.v undef) [(id,some ⟨B.sz,B.els.take off++List.replicate n zs++B.els.drop (off+n)⟩)]) else .fail:=by simp [AO.af,ha]
 exact kE _ (acc:=[id]) (see:=[]) ho hg (by rw [hs];simp [RM.run,hB,hfit]) (by rw [hs];simp [RM.acc,hB,hfit]) (by rw [hs];simp [RM.see,hB,hfit])
end
section
variable {P:Program} {sz by_:Nat} {zs:List AV} {m:List (Option Bk)} {id i:Nat} {els:List (List AV)}
theorem Ea {B:Bk} (hB:look m id=some B):id<m.length:=by
 rcases Ls id m.length with h|h
 ·exact h
 ·unfold look at hB;rw [Mo h] at hB;simp at hB
theorem Eb (hF:cFunc P f=some (tH sz by_ zs)) (hz:zs.length=sz) (hB:look m id=some ⟨sz,els⟩) (hi:i<els.length) (hb:els.length<=4611686018427387904):
  Fi P f [.own id sz 0 els.length,VI i,VI (i+1:Nat)] (look m) m.length (.own (m.length+1) sz 0 (els.length - 1)) (look (jD m id ⟨sz,els.eraseIdx i⟩)) (jD m id ⟨sz,els.eraseIdx i⟩).length:=by
 have hid:=Ea hB
 have e1:((i:Int)).toNat=i:=by omega
 have e2:(((i+1:Nat):Int)).toNat=i+1:=by omega
 have e3:((els.length:Int)).toNat=els.length:=by omega
 have p1:(0:Int)<=(i:Int):=by omega
 have p2:(0:Int)<=((i+1:Nat):Int):=by omega
 have p3:(0:Int)<=(els.length:Int):=by omega
 refine fV hF (by show 3<=33;omega) ?_
 refine EL.mG ?_
 refine OW.last 1 [0,1,2] (x':=⟨[(0, .own id sz 0 els.length),(1,VI i),(2,VI (i+1:Nat))],m⟩) (by kernel_rfl) (by kernel_rfl) ?_
 refine EL.mG ?_
 refine OW.run 4 (x':=⟨[(11, .own id sz 0 els.length),(10,VI (i+1:Nat)),(9,VI i),(8, .own id sz 0 els.length),(0, .own id sz 0 els.length),(1,VI i),(2,VI (i+1:Nat))],m⟩) (by kernel_rfl) ?_
 refine OW.iU (v:=VI els.length) (u:=[]) (acc:=[id]) (x':=⟨[(12,VI els.length),(11, .own id sz 0 els.length),(10,VI (i+1:Nat)),(9,VI i),(8, .own id sz 0 els.length),(0, .own id sz 0 els.length),(1,VI i),(2,VI (i+1:Nat))],m⟩) (by kernel_rfl) (kE _ (acc:=[]) (see:=[id]) rfl rfl (by simp [opD,qm,AO.af,aD,slot,RM.run,hB,goInt]) (by simp [opD,qm,AO.af,aD,slot,RM.acc]) (by simp [opD,qm,AO.af,aD,slot,RM.see])) (by kernel_rfl) ?_
 refine OW.iU (v:= .own id sz (0+i) (i+1 - i)) (u:=[]) (acc:=[id,id]) (x':=⟨[(13, .own id sz (0+i) (i+1 - i)),(12,VI els.length),(11, .own id sz 0 els.length),(10,VI (i+1:Nat)),(9,VI i),(8, .own id sz 0 els.length),(0, .own id sz 0 els.length),(1,VI i),(2,VI (i+1:Nat))],m⟩) (by kernel_rfl)
  (D3 (.s 8) (some (.s 9)) (some (.s 10)) (.s 12) sz id 0 els.length i (i+1) els.length (some i) (some (i+1)) ⟨sz,els⟩ rfl rfl rfl (lH (by rfl)) (lH (by rfl)) (lH (by rfl)) (by simp [bounds];omega) hB (by simp) ⟨by omega,by omega⟩ (by omega)) (by kernel_rfl) ?_
 refine OW.last 0 [0,1,2] (x':=⟨[(0, .own id sz 0 els.length),(1,VI i),(2,VI (i+1:Nat))],m⟩) (by kernel_rfl) (by kernel_rfl) ?_
 refine EL.seq ?_
 refine EL.mG ?_
 refine OW.last 3 [0,1,2,16] (x':=⟨[(16, .v (.bool ((i:Int)==((i+1:Nat):Int)))),(0, .own id sz 0 els.length),(1,VI i),(2,VI (i+1:Nat))],m⟩) (by kernel_rfl) (by kernel_rfl) ?_
 have aA:((i:Int)==((i+1:Nat):Int))=false:=by simp;omega
 rw [aA]
 refine EL.DR (by kernel_rfl) ?_
 refine EL.skip ?_
 refine tN ?_
 refine EL.mG ?_
 refine OW.run 1 (x':=⟨[(18, .own id sz 0 els.length),(16, .v (.bool false)),(0, .own id sz 0 els.length),(1,VI i),(2,VI (i+1:Nat))],m⟩) (by kernel_rfl) ?_
 refine OW.iU (v:=VI els.length) (u:=[]) (acc:=[id]) (x':=⟨[(19,VI els.length),(18, .own id sz 0 els.length),(16, .v (.bool false)),(0, .own id sz 0 els.length),(1,VI i),(2,VI (i+1:Nat))],m⟩) (by kernel_rfl) (kE _ (acc:=[]) (see:=[id]) rfl rfl (by simp [opD,qn,AO.af,aD,slot,RM.run,hB,goInt]) (by simp [opD,qn,AO.af,aD,slot,RM.acc]) (by simp [opD,qn,AO.af,aD,slot,RM.see])) (by kernel_rfl) ?_
 refine OW.last 1 [0,1,2,7] (x':=⟨[(7,VI els.length),(0, .own id sz 0 els.length),(1,VI i),(2,VI (i+1:Nat))],m⟩) (by kernel_rfl) (by kernel_rfl) ?_
 refine EL.DQ ?_
 refine DW.run 2 (x':=⟨[(21,VI i),(20, .own id sz 0 els.length),(7,VI els.length),(0, .own id sz 0 els.length),(1,VI i),(2,VI (i+1:Nat))],m⟩) (by kernel_rfl) ?_
 refine DW.iU (v:= .own id sz (0+0) (i - 0)) (u:=[]) (acc:=[id]) (x':=⟨[(22, .own id sz (0+0) (i - 0)),(21,VI i),(20, .own id sz 0 els.length),(7,VI els.length),(0, .own id sz 0 els.length),(1,VI i),(2,VI (i+1:Nat))],m⟩) (by kernel_rfl)
  (yh (.s 20) none (some (.s 21)) sz id 0 els.length 0 i none (some i) ⟨sz,els⟩ rfl rfl rfl rfl (lH (by rfl)) (by simp [bounds];omega) hB) (by kernel_rfl) ?_
 refine DW.run 2 (x':=⟨[(24,VI (i+1:Nat)),(23, .own id sz 0 els.length),(22, .own id sz (0+0) (i - 0)),(21,VI i),(20, .own id sz 0 els.length),(7,VI els.length),(0, .own id sz 0 els.length),(1,VI i),(2,VI (i+1:Nat))],m⟩) (by kernel_rfl) ?_
 refine DW.iU (v:= .own id sz (0+(i+1)) (els.length - (i+1))) (u:=[]) (acc:=[id]) (x':=⟨[(25, .own id sz (0+(i+1)) (els.length - (i+1))),(24,VI (i+1:Nat)),(23, .own id sz 0 els.length),(22, .own id sz (0+0) (i - 0)),(21,VI i),(20, .own id sz 0 els.length),(7,VI els.length),(0, .own id sz 0 els.length),(1,VI i),(2,VI (i+1:Nat))],m⟩) (by kernel_rfl)
  (yh (.s 23) (some (.s 24)) none sz id 0 els.length (i+1) els.length (some (i+1)) none ⟨sz,els⟩ rfl rfl rfl (lH (by rfl)) rfl (by simp [bounds];omega) hB) (by kernel_rfl) ?_
 obtain ⟨ys,iM⟩:∃ys,ys=(els.drop (0+(i+1))).take (els.length - (i+1)):=⟨_,rfl⟩
 have xQ:ys.length=els.length - (i+1):=by rw [iM];simp
 obtain ⟨fE,tJ⟩:∃fE,fE=els.take (0+0+(i - 0))++ys++els.drop (0+0+(i - 0)+ys.length):=⟨_,rfl⟩
 have Ko:fE.length=els.length:=by rw [tJ];simp;omega
 obtain ⟨m2,hH⟩:∃m2,m2=m.set id (some ⟨sz,fE⟩)++[none]:=⟨_,rfl⟩
 have dS:eO m [(id,some ⟨sz,fE⟩),(m.length,none)]=m2:=by
  simp only [eO]
  rw [KL hid,KK (by simp),hH]
 have mH:m2.length=m.length+1:=by rw [hH];simp
 have tK:look m2 id=some ⟨sz,fE⟩:=by
  rw [hH];unfold look
  rw [LH (by simpa using hid)]
  simp [hid]
 have lI:(content sz (.own id sz (0+(i+1)) (els.length - (i+1)))).run (look m)=some ys:=by
  simp only [content,RM.run,hB,true_and];rw [KL (by omega),iM];rfl
 have hc2:(content sz (.own id sz (0+(i+1)) (els.length - (i+1)))).acc (look m)=[id]:=by
  simp only [content,RM.acc,hB,true_and];rw [KL (by omega)];rfl
 have tL:(content sz (.own id sz (0+(i+1)) (els.length - (i+1)))).see (look m)=[]:=by
  simp only [content,RM.see,hB,true_and];rw [KL (by omega)];rfl
 have mI:upsOK m.length [(id,some (⟨sz,fE⟩:Bk)),(m.length,none)]=true:=by
  simp only [upsOK];rw [KL hid];simp;omega
 refine DW.iU (v:= .own id sz (0+0) (i - 0+ys.length)) (u:=[(id,some ⟨sz,fE⟩),(m.length,none)]) (acc:=[id]++[id]) (x':=⟨[(26, .own id sz (0+0) (i - 0+ys.length)),(25, .own id sz (0+(i+1)) (els.length - (i+1))),(24,VI (i+1:Nat)),(23, .own id sz 0 els.length),(22, .own id sz (0+0) (i - 0)),(21,VI i),(20, .own id sz 0 els.length),(7,VI els.length),(0, .own id sz 0 els.length),(1,VI i),(2,VI (i+1:Nat))],m2⟩) (by kernel_rfl)
  (by rw [tJ];exact D5 (.s 22) (.s 25) sz by_ id (0+0) (i - 0) els ys _ [id] rfl rfl rfl rfl lI hc2 tL hB (by rintro ⟨_,h⟩;omega) (by omega)) (by
   show (bif dstOK 33 (some 26)&&upsOK m.length [(id,some (⟨sz,fE⟩:Bk)),(m.length,none)] then _ else _)=_
   rw [mI,dS];rfl) ?_
 obtain ⟨t3,Kp⟩:∃t3:List (Nat×AV),t3=[(0, .own id sz (0+0) (i - 0+ys.length)),(2,VI (i+1:Nat)),(7,VI els.length)]:=⟨_,rfl⟩
 refine DW.last 1 [0,7] (x':=⟨[(0, .own id sz (0+0) (i - 0+ys.length)),(7,VI els.length)],m2⟩) (by kernel_rfl) (by kernel_rfl) ?_
 have q1:i - 0+ys.length=els.length - 1:=by omega
 rw [q1]
 refine EL.mG ?_
 refine OW.run 2 (x':=⟨[(28, .own id sz (0+0) (els.length - 1)),(27, .own id sz (0+0) (els.length - 1)),(0, .own id sz (0+0) (els.length - 1)),(7,VI els.length)],m2⟩) (by kernel_rfl) ?_
 refine OW.iU (v:=VI (els.length - 1:Nat)) (u:=[]) (acc:=[id]) (x':=⟨[(29,VI (els.length - 1:Nat)),(28, .own id sz (0+0) (els.length - 1)),(27, .own id sz (0+0) (els.length - 1)),(0, .own id sz (0+0) (els.length - 1)),(7,VI els.length)],m2⟩) (by kernel_rfl) (kE _ (acc:=[]) (see:=[id]) rfl rfl (by simp [opD,qo,AO.af,aD,slot,RM.run,tK,goInt]) (by simp [opD,qo,AO.af,aD,slot,RM.acc]) (by simp [opD,qo,AO.af,aD,slot,RM.see])) (by kernel_rfl) ?_
 refine OW.run 1 (x':=⟨[(30,VI els.length),(29,VI (els.length - 1:Nat)),(28, .own id sz (0+0) (els.length - 1)),(27, .own id sz (0+0) (els.length - 1)),(0, .own id sz (0+0) (els.length - 1)),(7,VI els.length)],m2⟩) (by kernel_rfl) ?_
 refine OW.iU (v:= .own id sz (0+0+(els.length - 1)) (els.length - (els.length - 1))) (u:=[]) (acc:=[id,id]) (x':=⟨[(31, .own id sz (0+0+(els.length - 1)) (els.length - (els.length - 1))),(30,VI els.length),(29,VI (els.length - 1:Nat)),(28, .own id sz (0+0) (els.length - 1)),(27, .own id sz (0+0) (els.length - 1)),(0, .own id sz (0+0) (els.length - 1)),(7,VI els.length)],m2⟩) (by kernel_rfl)
  (D4 (.s 27) (some (.s 29)) (some (.s 30)) sz id (0+0) (els.length - 1) (els.length - 1) els.length (some (els.length - 1)) els.length ⟨sz,fE⟩ rfl rfl rfl (lH (by rfl)) (lH (by rfl)) (by simp only [bounds,LM];rw [KK (by omega)]) tK (by simp only [bounds,LM];rw [KL ⟨by omega,by show _<=fE.length - (0+0);omega⟩])) (by kernel_rfl) ?_
 obtain ⟨eA,tM⟩:∃eA,eA=fE.take (0+0+(els.length - 1))++List.replicate (els.length - (els.length - 1)) zs++fE.drop (0+0+(els.length - 1)+(els.length - (els.length - 1))):=⟨_,rfl⟩
 have yi:id<m2.length:=by omega
 have Ec:eO m2 [(id,some ⟨sz,eA⟩)]=m2.set id (some ⟨sz,eA⟩):=by
  simp only [eO];rw [KL yi]
 have Ed:upsOK m2.length [(id,some (⟨sz,eA⟩:Bk))]=true:=by simp [upsOK];omega
 refine OW.iU (v:= .v undef) (u:=[(id,some ⟨sz,eA⟩)]) (acc:=[id]) (x':=⟨[(31, .own id sz (0+0+(els.length - 1)) (els.length - (els.length - 1))),(30,VI els.length),(29,VI (els.length - 1:Nat)),(28, .own id sz (0+0) (els.length - 1)),(27, .own id sz (0+0) (els.length - 1)),(0, .own id sz (0+0) (els.length - 1)),(7,VI els.length)],m2.set id (some ⟨sz,eA⟩)⟩) (by kernel_rfl)
  (by rw [tM];exact D9 zs (.s 31) sz id (0+0+(els.length - 1)) (els.length - (els.length - 1)) fE rfl rfl hz rfl tK (by omega)) (by
   show (bif dstOK 33 none&&upsOK m2.length [(id,some (⟨sz,eA⟩:Bk))] then _ else _)=_
   rw [Ed,Ec];rfl) ?_
 refine OW.last 0 [0] (x':=⟨[(0, .own id sz (0+0) (els.length - 1))],m2.set id (some ⟨sz,eA⟩)⟩) (by kernel_rfl) (by kernel_rfl) ?_
 refine EL.mG ?_
 refine OW.last 2 [6] (x':=⟨[(6, .own id sz (0+0) (els.length - 1))],m2.set id (some ⟨sz,eA⟩)⟩) (by kernel_rfl) (by kernel_rfl) ?_
 refine EL.ret ?_
 have Kr:eA.length=els.length:=by rw [tM];simp;omega
 have Ee:look (m2.set id (some ⟨sz,eA⟩)) id=some ⟨sz,eA⟩:=by
  unfold look;simp [yi]
 have kF:eA.take (els.length - 1)=els.eraseIdx i:=by
  have h1:eA.take (els.length - 1)=fE.take (els.length - 1):=by
   rw [tM,L4,List.take_append_of_le_length (by simp;omega),LC,KY,List.take_take,Nat.min_self]
  rw [h1,tJ]
  have h2:els.length - 1=i+ys.length:=by omega
  rw [h2,List.take_append_of_le_length (by simp;omega)]
  rw [Mf (by simp;omega)]
  rw [List.eraseIdx_eq_take_drop_succ,iM]
  congr 1
  ·simp
  ·rw [KY]
   exact Mf (by simp)
 refine ⟨.inr rfl,⟨[(6, .own (m2.set id (some ⟨sz,eA⟩)).length sz 0 (els.length - 1))],(m2.set id (some ⟨sz,eA⟩)).set id none++[some ⟨sz,eA.take (els.length - 1)⟩]⟩,D2 (t0:=6) Ee (by omega) rfl rfl rfl, ?_, ?_⟩
 ·simp only [List.length_set,mH];rfl
 ·rw [kF,hH]
  simp only [jD]
  rw [List.set_set,List.set_append,KL (by simpa using hid),List.set_set]
  simp
theorem Ef {α:Type} {fe:α->List AV} {xs:List α} (hF:cFunc P f=some (tH sz by_ zs)) (hz:zs.length=sz) (hB:look m id=some ⟨sz,xs.map fe⟩) {n:Int} (h0:0<=n) (h1:n<xs.length) (hb:xs.length<=1000000):
  Fi P f [.own id sz 0 xs.length,VI n,VI (n+1)] (look m) m.length (.own (m.length+1) sz 0 (xs.eraseIdx n.toNat).length) (look (jD m id ⟨sz,(xs.eraseIdx n.toNat).map fe⟩)) (jD m id ⟨sz,(xs.eraseIdx n.toNat).map fe⟩).length:=by
 have e0:((n.toNat:Nat):Int)=n:=by omega
 have e1:((n.toNat+1:Nat):Int)=n+1:=by omega
 have h:=Eb (P:=P) (f:=f) (i:=n.toNat) (els:=xs.map fe) hF hz hB (by simp;omega) (by simp;omega)
 rw [e0,e1,K7] at h
 have e2:(xs.map fe).eraseIdx n.toNat=(xs.eraseIdx n.toNat).map fe:=by
  rw [List.eraseIdx_eq_take_drop_succ,List.eraseIdx_eq_take_drop_succ,Lz,List.map_take,List.map_drop]
 have e3:(xs.eraseIdx n.toNat).length=xs.length - 1:=by rw [List.length_eraseIdx,KL (by omega)]
 rw [e2] at h
 rw [e3]
 exact h
end
open Go.RowKit
section
variable {o:aw} {x:L3}
end
open Go.RowKit
def b5 (hs:List (Option Nat)) (i:Nat):Bool:=match hs[i]? with|some (some _)=>true|_=>false
inductive ee (P:Program) (n:Nat):List aw->(Nat->AV)->(Nat->Option Bk)->Nat->List Rec->List (Option Nat)->(Nat->AV)->(Nat->Option Bk)->Nat->Prop
 |nil {σ:Nat->AV} {g:Nat->Option Bk} {k:Nat}:ee P n [] σ g k [] [] σ g k
 |cons {o:aw} {os:List aw} {σ σ':Nat->AV} {g g':Nat->Option Bk} {k k1 k':Nat} {val:AV} {ups:List (Nat×Option Bk)} {acc:List Nat} {rs:List Rec} {hs:List (Option Nat)} (h:da P σ g k o val ups acc) (hk:k<=k1) (hu:∀id,id∈ups.map Prod.fst->id<k1)
   (hr:ee P n os (bp n o.dst val σ) (aj g ups) k1 rs hs σ' g' k'):ee P n (o::os) σ g k (⟨o.dst,val,ups,acc,k⟩::rs) (none::hs) σ' g' k'
 |fi {o:aw} {os:List aw} {σ σ':Nat->AV} {g g':Nat->Option Bk} {k k1 k':Nat} {r:AV} {f:FuncId} {as_:List AV} {ups:List (Nat×Option Bk)} {rs:List Rec} {hs:List (Option Nat)} (hg:bH σ o.guard=some true) (hal:o.ao.allocs=false) (h:(o.ao.af k (aD σ)).run g=some (.call f as_)) (hc:bT P f=true) (hf:Fi P f as_ g k r (aj g ups) k1) (hk:k<=k1) (hu:∀id,id∈ups.map Prod.fst->id<k1)
   (hr:ee P n os (bp n o.dst r σ) (aj g ups) k1 rs hs σ' g' k'):ee P n (o::os) σ g k (⟨o.dst,r,ups,[],k⟩::rs) (some k1::hs) σ' g' k'
def og (P:Program) (n:Nat) (σ:Nat->AV) (g:Nat->Option Bk) (rs:List Rec) (hs:List (Option Nat)) (i:Nat) (o:aw) (r:Rec):Prop:=
 (hs[i]? =some none/\da P (bo n (upto i) rs σ) (bm (upto i) rs g) r.fr o r.val r.ups r.acc)\/
 ∃f as_ k1,hs[i]? =some (some k1)/\bH (bo n (upto i) rs σ) o.guard=some true/\o.ao.allocs=false/\(o.ao.af r.fr (aD (bo n (upto i) rs σ))).run (bm (upto i) rs g)=some (.call f as_)/\bT P f=true/\Fi P f as_ (bm (upto i) rs g) r.fr r.val (aj (bm (upto i) rs g) r.ups) k1
theorem qp {os:List aw} {σ':Nat->AV} {g g':Nat->Option Bk} {k':Nat} {rs:List Rec} {hs:List (Option Nat)} (h:ee P n os σ g k rs hs σ' g' k'):
  (rs.length=os.length/\hs.length=os.length)/\k<=k'/\(∀(i:Nat) o,os[i]? =some o->∃r,rs[i]? =some r/\r.dst=o.dst/\og P n σ g rs hs i o r/\k<=r.fr)/\
   (∀(i j:Nat) ri rj,i<j->rs[i]? =some ri->rs[j]? =some rj->(∀id,id∈ri.keys->id<rj.fr)/\∀k1,hs[i]? =some (some k1)->k1<=rj.fr)/\(∀(i:Nat) r,rs[i]? =some r->(∀id,id∈r.keys->id<k')/\∀k1,hs[i]? =some (some k1)->k1<=k')/\σ'=bo n (fun _=>true) rs σ/\g'=bm (fun _=>true) rs g:=by
 induction h with
 |nil=>exact ⟨⟨rfl,rfl⟩,KO _,fun i o ho=>by simp at ho,fun i j ri rj _ h=>by simp at h,fun i r h=>by simp at h,rfl,rfl⟩
 | @cons o os σ σ' g g' k k1 k' val ups acc rs hs h hk hu hr ih=>
  obtain ⟨⟨i1,tO⟩,i2,i3,i4,i5,i6,i7⟩:=ih
  have e1:∀i,bo n (upto (i+1)) (⟨o.dst,val,ups,acc,k⟩::rs) σ=bo n (upto i) rs (bp n o.dst val σ):=by
   intro i;funext t
   show cT _ _ 1 rs _=_
   rw [gq]
   unfold bo
   congr 1
   ·funext j;simp [upto]
   ·rw [KL (by simp [upto])];exact (jv n t ⟨o.dst,val,ups,acc,k⟩ σ).symm
  have e2:∀i,bm (upto (i+1)) (⟨o.dst,val,ups,acc,k⟩::rs) g=bm (upto i) rs (aj g ups):=by
   intro i;funext id
   show cT _ _ 1 rs _=_
   rw [gq]
   unfold bm
   congr 1
   ·funext j;simp [upto]
   ·rw [KL (by simp [upto]),iQ];rfl
  refine ⟨⟨by simp [i1],by simp [tO]⟩,Lg hk i2,fun i o' ho=> ?_,fun i j ri rj aO hi hj=> ?_,fun i r' hr'=> ?_, ?_, ?_⟩
  ·cases i with
   |zero=>
    simp only [Ll,KJ] at ho
    subst ho
    refine ⟨_,rfl,rfl, ?_,KO _⟩
    have s0:bo n (upto 0) (⟨o.dst,val,ups,acc,k⟩::rs) σ=σ:=by funext t;exact ib _ 0 _ fun j r _ hl=>by simp [upto] at hl
    have g0:bm (upto 0) (⟨o.dst,val,ups,acc,k⟩::rs) g=g:=by funext t;exact ib _ 0 _ fun j r _ hl=>by simp [upto] at hl
    unfold og
    rw [s0,g0]
    exact .inl ⟨rfl,h⟩
   |succ i=>
    obtain ⟨r',r1,r2,r3,r4⟩:=i3 i o' (by simpa using ho)
    refine ⟨r',by simpa using r1,r2, ?_,Lg hk r4⟩
    unfold og
    rw [e1,e2,LD];exact r3
  ·cases j with
   |zero=>omega
   |succ j=>
    simp only [LD] at hj
    cases i with
    |zero=>
     simp only [Ll,KJ] at hi
     subst hi
     have aU:j<os.length:=by rw [<-i1];exact (KS.1 hj).1
     obtain ⟨r',r1,_,_,r4⟩:=i3 j _ (K0 aU)
     rw [hj] at r1
     simp only [KJ] at r1
     subst r1
     exact ⟨fun id hid=>K8 (hu id hid) r4,fun x hx=>by first|(simp at hx;done)|(simp at hx;subst hx;exact r4)⟩
    |succ i=>simp only [LD] at hi ⊢; exact i4 i j ri rj (by omega) hi hj
  ·cases i with
   |zero=>
    simp only [Ll,KJ] at hr'
    subst hr'
    exact ⟨fun id hid=>K8 (hu id hid) i2,fun x hx=>by first|(simp at hx;done)|(simp at hx;subst hx;exact i2)⟩
   |succ i=>simp only [LD] at hr' ⊢; exact i5 i r' hr'
  ·rw [i6]
   funext t
   unfold bo
   simp only [cT]
   rw [gq,KN,jv n t ⟨o.dst,val,ups,acc,k⟩ σ]
  ·rw [i7]
   funext id
   unfold bm
   simp only [cT]
   rw [gq,KN,iQ]
   rfl
 | @fi o os σ σ' g g' k k1 k' r f as_ ups rs hs hg hal h hc hf hk hu hr ih=>
  obtain ⟨⟨i1,tO⟩,i2,i3,i4,i5,i6,i7⟩:=ih
  have e1:∀i,bo n (upto (i+1)) (⟨o.dst,r,ups,[],k⟩::rs) σ=bo n (upto i) rs (bp n o.dst r σ):=by
   intro i;funext t
   show cT _ _ 1 rs _=_
   rw [gq]
   unfold bo
   congr 1
   ·funext j;simp [upto]
   ·rw [KL (by simp [upto])];exact (jv n t ⟨o.dst,r,ups,[],k⟩ σ).symm
  have e2:∀i,bm (upto (i+1)) (⟨o.dst,r,ups,[],k⟩::rs) g=bm (upto i) rs (aj g ups):=by
   intro i;funext id
   show cT _ _ 1 rs _=_
   rw [gq]
   unfold bm
   congr 1
   ·funext j;simp [upto]
   ·rw [KL (by simp [upto]),iQ];rfl
  refine ⟨⟨by simp [i1],by simp [tO]⟩,Lg hk i2,fun i o' ho=> ?_,fun i j ri rj aO hi hj=> ?_,fun i r' hr'=> ?_, ?_, ?_⟩
  ·cases i with
   |zero=>
    simp only [Ll,KJ] at ho
    subst ho
    refine ⟨_,rfl,rfl, ?_,KO _⟩
    have s0:bo n (upto 0) (⟨o.dst,r,ups,[],k⟩::rs) σ=σ:=by funext t;exact ib _ 0 _ fun j r _ hl=>by simp [upto] at hl
    have g0:bm (upto 0) (⟨o.dst,r,ups,[],k⟩::rs) g=g:=by funext t;exact ib _ 0 _ fun j r _ hl=>by simp [upto] at hl
    unfold og
    rw [s0,g0]
    exact .inr ⟨f,as_,k1,rfl,hg,hal,h,hc,hf⟩
   |succ i=>
    obtain ⟨r',r1,r2,r3,r4⟩:=i3 i o' (by simpa using ho)
    refine ⟨r',by simpa using r1,r2, ?_,Lg hk r4⟩
    unfold og
    rw [e1,e2,LD];exact r3
  ·cases j with
   |zero=>omega
   |succ j=>
    simp only [LD] at hj
    cases i with
    |zero=>
     simp only [Ll,KJ] at hi
     subst hi
     have aU:j<os.length:=by rw [<-i1];exact (KS.1 hj).1
     obtain ⟨r',r1,_,_,r4⟩:=i3 j _ (K0 aU)
     rw [hj] at r1
     simp only [KJ] at r1
     subst r1
     exact ⟨fun id hid=>K8 (hu id hid) r4,fun x hx=>by first|(simp at hx;done)|(simp at hx;subst hx;exact r4)⟩
    |succ i=>simp only [LD] at hi ⊢; exact i4 i j ri rj (by omega) hi hj
  ·cases i with
   |zero=>
    simp only [Ll,KJ] at hr'
    subst hr'
    exact ⟨fun id hid=>K8 (hu id hid) i2,fun x hx=>by first|(simp at hx;done)|(simp at hx;subst hx;exact i2)⟩
   |succ i=>simp only [LD] at hr' ⊢; exact i5 i r' hr'
  ·rw [i6]
   funext t
   unfold bo
   simp only [cT]
   rw [gq,KN,jv n t ⟨o.dst,r,ups,[],k⟩ σ]
  ·rw [i7]
   funext id
   unfold bm
   simp only [cT]
   rw [gq,KN,iQ]
   rfl
section
variable {P:Program} {E0:Env} {n:Nat} {ops:Array Oper} {J:Nat->Prop} {base:Nat} {w0:World} {Q:Exit->Act->World->Prop} {os:List aw} {dep:List (List Nat)} {σ σ':Nat->AV} {g g':Nat->Option Bk} {k k':Nat} {rs:List Rec} {hs:List (Option Nat)}
theorem ee.snoc {val:AV} {acc:List Nat} (h0:ee P n os σ g k rs hs σ' g' k') (h:da P σ' g' k' o val ups acc) (hk:k'<=k1) (hu:∀id,id∈ups.map Prod.fst->id<k1):ee P n (os++[o]) σ g k (rs++[⟨o.dst,val,ups,acc,k'⟩]) (hs++[none]) (bp n o.dst val σ') (aj g' ups) k1:=by
 induction h0 with
 |nil=>exact .cons h hk hu .nil
 |cons h1 h2 h3 h4 ih=>exact .cons h1 h2 h3 (ih h hk)
 |fi h1 h2 h3 h4 h5 h6 h7 h8 ih=>exact .fi h1 h2 h3 h4 h5 h6 h7 (ih h hk)
theorem ee.Eg {r:AV} {as_:List AV} (h0:ee P n os σ g k rs hs σ' g' k') (hg:bH σ' o.guard=some true) (hal:o.ao.allocs=false) (h:(o.ao.af k' (aD σ')).run g'=some (.call f as_)) (hc:bT P f=true) (hf:Fi P f as_ g' k' r (aj g' ups) k1) (hk:k'<=k1) (hu:∀id,id∈ups.map Prod.fst->id<k1):
  ee P n (os++[o]) σ g k (rs++[⟨o.dst,r,ups,[],k'⟩]) (hs++[some k1]) (bp n o.dst r σ') (aj g' ups) k1:=by
 induction h0 with
 |nil=>exact .fi hg hal h hc hf hk hu .nil
 |cons h1 h2 h3 h4 ih=>exact .cons h1 h2 h3 (ih hg h hf hk)
 |fi h1 h2 h3 h4 h5 h6 h7 h8 ih=>exact .fi h1 h2 h3 h4 h5 h6 h7 (ih hg h hf hk)
end
section
variable {P:Program} {n k k0:Nat} {x:L3} {K:L3->Prop} {Q:Ex->L3->Prop} {R:List aw} {dep:List (List Nat)} {rs:List Rec} {hs:List (Option Nat)}
end
open Go.RowKit
def fY (o:aw):Bool:=match o.ao,o.guard with| .new _,none=>true|_,_=>false
def kG (dep:List (List Nat)) (i j:Nat):Bool:=dep.all fun d=> !d.contains j||d.contains i
def gP (jn:Nat) (rs:List Rec) (hs:List (Option Nat)) (dep:List (List Nat)):Bool:=
 (List.range rs.length).all fun j=>(List.range j).all fun i=>((dep[j]?).getD []).contains i||(match rs[i]?,rs[j]? with|some x,some y=> !(b5 hs i&&b5 hs j)&&((!b5 hs i||(y.ups.isEmpty||(Nat.beq j jn&&kG dep i j)))&&(!b5 hs j||x.ups.isEmpty))|_,_=>false)
theorem ae.Eh {E:Env} {Y:Nat->Prop} {v:Value} {a:AV} (h:ae E v a):ae { E with X:=Y } v a:=by
 induction h with
 |v h=>exact .v h
 |agg hl h ih=>exact .agg hl ih
 |aG hl h ih=>exact .aG hl ih
 |dy hc=>exact .dy hc
 |dO u hn hl hcc hb hz hu h1 h ih=>exact .dO u hn hl hcc hb hz hu h1 ih
 |cy h ih=>exact .cy ih
 |emp=>exact .emp
 |pim u hb hq hu h1 h ih=>exact .pim u hb hq hu h1 ih
 |ref hi hd hb hq=>exact .ref hi hd hb hq
 |own hi hd hb hq od hm hl hcc aZ=>exact .own hi hd hb hq od hm hl hcc aZ
 |bL hi hd hb aZ=>exact .bL hi hd hb aZ
 |dZ hi hd ho=>exact .dZ hi hd ho
 |ck hi hd ho=>exact .ck hi hd ho
 |mp hi hd hb=>exact .mp hi hd hb
 |gB hi hd ho=>exact .gB hi hd ho
 |fn hl h ih=>exact .fn hl ih
 |bf hl h ih=>exact .bf hl ih
 |dY hg hI hh c9 h ih=>exact .dY hg hI hh c9 ih
 |dq=>exact .dq
 |dead=>exact .dead
section
variable {E:Env} {J:Nat->Prop} {base:Nat} {g:Nat->Option Bk}
theorem aB.Ei (h:aB E J base g) (ob:Obj):∃E':Env,E'.w=E.w.alloc ob/\E.Le E'/\aB E' J base g/\(∀id,E'.kn id->E.kn id)/\E'.X E.w.heap.size:=by
 have hlt:∀id b B,g id=some B->E.loc id=some b->b<E.w.heap.size:=fun id b B hg hb=>by
  have:=h.at_ id B hg;rw [hb] at this;exact this.lt.2
 have hs:(E.w.alloc ob).heap.size=E.w.heap.size+1:=by simp
 let E':Env:={ E with w:=E.w.alloc ob,X:=fun b=>E.X b\/b=E.w.heap.size }
 have hE:E.Le E':=by
  refine ⟨fun _ h=>h,fun b hb=>⟨hb,Lm _ _ _ (h.low b hb).1⟩,fun _ _ h=>h,fun _ _ _=> .inr rfl,fun id b hi hd hb=> .inr ?_,fun _ _ _=> .inr rfl,fun _ h=>h,fun b hb=>⟨.inl hb,Lm _ _ _ (h.xo b hb).1⟩⟩
  obtain ⟨B',aP⟩:=(h.live id).1 ⟨hi,hd⟩
  show (E.w.alloc _).shape? b=_
  simp only [World.shape?]
  rw [Lm _ _ _ (hlt id b B' aP hb)]
 refine ⟨E',rfl,hE,⟨h.live,fun id B hg=>(h.at_ id B hg).bD hE fun b hb=>Lm _ _ _ (hlt id b B hg hb),h.apart,h.out,fun b hb=>⟨?_,(h.low b hb).2⟩, ?_,h.len,h.gi,fun b hb=> ?_⟩,fun _ h=>h, .inr rfl⟩
 ·have:=(h.low b hb).1
  show b<(E.w.alloc ob).heap.size
  omega
 ·have:=h.size
  show base<=(E.w.alloc ob).heap.size
  omega
 ·show b<(E.w.alloc ob).heap.size/\_
  rcases hb with hb|hb
  ·have:=h.xo b hb
   exact ⟨by omega,this.2⟩
  ·subst hb
   refine ⟨by omega,fun hI=> ?_,fun id B hg he=> ?_⟩
   ·have:=(h.low _ hI).1;omega
   ·have:=hlt id _ B hg he;omega
theorem aB.Ej (h:aB E J base g) (fr:Nat) (hf:¬E.kn fr) (b:Nat) (hX:E.X b) (B:Bk) (hB:∀E':Env,E'.w=E.w->ct E' base B (some b)):
  ∃E':Env,E'.w=E.w/\(∀{v a},ae E v a->ae E' v a)/\aB E' J base (aj g [(fr,some B)])/\(∀id,E'.kn id->E.kn id\/id=fr)/\E'.kn fr/\¬E'.dead fr/\E'.loc fr=some b/\(∀E0:Env,E0.Le E->¬E0.X b->E0.Le E')/\(∀b,E.I b->E'.I b):=by
 have aA:∀id,E.kn id->id≠fr:=fun id hi he=>hf (he▸hi)
 let E1:Env:={ E with X:=fun x=>E.X x/\x≠b }
 let E':Env:={ E1 with kn:=fun id=>E.kn id\/id=fr,loc:=fun id=>if id=fr then some b else E.loc id,dead:=fun id=>E.dead id/\id≠fr,ln:=fun id=>if id=fr then B.els.length else E.ln id }
 have gF:E1.Le E':=⟨fun _ h=> .inl h,fun b hb=>⟨hb,rfl⟩,fun id hi hd=>⟨hd,aA id hi⟩,fun id hi hd=> .inr (KK (aA id hi)),fun _ _ _ _ _=> .inr rfl,fun id hi _=> .inr (KK (aA id hi)),fun _ h=>h,fun b hb=>⟨hb,rfl⟩⟩
 have hR:∀{v a},ae E v a->ae E' v a:=fun hr=>(ae.Eh (Y:=fun x=>E.X x/\x≠b) hr).step gF
 have dS:∀k,aj g [(fr,some B)] k=if k=fr then some B else g k:=fun k=>by simp only [aj]
 refine ⟨E',rfl,hR,⟨fun k=> ?_,fun k Bk hk=> ?_,fun k k' b' B1 B2 h1 h2 h3 h4=> ?_,fun k b' B1 hk hb hI=> ?_,h.low,h.size,fun k B1 hk cD=> ?_,h.gi,fun b' aV=>⟨(h.xo b' aV.1).1,(h.xo b' aV.1).2.1,fun k B1 hk he=> ?_⟩⟩,fun _ h=>h, .inr rfl,fun hd=>hd.2 rfl,KL rfl,fun E0 k tP=> ?_,fun _ h=>h⟩
 ·rw [dS]
  by_cases h1:k=fr
  ·subst h1;simp [E']
  ·simp only [h1,Lh, <-h.live k]
   simp [E',E1,h1]
 ·rw [dS] at hk
  by_cases h1:k=fr
  ·subst h1
   simp only [KN,KJ] at hk
   subst hk
   show ct E' base _ (if k=k then _ else _)
   rw [KL rfl]
   exact hB E' rfl
  ·rw [KK h1] at hk
   show ct E' base Bk (if k=fr then _ else _)
   rw [KK h1]
   have:=h.at_ k Bk hk
   cases hl:E.loc k with
   |none=>rw [hl] at this;exact this
   |some c=>
    rw [hl] at this
    obtain ⟨h1,⟨hz,arr,t,h2,h3,h4⟩|⟨hz,es,clock,h2,h3,h4⟩⟩:=this
    ·refine ⟨h1, .inl ⟨hz,arr,t,h2,h3,fun i cs hi=>⟨(h4 i cs hi).1,fun j x hj=> ?_⟩⟩⟩
     obtain ⟨u,k1,k2,k3⟩:=(h4 i cs hi).2 j x hj
     exact ⟨u,k1,k2,hR k3⟩
    ·refine ⟨h1, .inr ⟨hz,es,clock,h2,h3,fun i e cs he hi=> ?_⟩⟩
     obtain ⟨x,k1,k2,k3⟩:=h4 i e cs he hi
     exact ⟨x,k1,k2,hR k3⟩
 ·rw [dS] at h1 h2
  have e3:(if k=fr then some b else E.loc k)=some b':=h3
  have e4:(if k'=fr then some b else E.loc k')=some b':=h4
  by_cases a1:k=fr<;>by_cases a2:k'=fr
  ·rw [a1,a2]
  ·rw [KL a1] at e3;rw [KK a2] at e4 h2
   exact absurd (e4.trans e3.symm) ((h.xo b hX).2.2 k' B2 h2)
  ·rw [KK a1] at e3 h1;rw [KL a2] at e4
   exact absurd (e3.trans e4.symm) ((h.xo b hX).2.2 k B1 h1)
  ·rw [KK a1] at e3 h1;rw [KK a2] at e4 h2
   exact h.apart k k' b' B1 B2 h1 h2 e3 e4
 ·rw [dS] at hk
  have e3:(if k=fr then some b else E.loc k)=some b':=hb
  by_cases a1:k=fr
  ·rw [KL a1] at e3
   simp only [KJ] at e3
   exact (h.xo b hX).2.1 (e3▸hI)
  ·rw [KK a1] at e3 hk
   exact h.out k b' B1 hk e3 hI
 ·rw [dS] at hk
  show _=if k=fr then _ else _
  by_cases a1:k=fr
  ·rw [KL a1] at hk ⊢
   simp only [KJ] at hk;rw [<-hk]
  ·rw [KK a1] at hk ⊢
   exact h.len k B1 hk cD
 ·rw [dS] at hk
  have e3:(if k=fr then some b else E.loc k)=some b':=he
  by_cases a1:k=fr
  ·rw [KL a1] at e3
   simp only [KJ] at e3
   exact aV.2 e3.symm
  ·rw [KK a1] at e3 hk
   exact (h.xo b' aV.1).2.2 k B1 hk e3
 ·exact ⟨fun id hi=> .inl (k.kn id hi),fun b hb=>k.dP b hb,fun id hi hd=>⟨k.dead id hi hd,aA id (k.kn id hi)⟩,fun id hi hd=>(k.loc id hi hd).imp (fun q=>⟨q,aA id (k.kn id hi)⟩) fun q=>(KK (aA id (k.kn id hi))).trans q,fun id b hi hd hb=>(k.shape id b hi hd hb).imp (fun q=>⟨q,aA id (k.kn id hi)⟩) fun q=>q,fun id hi hd=>(k.ln id hi hd).imp (fun q=>⟨q,aA id (k.kn id hi)⟩) fun q=>(KK (aA id (k.kn id hi))).trans q,k.rg,fun b' aV=>⟨⟨(k.fx b' aV).1,fun e=>tP (e▸aV)⟩,(k.fx b' aV).2⟩⟩
end
section
variable {P:Program} {E0:Env} {n:Nat} {ops:Array Oper} {J:Nat->Prop} {base:Nat} {w0:World} {Q:Exit->Act->World->Prop} {os:List aw} {dep:List (List Nat)} {σ σ':Nat->AV} {g g':Nat->Option Bk} {k k':Nat} {rs:List Rec} {hs:List (Option Nat)}
structure eY (E0:Env) (n:Nat) (ops:Array Oper) (dep:List (List Nat)) (J:Nat->Prop) (base:Nat) (w0:World) (σ:Nat->AV) (g:Nat->Option Bk) (k:Nat) (rs:List Rec) (hs:List (Option Nat)) (sx:Nat->Bool) (pd:Env->Act->Prop) (listed:Array Bool) (a:Act) (w:World):Prop where
 ex:∃E:Env,E.w=w/\E0.Le E/\(∀t,sx t=false->ae E (a.tmps.getD t undef) (bo n (fun j=>listed.getD j false) rs σ t))/\aB E J base (bm (fun j=>listed.getD j false) rs g)/\
  (∀id,E.kn id->id<k\/∃j r,listed.getD j false=true/\rs[j]? =some r/\(id∈r.keys\/∃k1,hs[j]? =some (some k1)/\id<k1))/\Mk E w0.heap.size a.defers/\pd E a
 size:a.tmps.size=n
 below:Below base w0 w
 gl:dQ E0
 eW:listed.size=ops.size
 closed:∀(j:Nat),j<ops.size->listed.getD j false=true->∀e,e∈(dep[j]?).getD []->listed.getD e false=true
theorem yj {rd:Option Nat} (dg:ee P n os σ g k rs hs σ' g' k') (hlen:os.length=ops.size) (bY:eM os dep=true) (hid:ew rs dep=true) (hcs:gP jn rs hs dep=true)
  {sx:Nat->Bool} {pd:Env->Act->Prop} (hI:eY E0 n ops dep J base w0 σ g k rs hs sx pd listed a w) (m2:ops[i]? =some op) (ho:os[i]? =some o) (gO:eK P ops op=some o) (cB:listed.getD i false=false)
  (di:∀e,e∈(dep[i]?).getD []->listed.getD e false=true) (hu:∀t,t∈o.gJ->sx t=false) (hq:b5 hs i=true->listed.getD jn false=true->i<jn->i∈(dep[jn]?).getD []) (oi:i=jn->∀c,c<i->b5 hs c=true->¬c∈(dep[i]?).getD []->listed.getD c false=true)
  (Ek:∀E E' v,pd E a->E.Le E'->pd E' (a.put o.dst v)) (hK:∀a' w',eY E0 n ops dep J base w0 σ g k rs hs sx pd (listed.setIfInBounds i true) a' w'->K a' w'):wpOpIn (cj rd) 0 P ops Q i K a w:=by
 obtain ⟨⟨c1,tQ⟩,c2,c3,c4,c5,c6,c7⟩:=qp dg
 have cg:i<ops.size:=(Lw.1 m2).1
 obtain ⟨r,bZ,bU,hrun,dT⟩:=c3 i o ho
 obtain ⟨E,rfl,hle,ld,h2,h3,hmk,El⟩:=hI.ex
 have h1:∀t,ae E (a.tmps.getD t undef) ((fun t=>if sx t=true then AV.dead else bo n (fun j=>listed.getD j false) rs σ t) t):=fun t=>by
  show ae E _ (if sx t=true then AV.dead else _)
  cases ht:sx t with
  |true=>rw [KL rfl];exact .dead
  |false=>rw [KK (by simp)];exact ld t ht
 -- Df is listed out of turn is free of this one
 have free:∀j rj oj,j≠i->rs[j]? =some rj->os[j]? =some oj->listed.getD j false≠upto i j->(gL (if i<j then o else oj) (if i<j then oj else o)=true/\eL (if i<j then r else rj) (if i<j then rj else r)=true):=by
  intro j rj oj aA aF aY hl
  have aU:j<os.length:=(KS.1 aY).1
  unfold eM at bY
  unfold ew at hid
  simp only [KQ,Lo,K9,L1] at bY hid
  by_cases aO:i<j
  ·rw [KL aO,KL aO,KL aO,KL aO]
   have aH:listed.getD j false=true:=by
    have hu:upto i j=false:=by simp [upto];omega
    rw [hu] at hl
    simpa using hl
   have cu:i∉(dep[j]?).getD []:=by
    intro cK
    have gM:j<ops.size:=by omega
    have:=hI.closed j gM aH i cK
    rw [cB] at this;simp at this
   have s1:=(bY j aU i aO).resolve_left cu
   have s2:=(hid j (by rw [c1];exact aU) i aO).resolve_left cu
   rw [ho,aY] at s1;rw [bZ,aF] at s2
   exact ⟨s1,s2⟩
  ·rw [KK aO,KK aO,KK aO,KK aO]
   have bn:j<i:=by omega
   have aH:listed.getD j false=false:=by
    have hu:upto i j=true:=by simp [upto];omega
    rw [hu] at hl
    simpa using hl
   have cu:j∉(dep[i]?).getD []:=by
    intro cK
    have:=di j cK
    rw [aH] at this;simp at this
   have s1:=(bY i (by omega) j bn).resolve_left cu
   have s2:=(hid i (by omega) j bn).resolve_left cu
   rw [ho,aY] at s1;rw [bZ,aF] at s2
   exact ⟨s1,s2⟩
 have fC:∀(j:Nat) rj,rs[j]? =some rj->∃oj,os[j]? =some oj/\rj.dst=oj.dst:=fun j rj aF=>by
  have aU:j<os.length:=by rw [<-c1];exact (KS.1 aF).1
  obtain ⟨r',q1,q2,_,_⟩:=c3 j _ (K0 aU)
  rw [aF] at q1;simp only [KJ] at q1;subst q1
  exact ⟨_,K0 aU,q2⟩
 -- a slot n7 it looks at is as it comes one behind hY other
 have hσ:∀t,t∈o.gJ->(if sx t=true then AV.dead else bo n (fun j=>listed.getD j false) rs σ t)=bo n (upto i) rs σ t:=by
  intro t ht
  rw [KK (by rw [hu t ht];simp)]
  refine ia _ 0 _ fun j rj aF hl=> ?_
  rw [KY] at hl
  by_cases aA:j=i
  ·subst aA;rw [cB] at hl;simp [upto] at hl
  ·obtain ⟨oj,aY,cA⟩:=fC j rj aF
   have hf:=(free j rj oj aA aF aY hl).1
   unfold gK
   rw [KK]
   rintro ⟨cX,_⟩
   rw [cA] at cX
   unfold gL at hf
   by_cases aO:i<j
   ·simp only [KL aO,cX,KM,K3,Lp,K6] at hf
    exact hf.2 ht
   ·simp only [KK aO,cX,KM,K3,Lp,K6] at hf
    exact hf.1.1 ht
 have hg:∀id,id∈r.acc->bm (fun j=>listed.getD j false) rs g id=bm (upto i) rs g id:=by
  intro id n8
  refine ia _ 0 _ fun j rj aF hl=> ?_
  rw [KY] at hl
  by_cases aA:j=i
  ·subst aA;rw [cB] at hl;simp [upto] at hl
  ·obtain ⟨oj,aY,cA⟩:=fC j rj aF
   have hf:=(free j rj oj aA aF aY hl).2
   cases hw:wg id rj with
   |none=>rfl
   |some y=>
    exfalso
    have hk:id∈rj.keys:=ju (by unfold wg at hw;rw [hw];simp)
    unfold eL at hf
    by_cases aO:i<j
    ·simp only [KL aO,KM,KQ,K3,Lp,K6] at hf
     exact hf.2 id hk n8
    ·simp only [KK aO,KM,KQ,K3,Lp,K6] at hf
     exact (hf.1 id hk).1 n8
 have tR:∀{j x},hs[j]? =some (some x)->b5 hs j=true:=fun h=>by unfold b5;rw [h]
 have tS:∀j rj,j≠i->rs[j]? =some rj->listed.getD j false≠upto i j->(b5 hs i&&b5 hs j)=false/\(b5 hs i=true->rj.ups=[])/\(b5 hs j=true->r.ups=[]):=by
  intro j rj aA aF hl
  have aU:j<rs.length:=(KS.1 aF).1
  unfold gP at hcs
  simp only [KQ,Lo,K9,L1] at hcs
  by_cases aO:i<j
  ·have aH:listed.getD j false=true:=by
    have hu:upto i j=false:=by simp [upto];omega
    rw [hu] at hl
    simpa using hl
   have cu:i∉(dep[j]?).getD []:=by
    intro cK
    have gM:j<ops.size:=by omega
    have:=hI.closed j gM aH i cK
    rw [cB] at this;simp at this
   have s2:=(hcs j aU i aO).resolve_left cu
   rw [bZ,aF] at s2
   simp only [KM,K9,K3,LN] at s2
   exact ⟨s2.1,fun h=>(s2.2.1.resolve_left (by rw [h];simp)).resolve_right fun q=>by
    have ej:=K1 q.1
    exact cu (by rw [ej];exact hq h (by rw [<-ej];exact aH) (by omega)),fun h=>s2.2.2.resolve_left (by rw [h];simp)⟩
  ·have bn:j<i:=by omega
   have aH:listed.getD j false=false:=by
    have hu:upto i j=true:=by simp [upto];omega
    rw [hu] at hl
    simpa using hl
   have cu:j∉(dep[i]?).getD []:=by
    intro cK
    have:=di j cK
    rw [aH] at this;simp at this
   have s2:=(hcs i (by omega) j bn).resolve_left cu
   rw [bZ,aF] at s2
   simp only [KM,K9,K3,LN] at s2
   exact ⟨by rw [Bool.and_comm];exact s2.1,fun h=>s2.2.2.resolve_left (by rw [h];simp),fun h=>(s2.2.1.resolve_left (by rw [h];simp)).resolve_right fun q=>by
    have:=oi (K1 q.1) j bn h cu
    rw [aH] at this;simp at this⟩
 have fin:∀v E',E.Le E'->ae E' v r.val->aB E' J base (aj (bm (fun j=>listed.getD j false) rs g) r.ups)->Below base E.w E'.w->(∀id,E'.kn id->(E.kn id\/id∈r.keys)\/∃k1,hs[i]? =some (some k1)/\id<k1)->K (a.put o.dst v) E'.w:=by
  intro v E' hE hv hM hB aX
  -- it is listed now
  have cM:∀j,(listed.setIfInBounds i true).getD j false=if j=0+i then true else listed.getD j false:=by
   intro j
   rw [KY]
   have fX:i<listed.size:=by rw [hI.eW];exact cg
   by_cases bn:j=i
   ·subst bn;simp [fX]
   ·rw [KK bn,getD_set_ne false (Ne.symm bn)]
  have lG:∀t,bo n (fun j=>(listed.setIfInBounds i true).getD j false) rs σ t=bp n o.dst r.val (bo n (fun j=>listed.getD j false) rs σ) t:=by
   intro t
   rw [<-bU,jv]
   refine lC rs 0 i _ r bZ (by rw [KY];exact cB) cM fun j rj aO aF aH=> ?_
   rw [KY] at aH
   obtain ⟨oj,aY,cA⟩:=fC j rj aF
   have hf:=(free j rj oj (by omega) aF aY (by rw [aH];simp [upto];omega)).1
   unfold gL at hf
   simp only [KL aO] at hf
   by_cases gp:r.dst=some t
   ·left
    unfold gK
    rw [KK]
    rintro ⟨cX,_⟩
    rw [bU] at gp
    rw [cA] at cX
    simp only [gp,cX,KM,bne_iff_ne,ne_eq] at hf
    exact hf.1.2 trivial
   ·right
    unfold gK
    rw [KK]
    rintro ⟨cX,_⟩
    exact gp cX
  have ng:∀id,bm (fun j=>(listed.setIfInBounds i true).getD j false) rs g id=aj (bm (fun j=>listed.getD j false) rs g) r.ups id:=by
   intro id
   rw [iQ]
   refine lC rs 0 i _ r bZ (by rw [KY];exact cB) cM fun j rj aO aF aH=> ?_
   rw [KY] at aH
   obtain ⟨oj,aY,cA⟩:=fC j rj aF
   have hf:=(free j rj oj (by omega) aF aY (by rw [aH];simp [upto];omega)).2
   unfold eL at hf
   simp only [KL aO,KM,KQ,K3,Lp,K6] at hf
   cases hw:wg id r with
   |none=>exact .inr rfl
   |some y=>
    left
    cases hw2:wg id rj with
    |none=>rfl
    |some y2=>
     exfalso
     have k1:id∈r.keys:=ju (by unfold wg at hw;rw [hw];simp)
     have k2:id∈rj.keys:=ju (by unfold wg at hw2;rw [hw2];simp)
     exact (hf.1 id k1).2 k2
  refine hK _ _ ⟨⟨E',rfl,hle.trans hE,fun t ht=> ?_, ?_,fun id hh=> ?_, ?_,Ek E E' v El hE⟩, ?_,hI.below.trans hB,hI.gl,by simpa using hI.eW,fun j hj aH e he=> ?_⟩
  ·rw [lG t]
   have:=mz hE h1 hv o.dst t
   rw [hI.size] at this
   have e9:bp n o.dst r.val (fun t=>if sx t=true then AV.dead else bo n (fun j=>listed.getD j false) rs σ t) t=bp n o.dst r.val (bo n (fun j=>listed.getD j false) rs σ) t:=by
    unfold bp
    split
    ·rfl
    ·exact KK (by rw [ht];simp)
   rw [<-e9]
   exact this
  ·rw [show bm (fun j=>(listed.setIfInBounds i true).getD j false) rs g=aj (bm (fun j=>listed.getD j false) rs g) r.ups from funext ng]
   exact hM
  ·rcases aX id hh with (h|h)|h
   ·rcases h3 id h with h|⟨j,rj,q1,q2,q3⟩
    ·exact .inl h
    ·exact .inr ⟨j,rj,getD_set_true q1,q2,q3⟩
   ·refine .inr ⟨i,r, ?_,bZ, .inl h⟩
    rw [cM i,KY,KL rfl]
   ·refine .inr ⟨i,r, ?_,bZ, .inr h⟩
    rw [cM i,KY,KL rfl]
  ·rw [(fU a o.dst v).2];exact hmk.step hE
  ·rw [(fU a o.dst v).1];exact hI.size
  ·rw [cM j,KY] at aH
   by_cases bn:j=i
   ·subst bn
    exact getD_set_true (di e he)
   ·rw [KK bn] at aH
    exact getD_set_true (hI.closed j hj aH e he)
 rcases hrun with ⟨mJ,hrun⟩|⟨f,as_,k1,yk,cq,hal,cS,bO,Em⟩
 ·-- a name n7 Dg has
  have nQ:∃fA,¬E.kn fA/\(r.fr∈r.ups.map Prod.fst->fA=r.fr):=by
   by_cases fQ:r.fr∈r.ups.map Prod.fst
   ·refine ⟨r.fr,fun hk=> ?_,fun _=>rfl⟩
    rcases h3 _ hk with h|⟨j,rj,aH,aF,cv⟩
    ·omega
    ·by_cases aA:j=i
     ·subst aA;rw [cB] at aH;simp at aH
     ·rcases cv with cv|⟨k1,hk1,cv⟩
      rotate_left
      ·by_cases aO:i<j
       ·have:=(tS j rj aA aF (by rw [aH];simp [upto];omega)).2.2 (tR hk1)
        rw [this] at fQ;simp at fQ
       ·have:=(c4 j i rj r (by omega) aF bZ).2 k1 hk1
        omega
      by_cases aO:i<j
      ·obtain ⟨oj,aY,_⟩:=fC j rj aF
       have hf:=(free j rj oj aA aF aY (by rw [aH];simp [upto];omega)).2
       unfold eL at hf
       simp only [KL aO,KM,KQ,K3,Lp,K6] at hf
       exact (hf.1 _ fQ).2 cv
      ·have:=(c4 j i rj r (by omega) aF bZ).1 _ cv
       exact LZ _ this
   ·refine ⟨k',fun hk=> ?_,fun h=>absurd h fQ⟩
    rcases h3 _ hk with h|⟨j,rj,aH,aF,cv|⟨k1,hk1,cv⟩⟩
    ·omega
    ·exact LZ _ ((c5 j rj aF).1 _ cv)
    ·exact LZ _ (K8 cv ((c5 j rj aF).2 k1 hk1))
  obtain ⟨fA,tg,ti⟩:=nQ
  obtain ⟨tb,tj⟩:=hrun.local hσ hg ti
  exact s9 (hI.gl.step hle) h1 h2 tg m2 gO tj fun v E' hE hv hM hB aX=>fin v E' hE hv hM hB fun id h=> .inl (aX id h)
 ·have tT:=tR yk
  have tU:bm (fun j=>listed.getD j false) rs g=bm (upto i) rs g:=by
   funext id
   refine ia _ 0 _ fun j rj aF hl=> ?_
   rw [KY] at hl
   by_cases aA:j=i
   ·subst aA;rw [cB] at hl;simp [upto] at hl
   ·unfold wg;rw [(tS j rj aA aF hl).2.1 tT];rfl
  have En:∀id,E.kn id->id<r.fr:=by
   intro id hid
   rcases h3 id hid with h|⟨j,rj,aH,aF,cv⟩
   ·omega
   ·by_cases aA:j=i
    ·subst aA;rw [cB] at aH;simp at aH
    ·by_cases aO:i<j
     ·have gH:=tS j rj aA aF (by rw [aH];simp [upto];omega)
      rcases cv with cv|⟨x,hx,cv⟩
      ·unfold Rec.keys at cv;rw [gH.2.1 tT] at cv;simp at cv
      ·have:=gH.1;rw [tT,tR hx] at this;simp at this
     ·rcases cv with cv|⟨x,hx,cv⟩
      ·exact (c4 j i rj r (by omega) aF bZ).1 _ cv
      ·have:=(c4 j i rj r (by omega) aF bZ).2 x hx;omega
  have Eo:bH (fun t=>if sx t=true then AV.dead else bo n (fun j=>listed.getD j false) rs σ t) o.guard=some true:=by
   rw [<-cq]
   cases hg0:o.guard with
   |none=>rfl
   |some p=>
    obtain ⟨t,w⟩:=p
    simp only [bH,hσ t (by simp [aw.gJ,hg0])]
  have Ep:(o.ao.af r.fr (aD (fun t=>if sx t=true then AV.dead else bo n (fun j=>listed.getD j false) rs σ t))).run (bm (fun j=>listed.getD j false) rs g)=some (.call f as_):=by
   rw [tU,xT r.fr fun t ht=>hσ t (by simp [aw.gJ,ht])];exact cS
  have hdd:=nX gO
  have tV:∀e,op.semAt (cj rd).round e=execOp e op:=fun e=>MB (cj rd) _ _ (my hdd.2)
  unfold wpOpIn
  simp only [m2]
  rw [jt h1 gO Eo,KL rfl]
  obtain ⟨vs,e1,e2⟩:=nS (dA.of (hI.gl.step hle) h1) hdd.2 Ep bO
  unfold Oper.wpIn
  rw [tV,e1,Oper.uponIn_enter]
  have yl:=h2
  rw [tU] at yl
  refine ⟨iP,mw,nV ((Em E J base vs (hI.gl.step hle) yl En e2).mono ?_)⟩
  rintro e w' ⟨v,E',rfl,rfl,q1,q2,q3,q4,q5⟩
  have kF:=fin v E' q1 q2 (by rw [tU];exact q3) q4 fun id h=> .inr ⟨k1,yk,q5 id h⟩
  rw [hdd.1] at kF
  exact kF
theorem Er (dg:ee P n os σ g k rs hs σ' g' k') (hlen:os.length=ops.size) (bY:eM os dep=true) (hid:ew rs dep=true) (bO:∀(j:Nat),j<ops.size->listed.getD j false=true->∀e,e∈(dep[j]?).getD []->listed.getD e false=true) (cL:listed.size=ops.size)
 (cg:i<ops.size) (ho:os[i]? =some o) (bZ:rs[i]? =some r) (bU:r.dst=o.dst) (cB:listed.getD i false=false):
  (∀t,bo n (fun j=>(listed.setIfInBounds i true).getD j false) rs σ t=bp n o.dst r.val (bo n (fun j=>listed.getD j false) rs σ) t)/\(∀id,bm (fun j=>(listed.setIfInBounds i true).getD j false) rs g id=aj (bm (fun j=>listed.getD j false) rs g) r.ups id)/\∀j rj,i<j->rs[j]? =some rj->listed.getD j false=true->¬i∈(dep[j]?).getD []/\eL r rj=true:=by
 obtain ⟨⟨c1,tQ⟩,c2,c3,c4,c5,c6,c7⟩:=qp dg
 have fC:∀(j:Nat) rj,rs[j]? =some rj->∃oj,os[j]? =some oj/\rj.dst=oj.dst:=fun j rj aF=>by
  have aU:j<os.length:=by rw [<-c1];exact (KS.1 aF).1
  obtain ⟨r',q1,q2,_,_⟩:=c3 j _ (K0 aU)
  rw [aF] at q1;simp only [KJ] at q1;subst q1
  exact ⟨_,K0 aU,q2⟩
 have ed:∀j,i<j->j<ops.size->listed.getD j false=true->¬i∈(dep[j]?).getD []:=fun j aO hj aH cK=>by
  have:=bO j hj aH i cK
  rw [cB] at this;simp at this
 have free:∀j rj oj,i<j->rs[j]? =some rj->os[j]? =some oj->listed.getD j false=true->(gL o oj=true/\eL r rj=true):=by
  intro j rj oj aO aF aY aH
  have aU:j<os.length:=(KS.1 aY).1
  unfold eM at bY
  unfold ew at hid
  simp only [KQ,Lo,K9,L1] at bY hid
  have cu:=ed j aO (by omega) aH
  have s1:=(bY j aU i aO).resolve_left cu
  have s2:=(hid j (by rw [c1];exact aU) i aO).resolve_left cu
  rw [ho,aY] at s1;rw [bZ,aF] at s2
  exact ⟨s1,s2⟩
 -- it is listed now
 have cM:∀j,(listed.setIfInBounds i true).getD j false=if j=0+i then true else listed.getD j false:=by
  intro j
  rw [KY]
  have fX:i<listed.size:=by rw [cL];exact cg
  by_cases bn:j=i
  ·subst bn;simp [fX]
  ·rw [KK bn,getD_set_ne false (Ne.symm bn)]
 have lG:∀t,bo n (fun j=>(listed.setIfInBounds i true).getD j false) rs σ t=bp n o.dst r.val (bo n (fun j=>listed.getD j false) rs σ) t:=by
  intro t
  rw [<-bU,jv]
  refine lC rs 0 i _ r bZ (by rw [KY];exact cB) cM fun j rj aO aF aH=> ?_
  rw [KY] at aH
  obtain ⟨oj,aY,cA⟩:=fC j rj aF
  have hf:=(free j rj oj aO aF aY aH).1
  unfold gL at hf
  by_cases gp:r.dst=some t
  ·left
   unfold gK
   rw [KK]
   rintro ⟨cX,_⟩
   rw [bU] at gp
   rw [cA] at cX
   simp only [gp,cX,KM,bne_iff_ne,ne_eq] at hf
   exact hf.1.2 trivial
  ·right
   unfold gK
   rw [KK]
   rintro ⟨cX,_⟩
   exact gp cX
 have ng:∀id,bm (fun j=>(listed.setIfInBounds i true).getD j false) rs g id=aj (bm (fun j=>listed.getD j false) rs g) r.ups id:=by
  intro id
  rw [iQ]
  refine lC rs 0 i _ r bZ (by rw [KY];exact cB) cM fun j rj aO aF aH=> ?_
  rw [KY] at aH
  obtain ⟨oj,aY,cA⟩:=fC j rj aF
  have hf:=(free j rj oj aO aF aY aH).2
  unfold eL at hf
  simp only [KM,KQ,K3,Lp,K6] at hf
  cases hw:wg id r with
  |none=>exact .inr rfl
  |some y=>
   left
   cases hw2:wg id rj with
   |none=>rfl
   |some y2=>
    exfalso
    have k1:id∈r.keys:=ju (by unfold wg at hw;rw [hw];simp)
    have k2:id∈rj.keys:=ju (by unfold wg at hw2;rw [hw2];simp)
    exact (hf.1 id k1).2 k2
 refine ⟨lG,ng,fun j rj aO aF aH=> ?_⟩
 obtain ⟨oj,aY,_⟩:=fC j rj aF
 exact ⟨ed j aO (by rw [<-hlen];exact (KS.1 aY).1) aH,(free j rj oj aO aF aY aH).2⟩
def Es (w:World) (b:Nat) (zs:List AV):Prop:=∃(arr:Array Value) (t:TypeId),w.heap[b]? =some (.cells arr t (0,0))/\zs.length<=arr.size/\∀(j:Nat) x,zs[j]? =some x->∃u,arr[j]? =some u/\u.oneCell'=true/\∀E:Env,ae E u x
def mK (E0:Env) (n base b:Nat) (zs:List AV) (d:Option Nat) (E:Env) (a:Act):Prop:=E.X b/\¬E0.X b/\base<=b/\(∀t,d=some t->t<n->a.tmps.getD t undef= .pointer (some ⟨b,0,none⟩))/\Es E.w b zs
def jE (n:Nat) (d:Option Nat) (t:Nat):Bool:=d==some t&&Nat.blt t n
theorem eY.bI (dg:ee P n os σ g k rs hs σ' g' k') (hlen:os.length=ops.size) (bY:eM os dep=true) (hid:ew rs dep=true) (hcs:gP jn rs hs dep=true) {zs:List AV} {b:Nat}
  (hI:eY E0 n ops dep J base w0 σ g k rs hs (jE n o.dst) (mK E0 n base b zs o.dst) listed a w) (cg:jn<ops.size) (ho:os[jn]? =some o) (bZ:rs[jn]? =some r) (bU:r.dst=o.dst) (cB:listed.getD jn false=false) (di:∀e,e∈(dep[jn]?).getD []->listed.getD e false=true)
  (hz:0<zs.length) (qq:r.val= .ref r.fr zs.length 0 0) (mI:r.ups=[(r.fr,some ⟨zs.length,[zs]⟩)]) (dT:k<=r.fr):
  eY E0 n ops dep J base w0 σ g k rs hs (fun _=>false) (fun _ _=>True) (listed.setIfInBounds jn true) a w:=by
 obtain ⟨⟨c1,tQ⟩,c2,c3,c4,c5,c6,c7⟩:=qp dg
 obtain ⟨lG,ng,Et⟩:=Er dg hlen bY hid hI.closed hI.eW cg ho bZ bU cB
 obtain ⟨E,rfl,hle,h1,h2,h3,hmk,⟨p1,p2,p3,p4,arr,t0,p5,p6,p7⟩⟩:=hI.ex
 have hk:r.fr∈r.keys:=by unfold Rec.keys;rw [mI];simp
 have hf:¬E.kn r.fr:=fun aX=>by
  rcases h3 _ aX with h|⟨j,rj,aH,aF,cv⟩
  ·omega
  ·by_cases aA:j=jn
   ·subst aA;rw [cB] at aH;simp at aH
   ·by_cases aO:jn<j
    ·obtain ⟨q1,q2⟩:=Et j rj aO aF aH
     rcases cv with cv|⟨k1,hk1,_⟩
     ·unfold eL at q2
      simp only [KM,KQ,K3,Lp,K6] at q2
      exact (q2.1 _ hk).2 cv
     ·have aU:j<rs.length:=(KS.1 aF).1
      unfold gP at hcs
      simp only [KQ,Lo,K9,L1] at hcs
      have s2:=(hcs j aU jn aO).resolve_left q1
      rw [bZ,aF] at s2
      simp only [KM,K9,K3,LN] at s2
      have hc:b5 hs j=true:=by unfold b5;rw [hk1]
      have:=s2.2.2.resolve_left (by rw [hc];simp)
      rw [this] at mI;simp at mI
    ·have bn:j<jn:=by omega
     rcases cv with cv|⟨k1,hk1,cv⟩
     ·exact LZ _ ((c4 j jn rj r bn aF bZ).1 _ cv)
     ·have:=(c4 j jn rj r bn aF bZ).2 k1 hk1
      omega
 obtain ⟨E',hw,hR,hM,q1,q2,q3,q4,q5,q6⟩:=h2.Ej r.fr hf b p1 ⟨zs.length,[zs]⟩ (fun kg hw=>by
  refine ct.iE ⟨p3,arr,(t0,0),by rw [hw];exact p5,by simpa using p6,fun i cs hi=> ?_⟩ (by show zs.length≠0;omega)
  cases i with
  |zero=>
   simp only [Ll,KJ] at hi
   subst hi
   refine ⟨rfl,fun j x hj=> ?_⟩
   obtain ⟨u,u1,u2,u3⟩:=p7 j x hj
   exact ⟨u,by simpa using u1,u2,u3 _⟩
  |succ i=>simp at hi)
 refine ⟨⟨E',hw,q5 E0 hle p2,fun t _=> ?_, ?_,fun id hh=> ?_,hmk.xL fun b hb=>⟨q6 b hb,by rw [hw]⟩,trivial⟩,hI.size,hI.below,hI.gl,by simpa using hI.eW,fun j hj aH e he=> ?_⟩
 ·rw [lG t]
  by_cases ht:o.dst=some t/\t<n
  ·rw [show bp n o.dst r.val (bo n (fun j=>listed.getD j false) rs σ) t=r.val from KL ht,qq,p4 t ht.1 ht.2]
   exact .ref q2 q3 q4 (by simp) (by omega)
  ·rw [show bp n o.dst r.val (bo n (fun j=>listed.getD j false) rs σ) t=bo n (fun j=>listed.getD j false) rs σ t from KK ht]
   refine hR (h1 t ?_)
   unfold jE
   rw [Bool.and_eq_false_iff]
   by_cases hd:o.dst=some t
   ·right
    have:¬t<n:=fun h=>ht ⟨hd,h⟩
    cases hb:Nat.blt t n with
    |false=>rfl
    |true=>exact absurd (Ly hb) this
   ·left;simpa using hd
 ·rw [show bm (fun j=>(listed.setIfInBounds jn true).getD j false) rs g=aj (bm (fun j=>listed.getD j false) rs g) r.ups from funext ng,mI]
  exact hM
 ·rcases q1 id hh with h|h
  ·rcases h3 id h with h|⟨j,rj,q1,q2,q3⟩
   ·exact .inl h
   ·exact .inr ⟨j,rj,getD_set_true q1,q2,q3⟩
  ·refine .inr ⟨jn,r, ?_,bZ, .inl (h▸hk)⟩
   have fX:jn<listed.size:=by rw [hI.eW];exact cg
   simp [fX]
 ·by_cases bn:j=jn
  ·subst bn;exact getD_set_true (di e he)
  ·rw [getD_set_ne false (Ne.symm bn)] at aH
   exact getD_set_true (hI.closed j hj aH e he)
theorem Eu {o:Oper} {zs:List AV} (h:br P o=some (.new zs)):∃t,o.op= .alloc t/\fo P t=some zs/\0<zs.length:=by
 obtain ⟨dst,op,type,pos,after,guard⟩:=o
 cases op
 case alloc t=>
  simp only [br] at h
  split at h
  ·split at h
   ·simp only [KJ,AO.new.injEq] at h;subst h;exact ⟨t,rfl,by assumption,by assumption⟩
   ·simp at h
  ·simp at h
 all_goals
  exfalso
  simp only [br] at h
  first
   |(simp at h;done)
   |((repeat' split at h)<;>simp at h<;>done)
   |((repeat' split at h)<;>simp_all)
theorem Ev {rd:Option Nat} (hI:eY E0 n ops dep J base w0 σ g k rs hs (fun _=>false) (fun _ _=>True) listed a w) {zs:List AV} (m2:ops[i]? =some op) (gO:eK P ops op=some o) (hg:o.guard=none) (cr:o.ao= .new zs)
 (hK:∀a' w' b,0<zs.length->eY E0 n ops dep J base w0 σ g k rs hs (jE n o.dst) (mK E0 n base b zs o.dst) listed a' w'->K a' w'):wpOpIn (cj rd) 0 P ops Q i K a w:=by
 obtain ⟨E,rfl,hle,ld,h2,h3,hmk,_⟩:=hI.ex
 have h1:∀t,ae E (a.tmps.getD t undef) (bo n (fun j=>listed.getD j false) rs σ t):=fun t=>ld t rfl
 have hdd:=nX gO
 have tV:∀e,op.semAt (cj rd).round e=execOp e op:=fun e=>MB (cj rd) _ _ (my hdd.2)
 obtain ⟨t,bG,Ew,hz0⟩:=Eu (hdd.2.trans (by rw [cr]))
 obtain ⟨ii,z,hi,hz,hsz,hcs,dB,cF⟩:=kZ Ew
 have hrun:(execOp a.eval op).run P E.w= .ok (.value (.pointer (some ⟨E.w.heap.size,0,none⟩))) (E.w.alloc (.cells z.cells t)):=by
  obtain ⟨dst,op,type,pos,after,guard⟩:=op
  simp only at bG
  subst bG
  simp [execOp,Instr.alloc,zeroValue,typeInfo,hi,hz,newVar,newRow]
 unfold wpOpIn
 simp only [m2]
 rw [jt h1 gO (b:=true) (by rw [hg];rfl),KL rfl]
 unfold Oper.wpIn
 rw [tV,hrun]
 obtain ⟨E',hw,hE,hM,aX,hX⟩:=h2.Ei (.cells z.cells t)
 have kF:K (a.put o.dst (.pointer (some ⟨E.w.heap.size,0,none⟩))) E'.w:=by
  refine hK _ _ E.w.heap.size hz0 ⟨⟨E',rfl,hle.trans hE,fun s hs=> ?_,hM,fun id h=>h3 id (aX id h),by rw [(fU a o.dst _).2];exact hmk.step hE,hX,fun tP=> ?_,h2.size,fun s hd hn=> ?_,z.cells,t,by rw [hw];exact heap_alloc_new E.w _,by omega,fun j x hj=> ?_⟩,by rw [(fU a o.dst _).1];exact hI.size,by rw [hw];exact hI.below.alloc h2.size _,hI.gl,hI.eW,hI.closed⟩
  ·have:(a.put o.dst (.pointer (some ⟨E.w.heap.size,0,none⟩))).tmps.getD s undef=a.tmps.getD s undef:=by
    unfold jE at hs
    cases hd:o.dst with
    |none=>rfl
    |some d=>
     rw [hd] at hs
     simp only [Act.put]
     by_cases e:d=s
     ·subst e
      have hn:¬d<n:=fun h=>by
       have hb:Nat.blt d n=true:=Nat.ble_eq_true_of_le h
       rw [hb] at hs;simp at hs
      rw [<-hI.size] at hn
      simp [hn]
     ·simp [My,ME,e]
   rw [this]
   exact (h1 s).step hE
  ·have:=(h2.xo _ (hle.fx _ tP).1).1
   omega
  ·rw [hd]
   simp only [Act.put]
   rw [<-hI.size] at hn
   simp [hn]
  ·have g7:j<zs.length:=(KS.1 hj).1
   have gN:j<z.cells.size:=by omega
   have Ey:=(cF E j z.cells[j] x (KX gN) hj).one (by simp only [KQ] at dB;exact dB _ (Lq hj))
   exact ⟨z.cells[j],KX gN,Ey,fun kg=>cF kg j _ x (KX gN) hj⟩
 rw [hw] at kF
 rw [hdd.1] at kF
 exact ⟨iP,kF⟩
theorem qs {A:Array Bool} (h:i<A.size):(A.setIfInBounds i true).getD i false=true:=by simp [h]
theorem Ez {rd:Option Nat} (dg:ee P n os σ g k rs hs σ' g' k') (hlen:os.length=ops.size) (dE:∀(j:Nat) op,ops[j]? =some op->∃o,os[j]? =some o/\eK P ops op=some o)
  (hd:gr ops.toList dep=true) (bY:eM os dep=true) (hid:ew rs dep=true) (hcs:gP jn rs hs dep=true) (jF:∀o,os[jn]? =some o->fY o=true) (hQ:∀a w,ec E0 J base w0 n σ' g' k' a w->Q .normal a w):
  ∀(fuel:Nat) (listed:Array Bool) (a:Act) (w:World),listed.size=ops.size->(∀(j:Nat) op,ops[j]? =some op->listed.getD j false=true->∀e,e∈db op->listed.getD e false=true)->
   ((eY E0 n ops dep J base w0 σ g k rs hs (fun _=>false) (fun _ _=>True) listed a w/\(listed.getD jn false=true->∀c,c<jn->b5 hs c=true->¬c∈(dep[jn]?).getD []->listed.getD c false=true))\/
    ∃(L:Array Bool) (o:aw) (zs:List AV) (b:Nat),os[jn]? =some o/\o.ao= .new zs/\0<zs.length/\listed.getD jn false=true/\(∀j,L.getD j false=(listed.getD j false&& !Nat.beq j jn))/\eY E0 n ops dep J base w0 σ g k rs hs (jE n o.dst) (mK E0 n base b zs o.dst) L a w/\∃c,c<jn/\b5 hs c=true/\¬c∈(dep[jn]?).getD []/\kG dep c jn=true)->
   (∀m:List Nat,(∀j,j∈m->j<ops.size/\listed.getD j true=false)->m.Nodup->m.length<=fuel)->wpAnyIn (cj rd) 0 P .any ops Q fuel listed a w:=by
 have tW:=dg
 obtain ⟨⟨c1,tQ⟩,c2,c3,c4,c5,c6,c7⟩:=qp dg
 have ym:∀(listed:Array Bool),listed.size=ops.size->Region.ready .any ops listed=[]->∀j,j<ops.size->listed.getD j false=true:=by
  intro listed cL lJ j
  induction j using Nat.strongRecOn with
  |_ j ih=>
   intro hj
   cases hl:listed.getD j false with
   |true=>rfl
   |false=>
    exfalso
    have jw:j<listed.size:=by rw [cL];exact hj
    have:j∈Region.ready .any ops listed:=by
     rw [mem_ready]
     refine ⟨by simp [jw] at hl ⊢; exact hl,ops[j],KX hj,fun e he hb=> ?_⟩
     have cA:=hd
     unfold gr at cA
     simp only [KM,KQ,Lo,Lk] at cA
     have gN:=(cA.2 j (by simpa using hj)).1
     have lE:ops.toList[j]? =some ops[j]:=by simp [hj]
     simp only [lE,KV,LM] at gN
     have hlt:=gN e.on (mB.2 ⟨e,he,hb,rfl⟩)
     exact ih e.on hlt (by omega)
    rw [lJ] at this
    simp at this
 have EA:∀j,j<ops.size->∀e,e∈(dep[j]?).getD []->e<j:=fun j hj e he=>by
  have cA:=hd
  unfold gr at cA
  simp only [KM,KQ,Lo,Lk] at cA
  have:=((cA.2 j (by simpa using hj)).2 e he).1
  simpa using this
 -- hY block n7 waits Ks Kt own where all calls ahead of it Cr done
 have norm:∀(listed:Array Bool) (a:Act) (w:World),listed.size=ops.size->(∀(j:Nat) op,ops[j]? =some op->listed.getD j false=true->∀e,e∈db op->listed.getD e false=true)->
   (∃(L:Array Bool) (o:aw) (zs:List AV) (b:Nat),os[jn]? =some o/\o.ao= .new zs/\0<zs.length/\listed.getD jn false=true/\(∀j,L.getD j false=(listed.getD j false&& !Nat.beq j jn))/\eY E0 n ops dep J base w0 σ g k rs hs (jE n o.dst) (mK E0 n base b zs o.dst) L a w/\∃c,c<jn/\b5 hs c=true/\¬c∈(dep[jn]?).getD []/\kG dep c jn=true)->
   (∀c,c<jn->b5 hs c=true->¬c∈(dep[jn]?).getD []->listed.getD c false=true)->
   eY E0 n ops dep J base w0 σ g k rs hs (fun _=>false) (fun _ _=>True) listed a w:=by
  rintro listed a w cL bO ⟨L,o,zs,b,ho,cr,hz,aH,hL,hI,_⟩ bq
  have cg:jn<ops.size:=by rw [<-hlen];exact (KS.1 ho).1
  obtain ⟨r,bZ,bU,hrun,dT⟩:=c3 jn o ho
  have hg:o.guard=none:=by
   have:=jF o ho
   unfold fY at this
   split at this
   ·assumption
   ·simp at this
  have yn:r.val= .ref r.fr zs.length 0 0/\r.ups=[(r.fr,some ⟨zs.length,[zs]⟩)]:=by
   rcases hrun with ⟨_,hrun⟩|⟨f,as_,k1,_,_,_,cS,_⟩
   ·generalize hv:r.val=v at hrun ⊢
    generalize hu:r.ups=u at hrun ⊢
    generalize ha:r.acc=ac at hrun
    cases hrun with
    |skip cq=>rw [hg] at cq;simp [bH] at cq
    |done cq h=>rw [cr] at h;simp [AO.af,RM.run] at h;exact ⟨h.1.symm,h.2.symm⟩
    |call cq h=>rw [cr] at h;simp [AO.af,RM.run] at h
    |lB cq h=>rw [cr] at h;simp [AO.af,RM.run] at h
   ·rw [cr] at cS;simp [AO.af,RM.run] at cS
  have EB:L.getD jn false=false:=by rw [hL];simp [Nat.beq_refl]
  have di:∀e,e∈(dep[jn]?).getD []->L.getD e false=true:=fun e he=>by
   have hlt:=EA jn cg e he
   have h1:=lD hd bO jn ops[jn] (KX cg) (bO jn _ (KX cg) aH) e he
   rw [hL,h1]
   cases hb:Nat.beq e jn with
   |false=>rfl
   |true=>have:=K1 hb;omega
  have yp:=hI.bI tW hlen bY hid hcs cg ho bZ bU EB di hz yn.1 yn.2 dT
  have EC:L.size=listed.size:=by rw [hI.eW,cL]
  have:L.setIfInBounds jn true=listed:=by
   apply Array.ext
   ·simp [EC]
   ·intro i h1 h2
    have lq:i<L.size:=by simpa using h1
    have e1:(L.setIfInBounds jn true)[i]=(L.setIfInBounds jn true).getD i false:=by rw [My,KX h1];rfl
    have e2:listed[i]=listed.getD i false:=by rw [My,KX h2];rfl
    rw [e1,e2]
    by_cases e:jn=i
    ·subst e;rw [qs lq,aH]
    ·rw [getD_set_ne false e,hL]
     have:Nat.beq i jn=false:=by
      cases hb:Nat.beq i jn with
      |false=>rfl
      |true=>exact absurd (K1 hb).symm e
     rw [this];simp
  rw [this] at yp
  exact yp
 have done:∀(listed:Array Bool) (a:Act) (w:World),listed.size=ops.size->Region.ready .any ops listed=[]->eY E0 n ops dep J base w0 σ g k rs hs (fun _=>false) (fun _ _=>True) listed a w->Q .normal a w:=by
  intro listed a w cL lJ hI
  have bq:=ym listed cL lJ
  obtain ⟨E,rfl,hle,h1,h2,h3,hmk,_⟩:=hI.ex
  have h1:∀t,ae E (a.tmps.getD t undef) (bo n (fun j=>listed.getD j false) rs σ t):=fun t=>h1 t rfl
  have e6:bo n (fun j=>listed.getD j false) rs σ=σ':=by
   rw [c6];funext t
   refine ia _ 0 _ fun j r hr hl=>absurd ?_ hl
   rw [KY,bq j (by rw [<-hlen, <-c1];exact (KS.1 hr).1)]
  have e7:bm (fun j=>listed.getD j false) rs g=g':=by
   rw [c7];funext t
   refine ia _ 0 _ fun j r hr hl=>absurd ?_ hl
   rw [KY,bq j (by rw [<-hlen, <-c1];exact (KS.1 hr).1)]
  rw [funext fun t=>congrFun e6 t] at h1
  rw [e7] at h2
  refine hQ a E.w ⟨⟨E,rfl,hle,h1,h2,fun id hh=> ?_,hmk⟩,hI.size,hI.below,hI.gl⟩
  rcases h3 id hh with h|⟨j,r,_,hr,hk|⟨k1,hk1,hk⟩⟩
  ·exact K8 h c2
  ·exact (c5 j r hr).1 id hk
  ·exact K8 hk ((c5 j r hr).2 k1 hk1)
 have yq:∀(listed:Array Bool) (a:Act) (w:World),listed.size=ops.size->(∀(j:Nat) op,ops[j]? =some op->listed.getD j false=true->∀e,e∈db op->listed.getD e false=true)->_->Region.ready .any ops listed=[]->Q .normal a w:=fun listed a w cL bO hI lJ=>by
  have hI:(eY E0 n ops dep J base w0 σ g k rs hs (fun _=>false) (fun _ _=>True) listed a w/\(listed.getD jn false=true->∀c,c<jn->b5 hs c=true->¬c∈(dep[jn]?).getD []->listed.getD c false=true))\/
    ∃(L:Array Bool) (o:aw) (zs:List AV) (b:Nat),os[jn]? =some o/\o.ao= .new zs/\0<zs.length/\listed.getD jn false=true/\(∀j,L.getD j false=(listed.getD j false&& !Nat.beq j jn))/\eY E0 n ops dep J base w0 σ g k rs hs (jE n o.dst) (mK E0 n base b zs o.dst) L a w/\∃c,c<jn/\b5 hs c=true/\¬c∈(dep[jn]?).getD []/\kG dep c jn=true:=hI
  rcases hI with ⟨hI,_⟩|hI
  ·exact done listed a w cL lJ hI
  ·refine done listed a w cL lJ (norm listed a w cL bO hI fun c hc _ _=> ?_)
   obtain ⟨_,o,_,_,ho,_⟩:=hI
   exact ym listed cL lJ c (by have:=(KS.1 ho).1;omega)
 intro fuel
 induction fuel with
 |zero=>
  intro listed a w cL bO hI eN
  have hr:Region.ready .any ops listed=[]:=by
   cases hr:Region.ready .any ops listed with
   |nil=>rfl
   |cons x xs=>
    have hx:x∈Region.ready .any ops listed:=by rw [hr];simp
    obtain ⟨m1,o,m2,_⟩:=mem_ready.1 hx
    have:=eN [x] (fun j hj=>by simp at hj;subst hj;exact ⟨(Lw.1 m2).1,m1⟩) (by simp)
    simp at this
  exact ⟨hr,yq listed a w cL bO hI hr⟩
 |succ fuel ih=>
  intro listed a w cL bO hI eN
  refine ⟨yq listed a w cL bO hI,fun i hi=> ?_⟩
  obtain ⟨m1,op,m2,m3⟩:=mem_ready.1 hi
  have cg:i<ops.size:=(Lw.1 m2).1
  have fX:i<listed.size:=by rw [cL];exact cg
  have cB:listed.getD i false=false:=by
   simp [fX] at m1 ⊢; exact m1
  have yr:∀e,e∈db op->listed.getD e false=true:=fun e he=>by
   obtain ⟨x,hx,hb,rfl⟩:=mB.1 he
   exact m3 x hx hb
  have di:∀e,e∈(dep[i]?).getD []->listed.getD e false=true:=fun e he=>lD hd bO i op m2 yr e he
  obtain ⟨o,ho,gO⟩:=dE i op m2
  have tX:∀(j:Nat) op,ops[j]? =some op->(listed.setIfInBounds i true).getD j false=true->∀e,e∈db op->(listed.setIfInBounds i true).getD e false=true:=fun j oj aY aH e he=>by
   by_cases bn:j=i
   ·subst bn
    rw [m2] at aY;simp only [KJ] at aY;subst aY
    exact getD_set_true (yr e he)
   ·rw [getD_set_ne false (Ne.symm bn)] at aH
    exact getD_set_true (bO j oj aY aH e he)
  have tY:∀m:List Nat,(∀j,j∈m->j<ops.size/\(listed.setIfInBounds i true).getD j true=false)->m.Nodup->m.length<=fuel:=fun m hm cu=>by
   have ky:i∉m:=fun cK=>by
    have:=(hm i cK).2
    simp [fX] at this
   have:=eN (i::m) (fun j hj=>by
    rcases KU.1 hj with rfl|hj
    ·exact ⟨cg,m1⟩
    ·refine ⟨(hm j hj).1, ?_⟩
     have h5:=(hm j hj).2
     have bn:i≠j:=fun e=>ky (e▸hj)
     rwa [getD_set_ne true bn] at h5) (List.nodup_cons.2 ⟨ky,cu⟩)
   simpa using this
  have tZ:(listed.setIfInBounds i true).size=ops.size:=by simpa using cL
  -- either nothing waits, or a call ahead of hY block is still to be done
  have iO:(eY E0 n ops dep J base w0 σ g k rs hs (fun _=>false) (fun _ _=>True) listed a w/\(listed.getD jn false=true->∀c,c<jn->b5 hs c=true->¬c∈(dep[jn]?).getD []->listed.getD c false=true))\/
    ((∃(L:Array Bool) (o:aw) (zs:List AV) (b:Nat),os[jn]? =some o/\o.ao= .new zs/\0<zs.length/\listed.getD jn false=true/\(∀j,L.getD j false=(listed.getD j false&& !Nat.beq j jn))/\eY E0 n ops dep J base w0 σ g k rs hs (jE n o.dst) (mK E0 n base b zs o.dst) L a w/\∃c,c<jn/\b5 hs c=true/\¬c∈(dep[jn]?).getD []/\kG dep c jn=true)/\∃c,c<jn/\b5 hs c=true/\¬c∈(dep[jn]?).getD []/\listed.getD c false=false):=by
   rcases hI with hI|hI
   ·exact .inl hI
   ·by_cases bq:∀c,c<jn->b5 hs c=true->¬c∈(dep[jn]?).getD []->listed.getD c false=true
    ·exact .inl ⟨norm listed a w cL bO hI bq,fun _=>bq⟩
    ·right
     refine ⟨hI,Classical.byContradiction fun hx=>bq fun c q1 q2 q3=> ?_⟩
     cases hc:listed.getD c false with
     |true=>rfl
     |false=>exact absurd ⟨c,q1,q2,q3,hc⟩ hx
  clear hI
  rcases iO with ⟨hI,hq⟩|⟨⟨L,oj,zs,b,aY,cr,hz,aH,hL,hI,hca⟩,c0,hc0,lI,hc2,tL⟩
  ·have plain:(i=jn->∀c,c<i->b5 hs c=true->¬c∈(dep[i]?).getD []->listed.getD c false=true)->wpOpIn (cj rd) 0 P ops Q i (fun a w=>wpAnyIn (cj rd) 0 P .any ops Q fuel (listed.setIfInBounds i true) a w) a w:=fun oi=>by
    refine yj tW hlen bY hid hcs hI m2 ho gO cB di (fun _ _=>rfl) (fun hc hl hlt=> ?_) oi (fun _ _ _ _ _=>trivial) fun a' w' ig=>ih _ a' w' tZ tX (.inl ⟨ig,fun hl c q1 q2 q3=> ?_⟩) tY
    ·exact Classical.byContradiction fun hx=>by
      have:=hq hl i hlt hc hx
      rw [cB] at this;simp at this
    ·by_cases e:i=jn
     ·have:=oi e c (by omega) q2 (by rw [e];exact q3)
      exact getD_set_true this
     ·rw [getD_set_ne false e] at hl
      exact getD_set_true (hq hl c q1 q2 q3)
   by_cases e:i=jn
   ·by_cases bq:∀c,c<i->b5 hs c=true->¬c∈(dep[i]?).getD []->listed.getD c false=true
    ·exact plain fun _=>bq
    ·have iJ:=jF o (by rw [<-e];exact ho)
     obtain ⟨zs,cr,hg⟩:∃zs,o.ao= .new zs/\o.guard=none:=by
      unfold fY at iJ
      split at iJ
      ·rename_i zs h1 h2;exact ⟨zs,h1,h2⟩
      ·simp at iJ
     obtain ⟨r,bZ,bU,hrun,dT⟩:=c3 i o ho
     have lK:r.ups≠[]:=by
      rcases hrun with ⟨_,hrun⟩|⟨f,as_,k1,_,_,_,cS,_⟩
      ·generalize hu:r.ups=u at hrun
       generalize hv:r.val=v at hrun
       generalize ha:r.acc=ac at hrun
       cases hrun with
       |skip cq=>rw [hg] at cq;simp [bH] at cq
       |done cq h=>rw [cr] at h;simp [AO.af,RM.run] at h;rw [<-h.2];simp
       |call cq h=>rw [cr] at h;simp [AO.af,RM.run] at h
       |lB cq h=>rw [cr] at h;simp [AO.af,RM.run] at h
      ·rw [cr] at cS;simp [AO.af,RM.run] at cS
     have hex:∃c,c<i/\b5 hs c=true/\¬c∈(dep[i]?).getD []:=Classical.byContradiction fun hx=>bq fun c q1 q2 q3=>absurd ⟨c,q1,q2,q3⟩ hx
     obtain ⟨c,q1,q2,q3⟩:=hex
     have hca:kG dep c i=true:=by
      have lL:=hcs
      unfold gP at lL
      simp only [KQ,Lo,K9,L1] at lL
      have EE:i<rs.length:=(KS.1 bZ).1
      have s2:=(lL i EE c q1).resolve_left q3
      have ua:rs[c]? =some (rs[c]'(by omega)):=K0 (by omega)
      rw [ua,bZ] at s2
      simp only [KM,K9,K3,LN] at s2
      exact ((s2.2.1.resolve_left (by rw [q2];simp)).resolve_left lK).2
     refine Ev hI m2 gO hg cr fun a' w' b hz ig=>ih _ a' w' tZ tX (.inr ⟨listed,o,zs,b,by rw [<-e];exact ho,cr,hz,by rw [<-e];exact qs fX,fun j=> ?_,ig,c,by omega,q2,by rw [<-e];exact q3,by rw [<-e];exact hca⟩) tY
     by_cases ej:i=j
     ·subst ej;rw [cB,e,Nat.beq_refl];simp
     ·rw [getD_set_ne false ej]
      have:Nat.beq j jn=false:=by
       cases hb:Nat.beq j jn with
       |false=>rfl
       |true=>exact absurd ((K1 hb).trans e.symm).symm ej
      rw [this];simp
   ·exact plain fun h=>absurd h e
  ·have bn:i≠jn:=fun e=>by rw [e,aH] at cB;simp at cB
   have yu:¬jn∈(dep[i]?).getD []:=fun cK=>by
    obtain ⟨c,q1,q2,q3,q4⟩:∃c,c<jn/\b5 hs c=true/\¬c∈(dep[jn]?).getD []/\listed.getD c false=false:=⟨c0,hc0,lI,hc2,tL⟩
    have aU:jn<rs.length:=by rw [c1];exact (KS.1 aY).1
    obtain ⟨r,bZ,bU,hrun,dT⟩:=c3 jn oj aY
    have hg:oj.guard=none:=by
     have:=jF oj aY
     unfold fY at this
     split at this
     ·assumption
     ·simp at this
    have lK:r.ups≠[]:=by
     rcases hrun with ⟨_,hrun⟩|⟨f,as_,k1,_,_,_,cS,_⟩
     ·generalize hu:r.ups=u at hrun
      generalize hv:r.val=v at hrun
      generalize ha:r.acc=ac at hrun
      cases hrun with
      |skip cq=>rw [hg] at cq;simp [bH] at cq
      |done cq h=>rw [cr] at h;simp [AO.af,RM.run] at h;rw [<-h.2];simp
      |call cq h=>rw [cr] at h;simp [AO.af,RM.run] at h
      |lB cq h=>rw [cr] at h;simp [AO.af,RM.run] at h
     ·rw [cr] at cS;simp [AO.af,RM.run] at cS
    have lL:=hcs
    unfold gP at lL
    simp only [KQ,Lo,K9,L1] at lL
    have s2:=(lL jn aU c q1).resolve_left q3
    have ua:rs[c]? =some (rs[c]'(by omega)):=K0 (by omega)
    rw [ua,bZ] at s2
    simp only [KM,K9,K3,LN] at s2
    have ub:=((s2.2.1.resolve_left (by rw [q2];simp)).resolve_left lK).2
    unfold kG at ub
    simp only [KQ,K9,K3,Lp,K6,Lk] at ub
    have EF:(dep[i]?).getD []∈dep:=by
     cases hx:dep[i]? with
     |none=>rw [hx] at cK;simp at cK
     |some d=>exact Lq hx
    have:=di c ((ub _ EF).resolve_left fun h=>h cK)
    rw [q4] at this;simp at this
   have EG:L.getD i false=false:=by rw [hL,cB];simp
   have EH:∀e,e∈(dep[i]?).getD []->L.getD e false=true:=fun e he=>by
    rw [hL,di e he]
    have:Nat.beq e jn=false:=by
     cases hb:Nat.beq e jn with
     |false=>rfl
     |true=>exact absurd ((K1 hb)▸he) yu
    rw [this];simp
   have EI:L.getD jn false=false:=by rw [hL];simp [Nat.beq_refl]
   have aU:jn<os.length:=(KS.1 aY).1
   have EJ:i<os.length:=(KS.1 ho).1
   -- hY slot of hY block n7 waits is not looked at
   have yv:∀d,oj.dst=some d->¬d∈o.gJ/\o.dst≠some d:=fun d eG=>by
    have qt:=bY
    unfold eM at qt
    simp only [KQ,Lo,K9,L1] at qt
    by_cases hlt:jn<i
    ·have s1:=(qt i EJ jn hlt).resolve_left yu
     rw [aY,ho] at s1
     unfold gL at s1
     simp only [eG,KM,K3,Lp,K6,bne_iff_ne,ne_eq] at s1
     exact ⟨s1.1.1,fun h=>by rw [h] at s1;simp at s1⟩
    ·have p9:i<jn:=by omega
     have cu:¬i∈(dep[jn]?).getD []:=fun cK=>by
      have:=lD hd bO jn _ (KX (by omega)) (bO jn _ (KX (by omega)) aH) i cK
      rw [cB] at this;simp at this
     have s1:=(qt jn aU i p9).resolve_left cu
     rw [aY,ho] at s1
     unfold gL at s1
     simp only [eG,KM,K3,Lp,K6,bne_iff_ne,ne_eq] at s1
     cases hx:o.dst with
     |none=>rw [hx] at s1;simp at s1;exact ⟨s1,by simp⟩
     |some d2=>
      rw [hx] at s1
      simp at s1
      exact ⟨s1.2,fun h=>s1.1.2 (Option.some.inj h).symm⟩
   refine yj tW hlen bY hid hcs hI m2 ho gO EG EH (fun t ht=> ?_) (fun _ hl=>by rw [EI] at hl;simp at hl) (fun h=>absurd h bn) (fun E1 E2 v hp hE=> ?_) fun a' w' ig=>ih _ a' w' tZ tX (.inr ⟨L.setIfInBounds i true,oj,zs,b,aY,cr,hz,getD_set_true aH,fun j=> ?_,ig,hca⟩) tY
   ·unfold jE
    rw [Bool.and_eq_false_iff]
    left
    cases hx:oj.dst with
    |none=>rfl
    |some d=>
     have:=(yv d hx).1
     simp only [beq_eq_false_iff_ne,ne_eq,KJ]
     intro e;subst e;exact this ht
   ·obtain ⟨p1,p2,p3,p4,arr,t0,p5,p6,p7⟩:=hp
    refine ⟨(hE.fx b p1).1,p2,p3,fun t ht hn=> ?_,arr,t0,by rw [(hE.fx b p1).2];exact p5,p6,p7⟩
    rw [<-p4 t ht hn]
    have aA:=(yv t ht).2
    cases hx:o.dst with
    |none=>rfl
    |some d=>
     rw [hx] at aA
     have cX:d≠t:=fun e=>aA (by rw [e])
     simp only [Act.put]
     simp [My,ME,cX]
   ·by_cases ej:i=j
    ·subst ej
     have hb:Nat.beq i jn=false:=by
      cases hb:Nat.beq i jn with
      |false=>rfl
      |true=>exact absurd (K1 hb) bn
     rw [qs (by rw [hI.eW];exact cg),qs fX,hb];rfl
    ·rw [getD_set_ne false ej,getD_set_ne false ej,hL]
theorem EK {id:Nat} (tp:P.follows .mixedOrders=true) (dg:ee P n os σ g k rs hs σ' g' k') (hlen:os.length=ops.size) (dE:∀(j:Nat) op,ops[j]? =some op->∃o,os[j]? =some o/\eK P ops op=some o)
  (hd:gr ops.toList dep=true) (bY:eM os dep=true) (hid:ew rs dep=true) (hcs:gP jn rs hs dep=true) (jF:∀o,os[jn]? =some o->fY o=true) (hQ:∀a w,ec E0 J base w0 n σ' g' k' a w->Q .normal a w) (hrel:ec E0 J base w0 n σ g k a w) {rd:Option Nat}:(Code.region id ops true).wpIn (cj rd) 0 P Q a w:=by
 refine wpIn_region_any tp ?_
 obtain ⟨E,rfl,hle,h1,h2,h3,hmk⟩:=hrel.ex
 obtain ⟨E',hw,hE,hM,_,hk,_,_⟩:=h2.drew
 have cF:∀(j:Nat),(Array.replicate ops.size false).getD j false=false:=by
  intro j
  rcases Ls j ops.size with h|h
  ·simp [h]
  ·simp [h]
 refine Ez dg hlen dE hd bY hid hcs jF hQ ops.size _ a _ (by simp) (fun j op bG hl=>by rw [cF] at hl;simp at hl) (.inl ⟨⟨⟨E',hw,hle.trans hE,fun t _=> ?_, ?_,fun id hh=> .inl (h3 id ((hk id).1 hh)),hmk.step hE,trivial⟩,hrel.size,hrel.below.drew,hrel.gl,by simp,fun j hj hl=>by rw [cF] at hl;simp at hl⟩,fun hl=>by rw [cF] at hl;simp at hl⟩) fun m hm cu=> ?_
 ·have:bo n (fun j=>(Array.replicate ops.size false).getD j false) rs σ t=σ t:=ib _ 0 _ fun j r _ hl=>by rw [cF] at hl;simp at hl
  rw [this];exact (h1 t).step hE
 ·have:bm (fun j=>(Array.replicate ops.size false).getD j false) rs g=g:=by funext id;exact ib _ 0 _ fun j r _ hl=>by rw [cF] at hl;simp at hl
  rw [this];exact hM
 ·exact td _ _ cu fun j hj=>(hm j hj).1
inductive gQ (P:Program) (n:Nat) (dep:List (List Nat)) (jn:Nat):List aw->(Nat->AV)->(Nat->Option Bk)->Nat->List Rec->List (Option Nat)->(Nat->AV)->(Nat->Option Bk)->Nat->Prop
 |nil {σ:Nat->AV} {g:Nat->Option Bk} {k:Nat} {rs:List Rec} {hs:List (Option Nat)} (hid:ew rs dep=true) (hcs:gP jn rs hs dep=true):gQ P n dep jn [] σ g k rs hs σ g k
 |cons {o:aw} {os:List aw} {σ σ':Nat->AV} {g g':Nat->Option Bk} {k k1 k':Nat} {val:AV} {ups:List (Nat×Option Bk)} {acc:List Nat} {rs:List Rec} {hs:List (Option Nat)} (h:da P σ g k o val ups acc) (hk:k<=k1) (hu:∀id,id∈ups.map Prod.fst->id<k1)
   (hr:gQ P n dep jn os (bp n o.dst val σ) (aj g ups) k1 (rs++[⟨o.dst,val,ups,acc,k⟩]) (hs++[none]) σ' g' k'):gQ P n dep jn (o::os) σ g k rs hs σ' g' k'
 |fi {o:aw} {os:List aw} {σ σ':Nat->AV} {g g':Nat->Option Bk} {k k1 k':Nat} {r:AV} {f:FuncId} {as_:List AV} {ups:List (Nat×Option Bk)} {rs:List Rec} {hs:List (Option Nat)} (hg:bH σ o.guard=some true) (hal:o.ao.allocs=false) (h:(o.ao.af k (aD σ)).run g=some (.call f as_)) (hc:bT P f=true) (hf:Fi P f as_ g k r (aj g ups) k1) (hk:k<=k1) (hu:∀id,id∈ups.map Prod.fst->id<k1)
   (hr:gQ P n dep jn os (bp n o.dst r σ) (aj g ups) k1 (rs++[⟨o.dst,r,ups,[],k⟩]) (hs++[some k1]) σ' g' k'):gQ P n dep jn (o::os) σ g k rs hs σ' g' k'
theorem gQ.all {pre:List aw} {cG:Nat->AV} {g0:Nat->Option Bk} {kk:Nat} (h0:ee P n pre cG g0 kk rs hs σ g k) (h:gQ P n dep jn os σ g k rs hs σ' g' k'):∃qu gG,ee P n (pre++os) cG g0 kk qu gG σ' g' k'/\ew qu dep=true/\gP jn qu gG dep=true:=by
 induction h generalizing pre with
 |nil h1 h2=>exact ⟨_,_,by rw [List.append_nil];exact h0,h1,h2⟩
 | @cons o os σ σ' g g' k k1 k' val ups acc rs hs h hk hu hr ih=>
  have:=ih (pre:=pre++[o]) (h0.snoc h hk hu)
  rwa [L4] at this
 | @fi o os σ σ' g g' k k1 k' r f as_ ups rs hs hg hal h hc hf hk hu hr ih=>
  have:=ih (pre:=pre++[o]) (h0.Eg hg hal h hc hf hk hu)
  rwa [L4] at this
theorem EW.EM {s:S3} {Q:Ex->S3->Prop} {s':S3} (jF:∀o,os[jn]? =some o->fY o=true) (h:gQ P n dep jn os s.σ s.g s.k [] [] s'.σ s'.g s'.k) (hq:Q .normal s'):EW P n k0 (.bI os (some dep)) s Q:=by
 intro rd c E0 J base w0 a w bU hc hk hr
 obtain ⟨id,ops,draw,rfl,h1,h2⟩:=qi hc
 rcases h2 with ⟨rfl,hh⟩|⟨rfl,d,hd,h3,h4,h5⟩
 ·simp at hh
 ·simp only [KJ] at hd
  subst hd
  obtain ⟨k1,k2⟩:=n9 h1
  obtain ⟨qu,gG,a1,a2,a3⟩:=gQ.all .nil h
  rw [List.nil_append] at a1
  exact EK h5 a1 (by rw [<-k1];simp) (fun j op hj=>k2 j op (by simpa using hj)) h3 h4 a2 a3 jF (fun a' w' hr'=>⟨.normal,s',hq,rfl,hr'⟩) hr
end
abbrev cl (f:Nat) (as_:List Arg):AO:= .call (.c (.fn f [])) as_
abbrev zi (n:Int):AV:= .v (.int .i64 n)
abbrev zs:AV:= .v (.string ⟨#[]⟩)
abbrev ms (k:Nat):AO:= .mov (.s k)
abbrev fd (a k:Nat):AO:= .fad a (.s k)
abbrev rg (R:List aw):AC:= .bI R none
def cf (P:Program) (k:Nat):dc:=(cFunc P k).getD ⟨0,[], .skip⟩
theorem eP (h:(cFunc P k).isSome=true):cFunc P k=some (cf P k):=by
 unfold cf
 cases hc:cFunc P k with
 |none=>rw [hc] at h;cases h
 |some F=>rfl
noncomputable def F3:dc:=cf Try.prog 3
theorem EN:cFunc Try.prog 3=some F3:=eP (by kernel_rfl)
theorem EO:bT Try.prog 3=true:=by kernel_rfl
noncomputable def F8:dc:=cf Try.prog 8
theorem EP:cFunc Try.prog 8=some F8:=eP (by kernel_rfl)
theorem ER:bT Try.prog 8=true:=by kernel_rfl
noncomputable def F9:dc:=cf Try.prog 9
theorem ES:cFunc Try.prog 9=some F9:=eP (by kernel_rfl)
theorem ET:bT Try.prog 9=true:=by kernel_rfl
noncomputable def EU:dc:=cf Try.prog 10
theorem EV:cFunc Try.prog 10=some EU:=eP (by kernel_rfl)
theorem EX:bT Try.prog 10=true:=by kernel_rfl
noncomputable def EY:dc:=cf Try.prog 11
theorem EZ:cFunc Try.prog 11=some EY:=eP (by kernel_rfl)
theorem E3:bT Try.prog 11=true:=by kernel_rfl
noncomputable def E4:dc:=cf Try.prog 13
theorem E5:cFunc Try.prog 13=some E4:=eP (by kernel_rfl)
theorem E6:bT Try.prog 13=true:=by kernel_rfl
noncomputable def E7:dc:=cf Try.prog 17
theorem E8:cFunc Try.prog 17=some E7:=eP (by kernel_rfl)
theorem E9:bT Try.prog 17=true:=by kernel_rfl
noncomputable def Fa:dc:=cf Try.prog 18
theorem Fb:cFunc Try.prog 18=some Fa:=eP (by kernel_rfl)
theorem Fc:bT Try.prog 18=true:=by kernel_rfl
noncomputable def Fe:dc:=cf Try.prog 19
theorem Ff:cFunc Try.prog 19=some Fe:=eP (by kernel_rfl)
theorem Fg:bT Try.prog 19=true:=by kernel_rfl
noncomputable def Fh:dc:=cf Try.prog 20
theorem Fj:cFunc Try.prog 20=some Fh:=eP (by kernel_rfl)
theorem Fk:bT Try.prog 20=true:=by kernel_rfl
noncomputable def Fl:dc:=cf Try.prog 21
theorem Fm:cFunc Try.prog 21=some Fl:=eP (by kernel_rfl)
theorem Fp:bT Try.prog 21=true:=by kernel_rfl
noncomputable def Fq:dc:=cf Try.prog 22
theorem Fs:cFunc Try.prog 22=some Fq:=eP (by kernel_rfl)
theorem Ft:bT Try.prog 22=true:=by kernel_rfl
noncomputable def Fu:dc:=cf Try.prog 23
theorem Fv:cFunc Try.prog 23=some Fu:=eP (by kernel_rfl)
theorem Fw:bT Try.prog 23=true:=by kernel_rfl
noncomputable def Fx:dc:=cf Try.prog 27
theorem Fy:cFunc Try.prog 27=some Fx:=eP (by kernel_rfl)
theorem FA:bT Try.prog 27=true:=by kernel_rfl
noncomputable def FB:dc:=cf Try.prog 28
theorem FC:cFunc Try.prog 28=some FB:=eP (by kernel_rfl)
theorem FD:bT Try.prog 28=true:=by kernel_rfl
noncomputable def FE:dc:=cf Try.prog 29
theorem FF:cFunc Try.prog 29=some FE:=eP (by kernel_rfl)
theorem FG:bT Try.prog 29=true:=by kernel_rfl
noncomputable def FH:dc:=cf Try.prog 33
theorem FI:cFunc Try.prog 33=some FH:=eP (by kernel_rfl)
theorem FJ:bT Try.prog 33=true:=by kernel_rfl
end Go.Proofs.Ytpoikkflcpklgaa
