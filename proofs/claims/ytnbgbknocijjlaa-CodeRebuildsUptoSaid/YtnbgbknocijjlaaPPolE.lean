/- Polynomials over the field of 256 elements: what meets values. No condition. -/
import Derived.Test.YtnbgbknocijjlaaPAvNorm
import Derived.Test.YtnbgbknocijjlaaRows
import Derived.WalkKit
set_option linter.unusedSimpArgs false
set_option linter.unusedVariables false
set_option maxRecDepth 100000
namespace Go.Proofs.Ytnbgbknocijjlaa
open Go.RowKit
def Del1 (sz:Nat):List AOper:=[⟨some 8, .mov (.s 0),none⟩,⟨some 9, .mov (.s 1),none⟩,⟨some 10, .mov (.s 2),none⟩,⟨some 11, .mov (.s 0),none⟩,⟨some 12, .len false (.s 11),none⟩,⟨some 13, .slc sz (.s 8) (some (.s 9)) (some (.s 10)) (some (.s 12)),none⟩]
def Del2:List AOper:=[⟨some 14, .mov (.s 1),none⟩,⟨some 15, .mov (.s 2),none⟩,⟨some 16, .bin false .eql (.s 14) (.s 15),none⟩]
def Del3:List AOper:=[⟨some 17, .mov (.s 0),none⟩,⟨some 6, .mov (.s 17),none⟩]
def Del4:List AOper:=[⟨some 18, .mov (.s 0),none⟩,⟨some 19, .len false (.s 18),none⟩,⟨some 7, .mov (.s 19),none⟩]
def Del5 (sz by_:Nat):List AOper:=[⟨some 20, .mov (.s 0),none⟩,⟨some 21, .mov (.s 1),none⟩,⟨some 22, .slc sz (.s 20) none (some (.s 21)) none,none⟩,⟨some 23, .mov (.s 0),none⟩,⟨some 24, .mov (.s 2),none⟩,⟨some 25, .slc sz (.s 23) (some (.s 24)) none none,none⟩,⟨some 26, .app sz by_ (.s 22) (.s 25),none⟩,⟨some 0, .mov (.s 26),none⟩]
def Del6 (sz:Nat) (zs:List AV):List AOper:=[⟨some 27, .mov (.s 0),none⟩,⟨some 28, .mov (.s 0),none⟩,⟨some 29, .len false (.s 28),none⟩,⟨some 30, .mov (.s 7),none⟩,⟨some 31, .slc sz (.s 27) (some (.s 29)) (some (.s 30)) none,none⟩,⟨none, .clr zs (.s 31),none⟩]
def Del7:List AOper:=[⟨some 32, .mov (.s 0),none⟩,⟨some 6, .mov (.s 32),none⟩]
def DelDep:List (List Nat):=[[],[],[0,1],[],[],[3,4],[2,5,0,1,3,4],[6,0,1,2,3,4,5]]
def DelF (sz by_:Nat) (zs:List AV):AFn:=⟨33,[.tmp 6],
 .seq (.reg [⟨some 6, .mov (.c .emp),none⟩] none)
 (.seq (.reg (Del1 sz) none)
 (.seq (.seq (.reg Del2 none)
 (.cond (.s 16)
  (.seq (.reg Del3 none)
  (.ret))
  (.skip)))
 (.seq (.reg Del4 none)
 (.seq (.reg (Del5 sz by_) (some DelDep))
 (.seq (.reg (Del6 sz zs) none)
 (.seq (.reg Del7 none)
 (.ret)))))))⟩
def delM (m:List (Option Bk)) (id:Nat) (B:Bk):List (Option Bk):=m.set id none++[none,some B]
theorem trunc_le {n k0:Nat} {x:L3} {id sz c t0:Nat} {els:List (List AV)} (hB:look x.m id=some ⟨sz,els⟩) (hc:c≤els.length) (hs:slot x.t t0= .own id sz 0 c) {y:L3} (hy:y.t=[(t0, .own x.m.length sz 0 c)]) (hm:y.m=x.m.set id none++[some ⟨sz,els.take c⟩]):x.s.Le k0 n y.s:=by
 intro E0 J base w0 a w hk hr
 obtain ⟨E,rfl,hle,hsl,hmm,hkn,hmk⟩:=hr.ex
 have hid:id<x.m.length:=by
  rcases Nat.lt_or_ge id x.m.length with h|h
  ·exact h
  ·unfold look at hB;rw [List.getElem?_eq_none h] at hB;simp at hB
 have hf:¬E.kn x.m.length:=fun hh=>Nat.lt_irrefl _ (hkn _ hh)
 have hz0:sz≠0:=(show Rep E (a.tmps.getD t0 undef) (.own id sz 0 c) by rw [←hs];exact hsl t0).own_sz ((hmm.live id).2 ⟨_,hB⟩).2
 obtain ⟨E',hw,hE,hM,k1,k2,k3,k4,k5⟩:=hmm.move hf id ⟨sz,els⟩ ⟨sz,els.take c⟩ hB E.w (fun _ _=>rfl) rfl (fun _ _=>rfl) (fun E' hE hw=>by
  have:=(hmm.at_ id _ hB)
  cases hl:E.loc id with
  |none=>
   rw [hl] at this
   have h0:els=[]:=this
   show els.take c=[]
   rw [h0];simp
  |some b=>
   rw [hl] at this
   obtain ⟨q1,arr,t,q2,q3,q4⟩:=this.cells hz0
   refine .ofCells ⟨q1,arr,t,by rw [hw];exact q2, ?_,fun i cs hi=> ?_⟩ hz0
   ·refine Nat.le_trans (Nat.mul_le_mul_right _ ?_) q3
    simp only [List.length_take];omega
   ·have hi':els[i]? =some cs:=by
     simp only [List.getElem?_take] at hi
     split at hi
     ·exact hi
     ·simp at hi
    refine ⟨(q4 i cs hi').1,fun j x hj=> ?_⟩
    obtain ⟨u,u1,u2,u3⟩:=(q4 i cs hi').2 j x hj
    exact ⟨u,u1,u2,u3.step hE⟩)
 have hg:gput (look x.m) [(id,none),(x.m.length,some ⟨sz,els.take c⟩)]=look y.m:=by
  rw [hm]
  have e1:=look_put x.m id none (by omega)
  rw [if_pos hid] at e1
  have e2:=look_put (x.m.set id none) x.m.length (some ⟨sz,els.take c⟩) (by simp)
  rw [if_neg (by simp)] at e2
  rw [e2,e1]
  rfl
 have hM:=hg▸(show MemAt E' J base (gput (look x.m) [(id,none),(x.m.length,some ⟨sz,els.take c⟩)]) from hM)
 refine ⟨⟨E',hw,hle.trans hE,fun t=> ?_,hM,fun j hj=> ?_,hmk.step hE⟩,hr.size,hr.below,hr.gl⟩
 ·show Rep E' _ (slot y.t t)
  rw [hy]
  simp only [slot]
  cases hb:Nat.beq t t0 with
  |false=>exact .dead
  |true=>
   have:=Nat.eq_of_beq_eq_true hb
   subst this
   have hv:=hsl t
   have hv':Rep E (a.tmps.getD t undef) (.own id sz 0 c):=by rw [←hs];exact hv
   have hlive:=(hmm.live id).2 ⟨_,hB⟩
   have hlen:c≤els.length:=hc
   simp only [cond_true]
   obtain ⟨vv,hvv⟩:∃vv,vv=a.tmps.getD t undef:=⟨_,rfl⟩
   rw [←hvv] at hv' ⊢
   cases hv' with
   |staleO hi hd=>exact absurd hd hlive.2
   |own hi hd hb hq hss hm' hl hcc hln=>
    refine .own k1 k2 (k3.trans hb) hq (by rw [hw];exact hss) hm' hl hcc (by rw [k5];simp only [List.length_take];omega)
   |own0 hi hd hb hln=>exact .own0 k1 k2 (k3.trans hb) (by rw [k5];simp)
 ·show j<y.m.length
  rw [hm]
  simp only [List.length_append,List.length_set,List.length_cons,List.length_nil]
  rcases k4 j hj with h|h
  ·have h':j<x.m.length:=hkn j h
   omega
  ·omega
section
variable {o:AOper} {x:L3}
theorem optNat_nat {σ:Nat→AV} {a:Arg} {n:Nat} (h:argσ σ a=VI n):optNat (argσ σ) (some a)=some (some n):=by
 simp only [optNat,h,natOf]
 rw [if_pos (by omega)];simp
theorem opE_slco2 (a:Arg) (lo hi:Option Arg) (sz id off n l h:Nat) (lo' hi':Option Nat) (B:Bk) (ho:o.ao= .slc sz a lo hi none) (hg:guardA (slot x.t) o.guard=some true) (ha:argσ (slot x.t) a= .own id sz off n) (hlo:optNat (argσ (slot x.t)) lo=some lo') (hhi:optNat (argσ (slot x.t)) hi=some hi') (hbd:bounds n lo' hi'=some (l,h)) (hB:look x.m id=some B):
  opE o x= .done (.own id sz (off+l) (h - l)) [] [id]:=by
 have hn:optNat (argσ (slot x.t)) none=some none:=rfl
 have hs:(AO.slc sz a lo hi none).sem x.m.length (argσ (slot x.t))= .lv id (.ret (.done (.own id sz (off+l) (h - l)) [])):=by simp [AO.sem,ha,hlo,hhi,hn,hbd,RM.opt]
 exact opE_sem _ (acc:=[]) (see:=[id]) ho hg (by rw [hs];simp [RM.run,hB]) (by rw [hs];rfl) (by rw [hs];rfl)
theorem opE_slco3 (a:Arg) (lo hi:Option Arg) (mx:Arg) (sz id off n l h mm:Nat) (lo' hi':Option Nat) (B:Bk) (ho:o.ao= .slc sz a lo hi (some mx)) (hg:guardA (slot x.t) o.guard=some true) (ha:argσ (slot x.t) a= .own id sz off n) (hlo:optNat (argσ (slot x.t)) lo=some lo') (hhi:optNat (argσ (slot x.t)) hi=some hi') (hmx:optNat (argσ (slot x.t)) (some mx)=some (some mm)) (hbd:bounds n lo' hi'=some (l,h)) (hB:look x.m id=some B) (h1:B.els.length≤off+mm) (h2:h≤mm∧mm≤n) (h3:mm≠l) (hBz:B.sz=sz:=by rfl):
  opE o x= .done (.own id sz (off+l) (h - l)) [] [id,id]:=by
 have hs:(AO.slc sz a lo hi (some mx)).sem x.m.length (argσ (slot x.t))= .lv id (.rd id fun B=>if B.sz=sz∧B.els.length≤off+mm then .ret (.done (.own id sz (off+l) (h - l)) []) else .fail):=by
  simp [AO.sem,ha,hlo,hhi,hmx,hbd,RM.opt,h2,h3]
 exact opE_sem _ (acc:=[id]) (see:=[id]) ho hg (by rw [hs];simp [RM.run,hB,h1,hBz]) (by rw [hs];simp [RM.acc,hB,h1,hBz]) (by rw [hs];simp [RM.see,hB,h1,hBz])
theorem opE_slco2h (a:Arg) (lo hi:Option Arg) (sz id off n l h:Nat) (lo':Option Nat) (hh:Nat) (B:Bk) (ho:o.ao= .slc sz a lo hi none) (hg:guardA (slot x.t) o.guard=some true) (ha:argσ (slot x.t) a= .own id sz off n) (hlo:optNat (argσ (slot x.t)) lo=some lo') (hhi:optNat (argσ (slot x.t)) hi=some (some hh)) (hno:bounds n lo' (some hh)=none) (hB:look x.m id=some B) (hbd:bounds (B.els.length - off) lo' (some hh)=some (l,h)) (hBz:B.sz=sz:=by rfl):
  opE o x= .done (.own id sz (off+l) (h - l)) [] [id,id]:=by
 have hn:optNat (argσ (slot x.t)) none=some none:=rfl
 have hs:(AO.slc sz a lo hi none).sem x.m.length (argσ (slot x.t))= .lv id (.rd id fun B=>if B.sz=sz then .opt ((bounds (B.els.length - off) lo' (some hh)).map fun b=> .done (.own id sz (off+b.1) (b.2 - b.1)) []) else .fail):=by simp [AO.sem,ha,hlo,hhi,hn,hno]
 exact opE_sem _ (acc:=[id]) (see:=[id]) ho hg (by rw [hs];simp [RM.run,RM.opt,hB,hbd,hBz]) (by rw [hs];simp [RM.acc,RM.opt,hB,hbd,hBz]) (by rw [hs];simp [RM.see,RM.opt,hB,hbd,hBz])
theorem opE_appIn (s a:Arg) (sz by_ id off n:Nat) (els ys:List (List AV)) (w:AV) (acc:List Nat) (ho:o.ao= .app sz by_ s a) (hg:guardA (slot x.t) o.guard=some true) (hs:argσ (slot x.t) s= .own id sz off n) (ha:argσ (slot x.t) a=w) (c1:(content sz w).run (look x.m)=some ys) (c2:(content sz w).acc (look x.m)=acc) (c3:(content sz w).see (look x.m)=[])
  (hB:look x.m id=some ⟨sz,els⟩) (hno:¬(off=0∧n=els.length)) (hfit:off+n+ys.length≤els.length):
  opE o x= .done (.own id sz off (n+ys.length)) [(id,some ⟨sz,els.take (off+n)++ys++els.drop (off+n+ys.length)⟩),(x.m.length,none)] (acc++[id]):=by
 let F:List (List AV)→RM Out:=fun ys=> .rd id fun B=>if sz=sz∧B.sz=sz∧off=0∧n=B.els.length∧(n+ys.length)*by_≤140737488355328 then .ret (.done (.own x.m.length sz 0 (n+ys.length)) [(id,none),(x.m.length,some ⟨sz,B.els++ys⟩)])
  else if sz=sz∧B.sz=sz∧off+n+ys.length≤B.els.length then .ret (.done (.own id sz off (n+ys.length)) [(id,some ⟨B.sz,B.els.take (off+n)++ys++B.els.drop (off+n+ys.length)⟩),(x.m.length,none)]) else .fail
 have hsem:(AO.app sz by_ s a).sem x.m.length (argσ (slot x.t))=(content sz w).bind F:=by simp [AO.sem,hs,ha,F]
 obtain ⟨r1,r2,r3⟩:=run_bind (f:=F) _ c1
 have hno':¬(off=0∧n=els.length∧(n+ys.length)*by_≤140737488355328):=fun h=>hno ⟨h.1,h.2.1⟩
 have hF1:(F ys).run (look x.m)=some (.done (.own id sz off (n+ys.length)) [(id,some ⟨sz,els.take (off+n)++ys++els.drop (off+n+ys.length)⟩),(x.m.length,none)]):=by
  simp only [F,RM.run,hB,true_and];rw [if_neg hno',if_pos hfit];rfl
 have hF2:(F ys).acc (look x.m)=[id]:=by
  simp only [F,RM.acc,hB,true_and];rw [if_neg hno',if_pos hfit];rfl
 have hF3:(F ys).see (look x.m)=[]:=by
  simp only [F,RM.see,hB,true_and];rw [if_neg hno',if_pos hfit];rfl
 have:=opE_sem (AO.app sz by_ s a) (o:=o) (x:=x) (acc:=acc++[id]) (see:=[]) ho hg (by rw [hsem,r1];exact hF1) (by rw [hsem,r2,c2,hF2]) (by rw [hsem,r3,c3,hF3];rfl)
 simpa using this
theorem opE_clr (zs:List AV) (a:Arg) (sz id off n:Nat) (els:List (List AV)) (ho:o.ao= .clr zs a) (hg:guardA (slot x.t) o.guard=some true) (hz:zs.length=sz) (ha:argσ (slot x.t) a= .own id sz off n) (hB:look x.m id=some ⟨sz,els⟩) (hfit:off+n≤els.length):
  opE o x= .done (.v undef) [(id,some ⟨sz,els.take off++List.replicate n zs++els.drop (off+n)⟩)] [id]:=by
 subst hz
 have hs:(AO.clr zs a).sem x.m.length (argσ (slot x.t))= .rd id fun B=>if B.sz=zs.length∧off+n≤B.els.length then .ret (.done (.v undef) [(id,some ⟨B.sz,B.els.take off++List.replicate n zs++B.els.drop (off+n)⟩)]) else .fail:=by simp [AO.sem,ha]
 exact opE_sem _ (acc:=[id]) (see:=[]) ho hg (by rw [hs];simp [RM.run,hB,hfit]) (by rw [hs];simp [RM.acc,hB,hfit]) (by rw [hs];simp [RM.see,hB,hfit])
end
section
variable {P:Program} {sz by_:Nat} {zs:List AV} {m:List (Option Bk)} {id i:Nat} {els:List (List AV)}
theorem look_lt {B:Bk} (hB:look m id=some B):id<m.length:=by
 rcases Nat.lt_or_ge id m.length with h|h
 ·exact h
 ·unfold look at hB;rw [List.getElem?_eq_none h] at hB;simp at hB
theorem delete_fi {f:FuncId} (hF:cFunc P f=some (DelF sz by_ zs)) (hz:zs.length=sz) (hB:look m id=some ⟨sz,els⟩) (hi:i<els.length) (hb:els.length≤4611686018427387904):
  Fi P f [.own id sz 0 els.length,VI i,VI (i+1:Nat)] (look m) m.length (.own (m.length+1) sz 0 (els.length - 1)) (look (delM m id ⟨sz,els.eraseIdx i⟩)) (delM m id ⟨sz,els.eraseIdx i⟩).length:=by
 have hid:=look_lt hB
 have e1:((i:Int)).toNat=i:=by omega
 have e2:(((i+1:Nat):Int)).toNat=i+1:=by omega
 have e3:((els.length:Int)).toNat=els.length:=by omega
 have p1:(0:Int)≤(i:Int):=by omega
 have p2:(0:Int)≤((i+1:Nat):Int):=by omega
 have p3:(0:Int)≤(els.length:Int):=by omega
 refine fV hF (by show 3≤33;omega) ?_
 refine EL.sreg ?_
 refine OW.last 1 [0,1,2] (x':=⟨[(0, .own id sz 0 els.length),(1,VI i),(2,VI (i+1:Nat))],m⟩) (by kernel_rfl) (by kernel_rfl) ?_
 refine EL.sreg ?_
 refine OW.run 4 (x':=⟨[(11, .own id sz 0 els.length),(10,VI (i+1:Nat)),(9,VI i),(8, .own id sz 0 els.length),(0, .own id sz 0 els.length),(1,VI i),(2,VI (i+1:Nat))],m⟩) (by kernel_rfl) ?_
 refine OW.ope (v:=VI els.length) (u:=[]) (acc:=[id]) (x':=⟨[(12,VI els.length),(11, .own id sz 0 els.length),(10,VI (i+1:Nat)),(9,VI i),(8, .own id sz 0 els.length),(0, .own id sz 0 els.length),(1,VI i),(2,VI (i+1:Nat))],m⟩) (by kernel_rfl) (opE_sem _ (acc:=[]) (see:=[id]) rfl rfl (by simp [opD,Del1,AO.sem,argσ,slot,RM.run,hB,goInt]) (by simp [opD,Del1,AO.sem,argσ,slot,RM.acc]) (by simp [opD,Del1,AO.sem,argσ,slot,RM.see])) (by kernel_rfl) ?_
 refine OW.ope (v:= .own id sz (0+i) (i+1 - i)) (u:=[]) (acc:=[id,id]) (x':=⟨[(13, .own id sz (0+i) (i+1 - i)),(12,VI els.length),(11, .own id sz 0 els.length),(10,VI (i+1:Nat)),(9,VI i),(8, .own id sz 0 els.length),(0, .own id sz 0 els.length),(1,VI i),(2,VI (i+1:Nat))],m⟩) (by kernel_rfl)
  (opE_slco3 (.s 8) (some (.s 9)) (some (.s 10)) (.s 12) sz id 0 els.length i (i+1) els.length (some i) (some (i+1)) ⟨sz,els⟩ rfl rfl rfl (optNat_nat (by rfl)) (optNat_nat (by rfl)) (optNat_nat (by rfl)) (by simp [bounds];omega) hB (by simp) ⟨by omega,by omega⟩ (by omega)) (by kernel_rfl) ?_
 refine OW.last 0 [0,1,2] (x':=⟨[(0, .own id sz 0 els.length),(1,VI i),(2,VI (i+1:Nat))],m⟩) (by kernel_rfl) (by kernel_rfl) ?_
 refine EL.seq ?_
 refine EL.sreg ?_
 refine OW.last 3 [0,1,2,16] (x':=⟨[(16, .v (.bool ((i:Int)==((i+1:Nat):Int)))),(0, .own id sz 0 els.length),(1,VI i),(2,VI (i+1:Nat))],m⟩) (by kernel_rfl) (by kernel_rfl) ?_
 have hne:((i:Int)==((i+1:Nat):Int))=false:=by simp;omega
 rw [hne]
 refine EL.condF (by kernel_rfl) ?_
 refine EL.skip ?_
 refine tN ?_
 refine EL.sreg ?_
 refine OW.run 1 (x':=⟨[(18, .own id sz 0 els.length),(16, .v (.bool false)),(0, .own id sz 0 els.length),(1,VI i),(2,VI (i+1:Nat))],m⟩) (by kernel_rfl) ?_
 refine OW.ope (v:=VI els.length) (u:=[]) (acc:=[id]) (x':=⟨[(19,VI els.length),(18, .own id sz 0 els.length),(16, .v (.bool false)),(0, .own id sz 0 els.length),(1,VI i),(2,VI (i+1:Nat))],m⟩) (by kernel_rfl) (opE_sem _ (acc:=[]) (see:=[id]) rfl rfl (by simp [opD,Del4,AO.sem,argσ,slot,RM.run,hB,goInt]) (by simp [opD,Del4,AO.sem,argσ,slot,RM.acc]) (by simp [opD,Del4,AO.sem,argσ,slot,RM.see])) (by kernel_rfl) ?_
 refine OW.last 1 [0,1,2,7] (x':=⟨[(7,VI els.length),(0, .own id sz 0 els.length),(1,VI i),(2,VI (i+1:Nat))],m⟩) (by kernel_rfl) (by kernel_rfl) ?_
 refine EL.sdraw ?_
 refine DW.run 2 (x':=⟨[(21,VI i),(20, .own id sz 0 els.length),(7,VI els.length),(0, .own id sz 0 els.length),(1,VI i),(2,VI (i+1:Nat))],m⟩) (by kernel_rfl) ?_
 refine DW.ope (v:= .own id sz (0+0) (i - 0)) (u:=[]) (acc:=[id]) (x':=⟨[(22, .own id sz (0+0) (i - 0)),(21,VI i),(20, .own id sz 0 els.length),(7,VI els.length),(0, .own id sz 0 els.length),(1,VI i),(2,VI (i+1:Nat))],m⟩) (by kernel_rfl)
  (opE_slco2 (.s 20) none (some (.s 21)) sz id 0 els.length 0 i none (some i) ⟨sz,els⟩ rfl rfl rfl rfl (optNat_nat (by rfl)) (by simp [bounds];omega) hB) (by kernel_rfl) ?_
 refine DW.run 2 (x':=⟨[(24,VI (i+1:Nat)),(23, .own id sz 0 els.length),(22, .own id sz (0+0) (i - 0)),(21,VI i),(20, .own id sz 0 els.length),(7,VI els.length),(0, .own id sz 0 els.length),(1,VI i),(2,VI (i+1:Nat))],m⟩) (by kernel_rfl) ?_
 refine DW.ope (v:= .own id sz (0+(i+1)) (els.length - (i+1))) (u:=[]) (acc:=[id]) (x':=⟨[(25, .own id sz (0+(i+1)) (els.length - (i+1))),(24,VI (i+1:Nat)),(23, .own id sz 0 els.length),(22, .own id sz (0+0) (i - 0)),(21,VI i),(20, .own id sz 0 els.length),(7,VI els.length),(0, .own id sz 0 els.length),(1,VI i),(2,VI (i+1:Nat))],m⟩) (by kernel_rfl)
  (opE_slco2 (.s 23) (some (.s 24)) none sz id 0 els.length (i+1) els.length (some (i+1)) none ⟨sz,els⟩ rfl rfl rfl (optNat_nat (by rfl)) rfl (by simp [bounds];omega) hB) (by kernel_rfl) ?_
 obtain ⟨ys,hys⟩:∃ys,ys=(els.drop (0+(i+1))).take (els.length - (i+1)):=⟨_,rfl⟩
 have hyl:ys.length=els.length - (i+1):=by rw [hys];simp
 obtain ⟨els2,he2⟩:∃els2,els2=els.take (0+0+(i - 0))++ys++els.drop (0+0+(i - 0)+ys.length):=⟨_,rfl⟩
 have hl2:els2.length=els.length:=by rw [he2];simp;omega
 obtain ⟨m2,hm2⟩:∃m2,m2=m.set id (some ⟨sz,els2⟩)++[none]:=⟨_,rfl⟩
 have hput:mput m [(id,some ⟨sz,els2⟩),(m.length,none)]=m2:=by
  simp only [mput]
  rw [if_pos hid,if_neg (by simp),hm2]
 have hml:m2.length=m.length+1:=by rw [hm2];simp
 have hlk:look m2 id=some ⟨sz,els2⟩:=by
  rw [hm2];unfold look
  rw [List.getElem?_append_left (by simpa using hid)]
  simp [hid]
 have hc1:(content sz (.own id sz (0+(i+1)) (els.length - (i+1)))).run (look m)=some ys:=by
  simp only [content,RM.run,hB,true_and];rw [if_pos (by omega),hys];rfl
 have hc2:(content sz (.own id sz (0+(i+1)) (els.length - (i+1)))).acc (look m)=[id]:=by
  simp only [content,RM.acc,hB,true_and];rw [if_pos (by omega)];rfl
 have hc3:(content sz (.own id sz (0+(i+1)) (els.length - (i+1)))).see (look m)=[]:=by
  simp only [content,RM.see,hB,true_and];rw [if_pos (by omega)];rfl
 have hups:upsOK m.length [(id,some (⟨sz,els2⟩:Bk)),(m.length,none)]=true:=by
  simp only [upsOK];rw [if_pos hid];simp;omega
 refine DW.ope (v:= .own id sz (0+0) (i - 0+ys.length)) (u:=[(id,some ⟨sz,els2⟩),(m.length,none)]) (acc:=[id]++[id]) (x':=⟨[(26, .own id sz (0+0) (i - 0+ys.length)),(25, .own id sz (0+(i+1)) (els.length - (i+1))),(24,VI (i+1:Nat)),(23, .own id sz 0 els.length),(22, .own id sz (0+0) (i - 0)),(21,VI i),(20, .own id sz 0 els.length),(7,VI els.length),(0, .own id sz 0 els.length),(1,VI i),(2,VI (i+1:Nat))],m2⟩) (by kernel_rfl)
  (by rw [he2];exact opE_appIn (.s 22) (.s 25) sz by_ id (0+0) (i - 0) els ys _ [id] rfl rfl rfl rfl hc1 hc2 hc3 hB (by rintro ⟨_,h⟩;omega) (by omega)) (by
   show (bif dstOK 33 (some 26)&&upsOK m.length [(id,some (⟨sz,els2⟩:Bk)),(m.length,none)] then _ else _)=_
   rw [hups,hput];rfl) ?_
 obtain ⟨t3,ht3⟩:∃t3:List (Nat×AV),t3=[(0, .own id sz (0+0) (i - 0+ys.length)),(2,VI (i+1:Nat)),(7,VI els.length)]:=⟨_,rfl⟩
 refine DW.last 1 [0,7] (x':=⟨[(0, .own id sz (0+0) (i - 0+ys.length)),(7,VI els.length)],m2⟩) (by kernel_rfl) (by kernel_rfl) ?_
 have q1:i - 0+ys.length=els.length - 1:=by omega
 rw [q1]
 refine EL.sreg ?_
 refine OW.run 2 (x':=⟨[(28, .own id sz (0+0) (els.length - 1)),(27, .own id sz (0+0) (els.length - 1)),(0, .own id sz (0+0) (els.length - 1)),(7,VI els.length)],m2⟩) (by kernel_rfl) ?_
 refine OW.ope (v:=VI (els.length - 1:Nat)) (u:=[]) (acc:=[id]) (x':=⟨[(29,VI (els.length - 1:Nat)),(28, .own id sz (0+0) (els.length - 1)),(27, .own id sz (0+0) (els.length - 1)),(0, .own id sz (0+0) (els.length - 1)),(7,VI els.length)],m2⟩) (by kernel_rfl) (opE_sem _ (acc:=[]) (see:=[id]) rfl rfl (by simp [opD,Del6,AO.sem,argσ,slot,RM.run,hlk,goInt]) (by simp [opD,Del6,AO.sem,argσ,slot,RM.acc]) (by simp [opD,Del6,AO.sem,argσ,slot,RM.see])) (by kernel_rfl) ?_
 refine OW.run 1 (x':=⟨[(30,VI els.length),(29,VI (els.length - 1:Nat)),(28, .own id sz (0+0) (els.length - 1)),(27, .own id sz (0+0) (els.length - 1)),(0, .own id sz (0+0) (els.length - 1)),(7,VI els.length)],m2⟩) (by kernel_rfl) ?_
 refine OW.ope (v:= .own id sz (0+0+(els.length - 1)) (els.length - (els.length - 1))) (u:=[]) (acc:=[id,id]) (x':=⟨[(31, .own id sz (0+0+(els.length - 1)) (els.length - (els.length - 1))),(30,VI els.length),(29,VI (els.length - 1:Nat)),(28, .own id sz (0+0) (els.length - 1)),(27, .own id sz (0+0) (els.length - 1)),(0, .own id sz (0+0) (els.length - 1)),(7,VI els.length)],m2⟩) (by kernel_rfl)
  (opE_slco2h (.s 27) (some (.s 29)) (some (.s 30)) sz id (0+0) (els.length - 1) (els.length - 1) els.length (some (els.length - 1)) els.length ⟨sz,els2⟩ rfl rfl rfl (optNat_nat (by rfl)) (optNat_nat (by rfl)) (by simp only [bounds,Option.getD_some];rw [if_neg (by omega)]) hlk (by simp only [bounds,Option.getD_some];rw [if_pos ⟨by omega,by show _≤els2.length - (0+0);omega⟩])) (by kernel_rfl) ?_
 obtain ⟨els3,he3⟩:∃els3,els3=els2.take (0+0+(els.length - 1))++List.replicate (els.length - (els.length - 1)) zs++els2.drop (0+0+(els.length - 1)+(els.length - (els.length - 1))):=⟨_,rfl⟩
 have hid2:id<m2.length:=by omega
 have hput3:mput m2 [(id,some ⟨sz,els3⟩)]=m2.set id (some ⟨sz,els3⟩):=by
  simp only [mput];rw [if_pos hid2]
 have hups3:upsOK m2.length [(id,some (⟨sz,els3⟩:Bk))]=true:=by simp [upsOK];omega
 refine OW.ope (v:= .v undef) (u:=[(id,some ⟨sz,els3⟩)]) (acc:=[id]) (x':=⟨[(31, .own id sz (0+0+(els.length - 1)) (els.length - (els.length - 1))),(30,VI els.length),(29,VI (els.length - 1:Nat)),(28, .own id sz (0+0) (els.length - 1)),(27, .own id sz (0+0) (els.length - 1)),(0, .own id sz (0+0) (els.length - 1)),(7,VI els.length)],m2.set id (some ⟨sz,els3⟩)⟩) (by kernel_rfl)
  (by rw [he3];exact opE_clr zs (.s 31) sz id (0+0+(els.length - 1)) (els.length - (els.length - 1)) els2 rfl rfl hz rfl hlk (by omega)) (by
   show (bif dstOK 33 none&&upsOK m2.length [(id,some (⟨sz,els3⟩:Bk))] then _ else _)=_
   rw [hups3,hput3];rfl) ?_
 refine OW.last 0 [0] (x':=⟨[(0, .own id sz (0+0) (els.length - 1))],m2.set id (some ⟨sz,els3⟩)⟩) (by kernel_rfl) (by kernel_rfl) ?_
 refine EL.sreg ?_
 refine OW.last 2 [6] (x':=⟨[(6, .own id sz (0+0) (els.length - 1))],m2.set id (some ⟨sz,els3⟩)⟩) (by kernel_rfl) (by kernel_rfl) ?_
 refine EL.ret ?_
 have hl3:els3.length=els.length:=by rw [he3];simp;omega
 have hlk3:look (m2.set id (some ⟨sz,els3⟩)) id=some ⟨sz,els3⟩:=by
  unfold look;simp [hid2]
 have hfin:els3.take (els.length - 1)=els.eraseIdx i:=by
  have h1:els3.take (els.length - 1)=els2.take (els.length - 1):=by
   rw [he3,List.append_assoc,List.take_append_of_le_length (by simp;omega),Nat.add_zero,Nat.zero_add,List.take_take,Nat.min_self]
  rw [h1,he2]
  have h2:els.length - 1=i+ys.length:=by omega
  rw [h2,List.take_append_of_le_length (by simp;omega)]
  rw [List.take_of_length_le (by simp;omega)]
  rw [List.eraseIdx_eq_take_drop_succ,hys]
  congr 1
  ·simp
  ·rw [Nat.zero_add]
   exact List.take_of_length_le (by simp)
 refine ⟨.inr rfl,⟨[(6, .own (m2.set id (some ⟨sz,els3⟩)).length sz 0 (els.length - 1))],(m2.set id (some ⟨sz,els3⟩)).set id none++[some ⟨sz,els3.take (els.length - 1)⟩]⟩,trunc_le (t0:=6) hlk3 (by omega) rfl rfl rfl, ?_, ?_⟩
 ·simp only [List.length_set,hml];rfl
 ·rw [hfin,hm2]
  simp only [delM]
  rw [List.set_set,List.set_append,if_pos (by simpa using hid),List.set_set]
  simp
theorem delete_map {f:FuncId} {α:Type} {fe:α→List AV} {xs:List α} (hF:cFunc P f=some (DelF sz by_ zs)) (hz:zs.length=sz) (hB:look m id=some ⟨sz,xs.map fe⟩) {n:Int} (h0:0≤n) (h1:n<xs.length) (hb:xs.length≤1000000):
  Fi P f [.own id sz 0 xs.length,VI n,VI (n+1)] (look m) m.length (.own (m.length+1) sz 0 (xs.eraseIdx n.toNat).length) (look (delM m id ⟨sz,(xs.eraseIdx n.toNat).map fe⟩)) (delM m id ⟨sz,(xs.eraseIdx n.toNat).map fe⟩).length:=by
 have e0:((n.toNat:Nat):Int)=n:=by omega
 have e1:((n.toNat+1:Nat):Int)=n+1:=by omega
 have h:=delete_fi (P:=P) (f:=f) (i:=n.toNat) (els:=xs.map fe) hF hz hB (by simp;omega) (by simp;omega)
 rw [e0,e1,List.length_map] at h
 have e2:(xs.map fe).eraseIdx n.toNat=(xs.eraseIdx n.toNat).map fe:=by
  rw [List.eraseIdx_eq_take_drop_succ,List.eraseIdx_eq_take_drop_succ,List.map_append,List.map_take,List.map_drop]
 have e3:(xs.eraseIdx n.toNat).length=xs.length - 1:=by rw [List.length_eraseIdx,if_pos (by omega)]
 rw [e2] at h
 rw [e3]
 exact h
end
open Go.RowKit
section
variable {o:AOper} {x:L3}
end
open Go.RowKit
def isC (hs:List (Option Nat)) (i:Nat):Bool:=match hs[i]? with|some (some _)=>true|_=>false
def callsOK (rs:List Rec) (hs:List (Option Nat)) (dep:List (List Nat)):Bool:=
 (List.range rs.length).all fun j=>(List.range j).all fun i=>((dep[j]?).getD []).contains i||(match rs[i]?,rs[j]? with|some x,some y=> !(isC hs i&&isC hs j)&&((!isC hs i||y.ups.isEmpty)&&(!isC hs j||x.ups.isEmpty))|_,_=>false)
inductive OpsF (P:Program) (n:Nat):List AOper→(Nat→AV)→(Nat→Option Bk)→Nat→List Rec→List (Option Nat)→(Nat→AV)→(Nat→Option Bk)→Nat→Prop
 |nil {σ:Nat→AV} {g:Nat→Option Bk} {k:Nat}:OpsF P n [] σ g k [] [] σ g k
 |cons {o:AOper} {os:List AOper} {σ σ':Nat→AV} {g g':Nat→Option Bk} {k k1 k':Nat} {val:AV} {ups:List (Nat×Option Bk)} {acc:List Nat} {rs:List Rec} {hs:List (Option Nat)} (h:OpRun P σ g k o val ups acc) (hk:k≤k1) (hu:∀id,id∈ups.map Prod.fst→id<k1)
   (hr:OpsF P n os (putσ n o.dst val σ) (gput g ups) k1 rs hs σ' g' k'):OpsF P n (o::os) σ g k (⟨o.dst,val,ups,acc,k⟩::rs) (none::hs) σ' g' k'
 |fi {o:AOper} {os:List AOper} {σ σ':Nat→AV} {g g':Nat→Option Bk} {k k1 k':Nat} {r:AV} {f:FuncId} {as_:List AV} {ups:List (Nat×Option Bk)} {rs:List Rec} {hs:List (Option Nat)} (hg:guardA σ o.guard=some true) (hal:o.ao.allocs=false) (h:(o.ao.sem k (argσ σ)).run g=some (.call f as_)) (hc:callable P f=true) (hf:Fi P f as_ g k r (gput g ups) k1) (hk:k≤k1) (hu:∀id,id∈ups.map Prod.fst→id<k1)
   (hr:OpsF P n os (putσ n o.dst r σ) (gput g ups) k1 rs hs σ' g' k'):OpsF P n (o::os) σ g k (⟨o.dst,r,ups,[],k⟩::rs) (some k1::hs) σ' g' k'
def RunF (P:Program) (n:Nat) (σ:Nat→AV) (g:Nat→Option Bk) (rs:List Rec) (hs:List (Option Nat)) (i:Nat) (o:AOper) (r:Rec):Prop:=
 (hs[i]? =some none∧OpRun P (σat n (upto i) rs σ) (gat (upto i) rs g) r.fr o r.val r.ups r.acc)∨
 ∃f as_ k1,hs[i]? =some (some k1)∧guardA (σat n (upto i) rs σ) o.guard=some true∧o.ao.allocs=false∧(o.ao.sem r.fr (argσ (σat n (upto i) rs σ))).run (gat (upto i) rs g)=some (.call f as_)∧callable P f=true∧Fi P f as_ (gat (upto i) rs g) r.fr r.val (gput (gat (upto i) rs g) r.ups) k1
theorem opsF_canon {P:Program} {n:Nat} {os:List AOper} {σ σ':Nat→AV} {g g':Nat→Option Bk} {k k':Nat} {rs:List Rec} {hs:List (Option Nat)} (h:OpsF P n os σ g k rs hs σ' g' k'):
  (rs.length=os.length∧hs.length=os.length)∧k≤k'∧(∀(i:Nat) o,os[i]? =some o→∃r,rs[i]? =some r∧r.dst=o.dst∧RunF P n σ g rs hs i o r∧k≤r.fr)∧
   (∀(i j:Nat) ri rj,i<j→rs[i]? =some ri→rs[j]? =some rj→(∀id,id∈ri.keys→id<rj.fr)∧∀k1,hs[i]? =some (some k1)→k1≤rj.fr)∧(∀(i:Nat) r,rs[i]? =some r→(∀id,id∈r.keys→id<k')∧∀k1,hs[i]? =some (some k1)→k1≤k')∧σ'=σat n (fun _=>true) rs σ∧g'=gat (fun _=>true) rs g:=by
 induction h with
 |nil=>exact ⟨⟨rfl,rfl⟩,Nat.le_refl _,fun i o ho=>by simp at ho,fun i j ri rj _ h=>by simp at h,fun i r h=>by simp at h,rfl,rfl⟩
 | @cons o os σ σ' g g' k k1 k' val ups acc rs hs h hk hu hr ih=>
  obtain ⟨⟨i1,i1'⟩,i2,i3,i4,i5,i6,i7⟩:=ih
  have e1:∀i,σat n (upto (i+1)) (⟨o.dst,val,ups,acc,k⟩::rs) σ=σat n (upto i) rs (putσ n o.dst val σ):=by
   intro i;funext t
   show lastW _ _ 1 rs _=_
   rw [lastW_shift]
   unfold σat
   congr 1
   ·funext j;simp [upto]
   ·rw [if_pos (by simp [upto])];exact (putσ_wσ n t ⟨o.dst,val,ups,acc,k⟩ σ).symm
  have e2:∀i,gat (upto (i+1)) (⟨o.dst,val,ups,acc,k⟩::rs) g=gat (upto i) rs (gput g ups):=by
   intro i;funext id
   show lastW _ _ 1 rs _=_
   rw [lastW_shift]
   unfold gat
   congr 1
   ·funext j;simp [upto]
   ·rw [if_pos (by simp [upto]),gput_kv];rfl
  refine ⟨⟨by simp [i1],by simp [i1']⟩,Nat.le_trans hk i2,fun i o' ho=> ?_,fun i j ri rj hij hi hj=> ?_,fun i r' hr'=> ?_, ?_, ?_⟩
  ·cases i with
   |zero=>
    simp only [List.getElem?_cons_zero,Option.some.injEq] at ho
    subst ho
    refine ⟨_,rfl,rfl, ?_,Nat.le_refl _⟩
    have s0:σat n (upto 0) (⟨o.dst,val,ups,acc,k⟩::rs) σ=σ:=by funext t;exact lastW_none _ 0 _ fun j r _ hl=>by simp [upto] at hl
    have g0:gat (upto 0) (⟨o.dst,val,ups,acc,k⟩::rs) g=g:=by funext t;exact lastW_none _ 0 _ fun j r _ hl=>by simp [upto] at hl
    unfold RunF
    rw [s0,g0]
    exact .inl ⟨rfl,h⟩
   |succ i=>
    obtain ⟨r',r1,r2,r3,r4⟩:=i3 i o' (by simpa using ho)
    refine ⟨r',by simpa using r1,r2, ?_,Nat.le_trans hk r4⟩
    unfold RunF
    rw [e1,e2,List.getElem?_cons_succ];exact r3
  ·cases j with
   |zero=>omega
   |succ j=>
    simp only [List.getElem?_cons_succ] at hj
    cases i with
    |zero=>
     simp only [List.getElem?_cons_zero,Option.some.injEq] at hi
     subst hi
     have hjl:j<os.length:=by rw [←i1];exact (List.getElem?_eq_some_iff.1 hj).1
     obtain ⟨r',r1,_,_,r4⟩:=i3 j _ (List.getElem?_eq_getElem hjl)
     rw [hj] at r1
     simp only [Option.some.injEq] at r1
     subst r1
     exact ⟨fun id hid=>Nat.lt_of_lt_of_le (hu id hid) r4,fun x hx=>by first|(simp at hx;done)|(simp at hx;subst hx;exact r4)⟩
    |succ i=>simp only [List.getElem?_cons_succ] at hi ⊢; exact i4 i j ri rj (by omega) hi hj
  ·cases i with
   |zero=>
    simp only [List.getElem?_cons_zero,Option.some.injEq] at hr'
    subst hr'
    exact ⟨fun id hid=>Nat.lt_of_lt_of_le (hu id hid) i2,fun x hx=>by first|(simp at hx;done)|(simp at hx;subst hx;exact i2)⟩
   |succ i=>simp only [List.getElem?_cons_succ] at hr' ⊢; exact i5 i r' hr'
  ·rw [i6]
   funext t
   unfold σat
   simp only [lastW]
   rw [lastW_shift,if_true,putσ_wσ n t ⟨o.dst,val,ups,acc,k⟩ σ]
  ·rw [i7]
   funext id
   unfold gat
   simp only [lastW]
   rw [lastW_shift,if_true,gput_kv]
   rfl
 | @fi o os σ σ' g g' k k1 k' r f as_ ups rs hs hg hal h hc hf hk hu hr ih=>
  obtain ⟨⟨i1,i1'⟩,i2,i3,i4,i5,i6,i7⟩:=ih
  have e1:∀i,σat n (upto (i+1)) (⟨o.dst,r,ups,[],k⟩::rs) σ=σat n (upto i) rs (putσ n o.dst r σ):=by
   intro i;funext t
   show lastW _ _ 1 rs _=_
   rw [lastW_shift]
   unfold σat
   congr 1
   ·funext j;simp [upto]
   ·rw [if_pos (by simp [upto])];exact (putσ_wσ n t ⟨o.dst,r,ups,[],k⟩ σ).symm
  have e2:∀i,gat (upto (i+1)) (⟨o.dst,r,ups,[],k⟩::rs) g=gat (upto i) rs (gput g ups):=by
   intro i;funext id
   show lastW _ _ 1 rs _=_
   rw [lastW_shift]
   unfold gat
   congr 1
   ·funext j;simp [upto]
   ·rw [if_pos (by simp [upto]),gput_kv];rfl
  refine ⟨⟨by simp [i1],by simp [i1']⟩,Nat.le_trans hk i2,fun i o' ho=> ?_,fun i j ri rj hij hi hj=> ?_,fun i r' hr'=> ?_, ?_, ?_⟩
  ·cases i with
   |zero=>
    simp only [List.getElem?_cons_zero,Option.some.injEq] at ho
    subst ho
    refine ⟨_,rfl,rfl, ?_,Nat.le_refl _⟩
    have s0:σat n (upto 0) (⟨o.dst,r,ups,[],k⟩::rs) σ=σ:=by funext t;exact lastW_none _ 0 _ fun j r _ hl=>by simp [upto] at hl
    have g0:gat (upto 0) (⟨o.dst,r,ups,[],k⟩::rs) g=g:=by funext t;exact lastW_none _ 0 _ fun j r _ hl=>by simp [upto] at hl
    unfold RunF
    rw [s0,g0]
    exact .inr ⟨f,as_,k1,rfl,hg,hal,h,hc,hf⟩
   |succ i=>
    obtain ⟨r',r1,r2,r3,r4⟩:=i3 i o' (by simpa using ho)
    refine ⟨r',by simpa using r1,r2, ?_,Nat.le_trans hk r4⟩
    unfold RunF
    rw [e1,e2,List.getElem?_cons_succ];exact r3
  ·cases j with
   |zero=>omega
   |succ j=>
    simp only [List.getElem?_cons_succ] at hj
    cases i with
    |zero=>
     simp only [List.getElem?_cons_zero,Option.some.injEq] at hi
     subst hi
     have hjl:j<os.length:=by rw [←i1];exact (List.getElem?_eq_some_iff.1 hj).1
     obtain ⟨r',r1,_,_,r4⟩:=i3 j _ (List.getElem?_eq_getElem hjl)
     rw [hj] at r1
     simp only [Option.some.injEq] at r1
     subst r1
     exact ⟨fun id hid=>Nat.lt_of_lt_of_le (hu id hid) r4,fun x hx=>by first|(simp at hx;done)|(simp at hx;subst hx;exact r4)⟩
    |succ i=>simp only [List.getElem?_cons_succ] at hi ⊢; exact i4 i j ri rj (by omega) hi hj
  ·cases i with
   |zero=>
    simp only [List.getElem?_cons_zero,Option.some.injEq] at hr'
    subst hr'
    exact ⟨fun id hid=>Nat.lt_of_lt_of_le (hu id hid) i2,fun x hx=>by first|(simp at hx;done)|(simp at hx;subst hx;exact i2)⟩
   |succ i=>simp only [List.getElem?_cons_succ] at hr' ⊢; exact i5 i r' hr'
  ·rw [i6]
   funext t
   unfold σat
   simp only [lastW]
   rw [lastW_shift,if_true,putσ_wσ n t ⟨o.dst,r,ups,[],k⟩ σ]
  ·rw [i7]
   funext id
   unfold gat
   simp only [lastW]
   rw [lastW_shift,if_true,gput_kv]
   rfl
section
variable {P:Program} {E0:Env} {n:Nat} {ops:Array Oper} {J:Nat→Prop} {base:Nat} {w0:World} {Q:Exit→Act→World→Prop} {os:List AOper} {dep:List (List Nat)} {σ σ':Nat→AV} {g g':Nat→Option Bk} {k k':Nat} {rs:List Rec} {hs:List (Option Nat)}
structure DInvF (E0:Env) (n:Nat) (ops:Array Oper) (J:Nat→Prop) (base:Nat) (w0:World) (σ:Nat→AV) (g:Nat→Option Bk) (k:Nat) (rs:List Rec) (hs:List (Option Nat)) (listed:Array Bool) (a:Act) (w:World):Prop where
 ex:∃E:Env,E.w=w∧E0.Le E∧(∀t,Rep E (a.tmps.getD t undef) (σat n (fun j=>listed.getD j false) rs σ t))∧MemAt E J base (gat (fun j=>listed.getD j false) rs g)∧
  (∀id,E.kn id→id<k∨∃j r,listed.getD j false=true∧rs[j]? =some r∧(id∈r.keys∨∃k1,hs[j]? =some (some k1)∧id<k1))∧Mk E w0.heap.size a.defers
 size:a.tmps.size=n
 below:Below base w0 w
 gl:GlE E0
 lsize:listed.size=ops.size
 closed:∀(j:Nat) op,ops[j]? =some op→listed.getD j false=true→∀e,e∈dirOf op→listed.getD e false=true
theorem draw_soundF {rd:Option Nat} (hrec:OpsF P n os σ g k rs hs σ' g' k') (hlen:os.length=ops.size) (hops:∀(j:Nat) op,ops[j]? =some op→∃o,os[j]? =some o∧cOper P ops op=some o)
  (hd:depOK ops.toList dep=true) (hsl:slotsOK os dep=true) (hid:idsOK rs dep=true) (hcs:callsOK rs hs dep=true) (hQ:∀a w,RelS E0 J base w0 n σ' g' k' a w→Q .normal a w):
  ∀(fuel:Nat) (listed:Array Bool) (a:Act) (w:World),DInvF E0 n ops J base w0 σ g k rs hs listed a w→(∀m:List Nat,(∀j,j∈m→j<ops.size∧listed.getD j true=false)→m.Nodup→m.length≤fuel)→wpAnyIn (rnd rd) 0 P .any ops Q fuel listed a w:=by
 obtain ⟨⟨c1,c1'⟩,c2,c3,c4,c5,c6,c7⟩:=opsF_canon hrec
 -- all are listed where none is ready
 have done:∀(listed:Array Bool) (a:Act) (w:World),DInvF E0 n ops J base w0 σ g k rs hs listed a w→Region.ready .any ops listed=[]→Q .normal a w:=by
  intro listed a w hI hready
  have hall:∀j,j<ops.size→listed.getD j false=true:=by
   intro j
   induction j using Nat.strongRecOn with
   |_ j ih=>
    intro hj
    cases hl:listed.getD j false with
    |true=>rfl
    |false=>
     exfalso
     have hjs:j<listed.size:=by rw [hI.lsize];exact hj
     have:j∈Region.ready .any ops listed:=by
      rw [mem_ready]
      refine ⟨by simp [hjs] at hl ⊢; exact hl,ops[j],Array.getElem?_eq_getElem hj,fun e he hb=> ?_⟩
      have hdj:=hd
      unfold depOK at hdj
      simp only [Bool.and_eq_true,List.all_eq_true,List.mem_range,decide_eq_true_eq] at hdj
      have hj2:=(hdj.2 j (by simpa using hj)).1
      have hopl:ops.toList[j]? =some ops[j]:=by simp [hj]
      simp only [hopl,Option.map_some,Option.getD_some] at hj2
      have hlt:=hj2 e.on (mem_dirOf.2 ⟨e,he,hb,rfl⟩)
      exact ih e.on hlt (by omega)
     rw [hready] at this
     simp at this
  obtain ⟨E,rfl,hle,h1,h2,h3,hmk⟩:=hI.ex
  have e6:σat n (fun j=>listed.getD j false) rs σ=σ':=by
   rw [c6];funext t
   refine lastW_congr _ 0 _ fun j r hr hl=>absurd ?_ hl
   rw [Nat.zero_add,hall j (by rw [←hlen, ←c1];exact (List.getElem?_eq_some_iff.1 hr).1)]
  have e7:gat (fun j=>listed.getD j false) rs g=g':=by
   rw [c7];funext t
   refine lastW_congr _ 0 _ fun j r hr hl=>absurd ?_ hl
   rw [Nat.zero_add,hall j (by rw [←hlen, ←c1];exact (List.getElem?_eq_some_iff.1 hr).1)]
  rw [e6] at h1;rw [e7] at h2
  refine hQ a E.w ⟨⟨E,rfl,hle,h1,h2,fun id hh=> ?_,hmk⟩,hI.size,hI.below,hI.gl⟩
  rcases h3 id hh with h|⟨j,r,_,hr,hk|⟨k1,hk1,hk⟩⟩
  ·exact Nat.lt_of_lt_of_le h c2
  ·exact (c5 j r hr).1 id hk
  ·exact Nat.lt_of_lt_of_le hk ((c5 j r hr).2 k1 hk1)
 intro fuel
 induction fuel with
 |zero=>
  intro listed a w hI hcount
  have hr:Region.ready .any ops listed=[]:=by
   cases hr:Region.ready .any ops listed with
   |nil=>rfl
   |cons x xs=>
    have hx:x∈Region.ready .any ops listed:=by rw [hr];simp
    obtain ⟨m1,o,m2,_⟩:=mem_ready.1 hx
    have:=hcount [x] (fun j hj=>by simp at hj;subst hj;exact ⟨(Array.getElem?_eq_some_iff.1 m2).1,m1⟩) (by simp)
    simp at this
  exact ⟨hr,done listed a w hI hr⟩
 |succ fuel ih=>
  intro listed a w hI hcount
  refine ⟨done listed a w hI,fun i hi=> ?_⟩
  obtain ⟨m1,op,m2,m3⟩:=mem_ready.1 hi
  have hil:i<ops.size:=(Array.getElem?_eq_some_iff.1 m2).1
  have hunl:listed.getD i false=false:=by
   have:i<listed.size:=by rw [hI.lsize];exact hil
   simp [this] at m1 ⊢; exact m1
  have hdir:∀e,e∈dirOf op→listed.getD e false=true:=fun e he=>by
   obtain ⟨x,hx,hb,rfl⟩:=mem_dirOf.1 he
   exact m3 x hx hb
  obtain ⟨o,ho,hco⟩:=hops i op m2
  obtain ⟨r,hri,hrd,hrun,hfr⟩:=c3 i o ho
  obtain ⟨E,rfl,hle,h1,h2,h3,hmk⟩:=hI.ex
  -- whoever is listed out of turn is free of this one
  have free:∀j rj oj,j≠i→rs[j]? =some rj→os[j]? =some oj→listed.getD j false≠upto i j→(slotFree (if i<j then o else oj) (if i<j then oj else o)=true∧idFree (if i<j then r else rj) (if i<j then rj else r)=true):=by
   intro j rj oj hne hrj hoj hl
   have hjl:j<os.length:=(List.getElem?_eq_some_iff.1 hoj).1
   unfold slotsOK at hsl
   unfold idsOK at hid
   simp only [List.all_eq_true,List.mem_range,Bool.or_eq_true,List.contains_iff_mem] at hsl hid
   by_cases hij:i<j
   ·rw [if_pos hij,if_pos hij,if_pos hij,if_pos hij]
    have hlj:listed.getD j false=true:=by
     have hu:upto i j=false:=by simp [upto];omega
     rw [hu] at hl
     simpa using hl
    have hnd:i∉(dep[j]?).getD []:=by
     intro hmem
     have hjo:j<ops.size:=by omega
     have:=dep_closed hd hI.closed j ops[j] (Array.getElem?_eq_getElem hjo) (hI.closed j _ (Array.getElem?_eq_getElem hjo) hlj) i hmem
     rw [hunl] at this;simp at this
    have s1:=(hsl j hjl i hij).resolve_left hnd
    have s2:=(hid j (by rw [c1];exact hjl) i hij).resolve_left hnd
    rw [ho,hoj] at s1;rw [hri,hrj] at s2
    exact ⟨s1,s2⟩
   ·rw [if_neg hij,if_neg hij,if_neg hij,if_neg hij]
    have hji:j<i:=by omega
    have hlj:listed.getD j false=false:=by
     have hu:upto i j=true:=by simp [upto];omega
     rw [hu] at hl
     simpa using hl
    have hnd:j∉(dep[i]?).getD []:=by
     intro hmem
     have:=dep_closed hd hI.closed i op m2 hdir j hmem
     rw [hlj] at this;simp at this
    have s1:=(hsl i (by omega) j hji).resolve_left hnd
    have s2:=(hid i (by omega) j hji).resolve_left hnd
    rw [ho,hoj] at s1;rw [hri,hrj] at s2
    exact ⟨s1,s2⟩
  have getO:∀(j:Nat) rj,rs[j]? =some rj→∃oj,os[j]? =some oj∧rj.dst=oj.dst:=fun j rj hrj=>by
   have hjl:j<os.length:=by rw [←c1];exact (List.getElem?_eq_some_iff.1 hrj).1
   obtain ⟨r',q1,q2,_,_⟩:=c3 j _ (List.getElem?_eq_getElem hjl)
   rw [hrj] at q1;simp only [Option.some.injEq] at q1;subst q1
   exact ⟨_,List.getElem?_eq_getElem hjl,q2⟩
  -- a slot that it looks at is as it comes one behind the other
  have hσ:∀t,t∈o.uses→σat n (fun j=>listed.getD j false) rs σ t=σat n (upto i) rs σ t:=by
   intro t ht
   refine lastW_congr _ 0 _ fun j rj hrj hl=> ?_
   rw [Nat.zero_add] at hl
   by_cases hne:j=i
   ·subst hne;rw [hunl] at hl;simp [upto] at hl
   ·obtain ⟨oj,hoj,hdj⟩:=getO j rj hrj
    have hf:=(free j rj oj hne hrj hoj hl).1
    unfold wσ
    rw [if_neg]
    rintro ⟨hdt,_⟩
    rw [hdj] at hdt
    unfold slotFree at hf
    by_cases hij:i<j
    ·simp only [if_pos hij,hdt,Bool.and_eq_true,Bool.not_eq_true',List.contains_eq_mem,decide_eq_false_iff_not] at hf
     exact hf.2 ht
    ·simp only [if_neg hij,hdt,Bool.and_eq_true,Bool.not_eq_true',List.contains_eq_mem,decide_eq_false_iff_not] at hf
     exact hf.1.1 ht
  have hg:∀id,id∈r.acc→gat (fun j=>listed.getD j false) rs g id=gat (upto i) rs g id:=by
   intro id hida
   refine lastW_congr _ 0 _ fun j rj hrj hl=> ?_
   rw [Nat.zero_add] at hl
   by_cases hne:j=i
   ·subst hne;rw [hunl] at hl;simp [upto] at hl
   ·obtain ⟨oj,hoj,hdj⟩:=getO j rj hrj
    have hf:=(free j rj oj hne hrj hoj hl).2
    cases hw:wg id rj with
    |none=>rfl
    |some y=>
     exfalso
     have hk:id∈rj.keys:=kv_mem (by unfold wg at hw;rw [hw];simp)
     unfold idFree at hf
     by_cases hij:i<j
     ·simp only [if_pos hij,Bool.and_eq_true,List.all_eq_true,Bool.not_eq_true',List.contains_eq_mem,decide_eq_false_iff_not] at hf
      exact hf.2 id hk hida
     ·simp only [if_neg hij,Bool.and_eq_true,List.all_eq_true,Bool.not_eq_true',List.contains_eq_mem,decide_eq_false_iff_not] at hf
      exact (hf.1 id hk).1 hida
  have isCi:∀{j x},hs[j]? =some (some x)→isC hs j=true:=fun h=>by unfold isC;rw [h]
  have free2:∀j rj,j≠i→rs[j]? =some rj→listed.getD j false≠upto i j→(isC hs i&&isC hs j)=false∧(isC hs i=true→rj.ups=[])∧(isC hs j=true→r.ups=[]):=by
   intro j rj hne hrj hl
   have hjl:j<rs.length:=(List.getElem?_eq_some_iff.1 hrj).1
   unfold callsOK at hcs
   simp only [List.all_eq_true,List.mem_range,Bool.or_eq_true,List.contains_iff_mem] at hcs
   by_cases hij:i<j
   ·have hlj:listed.getD j false=true:=by
     have hu:upto i j=false:=by simp [upto];omega
     rw [hu] at hl
     simpa using hl
    have hnd:i∉(dep[j]?).getD []:=by
     intro hmem
     have hjo:j<ops.size:=by omega
     have:=dep_closed hd hI.closed j ops[j] (Array.getElem?_eq_getElem hjo) (hI.closed j _ (Array.getElem?_eq_getElem hjo) hlj) i hmem
     rw [hunl] at this;simp at this
    have s2:=(hcs j hjl i hij).resolve_left hnd
    rw [hri,hrj] at s2
    simp only [Bool.and_eq_true,Bool.or_eq_true,Bool.not_eq_true',List.isEmpty_iff] at s2
    exact ⟨s2.1,fun h=>s2.2.1.resolve_left (by rw [h];simp),fun h=>s2.2.2.resolve_left (by rw [h];simp)⟩
   ·have hji:j<i:=by omega
    have hlj:listed.getD j false=false:=by
     have hu:upto i j=true:=by simp [upto];omega
     rw [hu] at hl
     simpa using hl
    have hnd:j∉(dep[i]?).getD []:=by
     intro hmem
     have:=dep_closed hd hI.closed i op m2 hdir j hmem
     rw [hlj] at this;simp at this
    have s2:=(hcs i (by omega) j hji).resolve_left hnd
    rw [hri,hrj] at s2
    simp only [Bool.and_eq_true,Bool.or_eq_true,Bool.not_eq_true',List.isEmpty_iff] at s2
    exact ⟨by rw [Bool.and_comm];exact s2.1,fun h=>s2.2.2.resolve_left (by rw [h];simp),fun h=>s2.2.1.resolve_left (by rw [h];simp)⟩
  have fin:∀v E',E.Le E'→Rep E' v r.val→MemAt E' J base (gput (gat (fun j=>listed.getD j false) rs g) r.ups)→Below base E.w E'.w→(∀id,E'.kn id→(E.kn id∨id∈r.keys)∨∃k1,hs[i]? =some (some k1)∧id<k1)→wpAnyIn (rnd rd) 0 P .any ops Q fuel (listed.setIfInBounds i true) (a.put o.dst v) E'.w:=by
   intro v E' hE hv hM hB hkn
   -- it is listed now
   have hlist:∀j,(listed.setIfInBounds i true).getD j false=if j=0+i then true else listed.getD j false:=by
    intro j
    rw [Nat.zero_add]
    have hils:i<listed.size:=by rw [hI.lsize];exact hil
    by_cases hji:j=i
    ·subst hji;simp [hils]
    ·rw [if_neg hji,getD_set_ne false (Ne.symm hji)]
   have nσ:∀t,σat n (fun j=>(listed.setIfInBounds i true).getD j false) rs σ t=putσ n o.dst r.val (σat n (fun j=>listed.getD j false) rs σ) t:=by
    intro t
    rw [←hrd,putσ_wσ]
    refine lastW_ins rs 0 i _ r hri (by rw [Nat.zero_add];exact hunl) hlist fun j rj hij hrj hlj=> ?_
    rw [Nat.zero_add] at hlj
    obtain ⟨oj,hoj,hdj⟩:=getO j rj hrj
    have hf:=(free j rj oj (by omega) hrj hoj (by rw [hlj];simp [upto];omega)).1
    unfold slotFree at hf
    simp only [if_pos hij] at hf
    by_cases hd1:r.dst=some t
    ·left
     unfold wσ
     rw [if_neg]
     rintro ⟨hdt,_⟩
     rw [hrd] at hd1
     rw [hdj] at hdt
     simp only [hd1,hdt,Bool.and_eq_true,bne_iff_ne,ne_eq] at hf
     exact hf.1.2 trivial
    ·right
     unfold wσ
     rw [if_neg]
     rintro ⟨hdt,_⟩
     exact hd1 hdt
   have ng:∀id,gat (fun j=>(listed.setIfInBounds i true).getD j false) rs g id=gput (gat (fun j=>listed.getD j false) rs g) r.ups id:=by
    intro id
    rw [gput_kv]
    refine lastW_ins rs 0 i _ r hri (by rw [Nat.zero_add];exact hunl) hlist fun j rj hij hrj hlj=> ?_
    rw [Nat.zero_add] at hlj
    obtain ⟨oj,hoj,hdj⟩:=getO j rj hrj
    have hf:=(free j rj oj (by omega) hrj hoj (by rw [hlj];simp [upto];omega)).2
    unfold idFree at hf
    simp only [if_pos hij,Bool.and_eq_true,List.all_eq_true,Bool.not_eq_true',List.contains_eq_mem,decide_eq_false_iff_not] at hf
    cases hw:wg id r with
    |none=>exact .inr rfl
    |some y=>
     left
     cases hw2:wg id rj with
     |none=>rfl
     |some y2=>
      exfalso
      have k1:id∈r.keys:=kv_mem (by unfold wg at hw;rw [hw];simp)
      have k2:id∈rj.keys:=kv_mem (by unfold wg at hw2;rw [hw2];simp)
      exact (hf.1 id k1).2 k2
   refine ih _ _ _ ⟨⟨E',rfl,hle.trans hE,fun t=> ?_, ?_,fun id hh=> ?_, ?_⟩, ?_,hI.below.trans hB,hI.gl,by simpa using hI.lsize,fun j oj hoj hlj e he=> ?_⟩ fun m hm hnd=> ?_
   ·rw [nσ t]
    have:=put_rep hE h1 hv o.dst t
    rw [hI.size] at this
    exact this
   ·rw [show gat (fun j=>(listed.setIfInBounds i true).getD j false) rs g=gput (gat (fun j=>listed.getD j false) rs g) r.ups from funext ng]
    exact hM
   ·rcases hkn id hh with (h|h)|h
    ·rcases h3 id h with h|⟨j,rj,q1,q2,q3⟩
     ·exact .inl h
     ·exact .inr ⟨j,rj,getD_set_true q1,q2,q3⟩
    ·refine .inr ⟨i,r, ?_,hri, .inl h⟩
     rw [hlist i,Nat.zero_add,if_pos rfl]
    ·refine .inr ⟨i,r, ?_,hri, .inr h⟩
     rw [hlist i,Nat.zero_add,if_pos rfl]
   ·rw [(put_size a o.dst v).2];exact hmk.step hE
   ·rw [(put_size a o.dst v).1];exact hI.size
   ·rw [hlist j,Nat.zero_add] at hlj
    by_cases hji:j=i
    ·subst hji
     rw [m2] at hoj;simp only [Option.some.injEq] at hoj;subst hoj
     exact getD_set_true (hdir e he)
    ·rw [if_neg hji] at hlj
     exact getD_set_true (hI.closed j oj hoj hlj e he)
   ·have hni:i∉m:=fun hmem=>by
     have:=(hm i hmem).2
     have hils:i<listed.size:=by rw [hI.lsize];exact hil
     simp [hils] at this
    have:=hcount (i::m) (fun j hj=>by
     rcases List.mem_cons.1 hj with rfl|hj
     ·exact ⟨hil,m1⟩
     ·refine ⟨(hm j hj).1, ?_⟩
      have h5:=(hm j hj).2
      have hji:i≠j:=fun e=>hni (e▸hj)
      rwa [getD_set_ne true hji] at h5) (List.nodup_cons.2 ⟨hni,hnd⟩)
    simpa using this
  rcases hrun with ⟨hnone,hrun⟩|⟨f,as_,k1,hsome,hgd,hal,hsem,hcl,hfi⟩
  ·-- a name that nobody has
   have hname:∃fr',¬E.kn fr'∧(r.fr∈r.ups.map Prod.fst→fr'=r.fr):=by
    by_cases hin:r.fr∈r.ups.map Prod.fst
    ·refine ⟨r.fr,fun hk=> ?_,fun _=>rfl⟩
     rcases h3 _ hk with h|⟨j,rj,hlj,hrj,hkj⟩
     ·omega
     ·by_cases hne:j=i
      ·subst hne;rw [hunl] at hlj;simp at hlj
      ·rcases hkj with hkj|⟨k1,hk1,hkj⟩
       rotate_left
       ·by_cases hij:i<j
        ·have:=(free2 j rj hne hrj (by rw [hlj];simp [upto];omega)).2.2 (isCi hk1)
         rw [this] at hin;simp at hin
        ·have:=(c4 j i rj r (by omega) hrj hri).2 k1 hk1
         omega
       by_cases hij:i<j
       ·obtain ⟨oj,hoj,_⟩:=getO j rj hrj
        have hf:=(free j rj oj hne hrj hoj (by rw [hlj];simp [upto];omega)).2
        unfold idFree at hf
        simp only [if_pos hij,Bool.and_eq_true,List.all_eq_true,Bool.not_eq_true',List.contains_eq_mem,decide_eq_false_iff_not] at hf
        exact (hf.1 _ hin).2 hkj
       ·have:=(c4 j i rj r (by omega) hrj hri).1 _ hkj
        exact Nat.lt_irrefl _ this
    ·refine ⟨k',fun hk=> ?_,fun h=>absurd h hin⟩
     rcases h3 _ hk with h|⟨j,rj,hlj,hrj,hkj|⟨k1,hk1,hkj⟩⟩
     ·omega
     ·exact Nat.lt_irrefl _ ((c5 j rj hrj).1 _ hkj)
     ·exact Nat.lt_irrefl _ (Nat.lt_of_lt_of_le hkj ((c5 j rj hrj).2 k1 hk1))
   obtain ⟨fr',hfr1,hfr2⟩:=hname
   obtain ⟨acc',hrun'⟩:=hrun.local hσ hg hfr2
   exact step_sound (hI.gl.step hle) h1 h2 hfr1 m2 hco hrun' fun v E' hE hv hM hB hkn=>fin v E' hE hv hM hB fun id h=> .inl (hkn id h)
  ·have hci:=isCi hsome
   have gall:gat (fun j=>listed.getD j false) rs g=gat (upto i) rs g:=by
    funext id
    refine lastW_congr _ 0 _ fun j rj hrj hl=> ?_
    rw [Nat.zero_add] at hl
    by_cases hne:j=i
    ·subst hne;rw [hunl] at hl;simp [upto] at hl
    ·unfold wg;rw [(free2 j rj hne hrj hl).2.1 hci];rfl
   have hknl:∀id,E.kn id→id<r.fr:=by
    intro id hid
    rcases h3 id hid with h|⟨j,rj,hlj,hrj,hkj⟩
    ·omega
    ·by_cases hne:j=i
     ·subst hne;rw [hunl] at hlj;simp at hlj
     ·by_cases hij:i<j
      ·have hf2:=free2 j rj hne hrj (by rw [hlj];simp [upto];omega)
       rcases hkj with hkj|⟨x,hx,hkj⟩
       ·unfold Rec.keys at hkj;rw [hf2.2.1 hci] at hkj;simp at hkj
       ·have:=hf2.1;rw [hci,isCi hx] at this;simp at this
      ·rcases hkj with hkj|⟨x,hx,hkj⟩
       ·exact (c4 j i rj r (by omega) hrj hri).1 _ hkj
       ·have:=(c4 j i rj r (by omega) hrj hri).2 x hx;omega
   have hgd2:guardA (σat n (fun j=>listed.getD j false) rs σ) o.guard=some true:=by
    rw [←hgd]
    cases hg0:o.guard with
    |none=>rfl
    |some p=>
     obtain ⟨t,w⟩:=p
     simp only [guardA,hσ t (by simp [AOper.uses,hg0])]
   have hsem2:(o.ao.sem r.fr (argσ (σat n (fun j=>listed.getD j false) rs σ))).run (gat (fun j=>listed.getD j false) rs g)=some (.call f as_):=by
    rw [gall,sem_congr r.fr fun t ht=>hσ t (by simp [AOper.uses,ht])];exact hsem
   have hdd:=cOper_inv hco
   have hse:∀e,op.semAt (rnd rd).round e=execOp e op:=fun e=>Oper.semAt_plain (rnd rd) _ _ (cOp_nodefer hdd.2)
   unfold wpOpIn
   simp only [m2]
   rw [guard_sound h1 hco hgd2,if_pos rfl]
   obtain ⟨vs,e1,e2⟩:=call_sound (Args.of (hI.gl.step hle) h1) hdd.2 hsem2 hcl
   unfold Oper.wpIn
   rw [hse,e1,Oper.uponIn_enter]
   have h2':=h2
   rw [gall] at h2'
   refine ⟨rnd_out,rnd_depth,calls_rnd ((hfi E J base vs (hI.gl.step hle) h2' hknl e2).mono ?_)⟩
   rintro e w' ⟨v,E',rfl,rfl,q1,q2,q3,q4,q5⟩
   have hfin:=fin v E' q1 q2 (by rw [gall];exact q3) q4 fun id h=> .inr ⟨k1,hsome,q5 id h⟩
   rw [hdd.1] at hfin
   exact hfin
theorem region_drawF {id:Nat} (hmix:P.follows .mixedOrders=true) (hrec:OpsF P n os σ g k rs hs σ' g' k') (hlen:os.length=ops.size) (hops:∀(j:Nat) op,ops[j]? =some op→∃o,os[j]? =some o∧cOper P ops op=some o)
  (hd:depOK ops.toList dep=true) (hsl:slotsOK os dep=true) (hid:idsOK rs dep=true) (hcs:callsOK rs hs dep=true) (hQ:∀a w,RelS E0 J base w0 n σ' g' k' a w→Q .normal a w) {a:Act} {w:World} (hrel:RelS E0 J base w0 n σ g k a w) {rd:Option Nat}:(Code.region id ops true).wpIn (rnd rd) 0 P Q a w:=by
 refine wpIn_region_any hmix ?_
 obtain ⟨E,rfl,hle,h1,h2,h3,hmk⟩:=hrel.ex
 obtain ⟨E',hw,hE,hM,_,hk,_,_⟩:=h2.drew
 have hrep:∀(j:Nat),(Array.replicate ops.size false).getD j false=false:=by
  intro j
  rcases Nat.lt_or_ge j ops.size with h|h
  ·simp [h]
  ·simp [h]
 refine draw_soundF hrec hlen hops hd hsl hid hcs hQ ops.size _ a _ ⟨⟨E',hw,hle.trans hE,fun t=> ?_, ?_,fun id hh=> .inl (h3 id ((hk id).1 hh)),hmk.step hE⟩,hrel.size,hrel.below.drew,hrel.gl,by simp,fun j op hop hl=> ?_⟩ fun m hm hnd=> ?_
 ·have:σat n (fun j=>(Array.replicate ops.size false).getD j false) rs σ t=σ t:=lastW_none _ 0 _ fun j r _ hl=>by rw [hrep] at hl;simp at hl
  rw [this];exact (h1 t).step hE
 ·have:gat (fun j=>(Array.replicate ops.size false).getD j false) rs g=g:=by funext id;exact lastW_none _ 0 _ fun j r _ hl=>by rw [hrep] at hl;simp at hl
  rw [this];exact hM
 ·rw [hrep] at hl;simp at hl
 ·exact nodup_len _ _ hnd fun j hj=>(hm j hj).1
inductive DrawF (P:Program) (n:Nat) (dep:List (List Nat)):List AOper→(Nat→AV)→(Nat→Option Bk)→Nat→List Rec→List (Option Nat)→(Nat→AV)→(Nat→Option Bk)→Nat→Prop
 |nil {σ:Nat→AV} {g:Nat→Option Bk} {k:Nat} {rs:List Rec} {hs:List (Option Nat)} (hid:idsOK rs dep=true) (hcs:callsOK rs hs dep=true):DrawF P n dep [] σ g k rs hs σ g k
 |cons {o:AOper} {os:List AOper} {σ σ':Nat→AV} {g g':Nat→Option Bk} {k k1 k':Nat} {val:AV} {ups:List (Nat×Option Bk)} {acc:List Nat} {rs:List Rec} {hs:List (Option Nat)} (h:OpRun P σ g k o val ups acc) (hk:k≤k1) (hu:∀id,id∈ups.map Prod.fst→id<k1)
   (hr:DrawF P n dep os (putσ n o.dst val σ) (gput g ups) k1 (rs++[⟨o.dst,val,ups,acc,k⟩]) (hs++[none]) σ' g' k'):DrawF P n dep (o::os) σ g k rs hs σ' g' k'
 |fi {o:AOper} {os:List AOper} {σ σ':Nat→AV} {g g':Nat→Option Bk} {k k1 k':Nat} {r:AV} {f:FuncId} {as_:List AV} {ups:List (Nat×Option Bk)} {rs:List Rec} {hs:List (Option Nat)} (hg:guardA σ o.guard=some true) (hal:o.ao.allocs=false) (h:(o.ao.sem k (argσ σ)).run g=some (.call f as_)) (hc:callable P f=true) (hf:Fi P f as_ g k r (gput g ups) k1) (hk:k≤k1) (hu:∀id,id∈ups.map Prod.fst→id<k1)
   (hr:DrawF P n dep os (putσ n o.dst r σ) (gput g ups) k1 (rs++[⟨o.dst,r,ups,[],k⟩]) (hs++[some k1]) σ' g' k'):DrawF P n dep (o::os) σ g k rs hs σ' g' k'
theorem OpsF.snoc {o:AOper} {k1:Nat} {val:AV} {ups:List (Nat×Option Bk)} {acc:List Nat} (h0:OpsF P n os σ g k rs hs σ' g' k') (h:OpRun P σ' g' k' o val ups acc) (hk:k'≤k1) (hu:∀id,id∈ups.map Prod.fst→id<k1):OpsF P n (os++[o]) σ g k (rs++[⟨o.dst,val,ups,acc,k'⟩]) (hs++[none]) (putσ n o.dst val σ') (gput g' ups) k1:=by
 induction h0 with
 |nil=>exact .cons h hk hu .nil
 |cons h1 h2 h3 h4 ih=>exact .cons h1 h2 h3 (ih h hk)
 |fi h1 h2 h3 h4 h5 h6 h7 h8 ih=>exact .fi h1 h2 h3 h4 h5 h6 h7 (ih h hk)
theorem OpsF.snocF {o:AOper} {k1:Nat} {r:AV} {f:FuncId} {as_:List AV} {ups:List (Nat×Option Bk)} (h0:OpsF P n os σ g k rs hs σ' g' k') (hg:guardA σ' o.guard=some true) (hal:o.ao.allocs=false) (h:(o.ao.sem k' (argσ σ')).run g'=some (.call f as_)) (hc:callable P f=true) (hf:Fi P f as_ g' k' r (gput g' ups) k1) (hk:k'≤k1) (hu:∀id,id∈ups.map Prod.fst→id<k1):
  OpsF P n (os++[o]) σ g k (rs++[⟨o.dst,r,ups,[],k'⟩]) (hs++[some k1]) (putσ n o.dst r σ') (gput g' ups) k1:=by
 induction h0 with
 |nil=>exact .fi hg hal h hc hf hk hu .nil
 |cons h1 h2 h3 h4 ih=>exact .cons h1 h2 h3 (ih hg h hf hk)
 |fi h1 h2 h3 h4 h5 h6 h7 h8 ih=>exact .fi h1 h2 h3 h4 h5 h6 h7 (ih hg h hf hk)
theorem DrawF.all {pre:List AOper} {σ0:Nat→AV} {g0:Nat→Option Bk} {kk:Nat} (h0:OpsF P n pre σ0 g0 kk rs hs σ g k) (h:DrawF P n dep os σ g k rs hs σ' g' k'):∃rs' hs',OpsF P n (pre++os) σ0 g0 kk rs' hs' σ' g' k'∧idsOK rs' dep=true∧callsOK rs' hs' dep=true:=by
 induction h generalizing pre with
 |nil h1 h2=>exact ⟨_,_,by rw [List.append_nil];exact h0,h1,h2⟩
 | @cons o os σ σ' g g' k k1 k' val ups acc rs hs h hk hu hr ih=>
  have:=ih (pre:=pre++[o]) (h0.snoc h hk hu)
  rwa [List.append_assoc] at this
 | @fi o os σ σ' g g' k k1 k' r f as_ ups rs hs hg hal h hc hf hk hu hr ih=>
  have:=ih (pre:=pre++[o]) (h0.snocF hg hal h hc hf hk hu)
  rwa [List.append_assoc] at this
theorem EW.drawF {k0:Nat} {s:S3} {Q:Ex→S3→Prop} {s':S3} (h:DrawF P n dep os s.σ s.g s.k [] [] s'.σ s'.g s'.k) (hq:Q .normal s'):EW P n k0 (.reg os (some dep)) s Q:=by
 intro rd c E0 J base w0 a w hrd hc hk hr
 obtain ⟨id,ops,draw,rfl,h1,h2⟩:=cCode_reg hc
 rcases h2 with ⟨rfl,hh⟩|⟨rfl,d,hd,h3,h4,h5⟩
 ·simp at hh
 ·simp only [Option.some.injEq] at hd
  subst hd
  obtain ⟨k1,k2⟩:=cOpers_get h1
  obtain ⟨rs',hs',a1,a2,a3⟩:=DrawF.all .nil h
  rw [List.nil_append] at a1
  exact region_drawF h5 a1 (by rw [←k1];simp) (fun j op hj=>k2 j op (by simpa using hj)) h3 h4 a2 a3 (fun a' w' hr'=>⟨.normal,s',hq,rfl,hr'⟩) hr
end
section
variable {P:Program} {n k k0:Nat} {x:L3} {K:L3→Prop} {Q:Ex→L3→Prop} {R:List AOper} {dep:List (List Nat)} {rs:List Rec} {hs:List (Option Nat)}
end
abbrev cl (f:Nat) (as_:List Arg):AO:= .call (.c (.fn f [])) as_
abbrev cd (k:Nat) (y z:AC):AC:= .cond (.s k) y z
abbrev bi (o:BinOp) (a b:Arg):AO:= .bin false o a b
abbrev lq (n k:Nat):AO:= .load (some n) (.s k)
abbrev RL:=List AOper
abbrev zi (n:Int):AV:= .v (.int .i64 n)
abbrev zs:AV:= .v (.string ⟨#[]⟩)
abbrev ci (n:Int):Arg:= .c (zi n)
abbrev cT:Arg:= .c (.v (.bool true))
abbrev cF:Arg:= .c (.v (.bool false))
abbrev ld (k:Nat):AO:= .load none (.s k)
abbrev ms (k:Nat):AO:= .mov (.s k)
abbrev fd (a k:Nat):AO:= .fad a (.s k)
abbrev sr (R:List AOper) (b:AC):AC:= .seq (.reg R none) b
abbrev rg (R:List AOper):AC:= .reg R none
def F5r0:RL:=[oo 6 (.mov cF)]
def F5r1:RL:=[oo 15 (ms 0),
 oo 16 (ms 1),
 oo 17 (cl 11 [.s 15, .s 16]),
 oo 14 (ms 17),
 oo 18 (.ext 0 (.s 14)),
 oo 19 (.ext 1 (.s 14)),
 oo 7 (ms 18),
 oo 8 (ms 19)]
def F5r2:RL:=[oo 20 (cl 15 []),
 oo 21 (.un .not (.s 20))]
def F5r3:RL:=[oo 6 (.mov cF)]
def F5r4:RL:=[oo 22 (ms 8),
 oo 23 (bi .neq (.s 22) (ci 0))]
def F5r5:RL:=[oo 24 (ms 7),
 oo 25 (.len false (.s 24)),
 oo 26 (bi .eql (.s 25) (ci 0)),
 oo 6 (ms 26)]
def F5r6:RL:=[oo 27 (.bsl 1 0 [zs] []),
 oo 28 (ms 0),
 oo 29 (.app 1 16 (.s 27) (.s 28)),
 oo 30 (ms 7),
 oo 31 (.app 1 16 (.s 29) (.s 30)),
 oo 9 (ms 31)]
def F5r7:RL:=[oo 10 (.mov (.c .emp))]
def F5r8:RL:=[oo 11 (.mov (ci 0))]
def F5r9:RL:=[oo 32 (ms 11),
 oo 33 (ms 2),
 oo 34 (.len false (.s 33)),
 oo 35 (bi .lss (.s 32) (.s 34))]
def F5r10:RL:=[oo 38 (ms 2),
 oo 39 (ms 11),
 oo 40 (.iad 1 (.s 38) (.s 39)),
 oo 41 (ld 40),
 oo 42 (bi .lss (.s 41) (ci 0)),
 oo 43 (ms 42),
 on 44 (ms 2) 43,
 on 45 (ms 11) 43,
 on 46 (.iad 1 (.s 44) (.s 45)) 43,
 on 47 (ld 46) 43,
 on 48 (ms 9) 43,
 on 49 (.len false (.s 48)) 43,
 on 50 (bi .geq (.s 47) (.s 49)) 43,
 oo 51 (.pick (.s 43) cT (.s 50))]
def F5r11:RL:=[oo 6 (.mov cT)]
def F5r12:RL:=[oo 52 (ms 10),
 oo 53 (ms 9),
 oo 54 (ms 2),
 oo 55 (ms 11),
 oo 56 (.iad 1 (.s 54) (.s 55)),
 oo 57 (ld 56),
 oo 58 (.iad 1 (.s 53) (.s 57)),
 oo 59 (ld 58),
 oo 60 (.bsl 1 1 [zs] [(0, .s 59)]),
 oo 61 (.app 1 16 (.s 52) (.s 60)),
 oo 10 (ms 61)]
def F5r13:RL:=[oo 36 (ms 11),
 oo 37 (bi .add (.s 36) (ci 1)),
 oo 11 (ms 37)]
def F5r14:RL:=[oo 63 (ms 0),
 oo 64 (.len false (.s 63)),
 oo 65 (ms 1),
 oo 66 (ms 2),
 oo 67 (ms 10),
 oo 68 (cl 12 [.s 64, .s 65, .s 66, .s 67]),
 oo 62 (ms 68),
 oo 69 (.ext 0 (.s 62)),
 oo 70 (.ext 1 (.s 62)),
 oo 12 (ms 69),
 oo 13 (ms 70)]
def F5r15:RL:=[oo 71 (ms 13),
 oo 72 (bi .neq (.s 71) (ci 0))]
def F5r16:RL:=[oo 73 (ms 13),
 oo 74 (bi .eql (.s 73) (ci 8)),
 oo 75 (ms 74),
 on 76 (ms 13) 75,
 on 77 (bi .eql (.s 76) (ci 2)) 75,
 oo 78 (.pick (.s 75) cT (.s 77)),
 oo 79 (ms 78),
 on 80 (ms 13) 79,
 on 81 (bi .eql (.s 80) (ci 6)) 79,
 oo 82 (.pick (.s 79) cT (.s 81)),
 oo 6 (ms 82)]
def F5r17:RL:=[oo 83 (ms 12),
 oo 84 (ms 0),
 oo 85 (cl 16 [.s 83, .s 84]),
 oo 6 (ms 85)]
def F5:AFn:=⟨86,[.tmp 6],
 sr F5r0
 (sr F5r1
 (.seq (sr F5r2
 (cd 21
  (sr F5r3
  (.ret))
  (.skip)))
 (.seq (sr F5r4
 (cd 23
  (sr F5r5
  (.ret))
  (.skip)))
 (sr F5r6
 (sr F5r7
 (.seq (sr F5r8
 (.block 0 (
  .loop (
   .seq (sr F5r9
   (cd 35
    (.skip)
    (.exit 0)))
   (.seq (.block 1 (
    .seq (sr F5r10
    (cd 51
     (sr F5r11
     (.ret))
     (.skip)))
    (rg F5r12)))
   (rg F5r13))))))
 (sr F5r14
 (.seq (sr F5r15
 (cd 72
  (sr F5r16
  (.ret))
  (.skip)))
 (sr F5r17
 (.ret))))))))))⟩
theorem F5_ok:cFunc Try.prog 5=some F5:=by kernel_rfl
theorem F5_call:callable Try.prog 5=true:=by kernel_rfl
def F11r0:RL:=[oo 4 (.mov (.c .emp)),
 oo 5 (.mov (ci 0))]
def F11r1:RL:=[oo 10 (ms 0),
 oo 11 (.len false (.s 10)),
 oo 12 (bi .eql (.s 11) (ci 0)),
 oo 9 (ms 12)]
def F11r2:RL:=[oo 4 (.mov (.c .emp)),
 oo 5 (.mov (ci 8))]
def F11r3:RL:=[oo 14 (ms 0),
 oo 15 (.len false (.s 14)),
 oo 16 (bi .gtr (.s 15) (ci 8)),
 oo 13 (ms 16)]
def F11r4:RL:=[oo 4 (.mov (.c .emp)),
 oo 5 (.mov (ci 2))]
def F11r5:RL:=[oo 18 (ms 1),
 oo 19 (cl 30 [.s 18,ci 6]),
 oo 20 (.un .not (.s 19)),
 oo 17 (ms 20)]
def F11r6:RL:=[oo 4 (.mov (.c .emp)),
 oo 5 (.mov (ci 3))]
def F11r7:RL:=[oo 21 (ms 0),
 oo 22 (cl 31 [.s 21]),
 oo 6 (ms 22)]
def F11r8:RL:=[oo 23 (ms 6),
 oo 24 (bi .neq (.s 23) (ci 0))]
def F11r9:RL:=[oo 25 (ms 6),
 oo 4 (.mov (.c .emp)),
 oo 5 (ms 25)]
def F11r10:RL:=[oo 27 (ms 1),
 oo 28 (ms 0),
 oo 29 (.len false (.s 28)),
 oo 30 (cl 32 [.s 27, .s 29]),
 oo 26 (ms 30),
 oo 31 (.ext 0 (.s 26)),
 oo 32 (.ext 1 (.s 26)),
 oo 7 (ms 31),
 oo 8 (ms 32)]
def F11r11:RL:=[oo 33 (ms 7),
 oo 34 (ms 0),
 oo 35 (cl 33 [.s 33, .s 34]),
 oo 4 (ms 35),
 oo 5 (.mov (ci 0))]
def F11:AFn:=⟨36,[.tmp 4, .tmp 5],
 sr F11r0
 (.seq (.block 0 (
  sr F11r1
  (cd 9
   (sr F11r2
   (.ret))
   (sr F11r3
   (cd 13
    (sr F11r4
    (.ret))
    (sr F11r5
    (cd 17
     (sr F11r6
     (.ret))
     (.skip))))))))
 (.seq (sr F11r7
 (sr F11r8
 (cd 24
  (sr F11r9
  (.ret))
  (.skip))))
 (sr F11r10
 (sr F11r11
 (.ret)))))⟩
theorem F11_ok:cFunc Try.prog 11=some F11:=by kernel_rfl
theorem F11_call:callable Try.prog 11=true:=by kernel_rfl
def F12r0:RL:=[oo 8 (.mov (.c .emp)),
 oo 9 (.mov (ci 0))]
def F12r1:RL:=[oo 16 (ms 0),
 oo 17 (cl 30 [.s 16,ci 8]),
 oo 18 (.un .not (.s 17)),
 oo 15 (ms 18)]
def F12r2:RL:=[oo 19 (ms 1),
 oo 20 (cl 30 [.s 19,ci 6]),
 oo 21 (.un .not (.s 20)),
 oo 15 (ms 21)]
def F12r3:RL:=[oo 8 (.mov (.c .emp)),
 oo 9 (.mov (ci 3))]
def F12r4:RL:=[oo 23 (ms 2),
 oo 24 (.len false (.s 23)),
 oo 25 (ms 3),
 oo 26 (.len false (.s 25)),
 oo 27 (bi .neq (.s 24) (.s 26)),
 oo 22 (ms 27)]
def F12r5:RL:=[oo 8 (.mov (.c .emp)),
 oo 9 (.mov (ci 1))]
def F12r6:RL:=[oo 29 (ms 2),
 oo 30 (.len false (.s 29)),
 oo 31 (ms 0),
 oo 32 (bi .lss (.s 30) (.s 31)),
 oo 28 (ms 32)]
def F12r7:RL:=[oo 8 (.mov (.c .emp)),
 oo 9 (.mov (ci 8))]
def F12r8:RL:=[oo 34 (ms 2),
 oo 35 (.len false (.s 34)),
 oo 36 (ms 0),
 oo 37 (bi .gtr (.s 35) (.s 36)),
 oo 33 (ms 37)]
def F12r9:RL:=[oo 8 (.mov (.c .emp)),
 oo 9 (.mov (ci 2))]
def F12r10:RL:=[oo 38 (ms 2),
 oo 39 (.len false (.s 38)),
 oo 40 (.mov (ci 0))]
def F12r11:RL:=[oo 41 (bi .lss (.s 40) (.s 39))]
def F12r12:RL:=[oo 42 (ms 40),
 oo 43 (.iad 1 (.s 38) (.s 40)),
 oo 44 (ld 43),
 oo 10 (ms 42),
 oo 11 (ms 44)]
def F12r13:RL:=[oo 46 (ms 11),
 oo 47 (bi .lss (.s 46) (ci 0)),
 oo 48 (ms 47),
 on 49 (ms 11) 48,
 on 50 (ms 0) 48,
 on 51 (ms 1) 48,
 on 52 (bi .add (.s 50) (.s 51)) 48,
 on 53 (bi .geq (.s 49) (.s 52)) 48,
 oo 54 (.pick (.s 48) cT (.s 53)),
 oo 45 (ms 54)]
def F12r14:RL:=[oo 8 (.mov (.c .emp)),
 oo 9 (.mov (ci 3))]
def F12r15:RL:=[oo 56 (ms 2),
 oo 57 (ms 10),
 oo 58 (.slc 1 (.s 56) none (some (.s 57)) none),
 oo 59 (ms 11),
 oo 60 (cl 34 [.s 58, .s 59]),
 oo 55 (ms 60)]
def F12r16:RL:=[oo 8 (.mov (.c .emp)),
 oo 9 (.mov (ci 6))]
def F12r17:RL:=[oo 61 (bi .add (.s 40) (ci 1)),
 oo 40 (ms 61)]
def F12r18:RL:=[oo 62 (ms 3),
 oo 63 (cl 31 [.s 62]),
 oo 12 (ms 63)]
def F12r19:RL:=[oo 64 (ms 12),
 oo 65 (bi .neq (.s 64) (ci 0))]
def F12r20:RL:=[oo 66 (ms 12),
 oo 8 (.mov (.c .emp)),
 oo 9 (ms 66)]
def F12r21:RL:=[oo 68 (ms 0),
 oo 69 (ms 1),
 oo 70 (ms 2),
 oo 71 (cl 35 [.s 68, .s 69, .s 70]),
 oo 72 (cl 24 [.s 71]),
 oo 67 (ms 72),
 oo 73 (.ext 0 (.s 67)),
 oo 74 (.ext 1 (.s 67)),
 oo 13 (ms 73),
 oo 14 (ms 74)]
def F12r22:RL:=[oo 75 (ms 14),
 oo 76 (bi .neq (.s 75) (ci 0))]
def F12r23:RL:=[oo 77 (ms 14),
 oo 8 (.mov (.c .emp)),
 oo 9 (ms 77)]
def F12r24:RL:=[oo 78 (ms 13),
 oo 79 (ms 3),
 oo 80 (cl 33 [.s 78, .s 79]),
 oo 8 (ms 80),
 oo 9 (.mov (ci 0))]
def F12:AFn:=⟨81,[.tmp 8, .tmp 9],
 sr F12r0
 (.seq (.block 0 (
  .seq (sr F12r1
  (cd 15
   (.skip)
   (rg F12r2)))
  (cd 15
   (sr F12r3
   (.ret))
   (sr F12r4
   (cd 22
    (sr F12r5
    (.ret))
    (sr F12r6
    (cd 28
     (sr F12r7
     (.ret))
     (sr F12r8
     (cd 33
      (sr F12r9
      (.ret))
      (.skip))))))))))
 (.seq (sr F12r10
 (.block 1 (
  .loop (
   sr F12r11
   (.seq (cd 41
    (.skip)
    (.exit 1))
   (.seq (.block 2 (
    sr F12r12
    (.block 3 (
     sr F12r13
     (cd 45
      (sr F12r14
      (.ret))
      (sr F12r15
      (cd 55
       (sr F12r16
       (.ret))
       (.skip))))))))
   (rg F12r17)))))))
 (.seq (sr F12r18
 (sr F12r19
 (cd 65
  (sr F12r20
  (.ret))
  (.skip))))
 (sr F12r21
 (.seq (sr F12r22
 (cd 76
  (sr F12r23
  (.ret))
  (.skip)))
 (sr F12r24
 (.ret)))))))⟩
theorem F12_ok:cFunc Try.prog 12=some F12:=by kernel_rfl
theorem F12_call:callable Try.prog 12=true:=by kernel_rfl
def F15r0:RL:=[oo 0 (.mov cF)]
def F15r1:RL:=[oo 15 (.bsl 1 3 [zs] [(0, .c (.v (.string ⟨#[111,110,101]⟩))),(1, .c (.v (.string ⟨#[116,119,111]⟩))),(2, .c (.v (.string ⟨#[115,105,120]⟩)))]),
 oo 1 (ms 15)]
def F15r2:RL:=[oo 17 (ms 1),
 oo 18 (cl 11 [.s 17,ci 2]),
 oo 16 (ms 18),
 oo 19 (.ext 0 (.s 16)),
 oo 20 (.ext 1 (.s 16)),
 oo 2 (ms 19),
 oo 3 (ms 20)]
def F15r3:RL:=[oo 21 (ms 3),
 oo 22 (bi .neq (.s 21) (ci 0)),
 oo 23 (ms 22),
 on 24 (ms 2) 23,
 on 25 (.len false (.s 24)) 23,
 on 26 (bi .neq (.s 25) (ci 2)) 23,
 oo 27 (.pick (.s 23) cT (.s 26))]
def F15r4:RL:=[oo 0 (.mov cF)]
def F15r5:RL:=[oo 28 (.bsl 1 0 [zs] []),
 oo 29 (ms 1),
 oo 30 (.app 1 16 (.s 28) (.s 29)),
 oo 31 (ms 2),
 oo 32 (.app 1 16 (.s 30) (.s 31)),
 oo 4 (ms 32)]
def F15r6:RL:=[oo 34 (.bsl 1 3 [zi 0] [(0,ci 4),(1,ci 1),(2,ci 3)]),
 oo 35 (ms 4),
 oo 36 (.iad 1 (.s 35) (ci 4)),
 oo 37 (ld 36),
 oo 38 (ms 4),
 oo 39 (.iad 1 (.s 38) (ci 1)),
 oo 40 (ld 39),
 oo 41 (ms 4),
 oo 42 (.iad 1 (.s 41) (ci 3)),
 oo 43 (ld 42),
 oo 44 (.bsl 1 3 [zs] [(0, .s 37),(1, .s 40),(2, .s 43)]),
 oo 45 (cl 12 [ci 3,ci 2, .s 34, .s 44]),
 oo 33 (ms 45),
 oo 46 (.ext 0 (.s 33)),
 oo 47 (.ext 1 (.s 33)),
 oo 5 (ms 46),
 oo 6 (ms 47)]
def F15r7:RL:=[oo 49 (ms 4),
 oo 50 (cl 17 [.s 49,ci 2]),
 oo 48 (ms 50),
 oo 51 (.ext 0 (.s 48)),
 oo 52 (.ext 1 (.s 48)),
 oo 7 (ms 51),
 oo 8 (ms 52)]
def F15r8:RL:=[oo 54 (ms 2),
 oo 55 (cl 18 [ci 1, .c (.v (.string ⟨#[116,119,111]⟩)), .c (.v (.string ⟨#[116,101,110]⟩)),ci 3, .s 54]),
 oo 53 (ms 55),
 oo 56 (.ext 0 (.s 53)),
 oo 57 (.ext 1 (.s 53)),
 oo 9 (ms 56),
 oo 10 (ms 57)]
def F15r9:RL:=[oo 59 (.bsl 1 3 [zs] [(0, .c (.v (.string ⟨#[111,110,101]⟩))),(1, .c (.v (.string ⟨#[116,101,110]⟩))),(2, .c (.v (.string ⟨#[115,105,120]⟩)))]),
 oo 60 (cl 11 [.s 59,ci 2]),
 oo 58 (ms 60),
 oo 61 (.ext 0 (.s 58)),
 oo 62 (.ext 1 (.s 58)),
 oo 11 (ms 61),
 oo 12 (ms 62)]
def F15r10:RL:=[oo 64 (.bsl 1 3 [zi 0] [(0,ci 1),(1,ci 1),(2,ci 2)]),
 oo 65 (ms 1),
 oo 66 (cl 12 [ci 3,ci 2, .s 64, .s 65]),
 oo 63 (ms 66),
 oo 67 (.ext 0 (.s 63)),
 oo 68 (.ext 1 (.s 63)),
 oo 13 (ms 67),
 oo 14 (ms 68)]
def F15r11:RL:=[oo 69 (ms 6),
 oo 70 (bi .eql (.s 69) (ci 0)),
 oo 71 (ms 70),
 ot 72 (ms 5) 71,
 ot 73 (ms 1) 71,
 ot 74 (cl 16 [.s 72, .s 73]) 71,
 oo 75 (.pick (.s 71) (.s 74) cF),
 oo 76 (ms 75),
 ot 77 (ms 7) 76,
 oo 78 (.pick (.s 76) (.s 77) cF),
 oo 79 (ms 78),
 ot 80 (ms 8) 79,
 ot 81 (bi .eql (.s 80) (ci 0)) 79,
 oo 82 (.pick (.s 79) (.s 81) cF),
 oo 83 (ms 82),
 ot 84 (ms 10) 83,
 ot 85 (bi .eql (.s 84) (ci 0)) 83,
 oo 86 (.pick (.s 83) (.s 85) cF),
 oo 87 (ms 86),
 ot 88 (ms 12) 87,
 ot 89 (bi .eql (.s 88) (ci 0)) 87,
 oo 90 (.pick (.s 87) (.s 89) cF),
 oo 91 (ms 90),
 ot 92 (ms 9) 91,
 ot 93 (ms 11) 91,
 ot 94 (cl 16 [.s 92, .s 93]) 91,
 oo 95 (.pick (.s 91) (.s 94) cF),
 oo 96 (ms 95),
 ot 97 (ms 9) 96,
 ot 98 (ms 2) 96,
 ot 99 (cl 16 [.s 97, .s 98]) 96,
 ot 100 (.un .not (.s 99)) 96,
 oo 101 (.pick (.s 96) (.s 100) cF),
 oo 102 (ms 101),
 ot 103 (ms 14) 102,
 ot 104 (bi .eql (.s 103) (ci 6)) 102,
 oo 105 (.pick (.s 102) (.s 104) cF),
 oo 0 (ms 105)]
def F15:AFn:=⟨106,[.tmp 0],
 sr F15r0
 (sr F15r1
 (sr F15r2
 (.seq (sr F15r3
 (cd 27
  (sr F15r4
  (.ret))
  (.skip)))
 (sr F15r5
 (.seq (.reg F15r6 (some [[],[],[1],[2,1],[],[4],[5,4],[],[7],[8,7],[3,6,9,2,1,5,4,8,7],[0,10,3,6,9,2,1,5,4,8,7],[11,0,10,3,6,9,2,1,5,4,8,7],[12,11,0,10,3,6,9,2,1,5,4,8,7],[12,11,0,10,3,6,9,2,1,5,4,8,7],[13,11,0,1,2,3,4,5,6,7,8,9,10,12],[14,15,0,1,2,3,4,5,6,7,8,9,10,11,12,13]]))
 (sr F15r7
 (sr F15r8
 (sr F15r9
 (sr F15r10
 (sr F15r11
 (.ret)))))))))))⟩
theorem F15_ok:cFunc Try.prog 15=some F15:=by kernel_rfl
theorem F15_call:callable Try.prog 15=true:=by kernel_rfl
def F16r0:RL:=[oo 4 (.mov cF)]
def F16r1:RL:=[oo 6 (ms 0),
 oo 7 (.len false (.s 6)),
 oo 8 (ms 1),
 oo 9 (.len false (.s 8)),
 oo 10 (bi .neq (.s 7) (.s 9))]
def F16r2:RL:=[oo 4 (.mov cF)]
def F16r3:RL:=[oo 5 (.mov (ci 0))]
def F16r4:RL:=[oo 11 (ms 5),
 oo 12 (ms 0),
 oo 13 (.len false (.s 12)),
 oo 14 (bi .lss (.s 11) (.s 13))]
def F16r5:RL:=[oo 17 (ms 0),
 oo 18 (ms 5),
 oo 19 (.iad 1 (.s 17) (.s 18)),
 oo 20 (ld 19),
 oo 21 (ms 1),
 oo 22 (ms 5),
 oo 23 (.iad 1 (.s 21) (.s 22)),
 oo 24 (ld 23),
 oo 25 (bi .neq (.s 20) (.s 24))]
def F16r6:RL:=[oo 4 (.mov cF)]
def F16r7:RL:=[oo 15 (ms 5),
 oo 16 (bi .add (.s 15) (ci 1)),
 oo 5 (ms 16)]
def F16r8:RL:=[oo 4 (.mov cT)]
def F16:AFn:=⟨26,[.tmp 4],
 sr F16r0
 (.seq (sr F16r1
 (cd 10
  (sr F16r2
  (.ret))
  (.skip)))
 (.seq (sr F16r3
 (.block 0 (
  .loop (
   .seq (sr F16r4
   (cd 14
    (.skip)
    (.exit 0)))
   (.seq (.block 1 (
    .seq (.reg F16r5 (some [[],[],[0,1],[2,0,1],[],[],[4,5],[6,4,5],[3,7,2,0,1,6,4,5]]))
    (cd 25
     (sr F16r6
     (.ret))
     (.skip))))
   (rg F16r7))))))
 (sr F16r8
 (.ret))))⟩
theorem F16_ok:cFunc Try.prog 16=some F16:=by kernel_rfl
theorem F16_call:callable Try.prog 16=true:=by kernel_rfl
def F17r0:RL:=[oo 2 (.box 1 (.s 0)),
 oo 4 (.mov cF),
 oo 5 (.mov (ci 0))]
def F17r1:RL:=[oo 10 (ms 1),
 oo 11 (cl 30 [.s 10,ci 6]),
 oo 12 (.un .not (.s 11)),
 oo 9 (ms 12)]
def F17r2:RL:=[oo 4 (.mov cF),
 oo 5 (.mov (ci 3))]
def F17r3:RL:=[oo 14 (ld 2),
 oo 15 (.len false (.s 14)),
 oo 16 (ms 1),
 oo 17 (bi .leq (.s 15) (.s 16)),
 oo 13 (ms 17)]
def F17r4:RL:=[oo 4 (.mov cF),
 oo 5 (.mov (ci 8))]
def F17r5:RL:=[oo 18 (ld 2),
 oo 19 (.len false (.s 18)),
 oo 20 (ms 1),
 oo 21 (bi .sub (.s 19) (.s 20)),
 oo 6 (ms 21)]
def F17r6:RL:=[oo 23 (ld 2),
 oo 24 (ms 6),
 oo 25 (.slc 1 (.s 23) none (some (.s 24)) none),
 oo 26 (ms 1),
 oo 27 (cl 11 [.s 25, .s 26]),
 oo 22 (ms 27),
 oo 28 (.ext 0 (.s 22)),
 oo 29 (.ext 1 (.s 22)),
 oo 7 (ms 28),
 oo 8 (ms 29)]
def F17r7:RL:=[oo 30 (ms 8),
 oo 31 (bi .eql (.s 30) (ci 0)),
 oo 32 (ms 31),
 ot 33 (ld 2) 32,
 ot 34 (ms 6) 32,
 ot 35 (.slc 1 (.s 33) (some (.s 34)) none none) 32,
 ot 36 (.mkf 42 [.s 2]) 32,
 ot 37 (cl 41 [.s 35, .s 36]) 32,
 oo 38 (.pick (.s 32) (.s 37) cF)]
def F17r8:RL:=[oo 8 (.mov (ci 1))]
def F17r9:RL:=[oo 39 (ms 8),
 oo 40 (bi .eql (.s 39) (ci 0)),
 oo 41 (ms 40),
 ot 42 (ms 7) 41,
 ot 43 (ld 2) 41,
 ot 44 (ms 6) 41,
 ot 45 (.slc 1 (.s 43) (some (.s 44)) none none) 41,
 ot 46 (cl 43 [.s 42, .s 45]) 41,
 oo 47 (.pick (.s 41) (.s 46) cF),
 oo 48 (ms 8),
 oo 4 (ms 47),
 oo 5 (ms 48)]
def F17:AFn:=⟨49,[.tmp 4, .tmp 5],
 sr F17r0
 (.seq (.block 0 (
  sr F17r1
  (cd 9
   (sr F17r2
   (.ret))
   (sr F17r3
   (cd 13
    (sr F17r4
    (.ret))
    (.skip))))))
 (sr F17r5
 (sr F17r6
 (.seq (sr F17r7
 (cd 38
  (rg F17r8)
  (.skip)))
 (sr F17r9
 (.ret))))))⟩
theorem F17_ok:cFunc Try.prog 17=some F17:=by kernel_rfl
theorem F17_call:callable Try.prog 17=true:=by kernel_rfl
def F18r0:RL:=[oo 10 (.mov (.c .emp)),
 oo 11 (.mov (ci 0))]
def F18r1:RL:=[oo 21 (ms 3),
 oo 22 (cl 30 [.s 21,ci 8]),
 oo 23 (.un .not (.s 22)),
 oo 20 (ms 23)]
def F18r2:RL:=[oo 24 (ms 0),
 oo 25 (bi .lss (.s 24) (ci 0)),
 oo 26 (ms 25),
 on 27 (ms 0) 26,
 on 28 (ms 3) 26,
 on 29 (bi .geq (.s 27) (.s 28)) 26,
 oo 30 (.pick (.s 26) cT (.s 29)),
 oo 20 (ms 30)]
def F18r3:RL:=[oo 10 (.mov (.c .emp)),
 oo 11 (.mov (ci 3))]
def F18r4:RL:=[oo 32 (ms 4),
 oo 33 (.len false (.s 32)),
 oo 34 (bi .eql (.s 33) (ci 0)),
 oo 31 (ms 34)]
def F18r5:RL:=[oo 10 (.mov (.c .emp)),
 oo 11 (.mov (ci 8))]
def F18r6:RL:=[oo 36 (ms 4),
 oo 37 (.len false (.s 36)),
 oo 38 (bi .gtr (.s 37) (ci 6)),
 oo 35 (ms 38)]
def F18r7:RL:=[oo 10 (.mov (.c .emp)),
 oo 11 (.mov (ci 2))]
def F18r8:RL:=[oo 39 (ms 1),
 oo 40 (ms 2),
 oo 41 (.bsl 1 2 [zs] [(0, .s 39),(1, .s 40)]),
 oo 42 (ms 4),
 oo 43 (.app 1 16 (.s 41) (.s 42)),
 oo 44 (cl 31 [.s 43]),
 oo 12 (ms 44)]
def F18r9:RL:=[oo 45 (ms 12),
 oo 46 (bi .neq (.s 45) (ci 0))]
def F18r10:RL:=[oo 47 (ms 12),
 oo 10 (.mov (.c .emp)),
 oo 11 (ms 47)]
def F18r11:RL:=[oo 49 (ms 4),
 oo 50 (.len false (.s 49)),
 oo 51 (ms 3),
 oo 52 (cl 32 [.s 50, .s 51]),
 oo 48 (ms 52),
 oo 53 (.ext 0 (.s 48)),
 oo 54 (.ext 1 (.s 48)),
 oo 13 (ms 53),
 oo 14 (ms 54)]
def F18r12:RL:=[oo 15 (.mov (.c .emp))]
def F18r13:RL:=[oo 55 (ms 4),
 oo 56 (.len false (.s 55)),
 oo 57 (.mov (ci 0))]
def F18r14:RL:=[oo 58 (bi .lss (.s 57) (.s 56))]
def F18r15:RL:=[oo 59 (ms 57),
 oo 60 (.iad 1 (.s 55) (.s 57)),
 oo 61 (ld 60),
 oo 16 (ms 59),
 oo 17 (ms 61)]
def F18r16:RL:=[oo 62 (ms 17),
 oo 63 (.s2b (.s 62)),
 oo 18 (ms 63)]
def F18r17:RL:=[oo 64 (ms 18),
 oo 65 (.len false (.s 64)),
 oo 66 (.mov (ci 0))]
def F18r18:RL:=[oo 67 (bi .lss (.s 66) (.s 65))]
def F18r19:RL:=[oo 68 (ms 66),
 oo 19 (ms 68)]
def F18r20:RL:=[oo 69 (ms 18),
 oo 70 (ms 19),
 oo 71 (.iad 1 (.s 69) (.s 70)),
 oo 72 (ld 71),
 oo 73 (ms 13),
 oo 74 (ms 16),
 oo 75 (.iad 1 (.s 73) (.s 74)),
 oo 76 (ld 75),
 oo 77 (ms 0),
 oo 78 (.iad 1 (.s 76) (.s 77)),
 oo 79 (ld 78),
 oo 80 (ms 1),
 oo 81 (ms 19),
 oo 82 (.six (.s 80) (.s 81)),
 oo 83 (ms 2),
 oo 84 (ms 19),
 oo 85 (.six (.s 83) (.s 84)),
 oo 86 (bi .xor (.s 82) (.s 85)),
 oo 87 (cl 44 [.s 79, .s 86]),
 oo 88 (bi .xor (.s 72) (.s 87)),
 oo 89 (.iad 1 (.s 69) (.s 70)),
 ow (.store 1 (.s 89) (.s 88))]
def F18r21:RL:=[oo 90 (bi .add (.s 66) (ci 1)),
 oo 66 (ms 90)]
def F18r22:RL:=[oo 91 (ms 15),
 oo 92 (ms 18),
 oo 93 (.b2s (.s 92)),
 oo 94 (.bsl 1 1 [zs] [(0, .s 93)]),
 oo 95 (.app 1 16 (.s 91) (.s 94)),
 oo 15 (ms 95)]
def F18r23:RL:=[oo 96 (bi .add (.s 57) (ci 1)),
 oo 57 (ms 96)]
def F18r24:RL:=[oo 97 (ms 15),
 oo 10 (ms 97),
 oo 11 (.mov (ci 0))]
def F18:AFn:=⟨98,[.tmp 10, .tmp 11],
 sr F18r0
 (.seq (.block 0 (
  .seq (sr F18r1
  (cd 20
   (.skip)
   (rg F18r2)))
  (cd 20
   (sr F18r3
   (.ret))
   (sr F18r4
   (cd 31
    (sr F18r5
    (.ret))
    (sr F18r6
    (cd 35
     (sr F18r7
     (.ret))
     (.skip))))))))
 (.seq (sr F18r8
 (sr F18r9
 (cd 46
  (sr F18r10
  (.ret))
  (.skip))))
 (sr F18r11
 (sr F18r12
 (.seq (sr F18r13
 (.block 1 (
  .loop (
   sr F18r14
   (.seq (cd 58
    (.skip)
    (.exit 1))
   (.seq (.block 2 (
    sr F18r15
    (sr F18r16
    (.seq (sr F18r17
    (.block 3 (
     .loop (
      sr F18r18
      (.seq (cd 67
       (.skip)
       (.exit 3))
      (.seq (.block 4 (
       sr F18r19
       (.reg F18r20 (some [[],[],[0,1],[2,0,1],[],[],[4,5],[6,4,5],[],[7,8,6,4,5],[9,7,8,6,4,5],[],[],[11,12],[],[],[14,15],[13,16,11,12,14,15],[10,17,9,7,8,6,4,5,13,16,11,12,14,15],[3,18,2,0,1,10,17,9,7,8,6,4,5,13,16,11,12,14,15],[0,1,2,3,4,5,6,7,8,9,10,11,12,13,14,15,16,17,18,19],[20,19,18,0,1,2,3,4,5,6,7,8,9,10,11,12,13,14,15,16,17]]))))
      (rg F18r21)))))))
    (rg F18r22)))))
   (rg F18r23)))))))
 (sr F18r24
 (.ret)))))))⟩
theorem F18_ok:cFunc Try.prog 18=some F18:=by kernel_rfl
theorem F18_call:callable Try.prog 18=true:=by kernel_rfl
def F24r0:RL:=[oo 1 (.box 1 (.s 0)),
 oo 2 (.mov (.c .emp)),
 oo 3 (.mov (ci 0))]
def F24r1:RL:=[oo 7 (ld 1),
 oo 8 (cl 45 [.s 7]),
 oo 4 (ms 8)]
def F24r2:RL:=[oo 9 (ms 4),
 oo 10 (bi .neq (.s 9) (ci 0))]
def F24r3:RL:=[oo 11 (ms 4),
 oo 2 (.mov (.c .emp)),
 oo 3 (ms 11)]
def F24r4:RL:=[oo 12 (ld 1),
 oo 13 (.len false (.s 12)),
 oo 5 (.new [zi 0]),
 ow (.store 1 (.s 5) (.s 13))]
def F24r5:RL:=[oo 14 (ld 5),
 oo 15 (ld 1),
 oo 16 (.iad 1 (.s 15) (ci 0)),
 oo 17 (ld 16),
 oo 18 (.len false (.s 17)),
 oo 19 (bi .neq (.s 14) (.s 18))]
def F24r6:RL:=[oo 2 (.mov (.c .emp)),
 oo 3 (.mov (ci 1))]
def F24r7:RL:=[oo 20 (ld 5),
 oo 21 (ld 5),
 oo 22 (bi .mul (ci 2) (.s 21)),
 oo 23 (.mkf 48 [.s 5, .s 1]),
 oo 24 (cl 47 [.s 20, .s 22, .s 23]),
 oo 6 (.new [.emp]),
 ow (.store 1 (.s 6) (.s 24))]
def F24r8:RL:=[oo 25 (ld 6),
 oo 26 (ld 5),
 oo 27 (cl 49 [.s 25, .s 26]),
 oo 28 (ld 5),
 oo 29 (bi .lss (.s 27) (.s 28))]
def F24r9:RL:=[oo 2 (.mov (.c .emp)),
 oo 3 (.mov (ci 5))]
def F24r10:RL:=[oo 30 (ld 5),
 oo 31 (ld 5),
 oo 32 (.mkf 50 [.s 6, .s 5]),
 oo 33 (cl 47 [.s 30, .s 31, .s 32]),
 oo 2 (ms 33),
 oo 3 (.mov (ci 0))]
def F24:AFn:=⟨34,[.tmp 2, .tmp 3],
 sr F24r0
 (.seq (sr F24r1
 (sr F24r2
 (cd 10
  (sr F24r3
  (.ret))
  (.skip))))
 (sr F24r4
 (.seq (.seq (.reg F24r5 (some [[],[],[1],[2,1],[3,2,1],[0,4,3,2,1]]))
 (cd 19
  (sr F24r6
  (.ret))
  (.skip)))
 (sr F24r7
 (.seq (.seq (.reg F24r8 (some [[],[],[0,1],[],[2,3,0,1]]))
 (cd 29
  (sr F24r9
  (.ret))
  (.skip)))
 (sr F24r10
 (.ret)))))))⟩
theorem F24_ok:cFunc Try.prog 24=some F24:=by kernel_rfl
theorem F24_call:callable Try.prog 24=true:=by kernel_rfl
def F30r0:RL:=[oo 4 (.mov cF)]
def F30r1:RL:=[oo 5 (ms 0),
 oo 6 (bi .geq (.s 5) (ci 1)),
 oo 7 (ms 6),
 ot 8 (ms 0) 7,
 ot 9 (ms 1) 7,
 ot 10 (bi .leq (.s 8) (.s 9)) 7,
 oo 11 (.pick (.s 7) (.s 10) cF),
 oo 4 (ms 11)]
def F30:AFn:=⟨12,[.tmp 4],
 sr F30r0
 (sr F30r1
 (.ret))⟩
theorem F30_ok:cFunc Try.prog 30=some F30:=by kernel_rfl
theorem F30_call:callable Try.prog 30=true:=by kernel_rfl
def F31r0:RL:=[oo 2 (.mov (ci 0))]
def F31r1:RL:=[oo 5 (ms 0),
 oo 6 (cl 41 [.s 5, .c (.fn 55 [])])]
def F31r2:RL:=[oo 2 (.mov (ci 2))]
def F31r3:RL:=[oo 7 (ms 0),
 oo 8 (.len false (.s 7)),
 oo 9 (.mov (ci 0))]
def F31r4:RL:=[oo 10 (bi .lss (.s 9) (.s 8))]
def F31r5:RL:=[oo 11 (.iad 1 (.s 7) (.s 9)),
 oo 12 (ld 11),
 oo 4 (ms 12)]
def F31r6:RL:=[oo 13 (ms 4),
 oo 14 (.len true (.s 13)),
 oo 15 (ms 0),
 oo 16 (.iad 1 (.s 15) (ci 0)),
 oo 17 (ld 16),
 oo 18 (.len true (.s 17)),
 oo 19 (bi .neq (.s 14) (.s 18))]
def F31r7:RL:=[oo 2 (.mov (ci 1))]
def F31r8:RL:=[oo 20 (bi .add (.s 9) (ci 1)),
 oo 9 (ms 20)]
def F31r9:RL:=[oo 2 (.mov (ci 0))]
def F31:AFn:=⟨21,[.tmp 2],
 sr F31r0
 (.seq (sr F31r1
 (cd 6
  (sr F31r2
  (.ret))
  (.skip)))
 (.seq (sr F31r3
 (.block 0 (
  .loop (
   sr F31r4
   (.seq (cd 10
    (.skip)
    (.exit 0))
   (.seq (.block 1 (
    sr F31r5
    (sr F31r6
    (cd 19
     (sr F31r7
     (.ret))
     (.skip)))))
   (rg F31r8)))))))
 (sr F31r9
 (.ret))))⟩
theorem F31_ok:cFunc Try.prog 31=some F31:=by kernel_rfl
theorem F31_call:callable Try.prog 31=true:=by kernel_rfl
def F32r0:RL:=[oo 2 (.box 1 (.s 0)),
 oo 4 (.mov (.c .emp)),
 oo 5 (.mov (ci 0))]
def F32r1:RL:=[oo 6 (ld 2),
 oo 7 (cl 56 [.s 6]),
 oo 8 (.un .not (.s 7)),
 oo 9 (ms 8),
 on 10 (ms 1) 9,
 on 11 (cl 56 [.s 10]) 9,
 on 12 (.un .not (.s 11)) 9,
 oo 13 (.pick (.s 9) cT (.s 12))]
def F32r2:RL:=[oo 4 (.mov (.c .emp)),
 oo 5 (.mov (ci 3))]
def F32r3:RL:=[oo 14 (ld 2),
 oo 15 (ms 1),
 oo 16 (.mkf 57 [.s 2]),
 oo 17 (cl 47 [.s 14, .s 15, .s 16]),
 oo 4 (ms 17),
 oo 5 (.mov (ci 0))]
def F32:AFn:=⟨18,[.tmp 4, .tmp 5],
 sr F32r0
 (.seq (sr F32r1
 (cd 13
  (sr F32r2
  (.ret))
  (.skip)))
 (sr F32r3
 (.ret)))⟩
theorem F32_ok:cFunc Try.prog 32=some F32:=by kernel_rfl
theorem F32_call:callable Try.prog 32=true:=by kernel_rfl
def F33r0:RL:=[oo 4 (.mov (.c .emp))]
def F33r1:RL:=[oo 12 (ms 0),
 oo 13 (.len false (.s 12)),
 oo 14 (.msl 1 16 [zs] (.s 13) (.s 13)),
 oo 5 (ms 14)]
def F33r2:RL:=[oo 15 (ms 0),
 oo 16 (.len false (.s 15)),
 oo 17 (.mov (ci 0))]
def F33r3:RL:=[oo 18 (bi .lss (.s 17) (.s 16))]
def F33r4:RL:=[oo 19 (ms 17),
 oo 20 (.iad 1 (.s 15) (.s 17)),
 oo 21 (ld 20),
 oo 6 (ms 19),
 oo 7 (ms 21)]
def F33r5:RL:=[oo 22 (ms 1),
 oo 23 (.iad 1 (.s 22) (ci 0)),
 oo 24 (ld 23),
 oo 25 (.len true (.s 24)),
 oo 26 (.msl 1 1 [.v (.int .u8 0)] (.s 25) (.s 25)),
 oo 8 (ms 26)]
def F33r6:RL:=[oo 27 (ms 1),
 oo 28 (.len false (.s 27)),
 oo 29 (.mov (ci 0))]
def F33r7:RL:=[oo 30 (bi .lss (.s 29) (.s 28))]
def F33r8:RL:=[oo 31 (ms 29),
 oo 32 (.iad 1 (.s 27) (.s 29)),
 oo 33 (ld 32),
 oo 9 (ms 31),
 oo 10 (ms 33)]
def F33r9:RL:=[oo 34 (ms 8),
 oo 35 (.len false (.s 34)),
 oo 36 (.mov (ci 0))]
def F33r10:RL:=[oo 37 (bi .lss (.s 36) (.s 35))]
def F33r11:RL:=[oo 38 (ms 36),
 oo 11 (ms 38)]
def F33r12:RL:=[oo 39 (ms 8),
 oo 40 (ms 11),
 oo 41 (.iad 1 (.s 39) (.s 40)),
 oo 42 (ld 41),
 oo 43 (ms 7),
 oo 44 (ms 9),
 oo 45 (.iad 1 (.s 43) (.s 44)),
 oo 46 (ld 45),
 oo 47 (ms 10),
 oo 48 (ms 11),
 oo 49 (.six (.s 47) (.s 48)),
 oo 50 (cl 44 [.s 46, .s 49]),
 oo 51 (bi .xor (.s 42) (.s 50)),
 oo 52 (.iad 1 (.s 39) (.s 40)),
 ow (.store 1 (.s 52) (.s 51))]
def F33r13:RL:=[oo 53 (bi .add (.s 36) (ci 1)),
 oo 36 (ms 53)]
def F33r14:RL:=[oo 54 (bi .add (.s 29) (ci 1)),
 oo 29 (ms 54)]
def F33r15:RL:=[oo 55 (ms 5),
 oo 56 (ms 6),
 oo 57 (ms 8),
 oo 58 (.b2s (.s 57)),
 oo 59 (.iad 1 (.s 55) (.s 56)),
 ow (.store 1 (.s 59) (.s 58))]
def F33r16:RL:=[oo 60 (bi .add (.s 17) (ci 1)),
 oo 17 (ms 60)]
def F33r17:RL:=[oo 61 (ms 5),
 oo 4 (ms 61)]
def F33:AFn:=⟨62,[.tmp 4],
 sr F33r0
 (sr F33r1
 (.seq (sr F33r2
 (.block 0 (
  .loop (
   sr F33r3
   (.seq (cd 18
    (.skip)
    (.exit 0))
   (.seq (.block 1 (
    sr F33r4
    (sr F33r5
    (.seq (sr F33r6
    (.block 2 (
     .loop (
      sr F33r7
      (.seq (cd 30
       (.skip)
       (.exit 2))
      (.seq (.block 3 (
       sr F33r8
       (sr F33r9
       (.block 4 (
        .loop (
         sr F33r10
         (.seq (cd 37
          (.skip)
          (.exit 4))
         (.seq (.block 5 (
          sr F33r11
          (.reg F33r12 (some [[],[],[0,1],[2,0,1],[],[],[4,5],[6,4,5],[],[],[8,9],[7,10,6,4,5,8,9],[3,11,2,0,1,7,10,6,4,5,8,9],[0,1,2,3,4,5,6,7,8,9,10,11,12],[13,12,11,0,1,2,3,4,5,6,7,8,9,10]]))))
         (rg F33r13)))))))))
      (rg F33r14)))))))
    (rg F33r15)))))
   (rg F33r16)))))))
 (sr F33r17
 (.ret))))⟩
theorem F33_ok:cFunc Try.prog 33=some F33:=by kernel_rfl
theorem F33_call:callable Try.prog 33=true:=by kernel_rfl
def F34r0:RL:=[oo 4 (.mov cF)]
def F34r1:RL:=[oo 5 (ms 0),
 oo 6 (ms 1),
 oo 7 (cl 59 [.s 5, .s 6]),
 oo 8 (bi .geq (.s 7) (ci 0)),
 oo 4 (ms 8)]
def F34:AFn:=⟨9,[.tmp 4],
 sr F34r0
 (sr F34r1
 (.ret))⟩
theorem F34_ok:cFunc Try.prog 34=some F34:=by kernel_rfl
theorem F34_call:callable Try.prog 34=true:=by kernel_rfl
def F35r0:RL:=[oo 6 (.mov (.c .emp))]
def F35r1:RL:=[oo 16 (ms 0),
 oo 17 (cl 53 [.s 16]),
 oo 15 (ms 17),
 oo 18 (.ext 0 (.s 15)),
 oo 19 (.ext 1 (.s 15)),
 oo 7 (ms 18),
 oo 8 (ms 19)]
def F35r2:RL:=[oo 21 (ms 1),
 oo 22 (ms 0),
 oo 23 (cl 32 [.s 21, .s 22]),
 oo 20 (ms 23),
 oo 24 (.ext 0 (.s 20)),
 oo 25 (.ext 1 (.s 20)),
 oo 9 (ms 24),
 oo 10 (ms 25)]
def F35r3:RL:=[oo 26 (ms 7),
 oo 27 (ms 9),
 oo 28 (.app 1 24 (.s 26) (.s 27)),
 oo 11 (ms 28)]
def F35r4:RL:=[oo 12 (.mov (.c .emp))]
def F35r5:RL:=[oo 29 (ms 2),
 oo 30 (.len false (.s 29)),
 oo 31 (.mov (ci 0))]
def F35r6:RL:=[oo 32 (bi .lss (.s 31) (.s 30))]
def F35r7:RL:=[oo 33 (.iad 1 (.s 29) (.s 31)),
 oo 34 (ld 33),
 oo 14 (ms 34)]
def F35r8:RL:=[oo 35 (ms 12),
 oo 36 (ms 11),
 oo 37 (ms 14),
 oo 38 (.iad 1 (.s 36) (.s 37)),
 oo 39 (ld 38),
 oo 40 (.bsl 1 1 [.emp] [(0, .s 39)]),
 oo 41 (.app 1 24 (.s 35) (.s 40)),
 oo 12 (ms 41)]
def F35r9:RL:=[oo 42 (bi .add (.s 31) (ci 1)),
 oo 31 (ms 42)]
def F35r10:RL:=[oo 43 (ms 12),
 oo 6 (ms 43)]
def F35:AFn:=⟨44,[.tmp 6],
 sr F35r0
 (sr F35r1
 (sr F35r2
 (sr F35r3
 (sr F35r4
 (.seq (sr F35r5
 (.block 0 (
  .loop (
   sr F35r6
   (.seq (cd 32
    (.skip)
    (.exit 0))
   (.seq (.block 1 (
    sr F35r7
    (rg F35r8)))
   (rg F35r9)))))))
 (sr F35r10
 (.ret)))))))⟩
theorem F35_ok:cFunc Try.prog 35=some F35:=by kernel_rfl
theorem F35_call:callable Try.prog 35=true:=by kernel_rfl
def F41r0:RL:=[oo 4 (.mov cF)]
def F41r1:RL:=[oo 5 (ms 0),
 oo 6 (ms 1),
 oo 7 (cl 66 [.s 5, .s 6]),
 oo 8 (bi .geq (.s 7) (ci 0)),
 oo 4 (ms 8)]
def F41:AFn:=⟨9,[.tmp 4],
 sr F41r0
 (sr F41r1
 (.ret))⟩
theorem F41_ok:cFunc Try.prog 41=some F41:=by kernel_rfl
theorem F41_call:callable Try.prog 41=true:=by kernel_rfl
def F42r0:RL:=[oo 3 (.mov cF)]
def F42r1:RL:=[oo 4 (ms 0),
 oo 5 (.len true (.s 4)),
 oo 6 (ld 1),
 oo 7 (.iad 1 (.s 6) (ci 0)),
 oo 8 (ld 7),
 oo 9 (.len true (.s 8)),
 oo 10 (bi .neq (.s 5) (.s 9)),
 oo 3 (ms 10)]
def F42:AFn:=⟨11,[.tmp 3],
 sr F42r0
 (sr F42r1
 (.ret))⟩
theorem F42_ok:cFunc Try.prog 42=some F42:=by kernel_rfl
theorem F42_call:callable Try.prog 42=true:=by kernel_rfl
def F43r0:RL:=[oo 4 (.mov cF)]
def F43r1:RL:=[oo 6 (ms 0),
 oo 7 (.len false (.s 6)),
 oo 8 (ms 1),
 oo 9 (.len false (.s 8)),
 oo 10 (bi .neq (.s 7) (.s 9))]
def F43r2:RL:=[oo 4 (.mov cF)]
def F43r3:RL:=[oo 11 (ms 0),
 oo 12 (.len false (.s 11)),
 oo 13 (.mov (ci 0))]
def F43r4:RL:=[oo 14 (bi .lss (.s 13) (.s 12))]
def F43r5:RL:=[oo 15 (ms 13),
 oo 5 (ms 15)]
def F43r6:RL:=[oo 16 (ms 0),
 oo 17 (ms 5),
 oo 18 (.iad 1 (.s 16) (.s 17)),
 oo 19 (ld 18),
 oo 20 (ms 1),
 oo 21 (ms 5),
 oo 22 (.iad 1 (.s 20) (.s 21)),
 oo 23 (ld 22),
 oo 24 (bi .neq (.s 19) (.s 23))]
def F43r7:RL:=[oo 4 (.mov cF)]
def F43r8:RL:=[oo 25 (bi .add (.s 13) (ci 1)),
 oo 13 (ms 25)]
def F43r9:RL:=[oo 4 (.mov cT)]
def F43:AFn:=⟨26,[.tmp 4],
 sr F43r0
 (.seq (sr F43r1
 (cd 10
  (sr F43r2
  (.ret))
  (.skip)))
 (.seq (sr F43r3
 (.block 0 (
  .loop (
   sr F43r4
   (.seq (cd 14
    (.skip)
    (.exit 0))
   (.seq (.block 1 (
    sr F43r5
    (.seq (.reg F43r6 (some [[],[],[0,1],[2,0,1],[],[],[4,5],[6,4,5],[3,7,2,0,1,6,4,5]]))
    (cd 24
     (sr F43r7
     (.ret))
     (.skip)))))
   (rg F43r8)))))))
 (sr F43r9
 (.ret))))⟩
theorem F43_ok:cFunc Try.prog 43=some F43:=by kernel_rfl
theorem F43_call:callable Try.prog 43=true:=by kernel_rfl
theorem F44_call:callable Try.prog 44=true:=by kernel_rfl
def F45r0:RL:=[oo 2 (.mov (ci 0))]
def F45r1:RL:=[oo 6 (ms 0),
 oo 7 (.len false (.s 6)),
 oo 8 (bi .gtr (.s 7) (ci 16)),
 oo 5 (ms 8)]
def F45r2:RL:=[oo 2 (.mov (ci 2))]
def F45r3:RL:=[oo 10 (ms 0),
 oo 11 (.len false (.s 10)),
 oo 12 (bi .eql (.s 11) (ci 0)),
 oo 9 (ms 12)]
def F45r4:RL:=[oo 2 (.mov (ci 1))]
def F45r5:RL:=[oo 13 (ms 0),
 oo 14 (.len false (.s 13)),
 oo 15 (.mov (ci 0))]
def F45r6:RL:=[oo 16 (bi .lss (.s 15) (.s 14))]
def F45r7:RL:=[oo 17 (.iad 1 (.s 13) (.s 15)),
 oo 18 (ld 17),
 oo 4 (ms 18)]
def F45r8:RL:=[oo 20 (ms 4),
 oo 21 (.len false (.s 20)),
 oo 22 (bi .gtr (.s 21) (ci 16)),
 oo 19 (ms 22)]
def F45r9:RL:=[oo 2 (.mov (ci 2))]
def F45r10:RL:=[oo 24 (ms 4),
 oo 25 (.len false (.s 24)),
 oo 26 (bi .eql (.s 25) (ci 0)),
 oo 23 (ms 26)]
def F45r11:RL:=[oo 27 (ms 4),
 oo 28 (.len false (.s 27)),
 oo 29 (ms 0),
 oo 30 (.iad 1 (.s 29) (ci 0)),
 oo 31 (ld 30),
 oo 32 (.len false (.s 31)),
 oo 33 (bi .neq (.s 28) (.s 32)),
 oo 23 (ms 33)]
def F45r12:RL:=[oo 2 (.mov (ci 1))]
def F45r13:RL:=[oo 34 (bi .add (.s 15) (ci 1)),
 oo 15 (ms 34)]
def F45r14:RL:=[oo 2 (.mov (ci 0))]
def F45:AFn:=⟨35,[.tmp 2],
 sr F45r0
 (.seq (.block 0 (
  sr F45r1
  (cd 5
   (sr F45r2
   (.ret))
   (sr F45r3
   (cd 9
    (sr F45r4
    (.ret))
    (.skip))))))
 (.seq (sr F45r5
 (.block 1 (
  .loop (
   sr F45r6
   (.seq (cd 16
    (.skip)
    (.exit 1))
   (.seq (.block 2 (
    sr F45r7
    (.block 3 (
     sr F45r8
     (cd 19
      (sr F45r9
      (.ret))
      (.seq (sr F45r10
      (cd 23
       (.skip)
       (rg F45r11)))
      (cd 23
       (sr F45r12
       (.ret))
       (.skip))))))))
   (rg F45r13)))))))
 (sr F45r14
 (.ret))))⟩
theorem F45_ok:cFunc Try.prog 45=some F45:=by kernel_rfl
theorem F45_call:callable Try.prog 45=true:=by kernel_rfl
def F47r0:RL:=[oo 6 (.mov (.c .emp))]
def F47r1:RL:=[oo 10 (ms 0),
 oo 11 (.msl 1 24 [.emp] (.s 10) (.s 10)),
 oo 7 (ms 11)]
def F47r2:RL:=[oo 12 (ms 7),
 oo 13 (.len false (.s 12)),
 oo 14 (.mov (ci 0))]
def F47r3:RL:=[oo 15 (bi .lss (.s 14) (.s 13))]
def F47r4:RL:=[oo 16 (ms 14),
 oo 8 (ms 16)]
def F47r5:RL:=[oo 17 (ms 7),
 oo 18 (ms 8),
 oo 19 (ms 1),
 oo 20 (.msl 1 1 [.v (.int .u8 0)] (.s 19) (.s 19)),
 oo 21 (.iad 1 (.s 17) (.s 18)),
 ow (.store 1 (.s 21) (.s 20))]
def F47r6:RL:=[oo 22 (ms 7),
 oo 23 (ms 8),
 oo 24 (.iad 1 (.s 22) (.s 23)),
 oo 25 (ld 24),
 oo 26 (.len false (.s 25)),
 oo 27 (.mov (ci 0))]
def F47r7:RL:=[oo 28 (bi .lss (.s 27) (.s 26))]
def F47r8:RL:=[oo 29 (ms 27),
 oo 9 (ms 29)]
def F47r9:RL:=[oo 30 (ms 7),
 oo 31 (ms 8),
 oo 32 (.iad 1 (.s 30) (.s 31)),
 oo 33 (ld 32),
 oo 34 (ms 9),
 oo 35 (ms 2),
 oo 36 (ms 8),
 oo 37 (ms 9),
 oo 38 (.call (.s 35) [.s 36, .s 37]),
 oo 39 (.iad 1 (.s 33) (.s 34)),
 ow (.store 1 (.s 39) (.s 38))]
def F47r10:RL:=[oo 40 (bi .add (.s 27) (ci 1)),
 oo 27 (ms 40)]
def F47r11:RL:=[oo 41 (bi .add (.s 14) (ci 1)),
 oo 14 (ms 41)]
def F47r12:RL:=[oo 42 (ms 7),
 oo 6 (ms 42)]
def F47:AFn:=⟨43,[.tmp 6],
 sr F47r0
 (sr F47r1
 (.seq (sr F47r2
 (.block 0 (
  .loop (
   sr F47r3
   (.seq (cd 15
    (.skip)
    (.exit 0))
   (.seq (.block 1 (
    sr F47r4
    (sr F47r5
    (sr F47r6
    (.block 2 (
     .loop (
      sr F47r7
      (.seq (cd 28
       (.skip)
       (.exit 2))
      (.seq (.block 3 (
       sr F47r8
       (.reg F47r9 (some [[],[],[0,1],[2,0,1],[],[],[],[],[5,6,7],[3,4,0,1,2,5,6,7,8],[9,8,0,1,2,3,4,5,6,7]]))))
      (rg F47r10))))))))))
   (rg F47r11)))))))
 (sr F47r12
 (.ret))))⟩
theorem F47_ok:cFunc Try.prog 47=some F47:=by kernel_rfl
theorem F47_call:callable Try.prog 47=true:=by kernel_rfl
def F48r0:RL:=[oo 6 (.mov (.c (.v (.int .u8 0))))]
def F48r1:RL:=[oo 8 (ms 1),
 oo 9 (ld 2),
 oo 10 (bi .lss (.s 8) (.s 9)),
 oo 7 (ms 10)]
def F48r2:RL:=[oo 11 (ld 3),
 oo 12 (ms 0),
 oo 13 (.iad 1 (.s 11) (.s 12)),
 oo 14 (ld 13),
 oo 15 (ms 1),
 oo 16 (.iad 1 (.s 14) (.s 15)),
 oo 17 (ld 16),
 oo 6 (ms 17)]
def F48r3:RL:=[oo 19 (ms 1),
 oo 20 (ld 2),
 oo 21 (bi .sub (.s 19) (.s 20)),
 oo 22 (ms 0),
 oo 23 (bi .eql (.s 21) (.s 22)),
 oo 18 (ms 23)]
def F48r4:RL:=[oo 6 (.mov (.c (.v (.int .u8 1))))]
def F48r5:RL:=[oo 6 (.mov (.c (.v (.int .u8 0))))]
def F48:AFn:=⟨24,[.tmp 6],
 sr F48r0
 (.seq (.block 0 (
  sr F48r1
  (cd 7
   (sr F48r2
   (.ret))
   (sr F48r3
   (cd 18
    (sr F48r4
    (.ret))
    (.skip))))))
 (sr F48r5
 (.ret)))⟩
theorem F48_ok:cFunc Try.prog 48=some F48:=by kernel_rfl
theorem F48_call:callable Try.prog 48=true:=by kernel_rfl
def F49r0:RL:=[oo 4 (.mov (ci 0))]
def F49r1:RL:=[oo 5 (.mov (ci 0))]
def F49r2:RL:=[oo 11 (ms 1),
 oo 12 (.mov (ci 0))]
def F49r3:RL:=[oo 13 (bi .lss (.s 12) (.s 11))]
def F49r4:RL:=[oo 14 (ms 12),
 oo 6 (.new [zi 0]),
 ow (.store 1 (.s 6) (.s 14))]
def F49r5:RL:=[oo 15 (ms 0),
 oo 16 (ms 5),
 oo 17 (.slc 1 (.s 15) (some (.s 16)) none none),
 oo 18 (.mkf 71 [.s 6]),
 oo 19 (cl 70 [.s 17, .s 18]),
 oo 7 (ms 19)]
def F49r6:RL:=[oo 20 (ms 7),
 oo 21 (bi .lss (.s 20) (ci 0))]
def F49r7:RL:=[oo 22 (ms 0),
 oo 23 (ms 5),
 oo 24 (ms 0),
 oo 25 (ms 5),
 oo 26 (ms 7),
 oo 27 (bi .add (.s 25) (.s 26)),
 oo 28 (ms 0),
 oo 29 (ms 5),
 oo 30 (ms 7),
 oo 31 (bi .add (.s 29) (.s 30)),
 oo 32 (.iad 1 (.s 28) (.s 31)),
 oo 33 (ld 32),
 oo 34 (ms 0),
 oo 35 (ms 5),
 oo 36 (.iad 1 (.s 34) (.s 35)),
 oo 37 (ld 36),
 oo 38 (.iad 1 (.s 22) (.s 23)),
 ow (.store 1 (.s 38) (.s 33)),
 oo 39 (.iad 1 (.s 24) (.s 27)),
 ow (.store 1 (.s 39) (.s 37))]
def F49r8:RL:=[oo 41 (ms 0),
 oo 42 (ms 5),
 oo 43 (.iad 1 (.s 41) (.s 42)),
 oo 44 (ld 43),
 oo 45 (ld 6),
 oo 46 (.iad 1 (.s 44) (.s 45)),
 oo 47 (ld 46),
 oo 48 (cl 58 [.s 47]),
 oo 40 (ms 48),
 oo 49 (.ext 0 (.s 40)),
 oo 50 (.ext 1 (.s 40)),
 oo 8 (ms 49),
 oo 9 (ms 50)]
def F49r9:RL:=[oo 51 (ms 0),
 oo 52 (ms 5),
 oo 53 (ms 8),
 oo 54 (cl 72 [.s 51, .s 52, .s 53])]
def F49r10:RL:=[oo 55 (ms 0),
 oo 56 (.len false (.s 55)),
 oo 57 (.mov (ci 0))]
def F49r11:RL:=[oo 58 (bi .lss (.s 57) (.s 56))]
def F49r12:RL:=[oo 59 (ms 57),
 oo 10 (ms 59)]
def F49r13:RL:=[oo 60 (ms 10),
 oo 61 (ms 5),
 oo 62 (bi .neq (.s 60) (.s 61))]
def F49r14:RL:=[oo 63 (ms 0),
 oo 64 (ms 10),
 oo 65 (ms 5),
 oo 66 (ms 0),
 oo 67 (ms 10),
 oo 68 (.iad 1 (.s 66) (.s 67)),
 oo 69 (ld 68),
 oo 70 (ld 6),
 oo 71 (.iad 1 (.s 69) (.s 70)),
 oo 72 (ld 71),
 oo 73 (cl 73 [.s 63, .s 64, .s 65, .s 72])]
def F49r15:RL:=[oo 74 (bi .add (.s 57) (ci 1)),
 oo 57 (ms 74)]
def F49r16:RL:=[oo 75 (ms 5),
 oo 76 (bi .add (.s 75) (ci 1)),
 oo 5 (ms 76)]
def F49r17:RL:=[oo 77 (ms 5),
 oo 78 (ms 0),
 oo 79 (.len false (.s 78)),
 oo 80 (bi .eql (.s 77) (.s 79))]
def F49r18:RL:=[oo 81 (bi .add (.s 12) (ci 1)),
 oo 12 (ms 81)]
def F49r19:RL:=[oo 82 (ms 5),
 oo 4 (ms 82)]
def F49:AFn:=⟨83,[.tmp 4],
 sr F49r0
 (sr F49r1
 (.seq (sr F49r2
 (.block 0 (
  .loop (
   sr F49r3
   (.seq (cd 13
    (.skip)
    (.exit 0))
   (.seq (.block 1 (
    sr F49r4
    (sr F49r5
    (.seq (sr F49r6
    (cd 21
     (.exit 1)
     (.skip)))
    (.seq (.reg F49r7 (some [[],[],[],[],[],[3,4],[],[],[],[7,8],[6,9,7,8],[10,6,9,7,8],[],[],[12,13],[14,12,13],[0,1,6,7,8,9,10,11,15,14,12,13],[16,11,0,1,6,7,8,9,10,15,14,12,13],[2,5,0,1,3,4,6,7,8,9,10,11,12,13,14,15,16,17],[18,15,17,0,1,2,3,4,5,6,7,8,9,10,11,12,13,14,16]]))
    (.seq (.reg F49r8 (some [[],[],[0,1],[2,0,1],[],[3,4,2,0,1],[5,3,4,2,0,1],[6,5,3,4,2,0,1],[7,6,5,3,4,2,0,1],[8,7,6,5,3,4,2,0,1],[8,7,6,5,3,4,2,0,1],[9,7,0,1,2,3,4,5,6,8],[10,11,0,1,2,3,4,5,6,7,8,9]]))
    (sr F49r9
    (.seq (sr F49r10
    (.block 2 (
     .loop (
      sr F49r11
      (.seq (cd 58
       (.skip)
       (.exit 2))
      (.seq (.block 3 (
       sr F49r12
       (sr F49r13
       (cd 62
        (.reg F49r14 (some [[],[],[],[],[],[3,4],[5,3,4],[],[6,7,5,3,4],[8,6,7,5,3,4],[0,1,2,9,8,6,7,5,3,4]]))
        (.skip)))))
      (rg F49r15)))))))
    (sr F49r16
    (sr F49r17
    (cd 80
     (.exit 0)
     (.skip))))))))))))
   (rg F49r18)))))))
 (sr F49r19
 (.ret))))⟩
theorem F49_ok:cFunc Try.prog 49=some F49:=by kernel_rfl
theorem F49_call:callable Try.prog 49=true:=by kernel_rfl
def F50r0:RL:=[oo 6 (.mov (.c (.v (.int .u8 0))))]
def F50r1:RL:=[oo 7 (ld 2),
 oo 8 (ms 0),
 oo 9 (.iad 1 (.s 7) (.s 8)),
 oo 10 (ld 9),
 oo 11 (ld 3),
 oo 12 (ms 1),
 oo 13 (bi .add (.s 11) (.s 12)),
 oo 14 (.iad 1 (.s 10) (.s 13)),
 oo 15 (ld 14),
 oo 6 (ms 15)]
def F50:AFn:=⟨16,[.tmp 6],
 sr F50r0
 (.seq (.reg F50r1 (some [[],[],[0,1],[2,0,1],[],[],[4,5],[3,6,2,0,1,4,5],[7,3,6,2,0,1,4,5],[8,0,1,2,3,4,5,6,7]]))
 (.ret))⟩
theorem F50_ok:cFunc Try.prog 50=some F50:=by kernel_rfl
theorem F50_call:callable Try.prog 50=true:=by kernel_rfl
def F53r0:RL:=[oo 2 (.mov (.c .emp)),
 oo 3 (.mov (ci 0))]
def F53r1:RL:=[oo 4 (ms 0),
 oo 5 (cl 56 [.s 4]),
 oo 6 (.un .not (.s 5))]
def F53r2:RL:=[oo 2 (.mov (.c .emp)),
 oo 3 (.mov (ci 3))]
def F53r3:RL:=[oo 7 (ms 0),
 oo 8 (cl 74 [.s 7]),
 oo 2 (ms 8),
 oo 3 (.mov (ci 0))]
def F53:AFn:=⟨9,[.tmp 2, .tmp 3],
 sr F53r0
 (.seq (sr F53r1
 (cd 6
  (sr F53r2
  (.ret))
  (.skip)))
 (sr F53r3
 (.ret)))⟩
theorem F53_ok:cFunc Try.prog 53=some F53:=by kernel_rfl
theorem F53_call:callable Try.prog 53=true:=by kernel_rfl
def F55r0:RL:=[oo 2 (.mov cF)]
def F55r1:RL:=[oo 3 (ms 0),
 oo 4 (.len true (.s 3)),
 oo 5 (bi .gtr (.s 4) (ci 64)),
 oo 2 (ms 5)]
def F55:AFn:=⟨6,[.tmp 2],
 sr F55r0
 (sr F55r1
 (.ret))⟩
theorem F55_ok:cFunc Try.prog 55=some F55:=by kernel_rfl
theorem F55_call:callable Try.prog 55=true:=by kernel_rfl
def F56r0:RL:=[oo 2 (.mov cF)]
def F56r1:RL:=[oo 3 (ms 0),
 oo 4 (bi .geq (.s 3) (ci 1)),
 oo 5 (ms 4),
 ot 6 (ms 0) 5,
 ot 7 (bi .leq (.s 6) (ci 16)) 5,
 oo 8 (.pick (.s 5) (.s 7) cF),
 oo 2 (ms 8)]
def F56:AFn:=⟨9,[.tmp 2],
 sr F56r0
 (sr F56r1
 (.ret))⟩
theorem F56_ok:cFunc Try.prog 56=some F56:=by kernel_rfl
theorem F56_call:callable Try.prog 56=true:=by kernel_rfl
def F57r0:RL:=[oo 5 (.mov (.c (.v (.int .u8 0))))]
def F57r1:RL:=[oo 9 (ms 0),
 oo 10 (ld 2),
 oo 11 (ms 1),
 oo 12 (bi .add (.s 10) (.s 11)),
 oo 13 (bi .xor (.s 9) (.s 12)),
 oo 14 (.conv .u8 (.s 13)),
 oo 15 (cl 58 [.s 14]),
 oo 8 (ms 15),
 oo 16 (.ext 0 (.s 8)),
 oo 17 (.ext 1 (.s 8)),
 oo 6 (ms 16),
 oo 7 (ms 17)]
def F57r2:RL:=[oo 18 (ms 6),
 oo 5 (ms 18)]
def F57:AFn:=⟨19,[.tmp 5],
 sr F57r0
 (sr F57r1
 (sr F57r2
 (.ret)))⟩
theorem F57_ok:cFunc Try.prog 57=some F57:=by kernel_rfl
theorem F57_call:callable Try.prog 57=true:=by kernel_rfl
theorem F58_call:callable Try.prog 58=true:=by kernel_rfl
def F59r0:RL:=[oo 4 (.mov (ci 0))]
def F59r1:RL:=[oo 6 (ms 0),
 oo 7 (.len false (.s 6)),
 oo 8 (.mov (ci 0))]
def F59r2:RL:=[oo 9 (bi .lss (.s 8) (.s 7))]
def F59r3:RL:=[oo 10 (ms 8),
 oo 5 (ms 10)]
def F59r4:RL:=[oo 11 (ms 1),
 oo 12 (ms 0),
 oo 13 (ms 5),
 oo 14 (.iad 1 (.s 12) (.s 13)),
 oo 15 (ld 14),
 oo 16 (bi .eql (.s 11) (.s 15))]
def F59r5:RL:=[oo 17 (ms 5),
 oo 4 (ms 17)]
def F59r6:RL:=[oo 18 (bi .add (.s 8) (ci 1)),
 oo 8 (ms 18)]
def F59r7:RL:=[oo 4 (.mov (ci (-1)))]
def F59:AFn:=⟨19,[.tmp 4],
 sr F59r0
 (.seq (sr F59r1
 (.block 0 (
  .loop (
   sr F59r2
   (.seq (cd 9
    (.skip)
    (.exit 0))
   (.seq (.block 1 (
    sr F59r3
    (sr F59r4
    (cd 16
     (sr F59r5
     (.ret))
     (.skip)))))
   (rg F59r6)))))))
 (sr F59r7
 (.ret)))⟩
theorem F59_ok:cFunc Try.prog 59=some F59:=by kernel_rfl
theorem F59_call:callable Try.prog 59=true:=by kernel_rfl
def F66r0:RL:=[oo 4 (.mov (ci 0))]
def F66r1:RL:=[oo 6 (ms 0),
 oo 7 (.len false (.s 6)),
 oo 8 (.mov (ci 0))]
def F66r2:RL:=[oo 9 (bi .lss (.s 8) (.s 7))]
def F66r3:RL:=[oo 10 (ms 8),
 oo 5 (ms 10)]
def F66r4:RL:=[oo 11 (ms 1),
 oo 12 (ms 0),
 oo 13 (ms 5),
 oo 14 (.iad 1 (.s 12) (.s 13)),
 oo 15 (ld 14),
 oo 16 (.call (.s 11) [.s 15])]
def F66r5:RL:=[oo 17 (ms 5),
 oo 4 (ms 17)]
def F66r6:RL:=[oo 18 (bi .add (.s 8) (ci 1)),
 oo 8 (ms 18)]
def F66r7:RL:=[oo 4 (.mov (ci (-1)))]
def F66:AFn:=⟨19,[.tmp 4],
 sr F66r0
 (.seq (sr F66r1
 (.block 0 (
  .loop (
   sr F66r2
   (.seq (cd 9
    (.skip)
    (.exit 0))
   (.seq (.block 1 (
    sr F66r3
    (sr F66r4
    (cd 16
     (sr F66r5
     (.ret))
     (.skip)))))
   (rg F66r6)))))))
 (sr F66r7
 (.ret)))⟩
theorem F66_ok:cFunc Try.prog 66=some F66:=by kernel_rfl
theorem F66_call:callable Try.prog 66=true:=by kernel_rfl
def F70r0:RL:=[oo 4 (.mov (ci 0))]
def F70r1:RL:=[oo 6 (ms 0),
 oo 7 (.len false (.s 6)),
 oo 8 (.mov (ci 0))]
def F70r2:RL:=[oo 9 (bi .lss (.s 8) (.s 7))]
def F70r3:RL:=[oo 10 (ms 8),
 oo 5 (ms 10)]
def F70r4:RL:=[oo 11 (ms 1),
 oo 12 (ms 0),
 oo 13 (ms 5),
 oo 14 (.iad 1 (.s 12) (.s 13)),
 oo 15 (ld 14),
 oo 16 (.call (.s 11) [.s 15])]
def F70r5:RL:=[oo 17 (ms 5),
 oo 4 (ms 17)]
def F70r6:RL:=[oo 18 (bi .add (.s 8) (ci 1)),
 oo 8 (ms 18)]
def F70r7:RL:=[oo 4 (.mov (ci (-1)))]
def F70:AFn:=⟨19,[.tmp 4],
 sr F70r0
 (.seq (sr F70r1
 (.block 0 (
  .loop (
   sr F70r2
   (.seq (cd 9
    (.skip)
    (.exit 0))
   (.seq (.block 1 (
    sr F70r3
    (sr F70r4
    (cd 16
     (sr F70r5
     (.ret))
     (.skip)))))
   (rg F70r6)))))))
 (sr F70r7
 (.ret)))⟩
theorem F70_ok:cFunc Try.prog 70=some F70:=by kernel_rfl
theorem F70_call:callable Try.prog 70=true:=by kernel_rfl
def F71r0:RL:=[oo 3 (.mov cF)]
def F71r1:RL:=[oo 4 (ms 0),
 oo 5 (ld 1),
 oo 6 (.iad 1 (.s 4) (.s 5)),
 oo 7 (ld 6),
 oo 8 (bi .neq (.s 7) (.c (.v (.int .u8 0)))),
 oo 3 (ms 8)]
def F71:AFn:=⟨9,[.tmp 3],
 sr F71r0
 (sr F71r1
 (.ret))⟩
theorem F71_ok:cFunc Try.prog 71=some F71:=by kernel_rfl
theorem F71_call:callable Try.prog 71=true:=by kernel_rfl
def F72r0:RL:=[oo 7 (ms 0),
 oo 8 (ms 1),
 oo 9 (.iad 1 (.s 7) (.s 8)),
 oo 10 (ld 9),
 oo 11 (.len false (.s 10)),
 oo 12 (.mov (ci 0))]
def F72r1:RL:=[oo 13 (bi .lss (.s 12) (.s 11))]
def F72r2:RL:=[oo 14 (ms 12),
 oo 6 (ms 14)]
def F72r3:RL:=[oo 15 (ms 0),
 oo 16 (ms 1),
 oo 17 (.iad 1 (.s 15) (.s 16)),
 oo 18 (ld 17),
 oo 19 (ms 6),
 oo 20 (ms 0),
 oo 21 (ms 1),
 oo 22 (.iad 1 (.s 20) (.s 21)),
 oo 23 (ld 22),
 oo 24 (ms 6),
 oo 25 (.iad 1 (.s 23) (.s 24)),
 oo 26 (ld 25),
 oo 27 (ms 2),
 oo 28 (cl 44 [.s 26, .s 27]),
 oo 29 (.iad 1 (.s 18) (.s 19)),
 ow (.store 1 (.s 29) (.s 28))]
def F72r4:RL:=[oo 30 (bi .add (.s 12) (ci 1)),
 oo 12 (ms 30)]
def F72:AFn:=⟨31,[],
 sr F72r0
 (.block 0 (
  .loop (
   sr F72r1
   (.seq (cd 13
    (.skip)
    (.exit 0))
   (.seq (.block 1 (
    sr F72r2
    (.reg F72r3 (some [[],[],[0,1],[2,0,1],[],[],[],[5,6],[7,5,6],[],[8,9,7,5,6],[10,8,9,7,5,6],[],[11,12,10,8,9,7,5,6],[3,4,0,1,2,5,6,7,8,9,10,11,12,13],[14,13,0,1,2,3,4,5,6,7,8,9,10,11,12]]))))
   (rg F72r4))))))⟩
theorem F72_ok:cFunc Try.prog 72=some F72:=by kernel_rfl
theorem F72_call:callable Try.prog 72=true:=by kernel_rfl
def F73r0:RL:=[oo 10 (ms 0),
 oo 11 (ms 2),
 oo 12 (.iad 1 (.s 10) (.s 11)),
 oo 13 (ld 12),
 oo 14 (.len false (.s 13)),
 oo 15 (.mov (ci 0))]
def F73r1:RL:=[oo 16 (bi .lss (.s 15) (.s 14))]
def F73r2:RL:=[oo 17 (ms 15),
 oo 18 (.iad 1 (.s 13) (.s 15)),
 oo 19 (ld 18),
 oo 8 (ms 17),
 oo 9 (ms 19)]
def F73r3:RL:=[oo 20 (ms 0),
 oo 21 (ms 1),
 oo 22 (.iad 1 (.s 20) (.s 21)),
 oo 23 (ld 22),
 oo 24 (ms 8),
 oo 25 (.iad 1 (.s 23) (.s 24)),
 oo 26 (ld 25),
 oo 27 (ms 3),
 oo 28 (ms 9),
 oo 29 (cl 44 [.s 27, .s 28]),
 oo 30 (bi .xor (.s 26) (.s 29)),
 oo 31 (.iad 1 (.s 23) (.s 24)),
 ow (.store 1 (.s 31) (.s 30))]
def F73r4:RL:=[oo 32 (bi .add (.s 15) (ci 1)),
 oo 15 (ms 32)]
def F73:AFn:=⟨33,[],
 sr F73r0
 (.block 0 (
  .loop (
   sr F73r1
   (.seq (cd 16
    (.skip)
    (.exit 0))
   (.seq (.block 1 (
    sr F73r2
    (.reg F73r3 (some [[],[],[0,1],[2,0,1],[],[3,4,2,0,1],[5,3,4,2,0,1],[],[],[7,8],[6,9,5,3,4,2,0,1,7,8],[3,4,0,1,2,5,6,7,8,9,10],[11,10,9,0,1,2,3,4,5,6,7,8]]))))
   (rg F73r4))))))⟩
theorem F73_ok:cFunc Try.prog 73=some F73:=by kernel_rfl
theorem F73_call:callable Try.prog 73=true:=by kernel_rfl
def F74r0:RL:=[oo 2 (.mov (.c .emp))]
def F74r1:RL:=[oo 3 (ms 0),
 oo 4 (ms 0),
 oo 5 (cl 47 [.s 3, .s 4, .c (.fn 79 [])]),
 oo 2 (ms 5)]
def F74:AFn:=⟨6,[.tmp 2],
 sr F74r0
 (sr F74r1
 (.ret))⟩
theorem F74_ok:cFunc Try.prog 74=some F74:=by kernel_rfl
theorem F74_call:callable Try.prog 74=true:=by kernel_rfl
def F79r0:RL:=[oo 4 (.mov (.c (.v (.int .u8 0))))]
def F79r1:RL:=[oo 5 (ms 0),
 oo 6 (ms 1),
 oo 7 (bi .eql (.s 5) (.s 6))]
def F79r2:RL:=[oo 4 (.mov (.c (.v (.int .u8 1))))]
def F79r3:RL:=[oo 4 (.mov (.c (.v (.int .u8 0))))]
def F79:AFn:=⟨8,[.tmp 4],
 sr F79r0
 (.seq (sr F79r1
 (cd 7
  (sr F79r2
  (.ret))
  (.skip)))
 (sr F79r3
 (.ret)))⟩
theorem F79_ok:cFunc Try.prog 79=some F79:=by kernel_rfl
theorem F79_call:callable Try.prog 79=true:=by kernel_rfl
def xt (a:UInt8):UInt8:=if a>127 then (a<<<1)^^^29 else a<<<1
def gm:Nat→UInt8→UInt8→UInt8→UInt8
 |0,_,_,o=>o
 |n+1,a,b,o=>gm n (xt a) (b>>>1) (if b&&&1=0 then o else o^^^a)
def gmul (a b:UInt8):UInt8:=gm 8 a b 0
theorem u8_xor_left_comm (a b c:UInt8):a^^^(b^^^c)=b^^^(a^^^c):=by rw [←UInt8.xor_assoc,UInt8.xor_comm a b,UInt8.xor_assoc]
theorem u8_xor_cancel (a b:UInt8):a^^^(a^^^b)=b:=by rw [←UInt8.xor_assoc,UInt8.xor_self,UInt8.zero_xor]
theorem u8_xor_and (a b c:UInt8):(a^^^b)&&&c=(a&&&c)^^^(b&&&c):=by
 apply UInt8.eq_of_toBitVec_eq
 simp only [UInt8.toBitVec_and,UInt8.toBitVec_xor]
 ext i
 simp only [BitVec.getElem_and,BitVec.getElem_xor]
 cases a.toBitVec[i]<;>cases b.toBitVec[i]<;>cases c.toBitVec[i]<;>rfl
theorem u8_xor_shl (a b c:UInt8):(a^^^b)<<<c=(a<<<c)^^^(b<<<c):=by
 apply UInt8.eq_of_toBitVec_eq
 simp only [UInt8.toBitVec_shiftLeft,UInt8.toBitVec_xor]
 exact BitVec.shiftLeft_xor_distrib ..
theorem u8_xor_shr (a b c:UInt8):(a^^^b)>>>c=(a>>>c)^^^(b>>>c):=by
 apply UInt8.eq_of_toBitVec_eq
 simp only [UInt8.toBitVec_shiftRight,UInt8.toBitVec_xor]
 exact BitVec.ushiftRight_xor_distrib ..
theorem all8 (p:UInt8→Bool) (h:(List.range 256).all (fun n=>p (UInt8.ofNat n))=true) (a:UInt8):p a=true:=by
 rw [List.all_eq_true] at h
 have:=h a.toNat (List.mem_range.2 a.toNat_lt)
 simpa using this
theorem xt_xor (a b:UInt8):xt (a^^^b)=xt a^^^xt b:=by
 have h1:∀c:UInt8,xt c=(c<<<1)^^^(if c&&&128=0 then 0 else 29):=fun c=>by
  have:=all8 (fun c=>xt c==(c<<<1)^^^(if c&&&128=0 then 0 else 29)) (by decide+kernel) c
  simpa using this
 have h3:∀c:UInt8,c&&&128=0∨c&&&128=128:=fun c=>by
  have:=all8 (fun c=>c&&&128==0||c&&&128==128) (by decide+kernel) c
  simpa using this
 rw [h1,h1 a,h1 b]
 have h2:(a^^^b)&&&128=(a&&&128)^^^(b&&&128):=u8_xor_and ..
 have h4:(a^^^b)<<<1=(a<<<1)^^^(b<<<1):=u8_xor_shl ..
 rw [h2,h4]
 rcases h3 a with ha|ha<;>rcases h3 b with hb|hb<;>rw [ha,hb]<;>simp [UInt8.xor_assoc,UInt8.xor_comm,u8_xor_left_comm]
theorem gm_zero (n:Nat):∀a o,gm n a 0 o=o:=by
 induction n with
 |zero=>intros;rfl
 |succ n ih=>intro a o;simp only [gm];simpa using ih _ _
theorem xor4 (a b c d:UInt8):(a^^^b)^^^(c^^^d)=(a^^^c)^^^(b^^^d):=by
 simp [UInt8.xor_assoc,u8_xor_left_comm]
theorem gm_add_left (n:Nat):∀a a' b o o',gm n (a^^^a') b (o^^^o')=gm n a b o^^^gm n a' b o':=by
 induction n with
 |zero=>intros;rfl
 |succ n ih=>
  intro a a' b o o'
  simp only [gm,xt_xor]
  by_cases h:b&&&1=0
  ·simp only [h,if_true];exact ih ..
  ·simp only [h,if_false];rw [xor4];exact ih ..
theorem gm_add_right (n:Nat):∀a b b' o o',gm n a (b^^^b') (o^^^o')=gm n a b o^^^gm n a b' o':=by
 have h3:∀c:UInt8,c&&&1=0∨c&&&1=1:=fun c=>by
  have:=all8 (fun c=>c&&&1==0||c&&&1==1) (by decide+kernel) c
  simpa using this
 induction n with
 |zero=>intros;rfl
 |succ n ih=>
  intro a b b' o o'
  simp only [gm]
  have h2:(b^^^b')&&&1=(b&&&1)^^^(b'&&&1):=u8_xor_and ..
  have h4:(b^^^b')>>>1=(b>>>1)^^^(b'>>>1):=u8_xor_shr ..
  rw [h2,h4, ←ih]
  congr 1
  rcases h3 b with hb|hb<;>rcases h3 b' with hb'|hb'<;>rw [hb,hb']<;>simp [UInt8.xor_comm,u8_xor_left_comm,u8_xor_cancel]
theorem gm_xt (n:Nat):∀a b o,gm n (xt a) b (xt o)=xt (gm n a b o):=by
 induction n with
 |zero=>intros;rfl
 |succ n ih=>
  intro a b o
  simp only [gm]
  by_cases h:b&&&1=0
  ·simp only [h,if_true];exact ih ..
  ·simp only [h,if_false];rw [←xt_xor];exact ih ..
theorem gmul_add_left (a a' b:UInt8):gmul (a^^^a') b=gmul a b^^^gmul a' b:=by
 have:=gm_add_left 8 a a' b 0 0;simpa [gmul] using this
theorem gmul_add (a b b':UInt8):gmul a (b^^^b')=gmul a b^^^gmul a b':=by
 have:=gm_add_right 8 a b b' 0 0;simpa [gmul] using this
theorem gmul_xt (a b:UInt8):gmul (xt a) b=xt (gmul a b):=gm_xt 8 a b 0
theorem gmul_zero (a:UInt8):gmul a 0=0:=gm_zero 8 a 0
theorem one_gmul (a:UInt8):gmul 1 a=a:=by
 have:=all8 (fun c=>gmul 1 c==c) (by decide+kernel) a
 simpa using this
def xts:Nat→UInt8→UInt8
 |0,a=>a
 |n+1,a=>xt (xts n a)
theorem gmul_xts (n:Nat) (a b:UInt8):gmul (xts n a) b=xts n (gmul a b):=by
 induction n with
 |zero=>rfl
 |succ n ih=>simp only [xts,gmul_xt,ih]
theorem xts_one (n:Nat) (b:UInt8):gmul (xts n 1) b=xts n b:=by rw [gmul_xts,one_gmul]
theorem byte_ind (P:UInt8→Prop) (h0:P 0) (hp:∀n,n<8→P (xts n 1)) (hx:∀a b,P a→P b→P (a^^^b)) (a:UInt8):P a:=by
 have hb:∀n,n<8→P (a&&&xts n 1):=fun n hn=>by
  have:a&&&xts n 1=0∨a&&&xts n 1=xts n 1:=by
   have:=all8 (fun c=>(List.range 8).all fun n=>c&&&xts n 1==0||c&&&xts n 1==xts n 1) (by decide+kernel) a
   rw [List.all_eq_true] at this
   simpa using this n (List.mem_range.2 hn)
  rcases this with h|h<;>rw [h]
  ·exact h0
  ·exact hp n hn
 have he:a=(a&&&xts 0 1)^^^((a&&&xts 1 1)^^^((a&&&xts 2 1)^^^((a&&&xts 3 1)^^^((a&&&xts 4 1)^^^((a&&&xts 5 1)^^^((a&&&xts 6 1)^^^(a&&&xts 7 1))))))):=by
  have:=all8 (fun a=>a==(a&&&xts 0 1)^^^((a&&&xts 1 1)^^^((a&&&xts 2 1)^^^((a&&&xts 3 1)^^^((a&&&xts 4 1)^^^((a&&&xts 5 1)^^^((a&&&xts 6 1)^^^(a&&&xts 7 1)))))))) (by decide+kernel) a
  simpa using this
 rw [he]
 refine hx _ _ (hb 0 (by omega)) (hx _ _ (hb 1 (by omega)) (hx _ _ (hb 2 (by omega)) (hx _ _ (hb 3 (by omega)) (hx _ _ (hb 4 (by omega)) (hx _ _ (hb 5 (by omega)) (hx _ _ (hb 6 (by omega)) (hb 7 (by omega))))))))
theorem gmul_two_pow (a:UInt8) (n:Nat) (hn:n<8):gmul a (xts n 1)=xts n a:=by
 have:n=0∨n=1∨n=2∨n=3∨n=4∨n=5∨n=6∨n=7:=by omega
 have h:=all8 (fun c=>(List.range 8).all fun n=>gmul c (xts n 1)==xts n c) (by decide+kernel) a
 rw [List.all_eq_true] at h
 simpa using h n (List.mem_range.2 hn)
theorem zero_gmul (a:UInt8):gmul 0 a=0:=by
 have:=gmul_add_left 0 0 a
 simpa using this
theorem gmul_comm (a b:UInt8):gmul a b=gmul b a:=by
 refine byte_ind (fun b=>gmul a b=gmul b a) ?_ ?_ ?_ b
 ·rw [gmul_zero,zero_gmul]
 ·intro n hn;rw [gmul_two_pow a n hn,xts_one]
 ·intro x y hx hy;rw [gmul_add,gmul_add_left,hx,hy]
theorem gmul_assoc (a b c:UInt8):gmul (gmul a b) c=gmul a (gmul b c):=by
 refine byte_ind (fun c=>gmul (gmul a b) c=gmul a (gmul b c)) ?_ ?_ ?_ c
 ·rw [gmul_zero,gmul_zero,gmul_zero]
 ·intro n hn
  rw [gmul_two_pow _ n hn,gmul_two_pow _ n hn,gmul_comm a (xts n b),gmul_xts,gmul_comm b]
 ·intro x y hx hy;rw [gmul_add,gmul_add,gmul_add,hx,hy]
theorem gmul_one (a:UInt8):gmul a 1=a:=by rw [gmul_comm,one_gmul]
def pw (n:Nat):UInt8:=xts n 1
theorem xts_add (n m:Nat) (a:UInt8):xts (n+m) a=xts n (xts m a):=by
 induction n with
 |zero=>simp [xts]
 |succ n ih=>rw [Nat.succ_add];simp only [xts,ih]
theorem gmul_pw (i j:Nat):gmul (pw i) (pw j)=pw (i+j):=by rw [pw,xts_one,pw,pw,xts_add]
theorem xts_255:xts 255 1=1:=by decide+kernel
theorem pw_255 (n:Nat):pw (n+255)=pw n:=by rw [pw,xts_add,xts_255,pw]
theorem pw_mod (n:Nat):pw (n%255)=pw n:=by
 have h:∀k m,pw (m+255*k)=pw m:=by
  intro k
  induction k with
  |zero=>intro m;rfl
  |succ k ih=>intro m;rw [show m+255*(k+1)=m+255*k+255 by omega,pw_255,ih]
 rw [←h (n / 255) (n%255)]
 congr 1
 omega
theorem xt_ne (a:UInt8) (h:a≠0):xt a≠0:=by
 have:=all8 (fun c=>c==0||xt c !=0) (by decide+kernel) a
 simp only [Bool.or_eq_true,beq_iff_eq,bne_iff_ne] at this
 rcases this with h'|h'
 ·exact absurd h' h
 ·exact h'
theorem pw_ne (n:Nat):pw n≠0:=by
 induction n with
 |zero=>decide
 |succ n ih=>exact xt_ne _ ih
def pws:Nat→UInt8→List UInt8
 |0,_=>[]
 |n+1,x=>x::pws n (xt x)
theorem pws_get (n:Nat):∀(x:UInt8) (i:Nat),i<n→(pws n x)[i]? =some (xts i x):=by
 induction n with
 |zero=>intro x i h;omega
 |succ n ih=>
  intro x i h
  cases i with
  |zero=>rfl
  |succ i=>
   simp only [pws,List.getElem?_cons_succ]
   rw [ih _ _ (by omega)]
   have:xts (i+1) x=xts i (xt x):=by rw [xts_add i 1 x];rfl
   rw [this]
theorem pws_length (n:Nat):∀x,(pws n x).length=n:=by
 induction n with
 |zero=>intro;rfl
 |succ n ih=>intro x;simp [pws,ih]
theorem pws_nodup:(pws 255 1).Nodup:=by decide+kernel
theorem pws_all (a:UInt8) (h:a≠0):a∈pws 255 1:=by
 have:=all8 (fun c=>c==0||(pws 255 1).elem c) (by decide+kernel) a
 simp only [Bool.or_eq_true,beq_iff_eq] at this
 rcases this with h'|h'
 ·exact absurd h' h
 ·simpa using h'
theorem pw_inj (i j:Nat) (hi:i<255) (hj:j<255) (h:pw i=pw j):i=j:=by
 have h1:=pws_get 255 1 i hi
 have h2:=pws_get 255 1 j hj
 have h3:xts i 1=xts j 1:=h
 exact (List.getElem?_inj (by rw [pws_length];exact hi) pws_nodup).1 (by rw [h1,h2,h3])
def lgTo:Nat→UInt8→Nat
 |0,_=>0
 |k+1,a=>if pw k=a then k else lgTo k a
def lg (a:UInt8):Nat:=lgTo 255 a
theorem lgTo_pw (k:Nat):∀i,i<k→k≤255→lgTo k (pw i)=i:=by
 induction k with
 |zero=>intro i h;omega
 |succ k ih=>
  intro i h hk
  simp only [lgTo]
  split
  ·rename_i he;exact pw_inj _ _ (by omega) (by omega) he
  ·rename_i he
   have:i≠k:=by rintro rfl;exact he rfl
   exact ih i (by omega) (by omega)
theorem lg_pw (i:Nat) (h:i<255):lg (pw i)=i:=lgTo_pw 255 i h (Nat.le_refl _)
theorem pw_lg (a:UInt8) (h:a≠0):pw (lg a)=a∧lg a<255:=by
 obtain ⟨i,hi,he⟩:=List.getElem_of_mem (pws_all a h)
 rw [pws_length] at hi
 have h1:=pws_get 255 1 i hi
 have h2:pw i=a:=by
  rw [List.getElem?_eq_getElem (by rw [pws_length];exact hi)] at h1
  simp only [Option.some.injEq] at h1
  rw [pw, ←h1,he]
 rw [←h2,lg_pw i hi]
 exact ⟨rfl,hi⟩
theorem lgTo_lt (k:Nat) (hk:0<k) (a:UInt8):lgTo k a<k:=by
 induction k with
 |zero=>omega
 |succ k ih=>
  simp only [lgTo]
  split
  ·omega
  ·rcases Nat.eq_zero_or_pos k with rfl|h
   ·simp [lgTo]
   ·have:=ih h;omega
theorem lg_lt (a:UInt8):lg a<255:=lgTo_lt 255 (by omega) a
def powI (n:Int):UInt8:=pw (n%255).toNat
theorem powI_add (n m:Int):powI (n+m)=gmul (powI n) (powI m):=by
 rw [powI,powI,powI,gmul_pw, ←pw_mod (((n%255).toNat)+_)]
 congr 1
 omega
theorem powI_lg (a:UInt8) (h:a≠0):powI (lg a)=a:=by
 have:=lg_lt a
 rw [powI,show ((lg a:Int)%255).toNat=lg a by omega,(pw_lg a h).1]
def ginv (a:UInt8):UInt8:=powI (-(lg a:Int))
theorem ginv_mul (a:UInt8) (h:a≠0):gmul (ginv a) a=1:=by
 have h2:=powI_lg a h
 have h3:gmul (powI (-(lg a:Int))) (powI (lg a))=1:=by
  rw [←powI_add,show -(lg a:Int)+lg a=0 by omega];rfl
 rw [h2] at h3
 exact h3
theorem gmul_ginv (a:UInt8) (h:a≠0):gmul a (ginv a)=1:=by rw [gmul_comm,ginv_mul a h]
theorem gmul_eq_zero (a b:UInt8):gmul a b=0↔a=0∨b=0:=by
 constructor
 ·intro h
  by_cases ha:a=0
  ·exact .inl ha
  ·right
   have:gmul (ginv a) (gmul a b)=b:=by rw [←gmul_assoc,ginv_mul a ha,one_gmul]
   rw [←this,h,gmul_zero]
 ·rintro (rfl|rfl)
  ·exact zero_gmul _
  ·exact gmul_zero _
theorem ginv_ne (a:UInt8):ginv a≠0:=pw_ne _
open Go.RowKit
section
variable {P:Program} {n k k0:Nat} {x:L3} {K:L3→Prop} {Q:Ex→L3→Prop} {R:List AOper} {dep:List (List Nat)} {rs:List Rec} {hs:List (Option Nat)} {b:AC}
end
open Go.RowKit
section
variable {x:L3} {res:List ARes} {r':AV}
end
section
variable {P:Program} {n k k0:Nat} {x:L3} {K:L3→Prop} {R:List AOper}
end
section
variable {o:AOper} {x:L3}
end
theorem aT {a:List AV} {b:List AV} {r s:List AV} (h:AleL a b) (t:AleL r s):AleL (.agg a::r) (.agg b::s):= .cons (Ale.agg h) t
def sg:Nat→(Nat→UInt8)→UInt8
 |0,_=>0
 |n+1,f=>sg n f^^^f n
theorem sg_congr:∀{n:Nat} {f g:Nat→UInt8},(∀i,i<n→f i=g i)→sg n f=sg n g
 |0,_,_,_=>rfl
 |n+1,f,g,h=>by simp only [sg];rw [sg_congr fun i hi=>h i (by omega),h n (by omega)]
theorem sg_xor:∀(n:Nat) (f g:Nat→UInt8),sg n (fun i=>f i^^^g i)=sg n f^^^sg n g
 |0,_,_=>by simp [sg]
 |n+1,f,g=>by simp only [sg,sg_xor n f g];exact xor4 _ _ _ _
theorem sg_mul (c:UInt8):∀(n:Nat) (f:Nat→UInt8),sg n (fun i=>gmul c (f i))=gmul c (sg n f)
 |0,_=>by simp [sg,gmul_zero]
 |n+1,f=>by simp only [sg,sg_mul c n f,gmul_add]
theorem sg_mulr (c:UInt8) (n:Nat) (f:Nat→UInt8):sg n (fun i=>gmul (f i) c)=gmul (sg n f) c:=by
 rw [gmul_comm, ←sg_mul];exact sg_congr fun i _=>gmul_comm _ _
theorem sg_zero:∀{n:Nat} {f:Nat→UInt8},(∀i,i<n→f i=0)→sg n f=0
 |0,_,_=>rfl
 |n+1,f,h=>by simp only [sg];rw [sg_zero fun i hi=>h i (by omega),h n (by omega)];rfl
theorem sg_one (k:Nat) (x:Nat→UInt8):∀n,sg n (fun i=>if i=k then x i else 0)=if k<n then x k else 0
 |0=>by simp [sg]
 |n+1=>by
  simp only [sg,sg_one k x n]
  by_cases h:n=k
  ·subst h;simp
  ·rw [if_neg h]
   by_cases h2:k<n
   ·rw [if_pos h2,if_pos (by omega)];simp
   ·rw [if_neg h2,if_neg (by omega)];rfl
theorem sg_swap:∀(n m:Nat) (f:Nat→Nat→UInt8),sg n (fun i=>sg m fun j=>f i j)=sg m fun j=>sg n fun i=>f i j
 |0,m,f=>by simp only [sg];exact (sg_zero fun _ _=>rfl).symm
 |n+1,m,f=>by simp only [sg,sg_swap n m f,sg_xor]
def skip (p j:Nat):Nat:=if j<p then j else j+1
theorem sg_skip:∀(d p:Nat) (f:Nat→UInt8),p≤d→sg (d+1) f=f p^^^sg d fun j=>f (skip p j)
 |0,p,f,h=>by
  have:p=0:=by omega
  subst this;simp [sg]
 |d+1,p,f,h=>by
  by_cases hp:p=d+1
  ·subst hp
   have e:sg (d+1) (fun j=>f (skip (d+1) j))=sg (d+1) f:=sg_congr fun i hi=>by unfold skip;rw [if_pos hi]
   rw [e];simp only [sg];exact UInt8.xor_comm _ _
  ·have ih:=sg_skip d p f (by omega)
   have e:f (skip p d)=f (d+1):=by unfold skip;rw [if_neg (by omega)]
   rw [show sg (d+1+1) f=sg (d+1) f^^^f (d+1) from rfl,ih]
   rw [show sg (d+1) (fun j=>f (skip p j))=sg d (fun j=>f (skip p j))^^^f (skip p d) from rfl,e,UInt8.xor_assoc]
abbrev Mx:=Nat→Nat→UInt8
def mm (k:Nat) (A B:Mx):Mx:=fun i j=>sg k fun t=>gmul (A i t) (B t j)
theorem mm_congr {k:Nat} {A A' B B':Mx} {i j:Nat} (h1:∀t,t<k→A i t=A' i t) (h2:∀t,t<k→B t j=B' t j):mm k A B i j=mm k A' B' i j:=sg_congr fun t ht=>by rw [h1 t ht,h2 t ht]
theorem mm_assoc (k l:Nat) (A B C:Mx) (i j:Nat):mm l (mm k A B) C i j=mm k A (mm l B C) i j:=by
 unfold mm
 have e1:sg l (fun t=>gmul (sg k fun u=>gmul (A i u) (B u t)) (C t j))=sg l (fun t=>sg k fun u=>gmul (A i u) (gmul (B u t) (C t j))):=sg_congr fun t _=>by
  rw [←sg_mulr];exact sg_congr fun u _=>gmul_assoc _ _ _
 have e2:sg k (fun u=>gmul (A i u) (sg l fun t=>gmul (B u t) (C t j)))=sg k (fun u=>sg l fun t=>gmul (A i u) (gmul (B u t) (C t j))):=sg_congr fun u _=>(sg_mul _ _ _).symm
 rw [e1,e2,sg_swap]
def unitM:Mx:=fun i j=>if i=j then 1 else 0
theorem unit_mm {n:Nat} (A:Mx) {i j:Nat} (h:i<n):mm n unitM A i j=A i j:=by
 unfold mm unitM
 have e:sg n (fun t=>gmul (if i=t then 1 else 0) (A t j))=sg n (fun t=>if t=i then A t j else 0):=sg_congr fun t _=>by
  by_cases ht:i=t
  ·subst ht;simp [one_gmul]
  ·rw [if_neg ht,if_neg (fun hh=>ht hh.symm),zero_gmul]
 rw [e,sg_one i (fun t=>A t j),if_pos h]
theorem mm_unit {n:Nat} (A:Mx) {i j:Nat} (h:j<n):mm n A unitM i j=A i j:=by
 unfold mm unitM
 have e:sg n (fun t=>gmul (A i t) (if t=j then 1 else 0))=sg n (fun t=>if t=j then A i t else 0):=sg_congr fun t _=>by
  by_cases ht:t=j
  ·subst ht;simp [gmul_one]
  ·rw [if_neg ht,if_neg ht,gmul_zero]
 rw [e,sg_one j (fun t=>A i t),if_pos h]
theorem solve:∀(k d:Nat) (Y:Mx),k<d→∃v:Nat→UInt8,(∃j,j<d∧v j≠0)∧∀i,i<k→sg d (fun j=>gmul (Y i j) (v j))=0
 |0,d,Y,h=>⟨fun _=>1,⟨0,h,by decide⟩,fun i hi=>by omega⟩
 |k+1,0,Y,h=>by omega
 |k+1,d+1,Y,h=>by
  by_cases hz:∀j,j<d+1→Y k j=0
  ·obtain ⟨v,h1,h2⟩:=solve k (d+1) Y (by omega)
   refine ⟨v,h1,fun i hi=> ?_⟩
   by_cases hik:i=k
   ·subst hik;exact sg_zero fun j hj=>by rw [hz j hj,zero_gmul]
   ·exact h2 i (by omega)
  ·obtain ⟨p,hp⟩:=Classical.not_forall.1 hz
   obtain ⟨hp1,hp2⟩:=Classical.not_imp.1 hp
   obtain ⟨v',⟨q,hq1,hq2⟩,h2⟩:=solve k d (fun i j=>Y i (skip p j)^^^gmul (gmul (Y i p) (ginv (Y k p))) (Y k (skip p j))) (by omega)
   have hs:∀j,skip p j≠p:=fun j=>by unfold skip;split<;>omega
   let un:Nat→Nat:=fun j=>if j<p then j else j - 1
   have hun:∀j,un (skip p j)=j:=fun j=>by
    show (if skip p j<p then skip p j else skip p j - 1)=j
    unfold skip
    by_cases h:j<p
    ·rw [if_pos h,if_pos h]
    ·rw [if_neg h,if_neg (by omega)];omega
   let s:=sg d (fun j=>gmul (Y k (skip p j)) (v' j))
   refine ⟨fun j=>if j=p then gmul (ginv (Y k p)) s else v' (un j),⟨skip p q, ?_, ?_⟩,fun i hi=> ?_⟩
   ·unfold skip;split<;>omega
   ·show (if skip p q=p then gmul (ginv (Y k p)) s else v' (un (skip p q)))≠0
    rw [if_neg (hs q),hun];exact hq2
   ·rw [sg_skip d p _ (by omega)]
    have e:sg d (fun j=>gmul (Y i (skip p j)) (if skip p j=p then gmul (ginv (Y k p)) s else v' (un (skip p j))))=sg d (fun j=>gmul (Y i (skip p j)) (v' j)):=sg_congr fun j _=>by rw [if_neg (hs j),hun]
    show gmul (Y i p) (if p=p then gmul (ginv (Y k p)) s else v' (un p))^^^sg d (fun j=>gmul (Y i (skip p j)) (if skip p j=p then gmul (ginv (Y k p)) s else v' (un (skip p j))))=0
    rw [if_pos rfl,e]
    by_cases hik:i=k
    ·subst hik
     rw [←gmul_assoc,gmul_ginv _ hp2,one_gmul];exact UInt8.xor_self
    ·have h3:=h2 i (by omega)
     have e2:sg d (fun j=>gmul (Y i (skip p j)^^^gmul (gmul (Y i p) (ginv (Y k p))) (Y k (skip p j))) (v' j))=sg d (fun j=>gmul (Y i (skip p j)) (v' j))^^^gmul (gmul (Y i p) (ginv (Y k p))) s:=by
      rw [show gmul (gmul (Y i p) (ginv (Y k p))) s=sg d (fun j=>gmul (gmul (Y i p) (ginv (Y k p))) (gmul (Y k (skip p j)) (v' j))) from (sg_mul _ _ _).symm, ←sg_xor]
      exact sg_congr fun j _=>by rw [gmul_add_left,gmul_assoc (gmul (Y i p) (ginv (Y k p)))]
     rw [e2] at h3
     rw [←gmul_assoc,UInt8.xor_comm];exact h3
theorem unit_wide {k d:Nat} {X Y:Mx} (h:∀i j,i<d→j<d→mm k X Y i j=unitM i j):d≤k:=by
 refine Nat.not_lt.1 fun hkd=> ?_
 obtain ⟨v,⟨q,hq,hv⟩,hs⟩:=solve k d Y hkd
 apply hv
 have e1:mm d unitM (fun t _=>v t) q 0=v q:=unit_mm (fun t _=>v t) hq
 rw [←e1]
 have e2:mm d unitM (fun t _=>v t) q 0=mm d (mm k X Y) (fun t _=>v t) q 0:=sg_congr fun t ht=>by rw [h q t hq ht]
 rw [e2,mm_assoc]
 exact sg_zero fun t ht=>by
  have:=hs t ht
  show gmul (X q t) (sg d fun u=>gmul (Y t u) (v u))=0
  rw [this,gmul_zero]
def Thr (n m k:Nat) (A:Mx):Prop:=∃B C:Mx,∀i j,i<n→j<m→A i j=mm k B C i j
structure RankIs (n m:Nat) (A:Mx) (r:Nat):Prop where
 thr:Thr n m r A
 min:∀k,Thr n m k A→r≤k
theorem Thr.turn {n m k:Nat} {A:Mx} (h:Thr n m k A):Thr m n k fun i j=>A j i:=by
 obtain ⟨B,C,e⟩:=h
 refine ⟨fun i t=>C t i,fun t j=>B j t,fun i j hi hj=> ?_⟩
 show A j i=_
 rw [e j i hj hi];exact sg_congr fun t _=>gmul_comm _ _
theorem Thr.full (n m:Nat) (A:Mx):Thr n m n A:=⟨unitM,A,fun i j hi hj=>(unit_mm A hi).symm⟩
theorem Thr.congr {n m k:Nat} {A B:Mx} (h:Thr n m k A) (e:∀i j,i<n→j<m→B i j=A i j):Thr n m k B:=by
 obtain ⟨X,Y,e2⟩:=h
 exact ⟨X,Y,fun i j hi hj=>(e i j hi hj).trans (e2 i j hi hj)⟩
theorem RankIs.le {n m r:Nat} {A:Mx} (h:RankIs n m A r):r≤n∧r≤m:=by
 refine ⟨h.min n (Thr.full n m A),h.min m ?_⟩
 have:=(Thr.full m n fun i j=>A j i).turn
 exact this
def swapM (R:Mx) (a b:Nat):Mx:=fun i j=>if i=a then R b j else if i=b then R a j else R i j
def scaleM (R:Mx) (a:Nat) (f:UInt8):Mx:=fun i j=>if i=a then gmul (R a j) f else R i j
def elimM (w:Nat→UInt8) (d:Nat) (R:Mx):Mx:=fun i j=>if i=d then R d j else R i j^^^gmul (w i) (R d j)
theorem mm_swap (n a b:Nat) (X R:Mx) (i j:Nat):mm n (swapM X a b) R i j=swapM (mm n X R) a b i j:=by
 unfold swapM mm
 by_cases h1:i=a
 ·simp only [if_pos h1]
 ·by_cases h2:i=b
  ·simp only [if_neg h1,if_pos h2]
  ·simp only [if_neg h1,if_neg h2]
theorem mm_scale (n a:Nat) (f:UInt8) (X R:Mx) (i j:Nat):mm n (scaleM X a f) R i j=scaleM (mm n X R) a f i j:=by
 unfold scaleM mm
 by_cases h1:i=a
 ·simp only [if_pos h1]
  rw [←sg_mulr]
  exact sg_congr fun t _=>by rw [gmul_assoc,gmul_comm f, ←gmul_assoc]
 ·simp only [if_neg h1]
theorem mm_elim (n d:Nat) (w:Nat→UInt8) (X R:Mx) (i j:Nat):mm n (elimM w d X) R i j=elimM w d (mm n X R) i j:=by
 unfold elimM mm
 by_cases h1:i=d
 ·simp only [if_pos h1]
 ·simp only [if_neg h1]
  rw [←sg_mul, ←sg_xor]
  exact sg_congr fun t _=>by rw [gmul_add_left,gmul_assoc]
def RE (n:Nat) (A R:Mx):Prop:=∃P Q:Mx,(∀i j,i<n→R i j=mm n P A i j)∧∀i j,i<n→A i j=mm n Q R i j
theorem RE.refl (n:Nat) (A:Mx):RE n A A:=⟨unitM,unitM,fun i j h=>(unit_mm A h).symm,fun i j h=>(unit_mm A h).symm⟩
theorem RE.trans {n:Nat} {A B C:Mx} (h:RE n A B) (k:RE n B C):RE n A C:=by
 obtain ⟨P,Q,h1,h2⟩:=h
 obtain ⟨S,T,k1,k2⟩:=k
 refine ⟨mm n S P,mm n Q T,fun i j hi=> ?_,fun i j hi=> ?_⟩
 ·rw [k1 i j hi,mm_assoc];exact mm_congr (fun _ _=>rfl) fun t ht=>h1 t j ht
 ·rw [h2 i j hi,mm_assoc];exact mm_congr (fun _ _=>rfl) fun t ht=>k2 t j ht
theorem RE.congr {n:Nat} {A R R':Mx} (h:RE n A R) (e:∀i j,i<n→R' i j=R i j):RE n A R':=by
 obtain ⟨P,Q,h1,h2⟩:=h
 exact ⟨P,Q,fun i j hi=>(e i j hi).trans (h1 i j hi),fun i j hi=>(h2 i j hi).trans (mm_congr (fun _ _=>rfl) fun t ht=>(e t j ht).symm)⟩
theorem RE.swap {n a b:Nat} {A R:Mx} (h:RE n A R) (ha:a<n) (hb:b<n):RE n A (swapM R a b):=by
 have one:∀R i j,i<n→swapM R a b i j=mm n (swapM unitM a b) R i j:=fun R i j hi=>by
  rw [mm_swap];unfold swapM
  by_cases h1:i=a
  ·simp only [if_pos h1];exact (unit_mm R hb).symm
  ·by_cases h2:i=b
   ·simp only [if_neg h1,if_pos h2];exact (unit_mm R ha).symm
   ·simp only [if_neg h1,if_neg h2];exact (unit_mm R hi).symm
 refine h.trans ⟨_,swapM unitM a b,fun i j hi=>one R i j hi,fun i j hi=> ?_⟩
 rw [←one _ i j hi]
 unfold swapM
 by_cases h1:i=a
 ·subst h1;simp only [if_pos rfl]
  by_cases h2:b=i
  ·subst h2;simp
  ·rw [if_neg h2];simp
 ·by_cases h2:i=b
  ·subst h2;rw [if_neg h1,if_pos rfl,if_pos rfl]
  ·rw [if_neg h1,if_neg h2,if_neg h1,if_neg h2]
theorem RE.scale {n a:Nat} {f:UInt8} {A R:Mx} (h:RE n A R) (ha:a<n) (hf:f≠0):RE n A (scaleM R a f):=by
 have one:∀R f i j,i<n→scaleM R a f i j=mm n (scaleM unitM a f) R i j:=fun R f i j hi=>by
  rw [mm_scale];unfold scaleM
  by_cases h1:i=a
  ·simp only [if_pos h1];rw [unit_mm R ha]
  ·simp only [if_neg h1];exact (unit_mm R hi).symm
 refine h.trans ⟨_,scaleM unitM a (ginv f),fun i j hi=>one R f i j hi,fun i j hi=> ?_⟩
 rw [←one _ _ i j hi]
 unfold scaleM
 by_cases h1:i=a
 ·subst h1;rw [if_pos rfl,if_pos rfl,gmul_assoc,gmul_ginv f hf,gmul_one]
 ·rw [if_neg h1,if_neg h1]
theorem RE.elim {n d:Nat} {w:Nat→UInt8} {A R:Mx} (h:RE n A R) (hd:d<n):RE n A (elimM w d R):=by
 have one:∀R i j,i<n→elimM w d R i j=mm n (elimM w d unitM) R i j:=fun R i j hi=>by
  rw [mm_elim];unfold elimM
  by_cases h1:i=d
  ·simp only [if_pos h1];exact (unit_mm R hd).symm
  ·simp only [if_neg h1];rw [unit_mm R hi,unit_mm R hd]
 refine h.trans ⟨_,elimM w d unitM,fun i j hi=>one R i j hi,fun i j hi=> ?_⟩
 rw [←one _ i j hi]
 unfold elimM
 by_cases h1:i=d
 ·subst h1;rw [if_pos rfl,if_pos rfl]
 ·rw [if_neg h1,if_neg h1,if_pos rfl,UInt8.xor_assoc,UInt8.xor_self,UInt8.xor_zero]
structure Ech (n:Nat) (R:Mx) (c d:Nat) (p:Nat→Nat):Prop where
 dn:d≤n
 pc:∀t,t<d→p t<c
 up:∀s t,s<t→t<d→p s<p t
 one:∀t i,t<d→i<n→R i (p t)=if i=t then 1 else 0
 zero:∀i j,d≤i→i<n→j<c→R i j=0
theorem ech_start (n:Nat) (R:Mx):Ech n R 0 0 fun _=>0:=⟨by omega,fun t h=>by omega,fun s t _ h=>by omega,fun t i h=>by omega,fun i j _ _ h=>by omega⟩
theorem ech_none {n c d:Nat} {R:Mx} {p:Nat→Nat} (h:Ech n R c d p) (hz:∀i,d≤i→i<n→R i c=0):Ech n R (c+1) d p:=
 ⟨h.dn,fun t ht=>by have:=h.pc t ht;omega,h.up,h.one,fun i j hi hin hj=>by
  by_cases hjc:j=c
  ·subst hjc;exact hz i hi hin
  ·exact h.zero i j hi hin (by omega)⟩
def pivM (R:Mx) (c d i0:Nat):Mx:=elimM (fun i=>scaleM (swapM R d i0) d (ginv (swapM R d i0 d c)) i c) d (scaleM (swapM R d i0) d (ginv (swapM R d i0 d c)))
theorem piv_re {n c d i0:Nat} {A R:Mx} (h:RE n A R) (hd:d<n) (hi:i0<n):RE n A (pivM R c d i0):=((h.swap hd hi).scale hd (ginv_ne _)).elim hd
theorem ech_some {n c d i0:Nat} {R:Mx} {p:Nat→Nat} (h:Ech n R c d p) (h0:d≤i0) (hi:i0<n) (hne:R i0 c≠0):Ech n (pivM R c d i0) (c+1) (d+1) fun t=>if t<d then p t else c:=by
 have hsd:swapM R d i0 d c=R i0 c:=by unfold swapM;rw [if_pos rfl]
 have hdn:d<n:=by omega
 -- rows from d on are 0 at places done
 have old:∀t i,t<d→d≤i→i<n→R i (p t)=0:=fun t i ht hdi hin=>by rw [h.one t i ht hin,if_neg (by omega)]
 have sw:∀i j,(∀k,d≤k→k<n→R k j=0)→i<n→swapM R d i0 i j=R i j:=fun i j hz hin=>by
  unfold swapM
  by_cases h1:i=d
  ·rw [if_pos h1,hz i0 h0 hi,h1,hz d (Nat.le_refl d) hdn]
  ·by_cases h2:i=i0
   ·rw [if_neg h1,if_pos h2,hz d (Nat.le_refl d) hdn,h2,hz i0 h0 hi]
   ·rw [if_neg h1,if_neg h2]
 have sc:∀i j,(∀k,d≤k→k<n→R k j=0)→i<n→scaleM (swapM R d i0) d (ginv (swapM R d i0 d c)) i j=R i j:=fun i j hz hin=>by
  unfold scaleM
  by_cases h1:i=d
  ·rw [if_pos h1,sw d j hz hdn,hz d (Nat.le_refl d) hdn,zero_gmul,h1,hz d (Nat.le_refl d) hdn]
  ·rw [if_neg h1,sw i j hz hin]
 have el:∀i j,(∀k,d≤k→k<n→R k j=0)→i<n→pivM R c d i0 i j=R i j:=fun i j hz hin=>by
  unfold pivM
  generalize (fun i=>scaleM (swapM R d i0) d (ginv (swapM R d i0 d c)) i c)=w
  unfold elimM
  by_cases h1:i=d
  ·rw [if_pos h1,sc d j hz hdn,h1]
  ·rw [if_neg h1,sc i j hz hin,sc d j hz hdn,hz d (Nat.le_refl d) hdn,gmul_zero,UInt8.xor_zero]
 have pc:scaleM (swapM R d i0) d (ginv (swapM R d i0 d c)) d c=1:=by
  show (if d=d then gmul (swapM R d i0 d c) (ginv (swapM R d i0 d c)) else _)=1
  rw [if_pos rfl,hsd,gmul_ginv _ hne]
 have col:∀i,i<n→pivM R c d i0 i c=if i=d then 1 else 0:=fun i hin=>by
  unfold pivM elimM
  by_cases h1:i=d
  ·rw [if_pos h1,if_pos h1,pc]
  ·rw [if_neg h1,if_neg h1,pc,gmul_one,UInt8.xor_self]
 refine ⟨by omega,fun t ht=> ?_,fun s t hst ht=> ?_,fun t i ht hin=> ?_,fun i j hdi hin hj=> ?_⟩
 ·split
  ·rename_i h1;have:=h.pc t h1;omega
  ·omega
 ·by_cases h1:t<d
  ·simp only [if_pos h1,if_pos (show s<d by omega)];exact h.up s t hst h1
  ·simp only [if_neg h1,if_pos (show s<d by omega)];exact h.pc s (by omega)
 ·by_cases h1:t<d
  ·simp only [if_pos h1]
   rw [el i (p t) (fun k hk hkn=>old t k h1 hk hkn) hin,h.one t i h1 hin]
  ·simp only [if_neg h1]
   rw [col i hin,show t=d by omega]
 ·by_cases hjc:j=c
  ·subst hjc;rw [col i hin,if_neg (by omega)]
  ·rw [el i j (fun k hk hkn=>h.zero k j hk hkn (by omega)) hin]
   exact h.zero i j (by omega) hin (by omega)
theorem ech_rank {n m c d:Nat} {A R:Mx} {p:Nat→Nat} (h:RE n A R) (e:Ech n R c d p) (hc:c≤m) (he:c=m∨d=n):RankIs n m A d:=by
 obtain ⟨P,Q,h1,h2⟩:=h
 refine ⟨⟨Q,R,fun i j hi hj=> ?_⟩,fun k hk=> ?_⟩
 ·rw [h2 i j hi]
  have hz:∀t,d≤t→t<n→R t j=0:=fun t ht htn=>by
   rcases he with he|he
   ·exact e.zero t j ht htn (by omega)
   ·omega
  unfold mm
  have split:∀k,sg (d+k) (fun t=>if t<n then gmul (Q i t) (R t j) else 0)=sg d fun t=>if t<n then gmul (Q i t) (R t j) else 0:=by
   intro k
   induction k with
   |zero=>rfl
   |succ k ih=>
    show sg (d+k) _^^^(if d+k<n then gmul (Q i (d+k)) (R (d+k) j) else 0)=_
    rw [ih]
    by_cases hk:d+k<n
    ·rw [if_pos hk,hz _ (by omega) hk,gmul_zero,UInt8.xor_zero]
    ·rw [if_neg hk,UInt8.xor_zero]
  have s:=split (n - d)
  have dn:=e.dn
  rw [show d+(n - d)=n by omega] at s
  rw [sg_congr (g:=fun t=>if t<n then gmul (Q i t) (R t j) else 0) fun t ht=>by rw [if_pos ht],s]
  exact sg_congr fun t ht=>by rw [if_pos (by omega)]
 ·obtain ⟨B,C,hk⟩:=hk
  refine unit_wide (X:=mm n P B) (Y:=fun u t=>C u (p t)) fun i t hi ht=> ?_
  have dn:=e.dn
  have hp:=e.pc t ht
  have h3:=h1 i (p t) (by omega)
  rw [e.one t i ht (by omega)] at h3
  unfold unitM
  rw [h3]
  show mm k (mm n P B) C i (p t)=_
  rw [mm_assoc]
  exact mm_congr (fun _ _=>rfl) fun u hu=>(hk u (p t) hu (by omega)).symm
theorem up_id {n:Nat} {p:Nat→Nat} (h1:∀t,t<n→p t<n) (h2:∀s t,s<t→t<n→p s<p t):∀t,t<n→p t=t:=by
 have lo:∀t,t<n→t≤p t:=fun t=>by
  induction t with
  |zero=>intro _;omega
  |succ t ih=>intro ht;have:=ih (by omega);have:=h2 t (t+1) (by omega) ht;omega
 have hi:∀k t,t+k+1=n→p t≤t:=fun k=>by
  induction k with
  |zero=>intro t ht;have:=h1 t (by omega);omega
  |succ k ih=>intro t ht;have:=ih (t+1) (by omega);have:=h2 t (t+1) (by omega) (by omega);omega
 intro t ht
 have:=lo t ht;have:=hi (n - t - 1) t (by omega);omega
def bothM (n:Nat) (A:Mx):Mx:=fun i j=>if j<n then A i j else unitM i (j - n)
theorem ech_inv {n c:Nat} {A R:Mx} {p:Nat→Nat} (h:RE n (bothM n A) R) (e:Ech n R c n p) (hc:c≤n):(∀i j,i<n→j<n→mm n (fun i j=>R i (n+j)) A i j=unitM i j)∧∀i j,i<n→j<n→mm n A (fun i j=>R i (n+j)) i j=unitM i j:=by
 obtain ⟨P,Q,h1,h2⟩:=h
 have hp:=up_id (n:=n) (p:=p) (fun t ht=>by have:=e.pc t ht;omega) e.up
 have hR:∀i j,i<n→j<n→R i j=unitM i j:=fun i j hi hj=>by have:=e.one j i hj hi;rw [hp j hj] at this;exact this
 have hb:∀i j,j<n→bothM n A i j=A i j:=fun i j hj=>if_pos hj
 have hb2:∀i j,bothM n A i (n+j)=unitM i j:=fun i j=>by unfold bothM;rw [if_neg (by omega),show n+j - n=j by omega]
 have hP:∀i j,i<n→j<n→R i (n+j)=P i j:=fun i j hi hj=>
  by
  have q:mm n P (bothM n A) i (n+j)=mm n P unitM i j:=sg_congr fun t _=>by rw [hb2 t j]
  rw [h1 i (n+j) hi,q];exact mm_unit P hj
 have hQ:∀i j,i<n→j<n→A i j=Q i j:=fun i j hi hj=>
  (hb i j hj).symm.trans ((h2 i j hi).trans ((mm_congr (fun _ _=>rfl) fun t ht=>hR t j ht hj).trans (mm_unit Q hj)))
 refine ⟨fun i j hi hj=> ?_,fun i j hi hj=> ?_⟩
 ·exact (mm_congr (fun t ht=>hP i t hi ht) fun t _=>(hb t j hj).symm).trans ((h1 i j hi).symm.trans (hR i j hi hj))
 ·have q:mm n A (fun i j=>R i (n+j)) i j=mm n Q R i (n+j):=sg_congr fun t ht=>by rw [hQ i t hi ht]
  rw [q, ←h2 i (n+j) hi];exact hb2 i j
def pv:List UInt8→UInt8→UInt8
 |[],_=>0
 |c::r,x=>c^^^gmul x (pv r x)
def padd:List UInt8→List UInt8→List UInt8
 |[],q=>q
 |p,[]=>p
 |a::p,b::q=>(a^^^b)::padd p q
def pscale (c:UInt8) (p:List UInt8):List UInt8:=p.map (gmul c)
def plin (a:UInt8) (p:List UInt8):List UInt8:=padd (0::p) (pscale a p)
theorem pv_add:∀(p q:List UInt8) (x:UInt8),pv (padd p q) x=pv p x^^^pv q x
 |[],q,x=>by simp [padd,pv]
 |a::p,[],x=>by simp [padd,pv]
 |a::p,b::q,x=>by simp only [padd,pv,pv_add p q x,gmul_add];exact xor4 _ _ _ _
theorem pv_scale (c:UInt8):∀(p:List UInt8) (x:UInt8),pv (pscale c p) x=gmul c (pv p x)
 |[],x=>by simp [pscale,pv,gmul_zero]
 |a::p,x=>by
  have ih:=pv_scale c p x
  unfold pscale at ih ⊢
  simp only [List.map_cons,pv,ih,gmul_add]
  rw [←gmul_assoc,gmul_comm x c,gmul_assoc]
theorem pv_lin (a:UInt8) (p:List UInt8) (x:UInt8):pv (plin a p) x=gmul (x^^^a) (pv p x):=by
 unfold plin
 rw [pv_add,pv_scale,gmul_add_left]
 simp [pv]
theorem padd_len:∀(p q:List UInt8),(padd p q).length=max p.length q.length
 |[],q=>by simp [padd]
 |a::p,[]=>by simp [padd]
 |a::p,b::q=>by simp only [padd,List.length_cons,padd_len p q];omega
theorem plin_len (a:UInt8) (p:List UInt8):(plin a p).length=p.length+1:=by
 unfold plin pscale;rw [padd_len];simp only [List.length_cons,List.length_map];omega
def sy (a:UInt8):List UInt8→List UInt8
 |[]=>[]
 |[_]=>[]
 |_::d::r=>pv (d::r) a::sy a (d::r)
theorem sy_len (a:UInt8):∀p:List UInt8,(sy a p).length=p.length - 1
 |[]=>rfl
 |[_]=>rfl
 |_::d::r=>by have:=sy_len a (d::r);simp only [sy,List.length_cons] at *; omega
theorem sy_is (a x:UInt8):∀p:List UInt8,pv p x=gmul (x^^^a) (pv (sy a p) x)^^^pv p a
 |[]=>by simp [pv,sy,gmul_zero]
 |[c]=>by simp [pv,sy,gmul_zero]
 |c::d::r=>by
  have ih:=sy_is a x (d::r)
  have e1:pv (c::d::r) x=c^^^gmul x (pv (d::r) x):=rfl
  have e2:pv (c::d::r) a=c^^^gmul a (pv (d::r) a):=rfl
  have e3:pv (sy a (c::d::r)) x=pv (d::r) a^^^gmul x (pv (sy a (d::r)) x):=rfl
  rw [e1,e2,e3,ih]
  generalize pv (sy a (d::r)) x=q
  generalize pv (d::r) a=v
  rw [gmul_add,gmul_add,gmul_add_left x a v]
  have e4:gmul x (gmul (x^^^a) q)=gmul (x^^^a) (gmul x q):=by rw [←gmul_assoc,gmul_comm x,gmul_assoc]
  rw [e4]
  generalize gmul (x^^^a) (gmul x q)=s
  generalize gmul x v=t
  generalize gmul a v=u
  -- c ^ (s ^ t) = ((t ^ u) ^ s) ^ (c ^ u)
  rw [UInt8.xor_comm s t]
  rw [show (t^^^u)^^^s^^^(c^^^u)=(t^^^s)^^^(u^^^(c^^^u)) by rw [UInt8.xor_assoc t u s,UInt8.xor_comm u s, ←UInt8.xor_assoc t s u,UInt8.xor_assoc (t^^^s)]]
  rw [show u^^^(c^^^u)=c by rw [UInt8.xor_comm c u,u8_xor_cancel],UInt8.xor_comm]
theorem xor_zero_iff {a b:UInt8}:a^^^b=0↔a=b:=by
 constructor
 ·intro h
  have:=u8_xor_cancel a b
  rw [h,UInt8.xor_zero] at this;exact this
 ·rintro rfl;exact UInt8.xor_self
theorem roots_all:∀(xs p:List UInt8),p.length≤xs.length→xs.Nodup→(∀x,x∈xs→pv p x=0)→∀y,pv p y=0
 |[],p,hl,_,_,y=>by
  have:p=[]:=List.eq_nil_of_length_eq_zero (by simpa using hl)
  subst this;rfl
 |a::xs,p,hl,hn,hr,y=>by
  have ha:=hr a (by simp)
  have ih:=roots_all xs (sy a p) (by rw [sy_len];simp at hl;omega) (List.nodup_cons.1 hn).2 fun b hb=>by
   have h1:=sy_is a b p
   rw [hr b (by simp [hb]),ha,UInt8.xor_zero] at h1
   rcases (gmul_eq_zero _ _).1 h1.symm with h2|h2
   ·have:b=a:=xor_zero_iff.1 h2
    subst this;exact absurd hb (List.nodup_cons.1 hn).1
   ·exact h2
  rw [sy_is a y p,ih y,gmul_zero,ha,UInt8.xor_zero]
def prodB (ys:Nat→UInt8) (j:Nat):Nat→List UInt8
 |0=>[1]
 |n+1=>if n=j then prodB ys j n else plin (ys n) (prodB ys j n)
def prodV (ys:Nat→UInt8) (j:Nat) (z:UInt8):Nat→UInt8
 |0=>1
 |n+1=>if n=j then prodV ys j z n else gmul (z^^^ys n) (prodV ys j z n)
theorem prodB_v (ys:Nat→UInt8) (j:Nat) (z:UInt8):∀n,pv (prodB ys j n) z=prodV ys j z n
 |0=>by simp [prodB,prodV,pv,gmul_zero]
 |n+1=>by
  unfold prodB prodV
  split
  ·exact prodB_v ys j z n
  ·rw [pv_lin,prodB_v ys j z n]
theorem prodB_len (ys:Nat→UInt8) (j:Nat):∀n,(prodB ys j n).length=if j<n then n else n+1
 |0=>by simp [prodB]
 |n+1=>by
  have ih:=prodB_len ys j n
  unfold prodB
  by_cases h:n=j
  ·rw [if_pos h,ih,if_neg (by omega),if_pos (by omega)]
  ·rw [if_neg h,plin_len,ih]
   by_cases h2:j<n
   ·rw [if_pos h2,if_pos (by omega)]
   ·rw [if_neg h2,if_neg (by omega)]
theorem prodV_ne {ys:Nat→UInt8} {j:Nat} {z:UInt8}:∀{n:Nat},(∀l,l<n→l≠j→z≠ys l)→prodV ys j z n≠0
 |0,_=>by show (1:UInt8)≠0;decide
 |n+1,h=>by
  have ih:=prodV_ne (ys:=ys) (j:=j) (z:=z) (n:=n) fun l hl=>h l (by omega)
  unfold prodV
  split
  ·exact ih
  ·rename_i hj
   intro h0
   rcases (gmul_eq_zero _ _).1 h0 with h1|h1
   ·exact h n (by omega) hj (xor_zero_iff.1 h1)
   ·exact ih h1
theorem prodV_zero {ys:Nat→UInt8} {j:Nat} {z:UInt8}:∀{n l:Nat},l<n→l≠j→z=ys l→prodV ys j z n=0
 |0,l,h,_,_=>by omega
 |n+1,l,h,hj,hz=>by
  unfold prodV
  by_cases hn:n=j
  ·rw [if_pos hn];exact prodV_zero (n:=n) (l:=l) (by omega) hj hz
  ·rw [if_neg hn]
   by_cases hl:l=n
   ·subst hl;rw [hz,UInt8.xor_self,zero_gmul]
   ·rw [prodV_zero (n:=n) (l:=l) (by omega) hj hz,gmul_zero]
theorem prodV_part {ys:Nat→UInt8} {j:Nat} {z:UInt8} (hz:z≠ys j):∀{n:Nat},j<n→prodV ys j z n=gmul (prodV ys n z n) (ginv (z^^^ys j)):=by
 have far:∀(n k k':Nat),n≤k→n≤k'→prodV ys k z n=prodV ys k' z n:=fun n=>by
  induction n with
  |zero=>intro k k' _ _;rfl
  |succ n ih=>
   intro k k' hk hk'
   simp only [prodV]
   rw [if_neg (by omega),if_neg (by omega),ih k k' (by omega) (by omega)]
 intro n
 induction n with
 |zero=>intro h;omega
 |succ n ih=>
  intro h
  have hx:z^^^ys j≠0:=fun hh=>hz (xor_zero_iff.1 hh)
  simp only [prodV]
  rw [if_neg (show ¬n=n+1 by omega),far n (n+1) n (by omega) (Nat.le_refl n)]
  by_cases hj:n=j
  ·subst hj
   rw [if_pos rfl,gmul_comm (z^^^ys n),gmul_assoc,gmul_ginv _ hx,gmul_one]
  ·rw [if_neg hj,ih (by omega), ←gmul_assoc]
def psum (f:Nat→List UInt8):Nat→List UInt8
 |0=>[]
 |n+1=>padd (psum f n) (f n)
theorem psum_v (f:Nat→List UInt8) (z:UInt8):∀n,pv (psum f n) z=sg n fun j=>pv (f j) z
 |0=>rfl
 |n+1=>by simp only [psum,pv_add,psum_v f z n,sg]
theorem psum_len {f:Nat→List UInt8} {m:Nat}:∀{n:Nat},(∀j,j<n→(f j).length≤m)→(psum f n).length≤m
 |0,_=>by simp [psum]
 |n+1,h=>by
  have ih:=psum_len (f:=f) (m:=m) (n:=n) fun j hj=>h j (by omega)
  have:=h n (by omega)
  simp only [psum,padd_len];omega
theorem ker_rank {n r:Nat} {A:Mx} (hk:∀v:Nat→UInt8,(∀i,i<n→sg n (fun j=>gmul (A i j) (v j))=0)→∀j,j<n→v j=0) (hr:RankIs n n A r):r=n:=by
 refine Nat.le_antisymm hr.le.1 (Nat.not_lt.1 fun hlt=> ?_)
 obtain ⟨B,C,e⟩:=hr.thr
 obtain ⟨v,⟨q,hq,hv⟩,hs⟩:=solve r n C hlt
 refine hv (hk v (fun i hi=> ?_) q hq)
 have e1:sg n (fun j=>gmul (A i j) (v j))=mm n (mm r B C) (fun t _=>v t) i 0:=sg_congr fun t ht=>by rw [e i t hi ht]
 rw [e1,mm_assoc]
 exact sg_zero fun t ht=>by
  have:=hs t ht
  show gmul (B i t) (sg n fun u=>gmul (C t u) (v u))=0
  rw [this,gmul_zero]
theorem piece_ker {n:Nat} {zs ys v:Nat→UInt8} (hz:∀i k,i<n→k<n→zs i=zs k→i=k) (hy:∀i k,i<n→k<n→ys i=ys k→i=k)
  (h:∀i,i<n→(∃a,a<n∧zs i=ys a∧v a=0)∨((∀k,k<n→zs i≠ys k)∧sg n (fun j=>gmul (ginv (zs i^^^ys j)) (v j))=0)):∀j,j<n→v j=0:=fun j hj=>by
 let P:=psum (fun j=>pscale (v j) (prodB ys j n)) n
 have hl:P.length≤n:=psum_len fun j hj=>by unfold pscale;rw [List.length_map,prodB_len,if_pos hj];exact Nat.le_refl n
 have hv:∀z,pv P z=sg n fun j=>gmul (v j) (prodV ys j z n):=fun z=>by
  show pv (psum _ n) z=_
  rw [psum_v];exact sg_congr fun j _=>by rw [pv_scale,prodB_v]
 have hat:∀a,a<n→pv P (ys a)=gmul (v a) (prodV ys a (ys a) n):=fun a ha=>by
  rw [hv]
  have e:sg n (fun l=>gmul (v l) (prodV ys l (ys a) n))=sg n (fun l=>if l=a then gmul (v l) (prodV ys l (ys a) n) else 0):=sg_congr fun l hl=>by
   by_cases h1:l=a
   ·rw [if_pos h1]
   ·rw [if_neg h1,prodV_zero ha (fun hh=>h1 hh.symm) rfl,gmul_zero]
  rw [e,sg_one a (fun l=>gmul (v l) (prodV ys l (ys a) n)),if_pos ha]
 have hroot:∀i,i<n→pv P (zs i)=0:=fun i hi=>by
  rcases h i hi with ⟨a,ha,e,hva⟩|⟨hne,hs⟩
  ·rw [e,hat a ha,hva,zero_gmul]
  ·rw [hv]
   have e:sg n (fun j=>gmul (v j) (prodV ys j (zs i) n))=sg n (fun j=>gmul (prodV ys n (zs i) n) (gmul (ginv (zs i^^^ys j)) (v j))):=sg_congr fun j hj=>by
    rw [prodV_part (hne j hj) hj,gmul_comm (v j),gmul_assoc]
   rw [e,sg_mul,hs,gmul_zero]
 have hnd:((List.range n).map zs).Nodup:=by
  unfold List.Nodup
  rw [List.pairwise_map]
  exact List.Pairwise.imp_of_mem (fun ha hb hab he=>hab (hz _ _ (by simpa using ha) (by simpa using hb) he)) List.nodup_range
 have hz0:=roots_all ((List.range n).map zs) P (by simpa using hl) hnd (fun x hx'=>by
  obtain ⟨i,hi,rfl⟩:=List.mem_map.1 hx'
  exact hroot i (by simpa using hi)) (ys j)
 rw [hat j hj] at hz0
 rcases (gmul_eq_zero _ _).1 hz0 with h1|h1
 ·exact h1
 ·exact absurd h1 (prodV_ne fun l hl hlj hh=>hlj (hy l j hl hj hh.symm))
def genM (n:Nat) (xs ys:Nat→UInt8):Mx:=fun i j=>if i<n then unitM i j else ginv (xs (i - n)^^^ys j)
theorem pieces_whole {n m r:Nat} {xs ys:Nat→UInt8} {at_:Nat→Nat} (hx:∀i k,i<m→k<m→xs i=xs k→i=k) (hy:∀i k,i<n→k<n→ys i=ys k→i=k) (hxy:∀i k,i<m→k<n→xs i≠ys k)
  (ha:∀i,i<n→at_ i<n+m) (hi:∀i k,i<n→k<n→at_ i=at_ k→i=k) (hr:RankIs n n (fun i j=>genM n xs ys (at_ i) j) r):r=n:=by
 refine ker_rank (fun v hv=> ?_) hr
 refine piece_ker (zs:=fun i=>if at_ i<n then ys (at_ i) else xs (at_ i - n)) (ys:=ys) (fun i k hi' hk he=> ?_) hy fun i hi'=> ?_
 ·have a1:=ha i hi';have a2:=ha k hk
  refine hi i k hi' hk ?_
  by_cases h1:at_ i<n<;>by_cases h2:at_ k<n
  ·rw [if_pos h1,if_pos h2] at he;exact hy _ _ h1 h2 he
  ·rw [if_pos h1,if_neg h2] at he;exact absurd he.symm (hxy _ _ (by omega) h1)
  ·rw [if_neg h1,if_pos h2] at he;exact absurd he (hxy _ _ (by omega) h2)
  ·rw [if_neg h1,if_neg h2] at he;have:=hx _ _ (by omega) (by omega) he;omega
 ·have a1:=ha i hi'
  have h0:=hv i hi'
  by_cases h1:at_ i<n
  ·left
   refine ⟨at_ i,h1,if_pos h1, ?_⟩
   have e:sg n (fun j=>gmul (genM n xs ys (at_ i) j) (v j))=mm n unitM (fun t _=>v t) (at_ i) 0:=sg_congr fun t _=>by unfold genM;rw [if_pos h1]
   rw [e,unit_mm (fun t _=>v t) h1] at h0;exact h0
  ·right
   simp only [if_neg h1]
   refine ⟨fun k hk=>hxy _ _ (by omega) hk, ?_⟩
   rw [←h0]
   exact sg_congr fun j _=>by unfold genM;rw [if_neg h1]
theorem sy_zero (a:UInt8):∀p:List UInt8,(∀c,c∈sy a p→c=0)→pv p a=0→∀c,c∈p→c=0
 |[],_,_,c,h=>by simp at h
 |[b],_,h,c,hc=>by
  simp at hc;subst hc
  simpa [pv,gmul_zero] using h
 |b::d::r,hs,h,c,hc=>by
  have h1:pv (d::r) a=0:=hs _ (by simp [sy])
  have ih:=sy_zero a (d::r) (fun x hx=>hs x (by simp only [sy,List.mem_cons];exact .inr hx)) h1
  have e:pv (b::d::r) a=b^^^gmul a (pv (d::r) a):=rfl
  rw [e,h1,gmul_zero,UInt8.xor_zero] at h
  rcases List.mem_cons.1 hc with rfl|hc
  ·exact h
  ·exact ih c hc
theorem roots_coef:∀(xs p:List UInt8),p.length≤xs.length→xs.Nodup→(∀x,x∈xs→pv p x=0)→∀c,c∈p→c=0
 |[],p,hl,_,_,c,hc=>by
  have:p=[]:=List.eq_nil_of_length_eq_zero (by simpa using hl)
  subst this;simp at hc
 |a::xs,p,hl,hn,hr,c,hc=>by
  have ha:=hr a (by simp)
  refine sy_zero a p (roots_coef xs (sy a p) (by rw [sy_len];simp at hl;omega) (List.nodup_cons.1 hn).2 fun b hb=> ?_) ha c hc
  have h1:=sy_is a b p
  rw [hr b (by simp [hb]),ha,UInt8.xor_zero] at h1
  rcases (gmul_eq_zero _ _).1 h1.symm with h2|h2
  ·have:b=a:=xor_zero_iff.1 h2
   subst this;exact absurd hb (List.nodup_cons.1 hn).1
  ·exact h2
def Trimmed (p:List UInt8):Prop:=∀c,p.getLast? =some c→c≠0
theorem padd_zero:∀{p q:List UInt8},Trimmed p→Trimmed q→(∀c,c∈padd p q→c=0)→p=q
 |[],[],_,_,_=>rfl
 |[],b::q,_,hq,h=>by
  exfalso
  have:padd [] (b::q)=b::q:=rfl
  rw [this] at h
  have hl:=List.getLast?_eq_some_getLast (l:=b::q) (by simp)
  exact hq _ hl (h _ (List.getLast_mem _))
 |a::p,[],hp,_,h=>by
  exfalso
  have:padd (a::p) []=a::p:=rfl
  rw [this] at h
  have hl:=List.getLast?_eq_some_getLast (l:=a::p) (by simp)
  exact hp _ hl (h _ (List.getLast_mem _))
 |a::p,b::q,hp,hq,h=>by
  simp only [padd,List.mem_cons] at h
  have hab:a=b:=xor_zero_iff.1 (h _ (.inl rfl))
  have tail:∀{x:UInt8} {l:List UInt8},Trimmed (x::l)→Trimmed l:=fun {x l} ht c hc=>by
   cases l with
   |nil=>simp at hc
   |cons y r=>exact ht c (by rw [List.getLast?_cons_cons];exact hc)
  rw [hab,padd_zero (tail hp) (tail hq) fun c hc=>h c (.inr hc)]
def bytes:List UInt8:=(List.range 256).map UInt8.ofNat
theorem told {p q xs:List UInt8} (hp:Trimmed p) (hq:Trimmed q) (lp:p.length≤xs.length) (lq:q.length≤xs.length) (hn:xs.Nodup) (h:∀x,x∈xs→pv p x=pv q x):p=q:=
 padd_zero hp hq (roots_coef xs (padd p q) (by rw [padd_len];omega) hn fun x hx=>by rw [pv_add,h x hx,UInt8.xor_self])
end Go.Proofs.Ytnbgbknocijjlaa
