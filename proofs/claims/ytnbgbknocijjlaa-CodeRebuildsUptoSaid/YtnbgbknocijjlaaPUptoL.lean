/- The bulk of what was read bounds the length of each list. No condition. -/
import Derived.Test.YtnbgbknocijjlaaPMD
import Derived.Test.YtnbgbknocijjlaaPSxK
import Derived.Test.YtnbgbknocijjlaaPPolE
import Derived.Test.YtnbgbknocijjlaaRows
import Derived.WalkKit
import Derived.Handy
import Derived.ProofKit
import Derived.OpenShut
import Derived.ShutString
import Derived.ChangeOld
import Derived.Below
import Derived.Lib.Hide
import Derived.WalkLawsBesides
import Derived.WalkSpells
import Derived.Deep.QuietTactic
import Derived.BigQuiet
set_option linter.unusedSimpArgs false
set_option linter.unusedVariables false
set_option maxHeartbeats 4000000
set_option maxRecDepth 100000
namespace Go.Proofs.Ytnbgbknocijjlaa
open Go.RowKit
theorem clear_vc (cols:Int) (KI:RwL) (AI:ArL) (Q:Int→RwL→ArL→Prop) (h0:ClI 0 0 cols KI AI 0 0 cols KI AI) (hQ:∀d K A,0≤d→(∃m:Nat,Mt A K KI.length m∧cols≤m)→clrL cols.toNat (vw AI KI) 0 0=(vw A K,d.toNat)→Q d K A):
 ClI (0:Int) (0:Int) cols KI AI (0:Int) (0:Int) cols KI AI∧∀(x x_3 x_4:Int) (x_5:List (Row UInt8)) (x_6:List (Nat×List UInt8)),ClI (0:Int) (0:Int) cols KI AI x x_3 x_4 x_5 x_6→(x<cols→((0:Int)≤x_3∧x_3≤(↑x_5.length:Int))∧IxI (0:Int) (x_3.toNat,(↑x_5.length:Int).toNat - x_3.toNat) x x_5 x_6 (0:Int) (x_3.toNat,(↑x_5.length:Int).toNat - x_3.toNat) x x_5 x_6∧∀(x_7:Int) (x_8:Nat×Nat) (x_9:Int) (x_10:List (Row UInt8)) (x_11:List (Nat×List UInt8)),IxI (0:Int) (x_3.toNat,(↑x_5.length:Int).toNat - x_3.toNat) x x_5 x_6 x_7 x_8 x_9 x_10 x_11→(x_7<(↑((↑x_5.length:Int).toNat - x_3.toNat):Int)→((0:Int)≤x_7∧x_7<(↑x_8.snd:Int))∧x_8.fst+x_7.toNat<x_10.length∧(gd (Row.no UInt8) x_10 (x_8.fst+x_7.toNat)).ok x_11∧(gd (Row.no UInt8) x_10 (x_8.fst+x_7.toNat)).kd≠RK.nil∧((0:Int)≤x_9∧x_9<(↑((gd (Row.no UInt8) x_10 (x_8.fst+x_7.toNat)).get x_11).length:Int))∧(decide (gd (0:UInt8) ((gd (Row.no UInt8) x_10 (x_8.fst+x_7.toNat)).get x_11) x_9.toNat≠(0:UInt8))=true→(x_7<(0:Int)→I64 (x+(1:Int))∧ClI (0:Int) (0:Int) cols KI AI (x+(1:Int)) x_3 x_4 x_10 x_11∧(x_4 - (x+(1:Int))).toNat<(x_4 - x).toNat)∧((0:Int)≤x_7→I64 (x_3+x_7)∧I64 (x_3+x_7)∧((0:Int)≤x_3+x_7∧x_3+x_7<(↑x_10.length:Int))∧(x_3+x_7).toNat<x_10.length∧((0:Int)≤x_3∧x_3<(↑x_10.length:Int))∧x_3.toNat<x_10.length∧((0:Int)≤x_3∧x_3<(↑x_10.length:Int))∧x_3.toNat<x_10.length∧((0:Int)≤x_3+x_7∧x_3+x_7<(↑(x_10.set x_3.toNat (gd (Row.no UInt8) x_10 (x_3+x_7).toNat)).length:Int))∧(x_3+x_7).toNat<(x_10.set x_3.toNat (gd (Row.no UInt8) x_10 (x_3+x_7).toNat)).length∧((0:Int)≤x_3∧x_3<(↑((x_10.set x_3.toNat (gd (Row.no UInt8) x_10 (x_3+x_7).toNat)).set (x_3+x_7).toNat (gd (Row.no UInt8) x_10 x_3.toNat)).length:Int))∧x_3.toNat<((x_10.set x_3.toNat (gd (Row.no UInt8) x_10 (x_3+x_7).toNat)).set (x_3+x_7).toNat (gd (Row.no UInt8) x_10 x_3.toNat)).length∧(gd (Row.no UInt8) ((x_10.set x_3.toNat (gd (Row.no UInt8) x_10 (x_3+x_7).toNat)).set (x_3+x_7).toNat (gd (Row.no UInt8) x_10 x_3.toNat)) x_3.toNat).ok x_11∧((0:Int)≤x_9∧x_9<(↑((gd (Row.no UInt8) ((x_10.set x_3.toNat (gd (Row.no UInt8) x_10 (x_3+x_7).toNat)).set (x_3+x_7).toNat (gd (Row.no UInt8) x_10 x_3.toNat)) x_3.toNat).get x_11).length:Int))∧(gd (Row.no UInt8) ((x_10.set x_3.toNat (gd (Row.no UInt8) x_10 (x_3+x_7).toNat)).set (x_3+x_7).toNat (gd (Row.no UInt8) x_10 x_3.toNat)) x_3.toNat).ok x_11∧x_9.toNat<((gd (Row.no UInt8) ((x_10.set x_3.toNat (gd (Row.no UInt8) x_10 (x_3+x_7).toNat)).set (x_3+x_7).toNat (gd (Row.no UInt8) x_10 x_3.toNat)) x_3.toNat).get x_11).length∧True∧((0:Int)≤x_3∧x_3<(↑((x_10.set x_3.toNat (gd (Row.no UInt8) x_10 (x_3+x_7).toNat)).set (x_3+x_7).toNat (gd (Row.no UInt8) x_10 x_3.toNat)).length:Int))∧x_3.toNat<((x_10.set x_3.toNat (gd (Row.no UInt8) x_10 (x_3+x_7).toNat)).set (x_3+x_7).toNat (gd (Row.no UInt8) x_10 x_3.toNat)).length∧(gd (Row.no UInt8) ((x_10.set x_3.toNat (gd (Row.no UInt8) x_10 (x_3+x_7).toNat)).set (x_3+x_7).toNat (gd (Row.no UInt8) x_10 x_3.toNat)) x_3.toNat).ok x_11∧ScI (0:Int) x_3 (invN (gd (0:UInt8) ((gd (Row.no UInt8) ((x_10.set x_3.toNat (gd (Row.no UInt8) x_10 (x_3+x_7).toNat)).set (x_3+x_7).toNat (gd (Row.no UInt8) x_10 x_3.toNat)) x_3.toNat).get x_11) x_9.toNat)) ((x_10.set x_3.toNat (gd (Row.no UInt8) x_10 (x_3+x_7).toNat)).set (x_3+x_7).toNat (gd (Row.no UInt8) x_10 x_3.toNat)) x_11 (0:Int) x_3 (invN (gd (0:UInt8) ((gd (Row.no UInt8) ((x_10.set x_3.toNat (gd (Row.no UInt8) x_10 (x_3+x_7).toNat)).set (x_3+x_7).toNat (gd (Row.no UInt8) x_10 x_3.toNat)) x_3.toNat).get x_11) x_9.toNat)) ((x_10.set x_3.toNat (gd (Row.no UInt8) x_10 (x_3+x_7).toNat)).set (x_3+x_7).toNat (gd (Row.no UInt8) x_10 x_3.toNat)) x_11∧∀(x_12 x_13:Int) (x_14:UInt8) (x_15:List (Row UInt8)) (x_16:List (Nat×List UInt8)),ScI (0:Int) x_3 (invN (gd (0:UInt8) ((gd (Row.no UInt8) ((x_10.set x_3.toNat (gd (Row.no UInt8) x_10 (x_3+x_7).toNat)).set (x_3+x_7).toNat (gd (Row.no UInt8) x_10 x_3.toNat)) x_3.toNat).get x_11) x_9.toNat)) ((x_10.set x_3.toNat (gd (Row.no UInt8) x_10 (x_3+x_7).toNat)).set (x_3+x_7).toNat (gd (Row.no UInt8) x_10 x_3.toNat)) x_11 x_12 x_13 x_14 x_15 x_16→(x_12<(↑((gd (Row.no UInt8) ((x_10.set x_3.toNat (gd (Row.no UInt8) x_10 (x_3+x_7).toNat)).set (x_3+x_7).toNat (gd (Row.no UInt8) x_10 x_3.toNat)) x_3.toNat).get x_11).length:Int)→((0:Int)≤x_13∧x_13<(↑x_15.length:Int))∧x_13.toNat<x_15.length∧((0:Int)≤x_13∧x_13<(↑x_15.length:Int))∧x_13.toNat<x_15.length∧(gd (Row.no UInt8) x_15 x_13.toNat).ok x_16∧((0:Int)≤x_12∧x_12<(↑((gd (Row.no UInt8) x_15 x_13.toNat).get x_16).length:Int))∧(gd (Row.no UInt8) x_15 x_13.toNat).ok x_16∧x_12.toNat<((gd (Row.no UInt8) x_15 x_13.toNat).get x_16).length∧True∧(gd (Row.no UInt8) x_15 x_13.toNat).ok x_16∧((0:Int)≤x_12∧x_12<(↑((gd (Row.no UInt8) x_15 x_13.toNat).get x_16).length:Int))∧(gd (Row.no UInt8) x_15 x_13.toNat).mine x_16∧x_12.toNat<((gd (Row.no UInt8) x_15 x_13.toNat).get x_16).length∧I64 (x_12+(1:Int))∧ScI (0:Int) x_3 (invN (gd (0:UInt8) ((gd (Row.no UInt8) ((x_10.set x_3.toNat (gd (Row.no UInt8) x_10 (x_3+x_7).toNat)).set (x_3+x_7).toNat (gd (Row.no UInt8) x_10 x_3.toNat)) x_3.toNat).get x_11) x_9.toNat)) ((x_10.set x_3.toNat (gd (Row.no UInt8) x_10 (x_3+x_7).toNat)).set (x_3+x_7).toNat (gd (Row.no UInt8) x_10 x_3.toNat)) x_11 (x_12+(1:Int)) x_13 x_14 x_15 (((gd (Row.no UInt8) x_15 x_13.toNat).id,((gd (Row.no UInt8) x_15 x_13.toNat).get x_16).set x_12.toNat (gmul (gd (0:UInt8) ((gd (Row.no UInt8) x_15 x_13.toNat).get x_16) x_12.toNat) x_14))::x_16)∧((↑(lkA x_11 (rAt x_15 x_13).id).length:Int) - (x_12+(1:Int))).toNat<((↑(lkA x_11 (rAt x_15 x_13).id).length:Int) - x_12).toNat)∧((↑((gd (Row.no UInt8) ((x_10.set x_3.toNat (gd (Row.no UInt8) x_10 (x_3+x_7).toNat)).set (x_3+x_7).toNat (gd (Row.no UInt8) x_10 x_3.toNat)) x_3.toNat).get x_11).length:Int)≤x_12→OfI (0:Int) x x_3 x_15 x_16 (0:Int) x x_3 x_15 x_16∧∀(x_17 x_18 x_19:Int) (x_20:List (Row UInt8)) (x_21:List (Nat×List UInt8)),OfI (0:Int) x x_3 x_15 x_16 x_17 x_18 x_19 x_20 x_21→(x_17<(↑x_15.length:Int)→(¬x_17=x_19→((0:Int)≤x_17∧x_17<(↑x_20.length:Int))∧x_17.toNat<x_20.length∧(gd (Row.no UInt8) x_20 x_17.toNat).ok x_21∧((0:Int)≤x_9∧x_9<(↑((gd (Row.no UInt8) x_20 x_17.toNat).get x_21).length:Int))∧(gd (Row.no UInt8) x_20 x_17.toNat).ok x_21∧x_9.toNat<((gd (Row.no UInt8) x_20 x_17.toNat).get x_21).length∧((0:Int)≤x_19∧x_19<(↑x_20.length:Int))∧x_19.toNat<x_20.length∧(gd (Row.no UInt8) x_20 x_19.toNat).ok x_21∧AdI (0:Int) x_17 x_19 (gd (0:UInt8) ((gd (Row.no UInt8) x_20 x_17.toNat).get x_21) x_9.toNat) x_20 x_21 (0:Int) x_17 x_19 (gd (0:UInt8) ((gd (Row.no UInt8) x_20 x_17.toNat).get x_21) x_9.toNat) x_20 x_21∧∀(x_22 x_23 x_24:Int) (x_25:UInt8) (x_26:List (Row UInt8)) (x_27:List (Nat×List UInt8)),AdI (0:Int) x_17 x_19 (gd (0:UInt8) ((gd (Row.no UInt8) x_20 x_17.toNat).get x_21) x_9.toNat) x_20 x_21 x_22 x_23 x_24 x_25 x_26 x_27→(x_22<(↑((gd (Row.no UInt8) x_20 x_19.toNat).get x_21).length:Int)→(gd (Row.no UInt8) x_20 x_19.toNat).ok x_27∧((0:Int)≤x_22∧x_22<(↑((gd (Row.no UInt8) x_20 x_19.toNat).get x_27).length:Int))∧(gd (Row.no UInt8) x_20 x_19.toNat).ok x_27∧x_22.toNat<((gd (Row.no UInt8) x_20 x_19.toNat).get x_27).length∧((0:Int)≤x_23∧x_23<(↑x_26.length:Int))∧x_23.toNat<x_26.length∧(gd (Row.no UInt8) x_26 x_23.toNat).ok x_27∧((0:Int)≤x_22∧x_22<(↑((gd (Row.no UInt8) x_26 x_23.toNat).get x_27).length:Int))∧(gd (Row.no UInt8) x_26 x_23.toNat).ok x_27∧x_22.toNat<((gd (Row.no UInt8) x_26 x_23.toNat).get x_27).length∧True∧(gd (Row.no UInt8) x_26 x_23.toNat).ok x_27∧((0:Int)≤x_22∧x_22<(↑((gd (Row.no UInt8) x_26 x_23.toNat).get x_27).length:Int))∧(gd (Row.no UInt8) x_26 x_23.toNat).mine x_27∧x_22.toNat<((gd (Row.no UInt8) x_26 x_23.toNat).get x_27).length∧I64 (x_22+(1:Int))∧AdI (0:Int) x_17 x_19 (gd (0:UInt8) ((gd (Row.no UInt8) x_20 x_17.toNat).get x_21) x_9.toNat) x_20 x_21 (x_22+(1:Int)) x_23 x_24 x_25 x_26 (((gd (Row.no UInt8) x_26 x_23.toNat).id,((gd (Row.no UInt8) x_26 x_23.toNat).get x_27).set x_22.toNat (gd (0:UInt8) ((gd (Row.no UInt8) x_26 x_23.toNat).get x_27) x_22.toNat^^^gmul x_25 (gd (0:UInt8) ((gd (Row.no UInt8) x_20 x_19.toNat).get x_27) x_22.toNat)))::x_27)∧((↑(lkA x_21 (rAt x_26 x_24).id).length:Int) - (x_22+(1:Int))).toNat<((↑(lkA x_21 (rAt x_26 x_24).id).length:Int) - x_22).toNat)∧((↑((gd (Row.no UInt8) x_20 x_19.toNat).get x_21).length:Int)≤x_22→I64 (x_17+(1:Int))∧OfI (0:Int) x x_3 x_15 x_16 (x_17+(1:Int)) x_18 x_19 x_26 x_27∧((↑x_26.length:Int) - (x_17+(1:Int))).toNat<((↑x_20.length:Int) - x_17).toNat))∧(x_17=x_19→I64 (x_17+(1:Int))∧OfI (0:Int) x x_3 x_15 x_16 (x_17+(1:Int)) x_18 x_19 x_20 x_21∧((↑x_20.length:Int) - (x_17+(1:Int))).toNat<((↑x_20.length:Int) - x_17).toNat))∧((↑x_15.length:Int)≤x_17→I64 (x_19+(1:Int))∧(x_19+(1:Int)=(↑x_20.length:Int)→Q (x_19+(1:Int)) x_20 x_21)∧(¬x_19+(1:Int)=(↑x_20.length:Int)→I64 (x_18+(1:Int))∧ClI (0:Int) (0:Int) cols KI AI (x_18+(1:Int)) (x_19+(1:Int)) x_4 x_20 x_21∧(x_4 - (x_18+(1:Int))).toNat<(x_4 - x).toNat)))))∧(decide (gd (0:UInt8) ((gd (Row.no UInt8) x_10 (x_8.fst+x_7.toNat)).get x_11) x_9.toNat≠(0:UInt8))=false→I64 (x_7+(1:Int))∧IxI (0:Int) (x_3.toNat,(↑x_5.length:Int).toNat - x_3.toNat) x x_5 x_6 (x_7+(1:Int)) x_8 x_9 x_10 x_11∧((↑x_8.snd:Int) - (x_7+(1:Int))).toNat<((↑x_8.snd:Int) - x_7).toNat))∧((↑((↑x_5.length:Int).toNat - x_3.toNat):Int)≤x_7→I64 (x+(1:Int))∧ClI (0:Int) (0:Int) cols KI AI (x+(1:Int)) x_3 x_4 x_10 x_11∧(x_4 - (x+(1:Int))).toNat<(x_4 - x).toNat))∧(cols≤x→Q (x_3) x_5 x_6):=by
 refine ⟨h0,fun c d cols' K A hI=> ?_⟩
 obtain ⟨c0,c1,ec,hcb,d0,d1,el,elb,⟨m,hM,hm,hmb⟩,hclr⟩:=hI
 subst ec
 refine ⟨fun hc=> ?_,fun hc=> ?_⟩
 case refine_2=>
  refine hQ d K A d0 ⟨m,by rw [←el];exact hM,hm⟩ ?_
  rw [←hclr,show (cols' - c).toNat=0 by omega];rfl
 have hML:(vw A K).length=K.length:=vw_len
 have hstep:(cols' - c).toNat=(cols' - (c+1)).toNat+1:=by omega
 have hc1:(c+1).toNat=c.toNat+1:=by omega
 have hd1:(d+1).toNat=d.toNat+1:=by omega
 refine ⟨⟨d0,by omega⟩,⟨Int.le_refl _,by simp,rfl,rfl,rfl,rfl,fun j hj=>by simp at hj⟩,fun k s cc K' A' hX=> ?_⟩
 obtain ⟨k0,k1,es,ecc,eK,eA,hz⟩:=hX
 subst es;subst ecc;subst eK;subst eA
 have hz2:∀j,j<k.toNat→gd 0 (gd [] (vw A' K') (d.toNat+j)) cc.toNat=0:=fun j hj=>by
  have:=hz j hj
  simp only at this k1
  rw [(hM.at (i:=d.toNat+j) (by omega)).2.2.1] at this
  exact this
 simp only at k1 hz
 refine ⟨fun hk=> ?_,fun hk=> ?_⟩
 case refine_2=>
  refine ⟨⟨by omega,by omega⟩,⟨by omega,by omega,rfl,hcb,d0,d1,el,elb,⟨m,hM,hm,hmb⟩, ?_⟩,by omega⟩
  rw [←hclr,hstep,hc1]
  show _=(match findR (vw A' K') cc.toNat d.toNat ((vw A' K').length - d.toNat) with
   |none=>_
   |some i0=>_)
  rw [findR_no (fun j hj=>hz2 j (by rw [hML] at hj;omega))]
 have hi:d.toNat+k.toNat<K'.length:=by omega
 have hik:(d+k).toNat=d.toNat+k.toNat:=by omega
 obtain ⟨a1,a2,a3,a4,a5⟩:=hM.at hi
 refine ⟨⟨k0,by omega⟩,hi,a2,a5,⟨c0,by rw [a4];omega⟩,fun hne=>⟨fun hneg=>absurd k0 (by omega),fun _=> ?_⟩,fun hne=> ?_⟩
 case refine_2=>
  refine ⟨⟨by omega,by omega⟩,⟨by omega,by simp only;omega,rfl,rfl,rfl,rfl,fun j hj=> ?_⟩,by simp only;omega⟩
  by_cases hjk:j<k.toNat
  ·exact hz j hjk
  ·have:j=k.toNat:=by omega
   subst this
   have:=of_decide_eq_false hne
   exact Classical.not_not.1 this
 have hne:=of_decide_eq_true hne
 rw [a3] at hne
 have hfind:findR (vw A' K') cc.toNat d.toNat ((vw A' K').length - d.toNat)=some (d.toNat+k.toNat):=findR_at hz2 hne (by rw [hML];omega)
 obtain ⟨hMs,hvs⟩:=hM.swap (d:=d.toNat) (i:=(d+k).toNat) (by omega) (by omega)
 generalize hZ:(K'.set d.toNat (gd (Row.no UInt8) K' (d+k).toNat)).set (d+k).toNat (gd (Row.no UInt8) K' d.toNat)=Z at hMs hvs ⊢
 have hZl:Z.length=K'.length:=by rw [←hZ];simp
 have hdz:d.toNat<K'.length:=by omega
 obtain ⟨b1,b2,b3,b4,b5⟩:=hMs.at hdz
 have hbz:(d.toNat:Int)<(Z.length:Int):=by omega
 refine ⟨⟨by omega,by omega⟩,⟨by omega,by omega⟩,⟨by omega,by omega⟩,by omega,⟨d0,by omega⟩,hdz,⟨d0,by omega⟩,hdz,⟨by omega,by rw [List.length_set];omega⟩,by rw [List.length_set];omega,⟨d0,by omega⟩,by omega,b2,⟨c0,by rw [b4];omega⟩,b2,by rw [b4];omega,trivial,⟨d0,by omega⟩,by omega,b2,⟨Int.le_refl _,rfl,rfl,rfl,d0,by omega, ?_,by omega⟩,fun k2 i f K3 A3 hS=> ?_⟩
 ·show RowR A' A' (gd (Row.no UInt8) Z d.toNat) (scTo _ _ 0)
  rw [scTo_zero];exact RowR.start b1
 obtain ⟨q0,eqi,eqf,eqK,q1,q2,hR,q3⟩:=hS
 subst eqi;subst eqK
 have hR:RowR A' A3 (gd (Row.no UInt8) K3 i.toNat) (scTo (lkA A' (gd (Row.no UInt8) K3 i.toNat).id) f k2.toNat):=hR
 have q3:k2≤((lkA A' (gd (Row.no UInt8) K3 i.toNat).id).length:Int):=q3
 have hrl:=b1.get.1
 rw [hrl] at b3 b4
 rw [b4] at q3
 have hg3:=hR.mine.get
 rw [hR.get] at hg3
 have hl3:((gd (Row.no UInt8) K3 i.toNat).get A3).length=m:=by rw [hg3.1,scTo_len,b4]
 have hfe:f=invN (gd 0 (lkA A' (gd (Row.no UInt8) K3 i.toNat).id) cc.toNat):=by rw [eqf,hrl]
 rw [←eqf,hrl,b4,hl3,hg3.1]
 refine ⟨fun hk2=> ?_,fun hk2=> ?_⟩
 ·refine ⟨⟨q1,by omega⟩,by omega,⟨q1,by omega⟩,by omega,hR.mine.ok,⟨q0,by omega⟩,hR.mine.ok,by omega,trivial,hR.mine.ok,⟨q0,by omega⟩,hR.mine,by omega,⟨by omega,by omega⟩,⟨by omega,rfl,rfl,rfl,q1,q2, ?_,by show k2+1≤((lkA A' (gd (Row.no UInt8) K3 i.toNat).id).length:Int);omega⟩,by omega⟩
  rw [scTo_step (by omega),show k2.toNat+1=(k2+1).toNat by omega]
  exact hR.put (by rw [scTo_len,scTo_len])
 rw [scTo_end (by omega)] at hR
 obtain ⟨hM3,hv3⟩:=hMs.put hdz hR (by simp [scaleL,b4])
 have hrow:gd [] (swapL (vw A' K') i.toNat (i.toNat+k.toNat)) i.toNat=lkA A' (gd (Row.no UInt8) K3 i.toNat).id:=by rw [←vw_gd hMs hdz,hvs,hik]
 have hent:gd 0 (lkA A' (gd (Row.no UInt8) K3 i.toNat).id) cc.toNat≠0:=by
  rw [←hrow,swapL_row hM.rect hdz hi,if_pos rfl];exact hne
 have hone:vw A3 K3=oneL (swapL (vw A' K') i.toNat (i.toNat+k.toNat)) cc.toNat i.toNat:=by
  unfold oneL
  rw [hv3,hfe,invN_ne hent,hrow,hvs,hik]
 refine ⟨⟨Int.le_refl _,by omega,rfl,rfl,rfl,⟨m,by rw [hZl];exact hM3,by rw [hZl];exact hM3,by omega,hmb⟩,offTo_zero.symm⟩,fun k3 c2 d2 K4 A4 hO=> ?_⟩
 obtain ⟨p0,p1,ec2,ed2,eK4,⟨m',hMa,hMb,hcm,hmb'⟩,hv4⟩:=hO
 subst ec2;subst ed2;subst eK4
 have hl4:K4.length=K'.length:=hZl
 rw [hl4] at hMa hMb p1
 have hM3l:(vw A3 K4).length=K'.length:=by rw [vw_len,hl4]
 rw [hl4]
 refine ⟨fun hk3=>⟨fun hkd=> ?_,fun hkd=> ?_⟩,fun hk3=> ?_⟩
 ·have hkt:k3.toNat<K'.length:=by omega
  have hkn:k3.toNat≠d2.toNat:=fun e=>hkd (by omega)
  obtain ⟨e1,e2,e3,e4,e5⟩:=hMb.at hkt
  obtain ⟨g1,g2,g3,g4,g5⟩:=hMb.at hdz
  have el1:=(hMb.row _ hkt).2
  have el2:=(hMb.row _ hdz).2
  refine ⟨⟨p0,by omega⟩,by omega,e2,⟨c0,by rw [e4];omega⟩,e2,by rw [e4];omega,⟨d0,by omega⟩,by omega,g2,⟨Int.le_refl _,rfl,rfl,rfl,rfl,p0,by omega,d0,by omega,fun e=>hkn (hMb.inj _ _ hdz hkt e).symm,g1,by show (lkA A4 (gd (Row.no UInt8) K4 d2.toNat).id).length=(lkA A4 (gd (Row.no UInt8) K4 k3.toNat).id).length;rw [el1,el2], ?_,by omega⟩,fun k5 t s f5 K5 A5 hA=> ?_⟩
  ·show RowR A4 A4 (gd (Row.no UInt8) K4 k3.toNat) (adTo _ _ _ 0)
   rw [adTo_zero];exact RowR.start e1
  obtain ⟨r0,et,es,ef,eK5,t0,t1,s0,s1,hidn,hsm,hsl,hR5,r3⟩:=hA
  subst et;subst es;subst eK5
  have hidn:(gd (Row.no UInt8) K5 s.toNat).id≠(gd (Row.no UInt8) K5 t.toNat).id:=hidn
  have hR5:RowR A4 A5 (gd (Row.no UInt8) K5 t.toNat) (adTo (lkA A4 (gd (Row.no UInt8) K5 t.toNat).id) (lkA A4 (gd (Row.no UInt8) K5 s.toNat).id) f5 k5.toNat):=hR5
  have r3:k5≤((lkA A4 (gd (Row.no UInt8) K5 s.toNat).id).length:Int):=r3
  have hql:(lkA A4 (gd (Row.no UInt8) K5 s.toNat).id).length=(lkA A4 (gd (Row.no UInt8) K5 t.toNat).id).length:=by rw [el1,el2]
  have hq:lkA A5 (gd (Row.no UInt8) K5 s.toNat).id=lkA A4 (gd (Row.no UInt8) K5 s.toNat).id:=hR5.lk _ hidn
  have hs5:(gd (Row.no UInt8) K5 s.toNat).mine A5:=⟨g1.1,(hR5.has _ hidn).2 g1.2.1,by rw [hq];exact g1.2.2⟩
  have hgs:=hs5.get.1
  rw [hq] at hgs
  have hgt:=hR5.mine.get
  rw [hR5.get] at hgt
  have hlt5:((gd (Row.no UInt8) K5 t.toNat).get A5).length=m':=by rw [hgt.1,adTo_len hql,el1]
  have hls5:((gd (Row.no UInt8) K5 s.toNat).get A5).length=m':=by rw [hgs,el2]
  rw [el2] at r3
  rw [g4,hlt5,hls5,hgt.1,hgs]
  refine ⟨fun hk5=> ?_,fun hk5=> ?_⟩
  ·refine ⟨hs5.ok,⟨r0,hk5⟩,hs5.ok,by omega,⟨t0,t1⟩,by omega,hR5.mine.ok,⟨r0,hk5⟩,hR5.mine.ok,by omega,trivial,hR5.mine.ok,⟨r0,hk5⟩,hR5.mine,by omega,⟨by omega,by omega⟩,⟨by omega,rfl,rfl,ef,rfl,t0,t1,s0,s1,hidn,g1,hql, ?_, ?_⟩, ?_⟩
   ·rw [adTo_step hql (by omega),show k5.toNat+1=(k5+1).toNat by omega]
    exact hR5.put (by rw [adTo_len hql,adTo_len hql])
   ·show k5+1≤((lkA A4 (gd (Row.no UInt8) K5 s.toNat).id).length:Int)
    omega
   ·show (((lkA A4 (gd (Row.no UInt8) K5 s.toNat).id).length:Int) - (k5+1)).toNat<(((lkA A4 (gd (Row.no UInt8) K5 s.toNat).id).length:Int) - k5).toNat
    omega
  ·rw [adTo_end hql (by omega)] at hR5
   obtain ⟨hM5,hv5⟩:=hMb.put hkt hR5 (by rw [addL_len hql.symm];exact el1)
   refine ⟨⟨by omega,by omega⟩,⟨by omega,by omega,rfl,rfl,rfl,⟨m',hl4▸hMa,hl4▸hM5,hcm,hmb'⟩, ?_⟩,by omega⟩
   have et1:lkA A4 (gd (Row.no UInt8) K5 t.toNat).id=gd [] (vw A3 K5) t.toNat:=by rw [←vw_gd hMb hkt,hv4,offTo_gd (by omega),if_neg (by omega)]
   have es1:lkA A4 (gd (Row.no UInt8) K5 s.toNat).id=gd [] (vw A3 K5) s.toNat:=by rw [←vw_gd hMb hdz,hv4,offTo_gd (by omega),if_neg (by omega)]
   rw [hv5,hv4,ef,e1.get.1,et1,es1,offTo_step (by omega) hkn,show t.toNat+1=(t+1).toNat by omega]
 ·refine ⟨⟨by omega,by omega⟩,⟨by omega,by omega,rfl,rfl,rfl,⟨m',hl4▸hMa,hl4▸hMb,hcm,hmb'⟩, ?_⟩,by omega⟩
  rw [hv4,hkd,hd1,offTo_same]
 ·have hend:vw A4 K4=pivL (vw A' K') c2.toNat d2.toNat (d2.toNat+k.toNat):=by
   unfold pivL
   rw [hv4,offTo_end (by omega),hone]
  have hun:clrL (cols' - c2).toNat (vw A' K') c2.toNat d2.toNat=if d2.toNat+1=(vw A' K').length then (vw A4 K4,d2.toNat+1) else clrL (cols' - (c2+1)).toNat (vw A4 K4) (c2+1).toNat (d2+1).toNat:=by
   rw [hstep,hc1,hd1,hend]
   show (match findR (vw A' K') c2.toNat d2.toNat ((vw A' K').length - d2.toNat) with
    |none=>_
    |some i0=>_)=_
   rw [hfind]
  refine ⟨⟨by omega,by omega⟩,fun hq=> ?_,fun hq=>⟨⟨by omega,by omega⟩,⟨by omega,by omega,rfl,hcb,by omega,by omega,by omega,by omega,⟨m',by rw [hl4];exact hMb, ?_,hmb'⟩, ?_⟩,by omega⟩⟩
  ·refine hQ _ _ _ (by omega) ⟨m',by rw [←el];exact hMb, ?_⟩ ?_
   ·have q1:=(hM3.row _ hdz).2
    have q2:=(hMa.row _ hdz).2
    omega
   ·rw [←hclr,hun,if_pos (by rw [hML];omega),hd1]
  ·have q1:=(hM3.row _ hdz).2
   have q2:=(hMa.row _ hdz).2
   omega
  ·rw [←hclr,hun,if_neg (by rw [hML];omega)]
open Go.RowKit
theorem FillI.mt {A:ArL} {K:RwL} {i m n:Int} {f:Nat→Nat→UInt8} (h:FillI A K i m n f) (hi:m≤i) (hm:0≤m):Mt A K K.length n.toNat:=by
 have hl:=h.len
 refine ⟨rfl,fun j hj=> ?_,fun j k hj hk e=>h.inj j k (by omega) (by omega) e⟩
 obtain ⟨q1,q2,q3⟩:=h.row j (by omega)
 exact ⟨q1,by rw [q3];simp⟩
theorem FillI.vw {A:ArL} {K:RwL} {i m n:Int} {f:Nat→Nat→UInt8} (h:FillI A K i m n f) (hi:m≤i) (hm:0≤m):Proofs.Ytnbgbknocijjlaa.vw A K=fillL m n f:=(h.fin hi hm).2
theorem ClI.start {A:ArL} {K:RwL} {i m n cols:Int} {f:Nat→Nat→UInt8} (h:FillI A K i m n f) (hi:m≤i) (hm:0<m∧m≤1000) (hn:0≤cols∧cols≤n∧n≤1000):ClI 0 0 cols K A 0 0 cols K A:=by
 have hl:=h.len
 exact ⟨Int.le_refl _,hn.1,rfl,by omega,Int.le_refl _,by omega,rfl,by omega,⟨n.toNat,h.mt hi (by omega),by omega,by omega⟩,by rw [Int.sub_zero];rfl⟩
open Go.RowKit
def fB (a:List (List UInt8)) (n i k:Nat):UInt8:=if k<n then gd 0 (gd [] a i) k else if k - n=i then 1 else 0
def fI (b:List (List UInt8)) (n i k:Nat):UInt8:=gd 0 (gd [] b i) (n+k)
def clI (a:List (List UInt8)):List (List UInt8)×Nat:=clrL a.length (fillL a.length (2*(a.length:Int)) (fB a a.length)) 0 0
def invL (a:List (List UInt8)):List (List UInt8)×Int:=
 if mchk a≠0 then ([],mchk a) else if a.length≠(gd [] a 0).length then ([],1) else if (clI a).2<a.length then ([],5) else (fillL a.length a.length (fI (clI a).1 a.length),0)
theorem clI_rect {a:List (List UInt8)} (h:0<a.length):Rect a.length (2*(a.length:Int)).toNat (clI a).1:=by
 have hr:Rect a.length (2*(a.length:Int)).toNat (fillL a.length (2*(a.length:Int)) (fB a a.length)):=by
  have:=fill_rect (m:=(a.length:Int)) (n:=2*(a.length:Int)) (f:=fB a a.length)
  rw [Int.toNat_natCast] at this
  exact this
 exact (clr_law a.length _ 0 0 _ hr (RE.refl a.length _) (ech_start a.length _) h).1
theorem fB_v {a:List (List UInt8)} {i k:Int} (hi:0≤i) (hk:0≤k):((if k<(a.length:Int) then gd 0 (gd [] a i.toNat) k.toNat else if k - (a.length:Int)=i then 1 else 0):UInt8)=fB a a.length i.toNat k.toNat:=by
 unfold fB
 by_cases h:k<((a.length:Nat):Int)
 ·have h2:k.toNat<a.length:=by omega
  rw [if_pos h,if_pos h2]
 ·have h2:¬k.toNat<a.length:=by omega
  rw [if_neg h,if_neg h2]
  by_cases h3:k - (a.length:Int)=i
  ·have h4:k.toNat - a.length=i.toNat:=by omega
   rw [if_pos h3,if_pos h4]
  ·have h4:¬k.toNat - a.length=i.toNat:=by omega
   rw [if_neg h3,if_neg h4]
theorem Mt.frz {A:ArL} {K:RwL} {n m:Nat} (h:Mt A K n m):∀r,r∈K→r.ok A∧r.kd≠RK.nil:=by
 intro r hr
 obtain ⟨i,hi,rfl⟩:=List.mem_iff_getElem.1 hr
 have e:gd (Row.no UInt8) K i=K[i]:=by unfold gd;rw [List.getElem?_eq_getElem hi];rfl
 have hm:=(h.row i (by rw [←h.len];exact hi)).1
 rw [e] at hm
 exact ⟨Row.mine.ok hm,by rw [hm.1];intro e;cases e⟩
def k_48:Con Tc Tc.dn:=⟨48,[.ty .cInt, .ty .cInt, .ptr .cInt, .ptr .llU8],fun x=>(fun (i:Int) (k:Int) (n:Int) (a:(List (List UInt8)))=>0≤i∧i<a.length∧0≤k∧0≤n∧n≤1000∧k≤2000∧n≤(gd [] a i.toNat).length) x.1 x.2.1 x.2.2.1 x.2.2.2.1,[.cU8],fun x=>(fun (i:Int) (k:Int) (n:Int) (a:(List (List UInt8)))=>if k<n then gd 0 (gd [] a i.toNat) k.toNat else if k - n=i then 1 else 0) x.1 x.2.1 x.2.2.1 x.2.2.2.1⟩
theorem k_48_v (i:Int) (k:Int) (n:Int) (a:(List (List UInt8))) (hp:0≤i∧i<a.length∧0≤k∧0≤n∧n≤1000∧k≤2000∧n≤(gd [] a i.toNat).length):(k<n→((0:Int)≤i∧i<(↑a.length:Int))∧((0:Int)≤k∧k<(↑(gd [] a i.toNat).length:Int))∧gd (0:UInt8) (gd [] a i.toNat) k.toNat=if k<n then gd (0:UInt8) (gd [] a i.toNat) k.toNat else if k - n=i then (1:UInt8) else (0:UInt8))∧(n≤k→I64 (k - n)∧(k - n=i→UInt8.ofNat (Int.toNat (1:Int))=if k<n then gd (0:UInt8) (gd [] a i.toNat) k.toNat else if k - n=i then (1:UInt8) else (0:UInt8))∧(¬k - n=i→UInt8.ofNat (Int.toNat (0:Int))=if k<n then gd (0:UInt8) (gd [] a i.toNat) k.toNat else if k - n=i then (1:UInt8) else (0:UInt8))):=by
 (repeat' (first|apply And.intro|intro _))<;>first|assumption|trivial|omega|(grind [I64])|trace_state
theorem k_48_ok:k_48.Ok Try.prog tD:=con_ok tD_ok (Δ:=[]) trivial (Ω:=[]) trivial k_48 F48_ok F48_call (fun _=>[]) (fun _=>trivial) 0 (fun x=>(fun (i:Int) (k:Int) (n:Int) (a:(List (List UInt8)))=>(fun _=>none)) x.1 x.2.1 x.2.2.1 x.2.2.2.1) fun x hp=>Eq.mp (by kernel_rfl) (k_48_v x.1 x.2.1 x.2.2.1 x.2.2.2.1 hp)
def k_50:Con Tc Tc.dn:=⟨50,[.ty .cInt, .ty .cInt, .ptr .llU8, .ptr .cInt],fun x=>(fun (i:Int) (k:Int) (b:(List (List UInt8))) (n:Int)=>0≤i∧i<b.length∧0≤k∧0≤n∧n≤1000∧n+k<(gd [] b i.toNat).length∧k≤1000) x.1 x.2.1 x.2.2.1 x.2.2.2.1,[.cU8],fun x=>(fun (i:Int) (k:Int) (b:(List (List UInt8))) (n:Int)=>gd 0 (gd [] b i.toNat) (n+k).toNat) x.1 x.2.1 x.2.2.1 x.2.2.2.1⟩
theorem k_50_v (i:Int) (k:Int) (b:(List (List UInt8))) (n:Int) (hp:0≤i∧i<b.length∧0≤k∧0≤n∧n≤1000∧n+k<(gd [] b i.toNat).length∧k≤1000):((0:Int)≤i∧i<(↑b.length:Int))∧I64 (n+k)∧((0:Int)≤n+k∧n+k<(↑(gd [] b i.toNat).length:Int))∧gd (0:UInt8) (gd [] b i.toNat) (n+k).toNat=gd (0:UInt8) (gd [] b i.toNat) (n+k).toNat:=by
 (repeat' (first|apply And.intro|intro _))<;>first|assumption|trivial|omega|(grind [I64])|trace_state
theorem k_50_ok:k_50.Ok Try.prog tD:=con_ok tD_ok (Δ:=[]) trivial (Ω:=[]) trivial k_50 F50_ok F50_call (fun _=>[]) (fun _=>trivial) 0 (fun x=>(fun (i:Int) (k:Int) (b:(List (List UInt8))) (n:Int)=>(fun _=>none)) x.1 x.2.1 x.2.2.1 x.2.2.2.1) fun x hp=>Eq.mp (by kernel_rfl) (k_50_v x.1 x.2.1 x.2.2.1 x.2.2.2.1 hp)
def i_32_35_1 (n:Int) (b:(List (List UInt8))) (q:Int) (k0:Int) (i0:Int) (K0:(List (Row UInt8))) (A0:(List (Nat×List UInt8))) (k:Int) (i:Int) (K:(List (Row UInt8))) (A:(List (Nat×List UInt8))):Prop:=0≤k∧k≤n∧K=K0∧i=i0∧FillR A0 A (gd (Row.no UInt8) K i.toNat) k n (fI b q.toNat i.toNat)
def i_32_35_0 (m:Int) (n:Int) (b:(List (List UInt8))) (q:Int) (i:Int) (K:(List (Row UInt8))) (A:(List (Nat×List UInt8))):Prop:=0≤i∧i≤m∧FillI A K i m n (fI b q.toNat)
def k_32_35:Con Tc Tc.dn:=⟨47,[.ty .cInt, .ty .cInt, .fnc 50 [(true, .llU8),(true, .cInt)]],fun x=>(fun (m:Int) (n:Int) (b:(List (List UInt8))) (q:Int)=>0≤m∧m≤64∧0≤n∧n≤64∧0≤q∧q≤64∧m≤b.length∧∀r,r∈b→q+n≤r.length) x.1 x.2.1 x.2.2.1.1 x.2.2.1.2.1,[.llU8],fun x=>(fun (m:Int) (n:Int) (b:(List (List UInt8))) (q:Int)=>fillL m n (fI b q.toNat)) x.1 x.2.1 x.2.2.1.1 x.2.2.1.2.1⟩
abbrev z32_35_0 (n:Int):=(List.replicate n.toNat (UInt8.ofNat (Int.toNat (0:Int))))
theorem k_32_35_v (m:Int) (n:Int) (b:(List (List UInt8))) (q:Int) (hp:0≤m∧m≤64∧0≤n∧n≤64∧0≤q∧q≤64∧m≤b.length∧∀r,r∈b→q+n≤r.length):((0:Int)≤m∧m≤m∧m*(↑(24:Nat):Int)≤(140737488355328:Int))∧i_32_35_0 m n b q (0:Int) (List.replicate m.toNat (Row.no UInt8)) []∧∀(x:Int) (x_1:List (Row UInt8)) (x_2:List (Nat×List UInt8)),i_32_35_0 m n b q x x_1 x_2→(x<(↑(List.replicate m.toNat (Row.no UInt8)).length:Int)→((0:Int)≤n∧n≤n∧n*(↑(1:Nat):Int)≤(140737488355328:Int))∧((0:Int)≤x∧x<(↑x_1.length:Int))∧∀(id:Nat),¬hasA x_2 id→x.toNat<x_1.length∧((0:Int)≤x∧x<(↑(x_1.set x.toNat (Row.at UInt8 id (z32_35_0 n).length)).length:Int))∧x.toNat<(x_1.set x.toNat (Row.at UInt8 id (z32_35_0 n).length)).length∧(gd (Row.no UInt8) (x_1.set x.toNat (Row.at UInt8 id (z32_35_0 n).length)) x.toNat).ok ((id,List.replicate n.toNat (UInt8.ofNat (Int.toNat (0:Int))))::x_2)∧i_32_35_1 n b q (0:Int) x (x_1.set x.toNat (Row.at UInt8 id (z32_35_0 n).length)) ((id,List.replicate n.toNat (UInt8.ofNat (Int.toNat (0:Int))))::x_2) (0:Int) x (x_1.set x.toNat (Row.at UInt8 id (z32_35_0 n).length)) ((id,List.replicate n.toNat (UInt8.ofNat (Int.toNat (0:Int))))::x_2)∧∀(x_3 x_4:Int) (x_5:List (Row UInt8)) (x_6:List (Nat×List UInt8)),i_32_35_1 n b q (0:Int) x (x_1.set x.toNat (Row.at UInt8 id (z32_35_0 n).length)) ((id,List.replicate n.toNat (UInt8.ofNat (Int.toNat (0:Int))))::x_2) x_3 x_4 x_5 x_6→(x_3<(↑((gd (Row.no UInt8) (x_1.set x.toNat (Row.at UInt8 id (z32_35_0 n).length)) x.toNat).get ((id,List.replicate n.toNat (UInt8.ofNat (Int.toNat (0:Int))))::x_2)).length:Int)→((0:Int)≤x_4∧x_4<(↑x_5.length:Int))∧x_4.toNat<x_5.length∧((0:Int)≤x_4∧x_4<(↑b.length:Int)∧(0:Int)≤x_3∧(0:Int)≤q∧q≤(1000:Int)∧q+x_3<(↑(gd [] b x_4.toNat).length:Int)∧x_3≤(1000:Int))∧(gd (Row.no UInt8) x_5 x_4.toNat).ok x_6∧((0:Int)≤x_3∧x_3<(↑((gd (Row.no UInt8) x_5 x_4.toNat).get x_6).length:Int))∧(gd (Row.no UInt8) x_5 x_4.toNat).mine x_6∧x_3.toNat<((gd (Row.no UInt8) x_5 x_4.toNat).get x_6).length∧I64 (x_3+(1:Int))∧i_32_35_1 n b q (0:Int) x (x_1.set x.toNat (Row.at UInt8 id (z32_35_0 n).length)) ((id,List.replicate n.toNat (UInt8.ofNat (Int.toNat (0:Int))))::x_2) (x_3+(1:Int)) x_4 x_5 (((gd (Row.no UInt8) x_5 x_4.toNat).id,((gd (Row.no UInt8) x_5 x_4.toNat).get x_6).set x_3.toNat (gd (0:UInt8) (gd [] b x_4.toNat) (q+x_3).toNat))::x_6)∧(n - (x_3+(1:Int))).toNat<(n - x_3).toNat)∧((↑((gd (Row.no UInt8) (x_1.set x.toNat (Row.at UInt8 id (z32_35_0 n).length)) x.toNat).get ((id,List.replicate n.toNat (UInt8.ofNat (Int.toNat (0:Int))))::x_2)).length:Int)≤x_3→I64 (x+(1:Int))∧i_32_35_0 m n b q (x+(1:Int)) x_5 x_6∧(m - (x+(1:Int))).toNat<(m - x).toNat))∧((↑(List.replicate m.toNat (Row.no UInt8)).length:Int)≤x→(∀(x:Row UInt8),x∈x_1→x.ok x_2∧x.kd≠RK.nil)∧List.map (fun x=>x.get x_2) x_1=fillL m n (fI b q.toNat)):=by
 delta z32_35_0
 exact filled_vc m n (fI b q.toNat) (fun i k=>gd 0 (gd [] b i.toNat) (q+k).toNat) (fun i k=>(0:Int)≤i∧i<(↑b.length:Int)∧(0:Int)≤k∧(0:Int)≤q∧q≤(1000:Int)∧q+k<(↑(gd [] b i.toNat).length:Int)∧k≤(1000:Int)) _ ⟨hp.1,hp.2.1,hp.2.2.1,hp.2.2.2.1⟩ (fun i k h1 h2 h3 h4=>⟨⟨h1,by omega,h3,by omega,by omega,by have:=hp.2.2.2.2.2.2.2 _ (gd_mem (d:=[]) (xs:=b) (i:=i.toNat) (by omega));omega,by omega⟩,by unfold fI;rw [show (q+k).toNat=q.toNat+k.toNat by omega]⟩) fun K A i hi h=>h.fin hi hp.1
theorem k_32_35_ok:k_32_35.Ok Try.prog tD:=con_ok tD_ok (Δ:=[k_50]) ⟨k_50_ok,trivial⟩ (Ω:=[]) trivial k_32_35 F47_ok F47_call (fun _=>[]) (fun _=>trivial) 0 (fun x=>(fun (m:Int) (n:Int) (b:(List (List UInt8))) (q:Int)=>(fun k=>bif Nat.beq k 0 then some (.inv [.sl 14 .cInt, .bl 1 .rU8, .ar .cU8] (fun zo zv=>(fun (i:Int) (K:(List (Row UInt8))) (A:(List (Nat×List UInt8)))=>i_32_35_0 m n b q i K A) zv.1 zv.2.1 zv.2.2.1) (fun zo zv=>(fun (i:Int) (K:(List (Row UInt8))) (A:(List (Nat×List UInt8)))=>(m - i).toNat) zv.1 zv.2.1 zv.2.2.1)) else bif Nat.beq k 1 then some (.inv [.sl 27 .cInt, .sl 8 .cInt, .bl 1 .rU8, .ar .cU8] (fun zo zv=>(fun (k0:Int) (i0:Int) (K0:(List (Row UInt8))) (A0:(List (Nat×List UInt8))) (k:Int) (i:Int) (K:(List (Row UInt8))) (A:(List (Nat×List UInt8)))=>i_32_35_1 n b q k0 i0 K0 A0 k i K A) zo.1 zo.2.1 zo.2.2.1 zo.2.2.2.1 zv.1 zv.2.1 zv.2.2.1 zv.2.2.2.1) (fun zo zv=>(fun (k0:Int) (i0:Int) (K0:(List (Row UInt8))) (A0:(List (Nat×List UInt8))) (k:Int) (i:Int) (K:(List (Row UInt8))) (A:(List (Nat×List UInt8)))=>(n - k).toNat) zo.1 zo.2.1 zo.2.2.1 zo.2.2.2.1 zv.1 zv.2.1 zv.2.2.1 zv.2.2.2.1)) else none)) x.1 x.2.1 x.2.2.1.1 x.2.2.1.2.1) fun x hp=>Eq.mp (by kernel_rfl) (k_32_35_v x.1 x.2.1 x.2.2.1.1 x.2.2.1.2.1 hp)
def i_24_47_48_1 (a:(List (List UInt8))) (k0:Int) (i0:Int) (K0:(List (Row UInt8))) (A0:(List (Nat×List UInt8))) (k:Int) (i:Int) (K:(List (Row UInt8))) (A:(List (Nat×List UInt8))):Prop:=0≤k∧k≤(2*(a.length:Int))∧K=K0∧i=i0∧FillR A0 A (gd (Row.no UInt8) K i.toNat) k (2*(a.length:Int)) (fB a a.length i.toNat)
def i_24_47_48_0 (a:(List (List UInt8))) (i:Int) (K:(List (Row UInt8))) (A:(List (Nat×List UInt8))):Prop:=0≤i∧i≤(a.length:Int)∧FillI A K i (a.length:Int) (2*(a.length:Int)) (fB a a.length)
def i_24_70_0 (k0:Int) (s0:(Nat×Nat)) (c0:Int) (K0:(List (Row UInt8))) (A0:(List (Nat×List UInt8))) (k:Int) (s:(Nat×Nat)) (c:Int) (K:(List (Row UInt8))) (A:(List (Nat×List UInt8))):Prop:=IxI k0 s0 c0 K0 A0 k s c K A
def i_24_72_0 (k0:Int) (i0:Int) (f0:UInt8) (K0:(List (Row UInt8))) (A0:(List (Nat×List UInt8))) (k:Int) (i:Int) (f:UInt8) (K:(List (Row UInt8))) (A:(List (Nat×List UInt8))):Prop:=ScI k0 i0 f0 K0 A0 k i f K A
def i_24_73_0 (k0:Int) (t0:Int) (s0:Int) (f0:UInt8) (K0:(List (Row UInt8))) (A0:(List (Nat×List UInt8))) (k:Int) (t:Int) (s:Int) (f:UInt8) (K:(List (Row UInt8))) (A:(List (Nat×List UInt8))):Prop:=AdI k0 t0 s0 f0 K0 A0 k t s f K A
def i_24_49_1 (k0:Int) (c0:Int) (d0:Int) (K0:(List (Row UInt8))) (A0:(List (Nat×List UInt8))) (k:Int) (c:Int) (d:Int) (K:(List (Row UInt8))) (A:(List (Nat×List UInt8))):Prop:=OfI k0 c0 d0 K0 A0 k c d K A
def i_24_49_0 (c0:Int) (d0:Int) (cols0:Int) (K0:(List (Row UInt8))) (A0:(List (Nat×List UInt8))) (c:Int) (d:Int) (cols:Int) (K:(List (Row UInt8))) (A:(List (Nat×List UInt8))):Prop:=ClI c0 d0 cols0 K0 A0 c d cols K A
def k_24:Con Tc Tc.dn:=⟨24,[.ty .llU8],fun x=>(fun (a:(List (List UInt8)))=>True) x.1,[.llU8, .cInt],fun x=>(fun (a:(List (List UInt8)))=>invL a) x.1⟩
abbrev z24_0 (a:(List (List UInt8))):=(List.replicate ((2:Int)*(↑a.length:Int)).toNat (UInt8.ofNat (Int.toNat (0:Int))))
theorem k_24_v (a:(List (List UInt8))):True∧(¬mchk a=(0:Int)→([],mchk a)=invL a)∧(mchk a=(0:Int)→((0:Int)≤(0:Int)∧(0:Int)<(↑a.length:Int))∧(¬(↑a.length:Int)=(↑(gd [] a (Int.toNat (0:Int))).length:Int)→([],(1:Int))=invL a)∧((↑a.length:Int)=(↑(gd [] a (Int.toNat (0:Int))).length:Int)→I64 ((2:Int)*(↑a.length:Int))∧((0:Int)≤(↑a.length:Int)∧(↑a.length:Int)≤(↑a.length:Int)∧(↑a.length:Int)*(↑(24:Nat):Int)≤(140737488355328:Int))∧i_24_47_48_0 a (0:Int) (List.replicate (↑a.length:Int).toNat (Row.no UInt8)) []∧∀(x:Int) (x_1:List (Row UInt8)) (x_2:List (Nat×List UInt8)),i_24_47_48_0 a x x_1 x_2→(x<(↑(List.replicate (↑a.length:Int).toNat (Row.no UInt8)).length:Int)→((0:Int)≤(2:Int)*(↑a.length:Int)∧(2:Int)*(↑a.length:Int)≤(2:Int)*(↑a.length:Int)∧(2:Int)*(↑a.length:Int)*(↑(1:Nat):Int)≤(140737488355328:Int))∧((0:Int)≤x∧x<(↑x_1.length:Int))∧∀(id:Nat),¬hasA x_2 id→x.toNat<x_1.length∧((0:Int)≤x∧x<(↑(x_1.set x.toNat (Row.at UInt8 id (z24_0 a).length)).length:Int))∧x.toNat<(x_1.set x.toNat (Row.at UInt8 id (z24_0 a).length)).length∧(gd (Row.no UInt8) (x_1.set x.toNat (Row.at UInt8 id (z24_0 a).length)) x.toNat).ok ((id,List.replicate ((2:Int)*(↑a.length:Int)).toNat (UInt8.ofNat (Int.toNat (0:Int))))::x_2)∧i_24_47_48_1 a (0:Int) x (x_1.set x.toNat (Row.at UInt8 id (z24_0 a).length)) ((id,List.replicate ((2:Int)*(↑a.length:Int)).toNat (UInt8.ofNat (Int.toNat (0:Int))))::x_2) (0:Int) x (x_1.set x.toNat (Row.at UInt8 id (z24_0 a).length)) ((id,List.replicate ((2:Int)*(↑a.length:Int)).toNat (UInt8.ofNat (Int.toNat (0:Int))))::x_2)∧∀(x_3 x_4:Int) (x_5:List (Row UInt8)) (x_6:List (Nat×List UInt8)),i_24_47_48_1 a (0:Int) x (x_1.set x.toNat (Row.at UInt8 id (z24_0 a).length)) ((id,List.replicate ((2:Int)*(↑a.length:Int)).toNat (UInt8.ofNat (Int.toNat (0:Int))))::x_2) x_3 x_4 x_5 x_6→(x_3<(↑((gd (Row.no UInt8) (x_1.set x.toNat (Row.at UInt8 id (z24_0 a).length)) x.toNat).get ((id,List.replicate ((2:Int)*(↑a.length:Int)).toNat (UInt8.ofNat (Int.toNat (0:Int))))::x_2)).length:Int)→((0:Int)≤x_4∧x_4<(↑x_5.length:Int))∧x_4.toNat<x_5.length∧((0:Int)≤x_4∧x_4<(↑a.length:Int)∧(0:Int)≤x_3∧(0:Int)≤(↑a.length:Int)∧(↑a.length:Int)≤(1000:Int)∧x_3≤(2000:Int)∧(↑a.length:Int)≤(↑(gd [] a x_4.toNat).length:Int))∧(gd (Row.no UInt8) x_5 x_4.toNat).ok x_6∧((0:Int)≤x_3∧x_3<(↑((gd (Row.no UInt8) x_5 x_4.toNat).get x_6).length:Int))∧(gd (Row.no UInt8) x_5 x_4.toNat).mine x_6∧x_3.toNat<((gd (Row.no UInt8) x_5 x_4.toNat).get x_6).length∧I64 (x_3+(1:Int))∧i_24_47_48_1 a (0:Int) x (x_1.set x.toNat (Row.at UInt8 id (z24_0 a).length)) ((id,List.replicate ((2:Int)*(↑a.length:Int)).toNat (UInt8.ofNat (Int.toNat (0:Int))))::x_2) (x_3+(1:Int)) x_4 x_5 (((gd (Row.no UInt8) x_5 x_4.toNat).id,((gd (Row.no UInt8) x_5 x_4.toNat).get x_6).set x_3.toNat (if x_3<(↑a.length:Int) then gd (0:UInt8) (gd [] a x_4.toNat) x_3.toNat else if x_3 - (↑a.length:Int)=x_4 then (1:UInt8) else (0:UInt8)))::x_6)∧((2:Int)*(↑a.length:Int) - (x_3+(1:Int))).toNat<((2:Int)*(↑a.length:Int) - x_3).toNat)∧((↑((gd (Row.no UInt8) (x_1.set x.toNat (Row.at UInt8 id (z24_0 a).length)) x.toNat).get ((id,List.replicate ((2:Int)*(↑a.length:Int)).toNat (UInt8.ofNat (Int.toNat (0:Int))))::x_2)).length:Int)≤x_3→I64 (x+(1:Int))∧i_24_47_48_0 a (x+(1:Int)) x_5 x_6∧((↑a.length:Int) - (x+(1:Int))).toNat<((↑a.length:Int) - x).toNat))∧((↑(List.replicate (↑a.length:Int).toNat (Row.no UInt8)).length:Int)≤x→i_24_49_0 (0:Int) (0:Int) (↑a.length:Int) x_1 x_2 (0:Int) (0:Int) (↑a.length:Int) x_1 x_2∧∀(x x_3 x_4:Int) (x_5:List (Row UInt8)) (x_6:List (Nat×List UInt8)),i_24_49_0 (0:Int) (0:Int) (↑a.length:Int) x_1 x_2 x x_3 x_4 x_5 x_6→(x<(↑a.length:Int)→((0:Int)≤x_3∧x_3≤(↑x_5.length:Int))∧i_24_70_0 (0:Int) (x_3.toNat,(↑x_5.length:Int).toNat - x_3.toNat) x x_5 x_6 (0:Int) (x_3.toNat,(↑x_5.length:Int).toNat - x_3.toNat) x x_5 x_6∧∀(x_7:Int) (x_8:Nat×Nat) (x_9:Int) (x_10:List (Row UInt8)) (x_11:List (Nat×List UInt8)),i_24_70_0 (0:Int) (x_3.toNat,(↑x_5.length:Int).toNat - x_3.toNat) x x_5 x_6 x_7 x_8 x_9 x_10 x_11→(x_7<(↑((↑x_5.length:Int).toNat - x_3.toNat):Int)→((0:Int)≤x_7∧x_7<(↑x_8.snd:Int))∧x_8.fst+x_7.toNat<x_10.length∧(gd (Row.no UInt8) x_10 (x_8.fst+x_7.toNat)).ok x_11∧(gd (Row.no UInt8) x_10 (x_8.fst+x_7.toNat)).kd≠RK.nil∧((0:Int)≤x_9∧x_9<(↑((gd (Row.no UInt8) x_10 (x_8.fst+x_7.toNat)).get x_11).length:Int))∧(decide (gd (0:UInt8) ((gd (Row.no UInt8) x_10 (x_8.fst+x_7.toNat)).get x_11) x_9.toNat≠(0:UInt8))=true→(x_7<(0:Int)→I64 (x+(1:Int))∧i_24_49_0 (0:Int) (0:Int) (↑a.length:Int) x_1 x_2 (x+(1:Int)) x_3 x_4 x_10 x_11∧(x_4 - (x+(1:Int))).toNat<(x_4 - x).toNat)∧((0:Int)≤x_7→I64 (x_3+x_7)∧I64 (x_3+x_7)∧((0:Int)≤x_3+x_7∧x_3+x_7<(↑x_10.length:Int))∧(x_3+x_7).toNat<x_10.length∧((0:Int)≤x_3∧x_3<(↑x_10.length:Int))∧x_3.toNat<x_10.length∧((0:Int)≤x_3∧x_3<(↑x_10.length:Int))∧x_3.toNat<x_10.length∧((0:Int)≤x_3+x_7∧x_3+x_7<(↑(x_10.set x_3.toNat (gd (Row.no UInt8) x_10 (x_3+x_7).toNat)).length:Int))∧(x_3+x_7).toNat<(x_10.set x_3.toNat (gd (Row.no UInt8) x_10 (x_3+x_7).toNat)).length∧((0:Int)≤x_3∧x_3<(↑((x_10.set x_3.toNat (gd (Row.no UInt8) x_10 (x_3+x_7).toNat)).set (x_3+x_7).toNat (gd (Row.no UInt8) x_10 x_3.toNat)).length:Int))∧x_3.toNat<((x_10.set x_3.toNat (gd (Row.no UInt8) x_10 (x_3+x_7).toNat)).set (x_3+x_7).toNat (gd (Row.no UInt8) x_10 x_3.toNat)).length∧(gd (Row.no UInt8) ((x_10.set x_3.toNat (gd (Row.no UInt8) x_10 (x_3+x_7).toNat)).set (x_3+x_7).toNat (gd (Row.no UInt8) x_10 x_3.toNat)) x_3.toNat).ok x_11∧((0:Int)≤x_9∧x_9<(↑((gd (Row.no UInt8) ((x_10.set x_3.toNat (gd (Row.no UInt8) x_10 (x_3+x_7).toNat)).set (x_3+x_7).toNat (gd (Row.no UInt8) x_10 x_3.toNat)) x_3.toNat).get x_11).length:Int))∧(gd (Row.no UInt8) ((x_10.set x_3.toNat (gd (Row.no UInt8) x_10 (x_3+x_7).toNat)).set (x_3+x_7).toNat (gd (Row.no UInt8) x_10 x_3.toNat)) x_3.toNat).ok x_11∧x_9.toNat<((gd (Row.no UInt8) ((x_10.set x_3.toNat (gd (Row.no UInt8) x_10 (x_3+x_7).toNat)).set (x_3+x_7).toNat (gd (Row.no UInt8) x_10 x_3.toNat)) x_3.toNat).get x_11).length∧True∧((0:Int)≤x_3∧x_3<(↑((x_10.set x_3.toNat (gd (Row.no UInt8) x_10 (x_3+x_7).toNat)).set (x_3+x_7).toNat (gd (Row.no UInt8) x_10 x_3.toNat)).length:Int))∧x_3.toNat<((x_10.set x_3.toNat (gd (Row.no UInt8) x_10 (x_3+x_7).toNat)).set (x_3+x_7).toNat (gd (Row.no UInt8) x_10 x_3.toNat)).length∧(gd (Row.no UInt8) ((x_10.set x_3.toNat (gd (Row.no UInt8) x_10 (x_3+x_7).toNat)).set (x_3+x_7).toNat (gd (Row.no UInt8) x_10 x_3.toNat)) x_3.toNat).ok x_11∧i_24_72_0 (0:Int) x_3 (invN (gd (0:UInt8) ((gd (Row.no UInt8) ((x_10.set x_3.toNat (gd (Row.no UInt8) x_10 (x_3+x_7).toNat)).set (x_3+x_7).toNat (gd (Row.no UInt8) x_10 x_3.toNat)) x_3.toNat).get x_11) x_9.toNat)) ((x_10.set x_3.toNat (gd (Row.no UInt8) x_10 (x_3+x_7).toNat)).set (x_3+x_7).toNat (gd (Row.no UInt8) x_10 x_3.toNat)) x_11 (0:Int) x_3 (invN (gd (0:UInt8) ((gd (Row.no UInt8) ((x_10.set x_3.toNat (gd (Row.no UInt8) x_10 (x_3+x_7).toNat)).set (x_3+x_7).toNat (gd (Row.no UInt8) x_10 x_3.toNat)) x_3.toNat).get x_11) x_9.toNat)) ((x_10.set x_3.toNat (gd (Row.no UInt8) x_10 (x_3+x_7).toNat)).set (x_3+x_7).toNat (gd (Row.no UInt8) x_10 x_3.toNat)) x_11∧∀(x_12 x_13:Int) (x_14:UInt8) (x_15:List (Row UInt8)) (x_16:List (Nat×List UInt8)),i_24_72_0 (0:Int) x_3 (invN (gd (0:UInt8) ((gd (Row.no UInt8) ((x_10.set x_3.toNat (gd (Row.no UInt8) x_10 (x_3+x_7).toNat)).set (x_3+x_7).toNat (gd (Row.no UInt8) x_10 x_3.toNat)) x_3.toNat).get x_11) x_9.toNat)) ((x_10.set x_3.toNat (gd (Row.no UInt8) x_10 (x_3+x_7).toNat)).set (x_3+x_7).toNat (gd (Row.no UInt8) x_10 x_3.toNat)) x_11 x_12 x_13 x_14 x_15 x_16→(x_12<(↑((gd (Row.no UInt8) ((x_10.set x_3.toNat (gd (Row.no UInt8) x_10 (x_3+x_7).toNat)).set (x_3+x_7).toNat (gd (Row.no UInt8) x_10 x_3.toNat)) x_3.toNat).get x_11).length:Int)→((0:Int)≤x_13∧x_13<(↑x_15.length:Int))∧x_13.toNat<x_15.length∧((0:Int)≤x_13∧x_13<(↑x_15.length:Int))∧x_13.toNat<x_15.length∧(gd (Row.no UInt8) x_15 x_13.toNat).ok x_16∧((0:Int)≤x_12∧x_12<(↑((gd (Row.no UInt8) x_15 x_13.toNat).get x_16).length:Int))∧(gd (Row.no UInt8) x_15 x_13.toNat).ok x_16∧x_12.toNat<((gd (Row.no UInt8) x_15 x_13.toNat).get x_16).length∧True∧(gd (Row.no UInt8) x_15 x_13.toNat).ok x_16∧((0:Int)≤x_12∧x_12<(↑((gd (Row.no UInt8) x_15 x_13.toNat).get x_16).length:Int))∧(gd (Row.no UInt8) x_15 x_13.toNat).mine x_16∧x_12.toNat<((gd (Row.no UInt8) x_15 x_13.toNat).get x_16).length∧I64 (x_12+(1:Int))∧i_24_72_0 (0:Int) x_3 (invN (gd (0:UInt8) ((gd (Row.no UInt8) ((x_10.set x_3.toNat (gd (Row.no UInt8) x_10 (x_3+x_7).toNat)).set (x_3+x_7).toNat (gd (Row.no UInt8) x_10 x_3.toNat)) x_3.toNat).get x_11) x_9.toNat)) ((x_10.set x_3.toNat (gd (Row.no UInt8) x_10 (x_3+x_7).toNat)).set (x_3+x_7).toNat (gd (Row.no UInt8) x_10 x_3.toNat)) x_11 (x_12+(1:Int)) x_13 x_14 x_15 (((gd (Row.no UInt8) x_15 x_13.toNat).id,((gd (Row.no UInt8) x_15 x_13.toNat).get x_16).set x_12.toNat (gmul (gd (0:UInt8) ((gd (Row.no UInt8) x_15 x_13.toNat).get x_16) x_12.toNat) x_14))::x_16)∧((↑(lkA x_11 (rAt x_15 x_13).id).length:Int) - (x_12+(1:Int))).toNat<((↑(lkA x_11 (rAt x_15 x_13).id).length:Int) - x_12).toNat)∧((↑((gd (Row.no UInt8) ((x_10.set x_3.toNat (gd (Row.no UInt8) x_10 (x_3+x_7).toNat)).set (x_3+x_7).toNat (gd (Row.no UInt8) x_10 x_3.toNat)) x_3.toNat).get x_11).length:Int)≤x_12→i_24_49_1 (0:Int) x x_3 x_15 x_16 (0:Int) x x_3 x_15 x_16∧∀(x_17 x_18 x_19:Int) (x_20:List (Row UInt8)) (x_21:List (Nat×List UInt8)),i_24_49_1 (0:Int) x x_3 x_15 x_16 x_17 x_18 x_19 x_20 x_21→(x_17<(↑x_15.length:Int)→(¬x_17=x_19→((0:Int)≤x_17∧x_17<(↑x_20.length:Int))∧x_17.toNat<x_20.length∧(gd (Row.no UInt8) x_20 x_17.toNat).ok x_21∧((0:Int)≤x_9∧x_9<(↑((gd (Row.no UInt8) x_20 x_17.toNat).get x_21).length:Int))∧(gd (Row.no UInt8) x_20 x_17.toNat).ok x_21∧x_9.toNat<((gd (Row.no UInt8) x_20 x_17.toNat).get x_21).length∧((0:Int)≤x_19∧x_19<(↑x_20.length:Int))∧x_19.toNat<x_20.length∧(gd (Row.no UInt8) x_20 x_19.toNat).ok x_21∧i_24_73_0 (0:Int) x_17 x_19 (gd (0:UInt8) ((gd (Row.no UInt8) x_20 x_17.toNat).get x_21) x_9.toNat) x_20 x_21 (0:Int) x_17 x_19 (gd (0:UInt8) ((gd (Row.no UInt8) x_20 x_17.toNat).get x_21) x_9.toNat) x_20 x_21∧∀(x_22 x_23 x_24:Int) (x_25:UInt8) (x_26:List (Row UInt8)) (x_27:List (Nat×List UInt8)),i_24_73_0 (0:Int) x_17 x_19 (gd (0:UInt8) ((gd (Row.no UInt8) x_20 x_17.toNat).get x_21) x_9.toNat) x_20 x_21 x_22 x_23 x_24 x_25 x_26 x_27→(x_22<(↑((gd (Row.no UInt8) x_20 x_19.toNat).get x_21).length:Int)→(gd (Row.no UInt8) x_20 x_19.toNat).ok x_27∧((0:Int)≤x_22∧x_22<(↑((gd (Row.no UInt8) x_20 x_19.toNat).get x_27).length:Int))∧(gd (Row.no UInt8) x_20 x_19.toNat).ok x_27∧x_22.toNat<((gd (Row.no UInt8) x_20 x_19.toNat).get x_27).length∧((0:Int)≤x_23∧x_23<(↑x_26.length:Int))∧x_23.toNat<x_26.length∧(gd (Row.no UInt8) x_26 x_23.toNat).ok x_27∧((0:Int)≤x_22∧x_22<(↑((gd (Row.no UInt8) x_26 x_23.toNat).get x_27).length:Int))∧(gd (Row.no UInt8) x_26 x_23.toNat).ok x_27∧x_22.toNat<((gd (Row.no UInt8) x_26 x_23.toNat).get x_27).length∧True∧(gd (Row.no UInt8) x_26 x_23.toNat).ok x_27∧((0:Int)≤x_22∧x_22<(↑((gd (Row.no UInt8) x_26 x_23.toNat).get x_27).length:Int))∧(gd (Row.no UInt8) x_26 x_23.toNat).mine x_27∧x_22.toNat<((gd (Row.no UInt8) x_26 x_23.toNat).get x_27).length∧I64 (x_22+(1:Int))∧i_24_73_0 (0:Int) x_17 x_19 (gd (0:UInt8) ((gd (Row.no UInt8) x_20 x_17.toNat).get x_21) x_9.toNat) x_20 x_21 (x_22+(1:Int)) x_23 x_24 x_25 x_26 (((gd (Row.no UInt8) x_26 x_23.toNat).id,((gd (Row.no UInt8) x_26 x_23.toNat).get x_27).set x_22.toNat (gd (0:UInt8) ((gd (Row.no UInt8) x_26 x_23.toNat).get x_27) x_22.toNat^^^gmul x_25 (gd (0:UInt8) ((gd (Row.no UInt8) x_20 x_19.toNat).get x_27) x_22.toNat)))::x_27)∧((↑(lkA x_21 (rAt x_26 x_24).id).length:Int) - (x_22+(1:Int))).toNat<((↑(lkA x_21 (rAt x_26 x_24).id).length:Int) - x_22).toNat)∧((↑((gd (Row.no UInt8) x_20 x_19.toNat).get x_21).length:Int)≤x_22→I64 (x_17+(1:Int))∧i_24_49_1 (0:Int) x x_3 x_15 x_16 (x_17+(1:Int)) x_18 x_19 x_26 x_27∧((↑x_26.length:Int) - (x_17+(1:Int))).toNat<((↑x_20.length:Int) - x_17).toNat))∧(x_17=x_19→I64 (x_17+(1:Int))∧i_24_49_1 (0:Int) x x_3 x_15 x_16 (x_17+(1:Int)) x_18 x_19 x_20 x_21∧((↑x_20.length:Int) - (x_17+(1:Int))).toNat<((↑x_20.length:Int) - x_17).toNat))∧((↑x_15.length:Int)≤x_17→I64 (x_19+(1:Int))∧(x_19+(1:Int)=(↑x_20.length:Int)→(x_19+(1:Int)<(↑a.length:Int)→([],(5:Int))=invL a)∧((↑a.length:Int)≤x_19+(1:Int)→(∀(x:Row UInt8),x∈x_20→x.ok x_21∧x.kd≠RK.nil)∧((0:Int)≤(↑a.length:Int)∧(↑a.length:Int)≤(64:Int)∧(0:Int)≤(↑a.length:Int)∧(↑a.length:Int)≤(64:Int)∧(0:Int)≤(↑a.length:Int)∧(↑a.length:Int)≤(64:Int)∧(↑a.length:Int)≤(↑(List.map (fun x=>x.get x_21) x_20).length:Int)∧∀(r:List UInt8),r∈List.map (fun x=>x.get x_21) x_20→(↑a.length:Int)+(↑a.length:Int)≤(↑r.length:Int))∧(fillL (↑a.length:Int) (↑a.length:Int) (fI (List.map (fun x=>x.get x_21) x_20) (↑a.length:Int).toNat),(0:Int))=invL a))∧(¬x_19+(1:Int)=(↑x_20.length:Int)→I64 (x_18+(1:Int))∧i_24_49_0 (0:Int) (0:Int) (↑a.length:Int) x_1 x_2 (x_18+(1:Int)) (x_19+(1:Int)) x_4 x_20 x_21∧(x_4 - (x_18+(1:Int))).toNat<(x_4 - x).toNat)))))∧(decide (gd (0:UInt8) ((gd (Row.no UInt8) x_10 (x_8.fst+x_7.toNat)).get x_11) x_9.toNat≠(0:UInt8))=false→I64 (x_7+(1:Int))∧i_24_70_0 (0:Int) (x_3.toNat,(↑x_5.length:Int).toNat - x_3.toNat) x x_5 x_6 (x_7+(1:Int)) x_8 x_9 x_10 x_11∧((↑x_8.snd:Int) - (x_7+(1:Int))).toNat<((↑x_8.snd:Int) - x_7).toNat))∧((↑((↑x_5.length:Int).toNat - x_3.toNat):Int)≤x_7→I64 (x+(1:Int))∧i_24_49_0 (0:Int) (0:Int) (↑a.length:Int) x_1 x_2 (x+(1:Int)) x_3 x_4 x_10 x_11∧(x_4 - (x+(1:Int))).toNat<(x_4 - x).toNat))∧((↑a.length:Int)≤x→(x_3<(↑a.length:Int)→([],(5:Int))=invL a)∧((↑a.length:Int)≤x_3→(∀(x:Row UInt8),x∈x_5→x.ok x_6∧x.kd≠RK.nil)∧((0:Int)≤(↑a.length:Int)∧(↑a.length:Int)≤(64:Int)∧(0:Int)≤(↑a.length:Int)∧(↑a.length:Int)≤(64:Int)∧(0:Int)≤(↑a.length:Int)∧(↑a.length:Int)≤(64:Int)∧(↑a.length:Int)≤(↑(List.map (fun x=>x.get x_6) x_5).length:Int)∧∀(r:List UInt8),r∈List.map (fun x=>x.get x_6) x_5→(↑a.length:Int)+(↑a.length:Int)≤(↑r.length:Int))∧(fillL (↑a.length:Int) (↑a.length:Int) (fI (List.map (fun x=>x.get x_6) x_5) (↑a.length:Int).toNat),(0:Int))=invL a))))):=by
 delta z24_0
 refine ⟨trivial,fun h=>by unfold invL;rw [if_pos h],fun h=> ?_⟩
 obtain ⟨h1,h2,h3,h4,h5,h6⟩:=mchk_ok h
 have h00:(gd [] a (Int.toNat 0))=gd [] a 0:=rfl
 refine ⟨⟨Int.le_refl _,by omega⟩,fun hne=>by unfold invL;rw [if_neg (by rw [h];simp),if_pos (by rw [h00] at hne;omega)],fun he=>⟨by unfold I64;omega, ?_⟩⟩
 rw [h00] at he
 have hE:a.length=(gd [] a 0).length:=by omega
 refine filled_vc (a.length:Int) (2*(a.length:Int)) (fB a a.length) (fun i k=>if k<(a.length:Int) then gd 0 (gd [] a i.toNat) k.toNat else if k - (a.length:Int)=i then 1 else 0) (fun i k=>(0:Int)≤i∧i<(↑a.length:Int)∧(0:Int)≤k∧(0:Int)≤(↑a.length:Int)∧(↑a.length:Int)≤1000∧k≤2000∧(↑a.length:Int)≤(↑(gd [] a i.toNat).length:Int)) _ ⟨by omega,by omega,by omega,by omega⟩ (fun i k q1 q2 q3 q4=>⟨⟨q1,q2,q3,by omega,by omega,by omega,by have:=h6 _ (gd_mem (d:=[]) (xs:=a) (i:=i.toNat) (by omega));omega⟩,fB_v q1 q3⟩) fun K A i hi hF=> ?_
 refine clear_vc (a.length:Int) K A (fun d K A=>(d<(a.length:Int)→(([]:List (List UInt8)),(5:Int))=invL a)∧((a.length:Int)≤d→(∀x:Row UInt8,x∈K→x.ok A∧x.kd≠RK.nil)∧(0≤(a.length:Int)∧(a.length:Int)≤64∧0≤(a.length:Int)∧(a.length:Int)≤64∧0≤(a.length:Int)∧(a.length:Int)≤64∧(a.length:Int)≤((List.map (fun x=>x.get A) K).length:Int)∧∀r,r∈List.map (fun x=>x.get A) K→(a.length:Int)+(a.length:Int)≤(r.length:Int))∧(fillL (a.length:Int) (a.length:Int) (fI (List.map (fun x=>x.get A) K) (a.length:Int).toNat),(0:Int))=invL a)) (ClI.start hF hi ⟨by omega,by omega⟩ ⟨by omega,by omega,by omega⟩) fun d K2 A2 hd hm he2=> ?_
 obtain ⟨m,hM,hcm⟩:=hm
 rw [hF.vw hi (by omega),Int.toNat_natCast] at he2
 have e1:vw A2 K2=(clI a).1:=by unfold clI;rw [he2]
 have e2:d.toNat=(clI a).2:=by unfold clI;rw [he2]
 have hR:=clI_rect (a:=a) (by omega)
 have hinv:invL a=if (clI a).2<a.length then ([],5) else (fillL a.length a.length (fI (clI a).1 a.length),0):=by
  unfold invL;rw [if_neg (by rw [h];simp),if_neg (by omega)]
 refine ⟨fun hlt=>by rw [hinv,if_pos (by omega)],fun hge=>⟨hM.frz, ?_, ?_⟩⟩
 ·show _∧_∧_∧_∧_∧_∧(a.length:Int)≤((vw A2 K2).length:Int)∧∀r,r∈vw A2 K2→(a.length:Int)+(a.length:Int)≤(r.length:Int)
  rw [e1]
  refine ⟨by omega,by omega,by omega,by omega,by omega,by omega,by rw [hR.1];omega,fun r hr=>by rw [hR.2 r hr];omega⟩
 ·show (fillL (a.length:Int) (a.length:Int) (fI (vw A2 K2) (a.length:Int).toNat),(0:Int))=invL a
  rw [hinv,if_neg (by omega),e1,Int.toNat_natCast]
def l_24:PD Tc.dn k_24.ps→List (IL Tc Tc.dn):=fun x=>(fun (a:(List (List UInt8)))=>([⟨47, .fn F47 (fun k=>bif Nat.beq k 0 then some (.inv [.sl 14 .cInt, .bl 3 .rU8, .ar .cU8] (fun zo zv=>(fun (i:Int) (K:(List (Row UInt8))) (A:(List (Nat×List UInt8)))=>i_24_47_48_0 a i K A) zv.1 zv.2.1 zv.2.2.1) (fun zo zv=>(fun (i:Int) (K:(List (Row UInt8))) (A:(List (Nat×List UInt8)))=>((a.length:Int) - i).toNat) zv.1 zv.2.1 zv.2.2.1)) else bif Nat.beq k 1 then some (.inv [.sl 27 .cInt, .sl 8 .cInt, .bl 3 .rU8, .ar .cU8] (fun zo zv=>(fun (k0:Int) (i0:Int) (K0:(List (Row UInt8))) (A0:(List (Nat×List UInt8))) (k:Int) (i:Int) (K:(List (Row UInt8))) (A:(List (Nat×List UInt8)))=>i_24_47_48_1 a k0 i0 K0 A0 k i K A) zo.1 zo.2.1 zo.2.2.1 zo.2.2.2.1 zv.1 zv.2.1 zv.2.2.1 zv.2.2.2.1) (fun zo zv=>(fun (k0:Int) (i0:Int) (K0:(List (Row UInt8))) (A0:(List (Nat×List UInt8))) (k:Int) (i:Int) (K:(List (Row UInt8))) (A:(List (Nat×List UInt8)))=>((2*(a.length:Int)) - k).toNat) zo.1 zo.2.1 zo.2.2.1 zo.2.2.2.1 zv.1 zv.2.1 zv.2.2.1 zv.2.2.2.1)) else none),some 48⟩,⟨70, .fn F70 (fun k=>bif Nat.beq k 0 then some (.inv [.sl 8 .cInt, .pt 0 3 1, .ce 5 .cInt, .bl 3 .rU8, .ar .cU8] (fun zo zv=>(fun (k0:Int) (s0:(Nat×Nat)) (c0:Int) (K0:(List (Row UInt8))) (A0:(List (Nat×List UInt8))) (k:Int) (s:(Nat×Nat)) (c:Int) (K:(List (Row UInt8))) (A:(List (Nat×List UInt8)))=>i_24_70_0 k0 s0 c0 K0 A0 k s c K A) zo.1 zo.2.1 zo.2.2.1 zo.2.2.2.1 zo.2.2.2.2.1 zv.1 zv.2.1 zv.2.2.1 zv.2.2.2.1 zv.2.2.2.2.1) (fun zo zv=>(fun (k0:Int) (s0:(Nat×Nat)) (c0:Int) (K0:(List (Row UInt8))) (A0:(List (Nat×List UInt8))) (k:Int) (s:(Nat×Nat)) (c:Int) (K:(List (Row UInt8))) (A:(List (Nat×List UInt8)))=>((s.2:Int) - k).toNat) zo.1 zo.2.1 zo.2.2.1 zo.2.2.2.1 zo.2.2.2.2.1 zv.1 zv.2.1 zv.2.2.1 zv.2.2.2.1 zv.2.2.2.2.1)) else none),none⟩,⟨72, .fn F72 (fun k=>bif Nat.beq k 0 then some (.inv [.sl 12 .cInt, .sl 1 .cInt, .sl 2 .cU8, .bl 3 .rU8, .ar .cU8] (fun zo zv=>(fun (k0:Int) (i0:Int) (f0:UInt8) (K0:(List (Row UInt8))) (A0:(List (Nat×List UInt8))) (k:Int) (i:Int) (f:UInt8) (K:(List (Row UInt8))) (A:(List (Nat×List UInt8)))=>i_24_72_0 k0 i0 f0 K0 A0 k i f K A) zo.1 zo.2.1 zo.2.2.1 zo.2.2.2.1 zo.2.2.2.2.1 zv.1 zv.2.1 zv.2.2.1 zv.2.2.2.1 zv.2.2.2.2.1) (fun zo zv=>(fun (k0:Int) (i0:Int) (f0:UInt8) (K0:(List (Row UInt8))) (A0:(List (Nat×List UInt8))) (k:Int) (i:Int) (f:UInt8) (K:(List (Row UInt8))) (A:(List (Nat×List UInt8)))=>((lkA A0 (rAt K i).id).length - k).toNat) zo.1 zo.2.1 zo.2.2.1 zo.2.2.2.1 zo.2.2.2.2.1 zv.1 zv.2.1 zv.2.2.1 zv.2.2.2.1 zv.2.2.2.2.1)) else none),none⟩,⟨73, .fn F73 (fun k=>bif Nat.beq k 0 then some (.inv [.sl 15 .cInt, .sl 1 .cInt, .sl 2 .cInt, .sl 3 .cU8, .bl 3 .rU8, .ar .cU8] (fun zo zv=>(fun (k0:Int) (t0:Int) (s0:Int) (f0:UInt8) (K0:(List (Row UInt8))) (A0:(List (Nat×List UInt8))) (k:Int) (t:Int) (s:Int) (f:UInt8) (K:(List (Row UInt8))) (A:(List (Nat×List UInt8)))=>i_24_73_0 k0 t0 s0 f0 K0 A0 k t s f K A) zo.1 zo.2.1 zo.2.2.1 zo.2.2.2.1 zo.2.2.2.2.1 zo.2.2.2.2.2.1 zv.1 zv.2.1 zv.2.2.1 zv.2.2.2.1 zv.2.2.2.2.1 zv.2.2.2.2.2.1) (fun zo zv=>(fun (k0:Int) (t0:Int) (s0:Int) (f0:UInt8) (K0:(List (Row UInt8))) (A0:(List (Nat×List UInt8))) (k:Int) (t:Int) (s:Int) (f:UInt8) (K:(List (Row UInt8))) (A:(List (Nat×List UInt8)))=>((lkA A0 (rAt K s).id).length - k).toNat) zo.1 zo.2.1 zo.2.2.1 zo.2.2.2.1 zo.2.2.2.2.1 zo.2.2.2.2.2.1 zv.1 zv.2.1 zv.2.2.1 zv.2.2.2.1 zv.2.2.2.2.1 zv.2.2.2.2.2.1)) else none),none⟩,⟨49, .fn F49 (fun k=>bif Nat.beq k 0 then some (.inv [.sl 12 .cInt, .sl 5 .cInt, .sl 1 .cInt, .bl 3 .rU8, .ar .cU8] (fun zo zv=>(fun (c0:Int) (d0:Int) (cols0:Int) (K0:(List (Row UInt8))) (A0:(List (Nat×List UInt8))) (c:Int) (d:Int) (cols:Int) (K:(List (Row UInt8))) (A:(List (Nat×List UInt8)))=>i_24_49_0 c0 d0 cols0 K0 A0 c d cols K A) zo.1 zo.2.1 zo.2.2.1 zo.2.2.2.1 zo.2.2.2.2.1 zv.1 zv.2.1 zv.2.2.1 zv.2.2.2.1 zv.2.2.2.2.1) (fun zo zv=>(fun (c0:Int) (d0:Int) (cols0:Int) (K0:(List (Row UInt8))) (A0:(List (Nat×List UInt8))) (c:Int) (d:Int) (cols:Int) (K:(List (Row UInt8))) (A:(List (Nat×List UInt8)))=>(cols - c).toNat) zo.1 zo.2.1 zo.2.2.1 zo.2.2.2.1 zo.2.2.2.2.1 zv.1 zv.2.1 zv.2.2.1 zv.2.2.2.1 zv.2.2.2.2.1)) else bif Nat.beq k 1 then some (.inv [.sl 57 .cInt, .sl 12 .cInt, .sl 5 .cInt, .bl 3 .rU8, .ar .cU8] (fun zo zv=>(fun (k0:Int) (c0:Int) (d0:Int) (K0:(List (Row UInt8))) (A0:(List (Nat×List UInt8))) (k:Int) (c:Int) (d:Int) (K:(List (Row UInt8))) (A:(List (Nat×List UInt8)))=>i_24_49_1 k0 c0 d0 K0 A0 k c d K A) zo.1 zo.2.1 zo.2.2.1 zo.2.2.2.1 zo.2.2.2.2.1 zv.1 zv.2.1 zv.2.2.1 zv.2.2.2.1 zv.2.2.2.2.1) (fun zo zv=>(fun (k0:Int) (c0:Int) (d0:Int) (K0:(List (Row UInt8))) (A0:(List (Nat×List UInt8))) (k:Int) (c:Int) (d:Int) (K:(List (Row UInt8))) (A:(List (Nat×List UInt8)))=>((K.length:Int) - k).toNat) zo.1 zo.2.1 zo.2.2.1 zo.2.2.2.1 zo.2.2.2.2.1 zv.1 zv.2.1 zv.2.2.1 zv.2.2.2.1 zv.2.2.2.2.1)) else none),none⟩])) x.1
theorem l_24_ok:∀x,ILs Try.prog tD (l_24 x):=fun _=>⟨⟨F47_ok,F47_call⟩,⟨F70_ok,F70_call⟩,⟨F72_ok,F72_call⟩,⟨F73_ok,F73_call⟩,⟨F49_ok,F49_call⟩,trivial⟩
theorem k_24_ok:k_24.Ok Try.prog tD:=con_ok tD_ok (Δ:=[k_45,k_48,k_32_35,k_58,k_44,k_71]) ⟨k_45_ok,k_48_ok,k_32_35_ok,k_58_ok,k_44_ok,k_71_ok,trivial⟩ (Ω:=[]) trivial k_24 F24_ok F24_call (l_24) (l_24_ok) 3 (fun x=>(fun (a:(List (List UInt8)))=>(fun k=>bif Nat.beq k 1029 then some (.frz [5]) else bif Nat.beq k 1033 then some (.frz [6]) else none)) x.1) fun x hp=>Eq.mp (by kernel_rfl) (k_24_v x.1)
open Go.RowKit
def allF (many more:Int):List (List UInt8):=fillL many many fU++fillL more many (fC more)
def rowsF (many more:Int) (at_:List Int):List (List UInt8):=at_.map fun i=>gd [] (allF many more) i.toNat
theorem allF_len {many more:Int} (h1:0≤many) (h2:0≤more):((allF many more).length:Int)=many+more:=by
 unfold allF fillL;simp;omega
structure RwF (many more:Int) (at_:List Int) (i:Int) (out:List (List UInt8)):Prop where
 lo:0≤i
 hi:i≤at_.length
 eq:out=(at_.take i.toNat).map fun i=>gd [] (allF many more) i.toNat
theorem RwF.start {many more:Int} {at_:List Int}:RwF many more at_ 0 []:=⟨by omega,by omega,by simp⟩
theorem RwF.step {many more i:Int} {at_:List Int} {out:List (List UInt8)} (h:RwF many more at_ i out) (hi:i<at_.length):RwF many more at_ (i+1) (out++[gd [] (allF many more) (gd 0 at_ i.toNat).toNat]):=by
 have h0:=h.lo
 refine ⟨by omega,by omega, ?_⟩
 rw [show (i+1).toNat=i.toNat+1 by omega,List.take_add_one,gd_get (d:=0) (by omega),h.eq]
 simp
theorem RwF.len {many more i:Int} {at_:List Int} {out:List (List UInt8)} (h:RwF many more at_ i out):(out.length:Int)=i:=by
 have:=h.lo;have:=h.hi
 rw [h.eq];simp;omega
theorem RwF.fin {many more i:Int} {at_:List Int} {out:List (List UInt8)} (h:RwF many more at_ i out) (hi:at_.length≤i):out=rowsF many more at_:=by
 rw [h.eq,List.take_of_length_le (by omega)];rfl
def atGo (n:Int):List Int→List Int→Int
 |_,[]=>0
 |seen,x::r=>if x<0∨n≤x then 3 else if x∈seen then 6 else atGo n (seen++[x]) r
def atE (n:Int) (at_:List Int):Int:=atGo n [] at_
structure AtI (n:Int) (at_:List Int) (i:Int):Prop where
 lo:0≤i
 hi:i≤at_.length
 eq:atGo n (at_.take i.toNat) (at_.drop i.toNat)=atE n at_
theorem AtI.start {n:Int} {at_:List Int}:AtI n at_ 0:=⟨by omega,by omega,rfl⟩
theorem AtI.out {n:Int} {at_:List Int} {i:Int} (h:AtI n at_ i) (hi:i<at_.length) (hb:gd 0 at_ i.toNat<0∨n≤gd 0 at_ i.toNat):atE n at_=3:=by
 have h0:=h.lo
 rw [←h.eq,gd_drop 0 (by omega),atGo,if_pos hb]
theorem AtI.twice {n:Int} {at_:List Int} {i:Int} (h:AtI n at_ i) (hi:i<at_.length) (h1:0≤gd 0 at_ i.toNat) (h2:gd 0 at_ i.toNat<n) (hb:gd 0 at_ i.toNat∈at_.take i.toNat):atE n at_=6:=by
 have h0:=h.lo
 rw [←h.eq,gd_drop 0 (by omega),atGo,if_neg (by omega),if_pos hb]
theorem AtI.step {n:Int} {at_:List Int} {i:Int} (h:AtI n at_ i) (hi:i<at_.length) (h1:0≤gd 0 at_ i.toNat) (h2:gd 0 at_ i.toNat<n) (hb:¬gd 0 at_ i.toNat∈at_.take i.toNat):AtI n at_ (i+1):=by
 have h0:=h.lo
 refine ⟨by omega,by omega, ?_⟩
 rw [←h.eq,gd_drop 0 (i:=i.toNat) (by omega),atGo,if_neg (by omega),if_neg hb,show (i+1).toNat=i.toNat+1 by omega,List.take_add_one,gd_get (d:=0) (by omega)]
 rfl
theorem AtI.fin {n:Int} {at_:List Int} {i:Int} (h:AtI n at_ i) (hi:at_.length≤i):atE n at_=0:=by
 rw [←h.eq,List.drop_eq_nil_of_le (by omega)];rfl
theorem atGo_rng {n:Int}:∀{seen l:List Int},atGo n seen l=0→(∀i,i∈l→0≤i∧i<n∧¬i∈seen)∧l.Nodup
 |_,[],_=>⟨fun i h=>by simp at h,List.nodup_nil⟩
 |seen,x::r,h=>by
  unfold atGo at h
  split at h
  ·simp at h
  ·rename_i h1
   split at h
   ·simp at h
   ·rename_i h2
    obtain ⟨q1,q2⟩:=atGo_rng h
    refine ⟨fun i hi=> ?_, ?_⟩
    ·rcases List.mem_cons.1 hi with e|e
     ·rw [e];exact ⟨by omega,by omega,h2⟩
     ·obtain ⟨p1,p2,p3⟩:=q1 i e
      exact ⟨p1,p2,fun hh=>p3 (List.mem_append_left _ hh)⟩
    ·rw [List.nodup_cons]
     exact ⟨fun hx=>(q1 x hx).2.2 (by simp),q2⟩
theorem atE_rng {n:Int} {at_:List Int} (h:atE n at_=0):(∀i,i∈at_→0≤i∧i<n)∧at_.Nodup:=by
 obtain ⟨q1,q2⟩:=atGo_rng h
 exact ⟨fun i hi=>⟨(q1 i hi).1,(q1 i hi).2.1⟩,q2⟩
def rebL (many more:Int) (at_:List Int) (pieces:List BA):List BA×Int:=
 if ¬(1≤many∧many≤8)∨¬(1≤more∧more≤6) then ([],3) else if ¬(at_.length:Int)=pieces.length then ([],1) else if (at_.length:Int)<many then ([],8) else if many<(at_.length:Int) then ([],2) else if ¬atE (many+more) at_=0 then ([],atE (many+more) at_) else if ¬alkE pieces=0 then ([],alkE pieces) else if ¬(invL (rowsF many more at_)).2=0 then ([],(invL (rowsF many more at_)).2) else (mixS (invL (rowsF many more at_)).1 pieces,0)
theorem rowsF_in {many more:Int} {at_:List Int} (h1:0≤many) (h2:0≤more) (ha:∀i,i∈at_→0≤i∧i<many+more):∀r,r∈rowsF many more at_→r.length=many.toNat:=fun r hr=>by
 obtain ⟨i,hi,rfl⟩:=List.mem_map.1 hr
 have hl:=allF_len h1 h2
 have hb:=ha i hi
 have hm:=gd_mem (d:=[]) (xs:=allF many more) (i:=i.toNat) (by omega)
 unfold allF at hm
 rcases List.mem_append.1 hm with h|h
 ·exact fill_w _ h
 ·exact fill_w _ h
theorem inv_w {a:List (List UInt8)} (h:(invL a).2=0):(invL a).1.length=a.length∧∀r,r∈(invL a).1→r.length=a.length:=by
 unfold invL at h ⊢
 by_cases h1:mchk a≠0
 ·rw [if_pos h1] at h;exact absurd h h1
 ·rw [if_neg h1] at h ⊢
  by_cases h2:a.length≠(gd [] a 0).length
  ·rw [if_pos h2] at h;simp at h
  ·rw [if_neg h2] at h ⊢
   by_cases h3:(clI a).2<a.length
   ·rw [if_pos h3] at h;simp at h
   ·rw [if_neg h3]
    refine ⟨by unfold fillL;simp,fun r hr=> ?_⟩
    have:=fill_w r hr
    omega
theorem reb_mx {many more:Int} {at_:List Int} {pieces:List BA} (h1:1≤many) (h2:many≤8) (hl:(at_.length:Int)=pieces.length) (hm:(at_.length:Int)=many) (hk:alkE pieces=0) (hi:(invL (rowsF many more at_)).2=0):MxP (invL (rowsF many more at_)).1 pieces:=by
 obtain ⟨a1,a2⟩:=alk_ok hk
 obtain ⟨b1,b2⟩:=inv_w hi
 have h0:=a1 _ (gd_mem (d:=ByteArray.empty) (xs:=pieces) (i:=0) (by omega))
 have hr:(rowsF many more at_).length=at_.length:=by unfold rowsF;simp
 refine ⟨by omega,by omega,by omega,fun r hr'=>by have:=b2 r hr';omega,fun s hs=>by rw [a2 s hs];exact Nat.le_refl _,by omega⟩
theorem at_in {n:Int} {at_:List Int} {i:Int} (h:∀i,i∈at_→0≤i∧i<n) (h1:0≤i) (h2:i<at_.length):0≤gd 0 at_ i.toNat∧gd 0 at_ i.toNat<n:=h _ (gd_mem (by omega))
def i_35_47_79_1 (many:Int) (k0:Int) (i0:Int) (K0:(List (Row UInt8))) (A0:(List (Nat×List UInt8))) (k:Int) (i:Int) (K:(List (Row UInt8))) (A:(List (Nat×List UInt8))):Prop:=0≤k∧k≤many∧K=K0∧i=i0∧FillR A0 A (gd (Row.no UInt8) K i.toNat) k many (fU i.toNat)
def i_35_47_79_0 (many:Int) (i:Int) (K:(List (Row UInt8))) (A:(List (Nat×List UInt8))):Prop:=0≤i∧i≤many∧FillI A K i many many (fU)
def i_35_0 (many:Int) (more:Int) (at_:(List Int)) (i:Int) (out:(List (List UInt8))):Prop:=RwF many more at_ i out
def k_35:Con Tc Tc.dn:=⟨35,[.ty .cInt, .ty .cInt, .ty .lInt],fun x=>(fun (many:Int) (more:Int) (at_:(List Int))=>1≤many∧many≤8∧1≤more∧more≤6∧at_.length≤100∧∀i,i∈at_→0≤i∧i<many+more) x.1 x.2.1 x.2.2.1,[.llU8],fun x=>(fun (many:Int) (more:Int) (at_:(List Int))=>rowsF many more at_) x.1 x.2.1 x.2.2.1⟩
abbrev z35_0 (many:Int):=(List.replicate many.toNat (UInt8.ofNat (Int.toNat (0:Int))))
theorem k_35_v (many:Int) (more:Int) (at_:(List Int)) (hp:1≤many∧many≤8∧1≤more∧more≤6∧at_.length≤100∧∀i,i∈at_→0≤i∧i<many+more):True∧(decide ((1:Int)≤many∧many≤(16:Int))= !true→True∧(cauL more many).fst.length*(24:Nat)≤(140737488355328:Nat)∧i_35_0 many more at_ (0:Int) []∧∀(x:Int) (x_1:List (List UInt8)),i_35_0 many more at_ x x_1→(x<(↑at_.length:Int)→((0:Int)≤x∧x<(↑at_.length:Int))∧((0:Int)≤gd (0:Int) at_ x.toNat∧gd (0:Int) at_ x.toNat<(↑(cauL more many).fst.length:Int))∧(gd (0:Int) at_ x.toNat).toNat<(cauL more many).fst.length∧(x_1.length+(1:Nat))*(24:Nat)≤(140737488355328:Nat)∧I64 (x+(1:Int))∧i_35_0 many more at_ (x+(1:Int)) (x_1++[gd [] (cauL more many).fst (gd (0:Int) at_ x.toNat).toNat])∧((↑at_.length:Int) - (x+(1:Int))).toNat<((↑at_.length:Int) - x).toNat)∧((↑at_.length:Int)≤x→x_1=rowsF many more at_))∧(decide ((1:Int)≤many∧many≤(16:Int))= !false→((0:Int)≤many∧many≤many∧many*(↑(24:Nat):Int)≤(140737488355328:Int))∧i_35_47_79_0 many (0:Int) (List.replicate many.toNat (Row.no UInt8)) []∧∀(x:Int) (x_1:List (Row UInt8)) (x_2:List (Nat×List UInt8)),i_35_47_79_0 many x x_1 x_2→(x<(↑(List.replicate many.toNat (Row.no UInt8)).length:Int)→((0:Int)≤many∧many≤many∧many*(↑(1:Nat):Int)≤(140737488355328:Int))∧((0:Int)≤x∧x<(↑x_1.length:Int))∧∀(id:Nat),¬hasA x_2 id→x.toNat<x_1.length∧((0:Int)≤x∧x<(↑(x_1.set x.toNat (Row.at UInt8 id (z35_0 many).length)).length:Int))∧x.toNat<(x_1.set x.toNat (Row.at UInt8 id (z35_0 many).length)).length∧(gd (Row.no UInt8) (x_1.set x.toNat (Row.at UInt8 id (z35_0 many).length)) x.toNat).ok ((id,List.replicate many.toNat (UInt8.ofNat (Int.toNat (0:Int))))::x_2)∧i_35_47_79_1 many (0:Int) x (x_1.set x.toNat (Row.at UInt8 id (z35_0 many).length)) ((id,List.replicate many.toNat (UInt8.ofNat (Int.toNat (0:Int))))::x_2) (0:Int) x (x_1.set x.toNat (Row.at UInt8 id (z35_0 many).length)) ((id,List.replicate many.toNat (UInt8.ofNat (Int.toNat (0:Int))))::x_2)∧∀(x_3 x_4:Int) (x_5:List (Row UInt8)) (x_6:List (Nat×List UInt8)),i_35_47_79_1 many (0:Int) x (x_1.set x.toNat (Row.at UInt8 id (z35_0 many).length)) ((id,List.replicate many.toNat (UInt8.ofNat (Int.toNat (0:Int))))::x_2) x_3 x_4 x_5 x_6→(x_3<(↑((gd (Row.no UInt8) (x_1.set x.toNat (Row.at UInt8 id (z35_0 many).length)) x.toNat).get ((id,List.replicate many.toNat (UInt8.ofNat (Int.toNat (0:Int))))::x_2)).length:Int)→((0:Int)≤x_4∧x_4<(↑x_5.length:Int))∧x_4.toNat<x_5.length∧True∧(gd (Row.no UInt8) x_5 x_4.toNat).ok x_6∧((0:Int)≤x_3∧x_3<(↑((gd (Row.no UInt8) x_5 x_4.toNat).get x_6).length:Int))∧(gd (Row.no UInt8) x_5 x_4.toNat).mine x_6∧x_3.toNat<((gd (Row.no UInt8) x_5 x_4.toNat).get x_6).length∧I64 (x_3+(1:Int))∧i_35_47_79_1 many (0:Int) x (x_1.set x.toNat (Row.at UInt8 id (z35_0 many).length)) ((id,List.replicate many.toNat (UInt8.ofNat (Int.toNat (0:Int))))::x_2) (x_3+(1:Int)) x_4 x_5 (((gd (Row.no UInt8) x_5 x_4.toNat).id,((gd (Row.no UInt8) x_5 x_4.toNat).get x_6).set x_3.toNat (if x_4=x_3 then (1:RD Tc.dn [Tc.cU8]) else (0:RD Tc.dn [Tc.cU8])))::x_6)∧(many - (x_3+(1:Int))).toNat<(many - x_3).toNat)∧((↑((gd (Row.no UInt8) (x_1.set x.toNat (Row.at UInt8 id (z35_0 many).length)) x.toNat).get ((id,List.replicate many.toNat (UInt8.ofNat (Int.toNat (0:Int))))::x_2)).length:Int)≤x_3→I64 (x+(1:Int))∧i_35_47_79_0 many (x+(1:Int)) x_5 x_6∧(many - (x+(1:Int))).toNat<(many - x).toNat))∧((↑(List.replicate many.toNat (Row.no UInt8)).length:Int)≤x→True∧(∀(x:Row UInt8),x∈x_1→x.ok x_2∧x.kd≠RK.nil)∧((List.map (fun x=>x.get x_2) x_1).length+(cauL more many).fst.length)*(24:Nat)≤(140737488355328:Nat)∧i_35_0 many more at_ (0:Int) []∧∀(x:Int) (x_3:List (List UInt8)),i_35_0 many more at_ x x_3→(x<(↑at_.length:Int)→((0:Int)≤x∧x<(↑at_.length:Int))∧((0:Int)≤gd (0:Int) at_ x.toNat∧gd (0:Int) at_ x.toNat<(↑(List.map (fun x=>x.get x_2) x_1++(cauL more many).fst).length:Int))∧(gd (0:Int) at_ x.toNat).toNat<(List.map (fun x=>x.get x_2) x_1++(cauL more many).fst).length∧(x_3.length+(1:Nat))*(24:Nat)≤(140737488355328:Nat)∧I64 (x+(1:Int))∧i_35_0 many more at_ (x+(1:Int)) (x_3++[gd [] (List.map (fun x=>x.get x_2) x_1++(cauL more many).fst) (gd (0:Int) at_ x.toNat).toNat])∧((↑at_.length:Int) - (x+(1:Int))).toNat<((↑at_.length:Int) - x).toNat)∧((↑at_.length:Int)≤x→x_3=rowsF many more at_))):=by
 delta z35_0
 refine ⟨trivial,fun h=>absurd h (by simp;omega),fun _=>filled_vc many many fU (fun i k=>if i=k then 1 else 0) (fun i k=>True) _ ⟨by omega,by omega,by omega,by omega⟩ (fun i k h1 h2 h3 h4=>⟨trivial,by unfold fU;by_cases h:i=k<;>simp [h];omega⟩) fun K A i hi hF=> ?_⟩
 obtain ⟨e1,e2⟩:=hF.fin hi (by omega)
 rw [e2,cau_ok (by omega) (by omega) (by omega) (by omega)]
 have hl:=allF_len (many:=many) (more:=more) (by omega) (by omega)
 have hl2:(allF many more).length=(fillL many many fU).length+(fillL more many (fC more)).length:=by unfold allF;rw [List.length_append]
 have a1:= @RwF.start many more at_
 have a2:= @RwF.step many more
 have a3:= @RwF.len many more
 have a4:= @RwF.fin many more
 have a5:= @RwF.lo many more
 have a6:= @at_in (many+more) at_
 obtain ⟨p1,p2,p3,p4,p5,p6⟩:=hp
 show True∧_∧_∧_∧∀(x:Int) (x_3:List (List UInt8)),i_35_0 many more at_ x x_3→(x<(↑at_.length:Int)→((0:Int)≤x∧x<(↑at_.length:Int))∧((0:Int)≤gd (0:Int) at_ x.toNat∧gd (0:Int) at_ x.toNat<(↑(allF many more).length:Int))∧(gd (0:Int) at_ x.toNat).toNat<(allF many more).length∧(x_3.length+(1:Nat))*(24:Nat)≤(140737488355328:Nat)∧I64 (x+(1:Int))∧i_35_0 many more at_ (x+(1:Int)) (x_3++[gd [] (allF many more) (gd (0:Int) at_ x.toNat).toNat])∧((↑at_.length:Int) - (x+(1:Int))).toNat<((↑at_.length:Int) - x).toNat)∧((↑at_.length:Int)≤x→x_3=rowsF many more at_)
 (repeat' (first|apply And.intro|intro _))<;>first|assumption|trivial|omega|(grind [i_35_47_79_1,i_35_47_79_0,i_35_0,I64])|trace_state
def l_35:PD Tc.dn k_35.ps→List (IL Tc Tc.dn):=fun x=>(fun (many:Int) (more:Int) (at_:(List Int))=>([⟨53, .fn F53 (fun _=>none),none⟩,⟨74, .fn F74 (fun _=>none),none⟩,⟨47, .fn F47 (fun k=>bif Nat.beq k 0 then some (.inv [.sl 14 .cInt, .bl 1 .rU8, .ar .cU8] (fun zo zv=>(fun (i:Int) (K:(List (Row UInt8))) (A:(List (Nat×List UInt8)))=>i_35_47_79_0 many i K A) zv.1 zv.2.1 zv.2.2.1) (fun zo zv=>(fun (i:Int) (K:(List (Row UInt8))) (A:(List (Nat×List UInt8)))=>(many - i).toNat) zv.1 zv.2.1 zv.2.2.1)) else bif Nat.beq k 1 then some (.inv [.sl 27 .cInt, .sl 8 .cInt, .bl 1 .rU8, .ar .cU8] (fun zo zv=>(fun (k0:Int) (i0:Int) (K0:(List (Row UInt8))) (A0:(List (Nat×List UInt8))) (k:Int) (i:Int) (K:(List (Row UInt8))) (A:(List (Nat×List UInt8)))=>i_35_47_79_1 many k0 i0 K0 A0 k i K A) zo.1 zo.2.1 zo.2.2.1 zo.2.2.2.1 zv.1 zv.2.1 zv.2.2.1 zv.2.2.2.1) (fun zo zv=>(fun (k0:Int) (i0:Int) (K0:(List (Row UInt8))) (A0:(List (Nat×List UInt8))) (k:Int) (i:Int) (K:(List (Row UInt8))) (A:(List (Nat×List UInt8)))=>(many - k).toNat) zo.1 zo.2.1 zo.2.2.1 zo.2.2.2.1 zv.1 zv.2.1 zv.2.2.1 zv.2.2.2.1)) else none),some 79⟩])) x.1 x.2.1 x.2.2.1
theorem l_35_ok:∀x,ILs Try.prog tD (l_35 x):=fun _=>⟨⟨F53_ok,F53_call⟩,⟨F74_ok,F74_call⟩,⟨F47_ok,F47_call⟩,trivial⟩
theorem k_35_ok:k_35.Ok Try.prog tD:=con_ok tD_ok (Δ:=[k_56,k_79,k_32]) ⟨k_56_ok,k_79_ok,k_32_ok,trivial⟩ (Ω:=[]) trivial k_35 F35_ok F35_call (l_35) (l_35_ok) 3 (fun x=>(fun (many:Int) (more:Int) (at_:(List Int))=>(fun k=>bif Nat.beq k 0 then some (.inv [.sl 31 .cInt, .ow 12 .lU8] (fun zo zv=>(fun (i:Int) (out:(List (List UInt8)))=>i_35_0 many more at_ i out) zv.1 zv.2.1) (fun zo zv=>(fun (i:Int) (out:(List (List UInt8)))=>((at_.length:Int) - i).toNat) zv.1 zv.2.1)) else bif Nat.beq k 1026 then some (.frz [7,5000]) else none)) x.1 x.2.1 x.2.2.1) fun x hp=>Eq.mp (by kernel_rfl) (k_35_v x.1 x.2.1 x.2.2.1 hp)
def i_12_0 (many:Int) (more:Int) (at_:(List Int)) (pieces:(List ByteArray)) (i:Int):Prop:=(at_.length:Int)=pieces.length∧(at_.length:Int)=many∧(1≤many∧many≤8∧1≤more∧more≤6)∧AtI (many+more) at_ i
def k_12:Con Tc Tc.dn:=⟨12,[.ty .cInt, .ty .cInt, .ty .lInt, .ty .lStr],fun x=>(fun (many:Int) (more:Int) (at_:(List Int)) (pieces:(List ByteArray))=>True) x.1 x.2.1 x.2.2.1 x.2.2.2.1,[.lStr, .cInt],fun x=>(fun (many:Int) (more:Int) (at_:(List Int)) (pieces:(List ByteArray))=>rebL many more at_ pieces) x.1 x.2.1 x.2.2.1 x.2.2.2.1⟩
theorem k_12_v (many:Int) (more:Int) (at_:(List Int)) (pieces:(List ByteArray)):True∧(decide ((1:Int)≤many∧many≤(8:Int))= !!true→True)∧(decide ((1:Int)≤many∧many≤(8:Int))= !true∧decide ((1:Int)≤many∧many≤(8:Int))= !true∨decide ((1:Int)≤many∧many≤(8:Int))= !!true∧decide ((1:Int)≤more∧more≤(6:Int))= !true→([],(3:Int))=rebL many more at_ pieces)∧((decide ((1:Int)≤many∧many≤(8:Int))= !false∨decide ((1:Int)≤many∧many≤(8:Int))= !false)∧(decide ((1:Int)≤many∧many≤(8:Int))= !!false∨decide ((1:Int)≤more∧more≤(6:Int))= !false)→(¬(↑at_.length:Int)=(↑pieces.length:Int)→([],(1:Int))=rebL many more at_ pieces)∧((↑at_.length:Int)=(↑pieces.length:Int)→((↑at_.length:Int)<many→([],(8:Int))=rebL many more at_ pieces)∧(many≤(↑at_.length:Int)→(many<(↑at_.length:Int)→([],(2:Int))=rebL many more at_ pieces)∧((↑at_.length:Int)≤many→i_12_0 many more at_ pieces (0:Int)∧∀(x:Int),i_12_0 many more at_ pieces x→(x<(↑at_.length:Int)→((0:Int)≤x∧x<(↑at_.length:Int))∧((0:Int)≤gd (0:Int) at_ x.toNat→(0:Int)≤gd (0:Int) at_ x.toNat)∧((0:Int)≤gd (0:Int) at_ x.toNat→(0:Int)≤gd (0:Int) at_ x.toNat)∧((0:Int)≤gd (0:Int) at_ x.toNat→I64 (many+more))∧((0:Int)≤gd (0:Int) at_ x.toNat→(0:Int)≤gd (0:Int) at_ x.toNat)∧((0:Int)≤gd (0:Int) at_ x.toNat→(0:Int)≤gd (0:Int) at_ x.toNat)∧((0:Int)≤gd (0:Int) at_ x.toNat→(0:Int)≤gd (0:Int) at_ x.toNat)∧(gd (0:Int) at_ x.toNat<(0:Int)∨many+more≤gd (0:Int) at_ x.toNat→([],(3:Int))=rebL many more at_ pieces)∧((0:Int)≤gd (0:Int) at_ x.toNat∧gd (0:Int) at_ x.toNat<many+more→((0:Int)≤x∧x≤(↑at_.length:Int))∧(List.take x.toNat at_).length≤(1000000:Nat)∧(decide (gd (0:Int) at_ x.toNat∈List.take x.toNat at_)=true→([],(6:Int))=rebL many more at_ pieces)∧(decide (gd (0:Int) at_ x.toNat∈List.take x.toNat at_)=false→I64 (x+(1:Int))∧i_12_0 many more at_ pieces (x+(1:Int))∧((↑at_.length:Int) - (x+(1:Int))).toNat<((↑at_.length:Int) - x).toNat)))∧((↑at_.length:Int)≤x→pieces.length≤(1000000:Nat)∧(¬alkE pieces=(0:Int)→([],alkE pieces)=rebL many more at_ pieces)∧(alkE pieces=(0:Int)→((1:Int)≤many∧many≤(8:Int)∧(1:Int)≤more∧more≤(6:Int)∧at_.length≤(100:Nat)∧∀(i:Int),i∈at_→(0:Int)≤i∧i<many+more)∧True∧(¬(invL (rowsF many more at_)).snd=(0:Int)→([],(invL (rowsF many more at_)).snd)=rebL many more at_ pieces)∧((invL (rowsF many more at_)).snd=(0:Int)→MxP (invL (rowsF many more at_)).fst pieces∧(mixS (invL (rowsF many more at_)).fst pieces,(0:Int))=rebL many more at_ pieces))))))):=by
 have a1:= @AtI.start (many+more) at_
 have a2:= @AtI.out (many+more) at_
 have a3:= @AtI.twice (many+more) at_
 have a4:= @AtI.step (many+more) at_
 have a5:= @AtI.fin (many+more) at_
 have a6:= @AtI.lo (many+more) at_
 have b1:= @atE_rng (many+more) at_
 have b2:= @reb_mx many more at_ pieces
 unfold rebL
 simp only [Bool.not_false,Bool.not_true,decide_eq_true_eq,decide_eq_false_iff_not]
 (repeat' (first|apply And.intro|intro _))<;>first|assumption|trivial|omega|(focus ((repeat (first|rw [if_pos (by omega)]|rw [if_neg (by omega)]));done))|(grind [i_12_0,I64])|trace_state
theorem k_12_ok:k_12.Ok Try.prog tD:=con_ok tD_ok (Δ:=[k_30,k_34,k_31,k_35,k_24,k_33]) ⟨k_30_ok,k_34_ok,k_31_ok,k_35_ok,k_24_ok,k_33_ok,trivial⟩ (Ω:=[]) trivial k_12 F12_ok F12_call (fun _=>[]) (fun _=>trivial) 0 (fun x=>(fun (many:Int) (more:Int) (at_:(List Int)) (pieces:(List ByteArray))=>(fun k=>bif Nat.beq k 0 then some (.inv [.sl 40 .cInt] (fun zo zv=>(fun (i:Int)=>i_12_0 many more at_ pieces i) zv.1) (fun zo zv=>(fun (i:Int)=>((at_.length:Int) - i).toNat) zv.1)) else none)) x.1 x.2.1 x.2.2.1 x.2.2.2.1) fun x hp=>Eq.mp (by kernel_rfl) (k_12_v x.1 x.2.1 x.2.2.1 x.2.2.2.1)
open Go.RowKit
open Go.RowKit
theorem gd_iff {α:Type} {d:α} {a b:List α} (h:a.length=b.length) (k:∀i,i<a.length→gd d a i=gd d b i):a=b:=by
 refine List.ext_getElem h fun i h1 h2=> ?_
 have:=k i h1
 unfold gd at this
 rw [List.getElem?_eq_getElem h1,List.getElem?_eq_getElem h2] at this
 simpa using this
structure UpI {α:Type} (n:Int) (f:Nat→α) (i:Int) (L:List α):Prop where
 lo:0≤i
 hi:i≤n
 eq:L=(List.range i.toNat).map f
theorem UpI.start {α:Type} {n:Int} {f:Nat→α} (h:0≤n):UpI n f 0 []:=⟨by omega,h,rfl⟩
theorem UpI.step {α:Type} {n:Int} {f:Nat→α} {i:Int} {L:List α} (h:UpI n f i L) (hi:i<n):UpI n f (i+1) (L++[f i.toNat]):=⟨by have:=h.lo;omega,by omega,by
 have:=h.lo
 rw [show (i+1).toNat=i.toNat+1 by omega,List.range_succ,List.map_append, ←h.eq];rfl⟩
theorem UpI.len {α:Type} {n:Int} {f:Nat→α} {i:Int} {L:List α} (h:UpI n f i L):(L.length:Int)=i:=by rw [h.eq];have:=h.lo;simp;omega
theorem UpI.fin {α:Type} {n:Int} {f:Nat→α} {i:Int} {L:List α} (h:UpI n f i L) (hi:n≤i):L=(List.range n.toNat).map f:=by rw [h.eq,show i=n by have:=h.hi;omega]
-- no VC: supercargoref.SameBytes
-- no VC: supercargoref.SameMatrix
open Go.RowKit
def verL (all:List BA) (more:Int):Bool×Int:=
 if ¬(1≤more∧more≤6) then (false,3) else if (all.length:Int)≤more then (false,8) else if ¬(encL (all.take ((all.length:Int) - more).toNat) more).2=0 then (false,(encL (all.take ((all.length:Int) - more).toNat) more).2) else if (all.drop ((all.length:Int) - more).toNat).any (pWd all)=true then (false,1) else (decide ((encL (all.take ((all.length:Int) - more).toNat) more).1=all.drop ((all.length:Int) - more).toNat),0)
theorem enc_len {data:List BA} {more:Int}:(encL data more).1.length≤1000000:=by
 unfold encL
 split;simp
 split;simp
 split;simp
 split;simp
 rename_i h1 h2 h3 h4
 rw [cau_ok (by omega) (by omega) (by omega) (by omega)]
 unfold mixS fillL;simp;omega
def chgT (i:Int) (old now:BA) (row:List UInt8) (s:BA):BA:=txt s.size fun j=>gb s j^^^gmul (gd 0 row i.toNat) (gb old j^^^gb now j)
def chgF (i:Int) (old now:BA) (many:Int) (rest:List BA) (r:Nat):BA:=chgT i old now (gd [] (cauL rest.length many).1 r) (gd ByteArray.empty rest r)
def chgL (i:Int) (old now:BA) (many:Int) (rest:List BA):List BA×Int:=
 if ¬(1≤many∧many≤8)∨i<0∨many≤i then ([],3) else if (rest.length:Int)=0 then ([],8) else if 6<(rest.length:Int) then ([],2) else if ¬alkE ([old,now]++rest)=0 then ([],alkE ([old,now]++rest)) else ((List.range (rest.length:Int).toNat).map (chgF i old now many rest),0)
structure ChI (old now:BA) (many i:Int) (rest:List BA):Prop where
 m:1≤many∧many≤8
 i0:0≤i∧i<many
 r:1≤(rest.length:Int)∧(rest.length:Int)≤6
 k:alkE ([old,now]++rest)=0
theorem ChI.mk' {old now:BA} {many i:Int} {rest:List BA} (h1:1≤many) (h2:many≤8) (h3:0≤i) (h4:i<many) (h5:¬(rest.length:Int)=0) (h6:(rest.length:Int)≤6) (h7:alkE ([old,now]++rest)=0):ChI old now many i rest:=⟨⟨h1,h2⟩,⟨h3,h4⟩,⟨by omega,h6⟩,h7⟩
theorem ChI.wid {old now:BA} {many i:Int} {rest:List BA} (h:ChI old now many i rest):old.size≤64∧now.size=old.size∧∀r:Nat,r<rest.length→(gd ByteArray.empty rest r).size=old.size:=by
 obtain ⟨a1,a2⟩:=alk_ok h.k
 have e0:gd ByteArray.empty ([old,now]++rest) 0=old:=rfl
 rw [e0] at a2
 exact ⟨a1 old (by simp),a2 now (by simp),fun r hr=>a2 _ (List.mem_append_right _ (gd_mem hr))⟩
theorem ChI.row {old now:BA} {many i:Int} {rest:List BA} (h:ChI old now many i rest):(cauL rest.length many).1.length=rest.length∧∀r:Nat,r<rest.length→(gd [] (cauL rest.length many).1 r).length=many.toNat:=by
 have h1:=h.m;have h2:=h.r
 rw [cau_ok (by omega) (by omega) (by omega) (by omega)]
 have e:(fillL rest.length many (fC rest.length)).length=rest.length:=by unfold fillL;simp
 exact ⟨e,fun r hr=>fill_w _ (gd_mem (by rw [e];exact hr))⟩
structure ChJ (i:Int) (old now:BA) (row:List UInt8) (s:BA) (j:Int) (b:List UInt8):Prop where
 lo:0≤j
 hi:j≤s.size
 len:b.length=s.size
 got:∀t,t<s.size→gd 0 b t=if t<j.toNat then gb s t^^^gmul (gd 0 row i.toNat) (gb old t^^^gb now t) else gb s t
theorem bytes_gd (s:BA) (t:Nat):gd 0 (List.map id s.data.toList) t=gb s t:=by
 rw [List.map_id, ←gb_list]
theorem ChJ.start {i:Int} {old now s:BA} {row:List UInt8}:ChJ i old now row s 0 (List.map id s.data.toList):=⟨by omega,by omega,by rw [List.length_map];rfl,fun t ht=>by rw [if_neg (by simp)];exact bytes_gd s t⟩
theorem ChJ.step {i j:Int} {old now s:BA} {row b:List UInt8} (h:ChJ i old now row s j b) (hj:j<s.size):ChJ i old now row s (j+1) (b.set j.toNat (gd 0 b j.toNat^^^gmul (gd 0 row i.toNat) (gb old j.toNat^^^gb now j.toNat))):=by
 have h0:=h.lo;have hl:=h.len
 refine ⟨by omega,by omega,by rw [List.length_set];exact hl,fun t ht=> ?_⟩
 rw [gd_set2 (by omega)]
 by_cases e:j.toNat=t
 ·rw [if_pos e,if_pos (by omega),h.got _ (by omega),if_neg (by omega),e]
 ·rw [if_neg e,h.got t ht]
  by_cases e2:t<j.toNat
  ·rw [if_pos e2,if_pos (by omega)]
  ·rw [if_neg e2,if_neg (by omega)]
theorem ChJ.fin {i j:Int} {old now s:BA} {row b:List UInt8} (h:ChJ i old now row s j b) (hj:s.size≤j):(⟨(List.map id b).toArray⟩:BA)=chgT i old now row s:=by
 rw [List.map_id]
 unfold chgT
 refine list_txt h.len fun t ht=> ?_
 rw [h.got t ht,if_pos (by omega)]
theorem fill_n {m n:Int} {f:Nat→Nat→UInt8}:(fillL m n f).length=m.toNat:=by unfold fillL;simp
theorem gd_map2 {α β:Type} {d:α} {e:β} {f:α→β} {l:List α} {i:Nat} (h:i<l.length):gd e (l.map f) i=f (gd d l i):=by
 unfold gd;rw [List.getElem?_map,List.getElem?_eq_getElem h];rfl
def k_17:Con Tc Tc.dn:=⟨17,[.ty .lStr, .ty .cInt],fun x=>(fun (all:(List ByteArray)) (more:Int)=>all.length≤9223372036854775807) x.1 x.2.1,[.cBool, .cInt],fun x=>(fun (all:(List ByteArray)) (more:Int)=>verL all more) x.1 x.2.1⟩
abbrev z17_0 (all:(List ByteArray)) (more:Int):=(encL (List.take ((↑all.length:Int) - more).toNat all) more)
theorem k_17_v (all:(List ByteArray)) (more:Int) (hp:all.length≤9223372036854775807):True∧(decide ((1:Int)≤more∧more≤(6:Int))= !true→(false,(3:Int))=verL all more)∧(decide ((1:Int)≤more∧more≤(6:Int))= !false→((↑all.length:Int)≤more→(false,(8:Int))=verL all more)∧(more<(↑all.length:Int)→I64 ((↑all.length:Int) - more)∧((0:Int)≤(↑all.length:Int) - more∧(↑all.length:Int) - more≤(↑all.length:Int))∧True∧((z17_0 all more).snd=(0:Int)→(z17_0 all more).snd=(0:Int))∧((z17_0 all more).snd=(0:Int)→(z17_0 all more).snd=(0:Int))∧((z17_0 all more).snd=(0:Int)→(0:Int)≤(↑all.length:Int) - more∧(↑all.length:Int) - more≤(↑all.length:Int))∧((z17_0 all more).snd=(0:Int)→(z17_0 all more).snd=(0:Int))∧((z17_0 all more).snd=(0:Int)→(z17_0 all more).snd=(0:Int))∧((z17_0 all more).snd=(0:Int)→(List.drop ((↑all.length:Int) - more).toNat all).length≤(1000000:Nat)∧(0:Nat)<all.length)∧((z17_0 all more).snd=(0:Int)→(z17_0 all more).snd=(0:Int))∧((z17_0 all more).snd=(0:Int)∧(List.drop ((↑all.length:Int) - more).toNat all).any (pWd all)=true→(false,(1:Int))=verL all more)∧(¬(z17_0 all more).snd=(0:Int)∨(List.drop ((↑all.length:Int) - more).toNat all).any (pWd all)=false→((z17_0 all more).snd=(0:Int)→(z17_0 all more).snd=(0:Int))∧((z17_0 all more).snd=(0:Int)→(z17_0 all more).snd=(0:Int))∧((z17_0 all more).snd=(0:Int)→(0:Int)≤(↑all.length:Int) - more∧(↑all.length:Int) - more≤(↑all.length:Int))∧((z17_0 all more).snd=(0:Int)→(z17_0 all more).snd=(0:Int))∧((z17_0 all more).snd=(0:Int)→(z17_0 all more).snd=(0:Int))∧((z17_0 all more).snd=(0:Int)→(z17_0 all more).fst.length≤(1000000:Nat))∧((z17_0 all more).snd=(0:Int)→(z17_0 all more).snd=(0:Int))∧((z17_0 all more).snd==(0:Int)&&decide ((z17_0 all more).fst=List.drop ((↑all.length:Int) - more).toNat all),(z17_0 all more).snd)=verL all more))):=by
 delta z17_0
 have h1:= @enc_len (all.take ((all.length:Int) - more).toNat) more
 unfold verL
 simp only [Bool.not_false,Bool.not_true,decide_eq_true_eq,decide_eq_false_iff_not]
 (repeat' (first|apply And.intro|intro _))<;>first|assumption|trivial|omega|(focus ((repeat (first|rw [if_pos (by omega)]|rw [if_neg (by omega)]));done))|(grind [I64])|trace_state
theorem k_17_ok:k_17.Ok Try.prog tD:=con_ok tD_ok (Δ:=[k_30,k_11,k_41_v,k_43]) ⟨k_30_ok,k_11_ok,k_41_v_ok,k_43_ok,trivial⟩ (Ω:=[]) trivial k_17 F17_ok F17_call (fun _=>[]) (fun _=>trivial) 0 (fun x=>(fun (all:(List ByteArray)) (more:Int)=>(fun _=>none)) x.1 x.2.1) fun x hp=>Eq.mp (by kernel_rfl) (k_17_v x.1 x.2.1 hp)
def i_18_1 (i:Int) (old:ByteArray) (now:ByteArray) (many:Int) (rest:(List ByteArray)) (j0:Int) (r0:Int) (b0:(List UInt8)) (j:Int) (r:Int) (b:(List UInt8)):Prop:=r=r0∧ChJ i old now (gd [] (cauL rest.length many).1 r.toNat) (gd ByteArray.empty rest r.toNat) j b
def i_18_0 (i:Int) (old:ByteArray) (now:ByteArray) (many:Int) (rest:(List ByteArray)) (r:Int) (out:(List ByteArray)):Prop:=ChI old now many i rest∧UpI (rest.length:Int) (chgF i old now many rest) r out
def k_18:Con Tc Tc.dn:=⟨18,[.ty .cInt, .ty .cStr, .ty .cStr, .ty .cInt, .ty .lStr],fun x=>(fun (i:Int) (old:ByteArray) (now:ByteArray) (many:Int) (rest:(List ByteArray))=>True) x.1 x.2.1 x.2.2.1 x.2.2.2.1 x.2.2.2.2.1,[.lStr, .cInt],fun x=>(fun (i:Int) (old:ByteArray) (now:ByteArray) (many:Int) (rest:(List ByteArray))=>chgL i old now many rest) x.1 x.2.1 x.2.2.1 x.2.2.2.1 x.2.2.2.2.1⟩
theorem k_18_v (i:Int) (old:ByteArray) (now:ByteArray) (many:Int) (rest:(List ByteArray)):True∧(decide ((1:Int)≤many∧many≤(8:Int))= !!true→(0:Int)≤i→(0:Int)≤i)∧(decide ((1:Int)≤many∧many≤(8:Int))= !!true→(0:Int)≤i→(0:Int)≤i)∧(decide ((1:Int)≤many∧many≤(8:Int))= !!true→(0:Int)≤i→(0:Int)≤i)∧(decide ((1:Int)≤many∧many≤(8:Int))= !true∧decide ((1:Int)≤many∧many≤(8:Int))= !true∨decide ((1:Int)≤many∧many≤(8:Int))= !!true∧(i<(0:Int)∨many≤i)→([],(3:Int))=chgL i old now many rest)∧((decide ((1:Int)≤many∧many≤(8:Int))= !false∨decide ((1:Int)≤many∧many≤(8:Int))= !false)∧(decide ((1:Int)≤many∧many≤(8:Int))= !!false∨(0:Int)≤i∧i<many)→((↑rest.length:Int)=(0:Int)→([],(8:Int))=chgL i old now many rest)∧(¬(↑rest.length:Int)=(0:Int)→((6:Int)<(↑rest.length:Int)→([],(2:Int))=chgL i old now many rest)∧((↑rest.length:Int)≤(6:Int)→((2:Nat)+rest.length)*(16:Nat)≤(140737488355328:Nat)∧([old,now]++rest).length≤(1000000:Nat)∧(¬alkE ([old,now]++rest)=(0:Int)→([],alkE ([old,now]++rest))=chgL i old now many rest)∧(alkE ([old,now]++rest)=(0:Int)→True∧i_18_0 i old now many rest (0:Int) []∧∀(x:Int) (x_1:List ByteArray),i_18_0 i old now many rest x x_1→(x<(↑rest.length:Int)→((0:Int)≤x∧x<(↑rest.length:Int))∧(gd ByteArray.empty rest x.toNat).size≤(140737488355328:Nat)∧i_18_1 i old now many rest (0:Int) x (List.map id (gd ByteArray.empty rest x.toNat).data.toList) (0:Int) x (List.map id (gd ByteArray.empty rest x.toNat).data.toList)∧∀(x_2 x_3:Int) (x_4:List UInt8),i_18_1 i old now many rest (0:Int) x (List.map id (gd ByteArray.empty rest x.toNat).data.toList) x_2 x_3 x_4→(x_2<(↑(List.map id (gd ByteArray.empty rest x.toNat).data.toList).length:Int)→((0:Int)≤x_2∧x_2<(↑x_4.length:Int))∧x_2.toNat<x_4.length∧((0:Int)≤x∧x<(↑(cauL (↑rest.length:Int) many).fst.length:Int))∧((0:Int)≤i∧i<(↑(gd [] (cauL (↑rest.length:Int) many).fst x.toNat).length:Int))∧((0:Int)≤x_2∧x_2<(↑old.size:Int))∧((0:Int)≤x_2∧x_2<(↑now.size:Int))∧True∧((0:Int)≤x_2∧x_2<(↑x_4.length:Int))∧x_2.toNat<x_4.length∧I64 (x_2+(1:Int))∧i_18_1 i old now many rest (0:Int) x (List.map id (gd ByteArray.empty rest x.toNat).data.toList) (x_2+(1:Int)) x_3 (x_4.set x_2.toNat (gd (0:UInt8) x_4 x_2.toNat^^^gmul (gd (0:UInt8) (gd [] (cauL (↑rest.length:Int) many).fst x.toNat) i.toNat) (gb old x_2.toNat^^^gb now x_2.toNat)))∧((↑(x_4.set x_2.toNat (gd (0:UInt8) x_4 x_2.toNat^^^gmul (gd (0:UInt8) (gd [] (cauL (↑rest.length:Int) many).fst x.toNat) i.toNat) (gb old x_2.toNat^^^gb now x_2.toNat))).length:Int) - (x_2+(1:Int))).toNat<((↑x_4.length:Int) - x_2).toNat)∧((↑(List.map id (gd ByteArray.empty rest x.toNat).data.toList).length:Int)≤x_2→(x_1.length+(1:Nat))*(16:Nat)≤(140737488355328:Nat)∧I64 (x_3+(1:Int))∧i_18_0 i old now many rest (x_3+(1:Int)) (x_1++[ByteArray.mk (List.map id x_4).toArray])∧((↑rest.length:Int) - (x_3+(1:Int))).toNat<((↑rest.length:Int) - x).toNat))∧((↑rest.length:Int)≤x→(x_1,(0:Int))=chgL i old now many rest))))):=by
 have a1:= @ChI.mk' old now many i rest
 have a2:= @ChI.wid old now many i rest
 have a3:= @ChI.row old now many i rest
 have u1:= @UpI.start BA (rest.length:Int)
 have u2:= @UpI.step BA (rest.length:Int)
 have u3:= @UpI.len BA (rest.length:Int)
 have u4:= @UpI.lo BA (rest.length:Int)
 have u5:= @UpI.fin BA (rest.length:Int)
 have b1:= @ChJ.start i old now
 have b2:= @ChJ.step i
 have b3:= @ChJ.fin i
 have b4:= @ChJ.lo i old now
 have b5:= @ChJ.len i old now
 have b6:= @ChI.m old now many i rest
 have b7:= @ChI.i0 old now many i rest
 have b8:= @ChI.r old now many i rest
 have b9:= @ChI.k old now many i rest
 have c1:∀s:BA,(List.map id s.data.toList).length=s.size:=fun s=>by rw [List.length_map];rfl
 have c2:([old,now]++rest).length=2+rest.length:=by simp;omega
 have c3:∀r:Int,chgF i old now many rest r.toNat=chgT i old now (gd [] (cauL rest.length many).1 r.toNat) (gd ByteArray.empty rest r.toNat):=fun r=>rfl
 have c4:ChI old now many i rest→chgL i old now many rest=((List.range (rest.length:Int).toNat).map (chgF i old now many rest),0):=fun h=>by
  have d1:=h.m;have d2:=h.i0;have d3:=h.r;have d4:=h.k
  unfold chgL
  rw [if_neg (by omega),if_neg (by omega),if_neg (by omega),if_neg (by omega)]
 have e1:¬(1≤many∧many≤8)∨i<0∨many≤i→chgL i old now many rest=([],3):=fun h=>by unfold chgL;rw [if_pos h]
 have e2:¬(¬(1≤many∧many≤8)∨i<0∨many≤i)→(rest.length:Int)=0→chgL i old now many rest=([],8):=fun h h2=>by unfold chgL;rw [if_neg h,if_pos h2]
 have e3:¬(¬(1≤many∧many≤8)∨i<0∨many≤i)→¬(rest.length:Int)=0→6<(rest.length:Int)→chgL i old now many rest=([],2):=fun h h2 h3=>by unfold chgL;rw [if_neg h,if_neg h2,if_pos h3]
 have e4:¬(¬(1≤many∧many≤8)∨i<0∨many≤i)→¬(rest.length:Int)=0→(rest.length:Int)≤6→¬alkE ([old,now]++rest)=0→chgL i old now many rest=([],alkE ([old,now]++rest)):=fun h h2 h3 h4=>by unfold chgL;rw [if_neg h,if_neg h2,if_neg (by omega),if_pos h4]
 simp only [Bool.not_false,Bool.not_true,decide_eq_true_eq,decide_eq_false_iff_not]
 (repeat' (first|apply And.intro|intro _))<;>first|assumption|trivial|omega|(grind [i_18_1,i_18_0,I64])|trace_state
theorem k_18_ok:k_18.Ok Try.prog tD:=con_ok tD_ok (Δ:=[k_30,k_31,k_32,k_44]) ⟨k_30_ok,k_31_ok,k_32_ok,k_44_ok,trivial⟩ (Ω:=[]) trivial k_18 F18_ok F18_call (fun _=>[]) (fun _=>trivial) 0 (fun x=>(fun (i:Int) (old:ByteArray) (now:ByteArray) (many:Int) (rest:(List ByteArray))=>(fun k=>bif Nat.beq k 0 then some (.inv [.sl 57 .cInt, .ow 15 .cStr] (fun zo zv=>(fun (r:Int) (out:(List ByteArray))=>i_18_0 i old now many rest r out) zv.1 zv.2.1) (fun zo zv=>(fun (r:Int) (out:(List ByteArray))=>((rest.length:Int) - r).toNat) zv.1 zv.2.1)) else bif Nat.beq k 1 then some (.inv [.sl 66 .cInt, .sl 57 .cInt, .ow 18 .cU8] (fun zo zv=>(fun (j0:Int) (r0:Int) (b0:(List UInt8)) (j:Int) (r:Int) (b:(List UInt8))=>i_18_1 i old now many rest j0 r0 b0 j r b) zo.1 zo.2.1 zo.2.2.1 zv.1 zv.2.1 zv.2.2.1) (fun zo zv=>(fun (j0:Int) (r0:Int) (b0:(List UInt8)) (j:Int) (r:Int) (b:(List UInt8))=>((b.length:Int) - j).toNat) zo.1 zo.2.1 zo.2.2.1 zv.1 zv.2.1 zv.2.2.1)) else none)) x.1 x.2.1 x.2.2.1 x.2.2.2.1 x.2.2.2.2.1) fun x hp=>Eq.mp (by kernel_rfl) (k_18_v x.1 x.2.1 x.2.2.1 x.2.2.2.1 x.2.2.2.2.1)
open Go.RowKit
-- no VC: supercargolaw.matrixBegun
open Go.RowKit
theorem mx_fill {m n:Int} {f:Nat→Nat→UInt8} {i j:Nat} (hi:(i:Int)<m) (hj:(j:Int)<n):mxL (fillL m n f) i j=f i j:=by
 unfold mxL
 rw [fill_row hi]
 unfold gd
 rw [List.getElem?_map,List.getElem?_range (by omega)];rfl
theorem fill_congr {m n:Int} {f g:Nat→Nat→UInt8} (h:∀i j:Nat,(i:Int)<m→(j:Int)<n→f i j=g i j):fillL m n f=fillL m n g:=by
 unfold fillL
 refine List.map_congr_left fun i hi=>List.map_congr_left fun j hj=>h i j ?_ ?_
 ·have:=List.mem_range.1 hi;omega
 ·have:=List.mem_range.1 hj;omega
theorem fill_self {n m:Nat} {a:List (List UInt8)} (h:mrect n m a):fillL n m (mxL a)=a:=by
 refine gd_iff (d:=[]) (by rw [fill_len,h.1];simp) fun i hi=> ?_
 rw [fill_len] at hi
 have hin:i<n:=by omega
 rw [fill_row (by omega)]
 refine gd_iff (d:=0) (by rw [List.length_map,List.length_range,h.row hin];simp) fun j hj=> ?_
 rw [List.length_map,List.length_range] at hj
 unfold gd
 rw [List.getElem?_map,List.getElem?_range hj];rfl
theorem rect_eq {n m:Nat} {a b:List (List UInt8)} (ha:mrect n m a) (hb:mrect n m b) (h:∀i j,i<n→j<m→mxL a i j=mxL b i j):a=b:=by
 rw [←fill_self ha, ←fill_self hb]
 exact fill_congr fun i j hi hj=>h i j (by omega) (by omega)
theorem mchkGo_of {n:Int}:∀{a:List (List UInt8)},(∀r,r∈a→(r.length:Int)=n∧r.length≤16∧0<r.length)→mchkGo n a=0
 |[],_=>rfl
 |r::l,h=>by
  have h1:=h r (List.mem_cons_self ..)
  unfold mchkGo
  rw [if_neg (by omega),if_neg (by omega)]
  exact mchkGo_of fun q hq=>h q (List.mem_cons_of_mem _ hq)
theorem rect_zero {n m:Nat} {a:List (List UInt8)} (h:mrect n m a) (hn:0<n):(gd [] a 0).length=m:=h.row hn
theorem mchk_of {n m:Nat} {a:List (List UInt8)} (h:mrect n m a) (h1:0<n) (h2:n≤16) (h3:0<m) (h4:m≤16):mchk a=0:=by
 have hl:=h.1
 unfold mchk
 rw [if_neg (by omega),if_neg (by omega),rect_zero h h1]
 exact mchkGo_of fun r hr=>by have:=h.2 r hr;omega
theorem fill_rectN {m n:Nat} {f:Nat→Nat→UInt8}:mrect m n (fillL m n f):=by
 have:=fill_rect (m:=(m:Int)) (n:=(n:Int)) (f:=f)
 simpa using this
theorem sg_front (d:Nat) (f:Nat→UInt8):sg (d+1) f=f 0^^^sg d fun j=>f (j+1):=by
 rw [sg_skip d 0 f (Nat.zero_le _)]
 rfl
theorem dot_sg:∀(xs ys:List UInt8) (o:UInt8),dotGo xs ys o=o^^^sg xs.length fun t=>gmul (gd 0 xs t) (gd 0 ys t)
 |[],ys,o=>by simp [dotGo,sg]
 |x::l,ys,o=>by
  unfold dotGo
  rw [dot_sg l (ys.drop 1),List.length_cons,sg_front,UInt8.xor_assoc]
  congr 2
  refine sg_congr fun i hi=> ?_
  congr 1
  unfold gd
  rw [List.getElem?_drop,Nat.add_comm]
theorem turn_rect {n m:Nat} {a:List (List UInt8)} (h:mrect n m a) (hn:0<n):mrect m n (turnL a):=by
 unfold turnL
 rw [rect_zero h hn,h.1]
 exact fill_rectN
theorem turn_mx {n m:Nat} {a:List (List UInt8)} (h:mrect n m a) (hn:0<n) {i j:Nat} (hi:i<m) (hj:j<n):mxL (turnL a) i j=mxL a j i:=by
 unfold turnL
 rw [rect_zero h hn,h.1,mx_fill (by omega) (by omega)]
 rfl
theorem raw_eq {n k m:Nat} {a b:List (List UInt8)} (ha:mrect n k a) (hb:mrect k m b) (hk:0<k):rawL a b=fillL n m (mm k (mxL a) (mxL b)):=by
 have ht:=turn_rect hb hk
 unfold rawL
 rw [ha.1,ht.1]
 refine fill_congr fun i j hi hj=> ?_
 unfold fR
 rw [dot_sg,ha.row (by omega)]
 unfold mm
 rw [UInt8.zero_xor]
 refine sg_congr fun t htk=> ?_
 congr 1
 exact turn_mx hb hk (by omega) htk
theorem raw_rect {n k m:Nat} {a b:List (List UInt8)} (ha:mrect n k a) (hb:mrect k m b) (hk:0<k):mrect n m (rawL a b):=by
 rw [raw_eq ha hb hk];exact fill_rectN
theorem raw_mx {n k m:Nat} {a b:List (List UInt8)} (ha:mrect n k a) (hb:mrect k m b) (hk:0<k) {i j:Nat} (hi:i<n) (hj:j<m):mxL (rawL a b) i j=mm k (mxL a) (mxL b) i j:=by
 rw [raw_eq ha hb hk,mx_fill (by omega) (by omega)]
structure Okm (a:List (List UInt8)) (n m:Nat):Prop where
 rect:mrect n m a
 n0:0<n
 n16:n≤16
 m0:0<m
 m16:m≤16
theorem Okm.chk {a:List (List UInt8)} {n m:Nat} (h:Okm a n m):mchk a=0:=mchk_of h.rect h.n0 h.n16 h.m0 h.m16
theorem Okm.len {a:List (List UInt8)} {n m:Nat} (h:Okm a n m):a.length=n:=h.rect.1
theorem Okm.wid {a:List (List UInt8)} {n m:Nat} (h:Okm a n m):(gd [] a 0).length=m:=rect_zero h.rect h.n0
theorem Okm.raw {a b:List (List UInt8)} {n k m:Nat} (ha:Okm a n k) (hb:Okm b k m):Okm (rawL a b) n m:=⟨raw_rect ha.rect hb.rect ha.m0,ha.n0,ha.n16,hb.m0,hb.m16⟩
theorem Okm.fill {m n:Nat} {f:Nat→Nat→UInt8} (h1:0<m) (h2:m≤16) (h3:0<n) (h4:n≤16):Okm (fillL m n f) m n:=⟨fill_rectN,h1,h2,h3,h4⟩
theorem unit_ok {n:Nat} (h1:0<n) (h2:n≤16):unitL n=(fillL n n fU,0)∧Okm (fillL n n fU) n n:=by
 unfold unitL
 rw [if_pos (by omega)]
 exact ⟨rfl,Okm.fill h1 h2 h1 h2⟩
theorem unit_mx {n i j:Nat} (hi:i<n) (hj:j<n):mxL (fillL n n fU) i j=unitM i j:=mx_fill (by omega) (by omega)
open Go.RowKit
open Go.RowKit
def fG (a b:List (List UInt8)) (i k t:Nat):UInt8:=gmul (gd 0 (gd [] a i) t) (gd 0 (gd [] b t) k)
def fM (a b:List (List UInt8)) (i k:Nat):UInt8:=sg b.length (fG a b i k)
open Go.RowKit
abbrev LL:Type:=List (List UInt8)
section
variable {n m k:Nat} {X0 Y0:LL} {c t i:Int} {X Y:LL}
end
section
variable {a mate:LL} {c:Int} {b:List Int} {u:List Bool} {X Y:LL}
end
section
variable {n:Nat} {X:LL} {u:List Bool} {c i t:Int}
end
open Go.RowKit
open Go.RowKit
theorem fillB_eq {a:List (List UInt8)} {n:Nat} (h:Okm a n n):fillL n (2*(n:Int)) (fB a n)=bothL a n:=by
 have e:(2*(n:Int))=((n+n:Nat):Int):=by omega
 rw [e]
 refine rect_eq fill_rectN (bothL_rect h.rect) fun i j hi hj=> ?_
 rw [mx_fill (by omega) (by omega),bothL_mx h.rect hi]
 unfold fB bothM unitM
 by_cases hj2:j<n
 ·rw [if_pos hj2,if_pos hj2];rfl
 ·rw [if_neg hj2,if_neg hj2]
  by_cases e2:j - n=i
  ·rw [if_pos e2,if_pos e2.symm]
  ·rw [if_neg e2,if_neg fun e3=>e2 e3.symm]
theorem inv_ok {a:List (List UInt8)} {n:Nat} (h:Okm a n n):∃r,RankIs n n (mxL a) r∧((r<n∧invL a=([],5))∨(r=n∧∃x,invL a=(x,0)∧Okm x n n∧rawL x a=fillL n n fU∧rawL a x=fillL n n fU)):=by
 obtain ⟨k1,k2,k3⟩:=clr_inv h.rect h.n0
 have e1:clI a=clrL n (bothL a n) 0 0:=by unfold clI;rw [h.len,fillB_eq h]
 have hle:=k2.le.1
 refine ⟨_,k2, ?_⟩
 have hinv:invL a=if (clI a).2<a.length then ([],5) else (fillL a.length a.length (fI (clI a).1 a.length),0):=by
  unfold invL;rw [if_neg (by rw [h.chk];simp),if_neg (by rw [h.len,h.wid];simp)]
 rw [hinv,e1,h.len]
 by_cases hr:(clrL n (bothL a n) 0 0).2<n
 ·left;exact ⟨hr,by rw [if_pos hr]⟩
 ·right
  have hrn:(clrL n (bothL a n) 0 0).2=n:=by omega
  obtain ⟨q1,q2⟩:=k1 hrn
  have hx:Okm (fillL n n (fI (clrL n (bothL a n) 0 0).1 n)) n n:=Okm.fill h.n0 h.n16 h.n0 h.n16
  have hu:=(unit_ok h.n0 h.n16).2
  have hm:∀i j,i<n→j<n→mxL (fillL n n (fI (clrL n (bothL a n) 0 0).1 n)) i j=mxL (clrL n (bothL a n) 0 0).1 i (n+j):=fun i j hi hj=>mx_fill (by omega) (by omega)
  refine ⟨hrn,_,by rw [if_neg hr],hx, ?_, ?_⟩
  ·refine rect_eq (hx.raw h).rect hu.rect fun i j hi hj=> ?_
   rw [raw_mx hx.rect h.rect h.n0 hi hj,unit_mx hi hj, ←q1 i j hi hj]
   exact mm_congr (fun t ht=>hm i t hi ht) fun t _=>rfl
  ·refine rect_eq (h.raw hx).rect hu.rect fun i j hi hj=> ?_
   rw [raw_mx h.rect hx.rect h.n0 hi hj,unit_mx hi hj, ←q2 i j hi hj]
   exact mm_congr (fun t _=>rfl) fun t ht=>hm t j ht hj
open Go.RowKit
open Go.RowKit
def i_16_0 (a:(List ByteArray)) (b:(List ByteArray)) (i:Int):Prop:=EqT a b i
def k_16:Con Tc Tc.dn:=⟨16,[.ty .lStr, .ty .lStr],fun x=>(fun (a:(List ByteArray)) (b:(List ByteArray))=>a.length≤1000000) x.1 x.2.1,[.cBool],fun x=>(fun (a:(List ByteArray)) (b:(List ByteArray))=>decide (a=b)) x.1 x.2.1⟩
theorem k_16_v (a:(List ByteArray)) (b:(List ByteArray)) (hp:a.length≤1000000):(¬(↑a.length:Int)=(↑b.length:Int)→false=decide (a=b))∧((↑a.length:Int)=(↑b.length:Int)→i_16_0 a b (0:Int)∧∀(x:Int),i_16_0 a b x→(x<(↑a.length:Int)→((0:Int)≤x∧x<(↑a.length:Int))∧((0:Int)≤x∧x<(↑b.length:Int))∧(¬gd ByteArray.empty a x.toNat=gd ByteArray.empty b x.toNat→false=decide (a=b))∧(gd ByteArray.empty a x.toNat=gd ByteArray.empty b x.toNat→I64 (x+(1:Int))∧i_16_0 a b (x+(1:Int))∧((↑a.length:Int) - (x+(1:Int))).toNat<((↑a.length:Int) - x).toNat))∧((↑a.length:Int)≤x→true=decide (a=b))):=by
 have h1:= @EqT.start a b
 have h2:= @EqT.step a b
 have h3:= @EqT.fin a b
 have h4:= @EqT.bad a b
 have h5:= @EqT.lo a b
 have h6:= @EqT.few a b
 have h7:= @EqT.len a b
 (repeat' (first|apply And.intro|intro _))<;>first|assumption|trivial|omega|(grind [i_16_0,I64])|trace_state
theorem k_16_ok:k_16.Ok Try.prog tD:=con_ok tD_ok (Δ:=[]) trivial (Ω:=[]) trivial k_16 F16_ok F16_call (fun _=>[]) (fun _=>trivial) 0 (fun x=>(fun (a:(List ByteArray)) (b:(List ByteArray))=>(fun k=>bif Nat.beq k 0 then some (.inv [.sl 5 .cInt] (fun zo zv=>(fun (i:Int)=>i_16_0 a b i) zv.1) (fun zo zv=>(fun (i:Int)=>((a.length:Int) - i).toNat) zv.1)) else none)) x.1 x.2.1) fun x hp=>Eq.mp (by kernel_rfl) (k_16_v x.1 x.2.1 hp)
open Go.RowKit
def k_15:Con Tc Tc.dn:=⟨15,[],fun _=>True,[.cBool],fun _=>true⟩
abbrev z15_4:=(encL [ByteArray.mk #[(111:UInt8),(110:UInt8),(101:UInt8)],ByteArray.mk #[(116:UInt8),(101:UInt8),(110:UInt8)],ByteArray.mk #[(115:UInt8),(105:UInt8),(120:UInt8)]] (2:Int))
abbrev z15_5:=(encL [ByteArray.mk #[(111:UInt8),(110:UInt8),(101:UInt8)],ByteArray.mk #[(116:UInt8),(119:UInt8),(111:UInt8)],ByteArray.mk #[(115:UInt8),(105:UInt8),(120:UInt8)]] (2:Int))
abbrev z15_0:=([ByteArray.mk #[(111:UInt8),(110:UInt8),(101:UInt8)],ByteArray.mk #[(116:UInt8),(119:UInt8),(111:UInt8)],ByteArray.mk #[(115:UInt8),(105:UInt8),(120:UInt8)]]++z15_5.fst)
abbrev z15_2:=(chgL (1:Int) (ByteArray.mk #[(116:UInt8),(119:UInt8),(111:UInt8)]) (ByteArray.mk #[(116:UInt8),(101:UInt8),(110:UInt8)]) (3:Int) z15_5.fst)
abbrev z15_3:=(rebL (3:Int) (2:Int) [(4:Int),(1:Int),(3:Int)] [gd ByteArray.empty z15_0 (Int.toNat (4:Int)),gd ByteArray.empty z15_0 (Int.toNat (1:Int)),gd ByteArray.empty z15_0 (Int.toNat (3:Int))])
abbrev z15_6:=(z15_3.fst=[ByteArray.mk #[(111:UInt8),(110:UInt8),(101:UInt8)],ByteArray.mk #[(116:UInt8),(119:UInt8),(111:UInt8)],ByteArray.mk #[(115:UInt8),(105:UInt8),(120:UInt8)]])
abbrev z15_7:=((z15_3.snd=(0:Int)∧decide z15_6=true)∧(verL z15_0 (2:Int)).fst=true)
abbrev z15_1:=((z15_7∧(verL z15_0 (2:Int)).snd=(0:Int))∧z15_2.snd=(0:Int))
abbrev z15_8:=((z15_1∧z15_4.snd=(0:Int))∧decide (z15_2.fst=z15_4.fst)=true→(z15_1∧z15_4.snd=(0:Int))∧decide (z15_2.fst=z15_4.fst)=true)
abbrev z15_9:=(((z15_1∧z15_4.snd=(0:Int))∧decide (z15_2.fst=z15_4.fst)=true)∧decide (z15_2.fst=z15_5.fst)= !true→((z15_1∧z15_4.snd=(0:Int))∧decide (z15_2.fst=z15_4.fst)=true)∧decide (z15_2.fst=z15_5.fst)= !true)
theorem k_15_v  :True∧(z15_5.snd=(0:Int)→z15_5.snd=(0:Int))∧(z15_5.snd=(0:Int)→z15_5.snd=(0:Int))∧(z15_5.snd=(0:Int)→z15_5.snd=(0:Int))∧(¬z15_5.snd=(0:Int)∨¬(↑z15_5.fst.length:Int)=(2:Int)→false=true)∧(z15_5.snd=(0:Int)∧(↑z15_5.fst.length:Int)=(2:Int)→((0:Nat)+(3:Nat))*(16:Nat)≤(140737488355328:Nat)∧((3:Nat)+z15_5.fst.length)*(16:Nat)≤(140737488355328:Nat)∧((0:Int)≤(4:Int)∧(4:Int)<(↑z15_0.length:Int))∧((0:Int)≤(1:Int)∧(1:Int)<(↑z15_0.length:Int))∧((0:Int)≤(3:Int)∧(3:Int)<(↑z15_0.length:Int))∧True∧z15_0.length≤(9223372036854775807:Nat)∧True∧True∧True∧(z15_3.snd=(0:Int)→z15_3.snd=(0:Int))∧(z15_3.snd=(0:Int)→z15_3.snd=(0:Int))∧(z15_3.snd=(0:Int)→z15_3.fst.length≤(1000000:Nat))∧(z15_3.snd=(0:Int)→z15_3.snd=(0:Int))∧(z15_3.snd=(0:Int)∧decide z15_6=true→z15_3.snd=(0:Int)∧decide z15_6=true)∧((z15_3.snd=(0:Int)∧decide z15_6=true)∧(verL z15_0 (2:Int)).fst=true→(z15_3.snd=(0:Int)∧decide z15_6=true)∧(verL z15_0 (2:Int)).fst=true)∧((z15_3.snd=(0:Int)∧decide z15_6=true)∧(verL z15_0 (2:Int)).fst=true→(z15_3.snd=(0:Int)∧decide z15_6=true)∧(verL z15_0 (2:Int)).fst=true)∧(z15_7∧(verL z15_0 (2:Int)).snd=(0:Int)→z15_7∧(verL z15_0 (2:Int)).snd=(0:Int))∧(z15_7∧(verL z15_0 (2:Int)).snd=(0:Int)→z15_7∧(verL z15_0 (2:Int)).snd=(0:Int))∧((z15_7∧(verL z15_0 (2:Int)).snd=(0:Int))∧z15_2.snd=(0:Int)→(z15_7∧(verL z15_0 (2:Int)).snd=(0:Int))∧z15_2.snd=(0:Int))∧((z15_7∧(verL z15_0 (2:Int)).snd=(0:Int))∧z15_2.snd=(0:Int)→(z15_7∧(verL z15_0 (2:Int)).snd=(0:Int))∧z15_2.snd=(0:Int))∧(z15_1∧z15_4.snd=(0:Int)→z15_1∧z15_4.snd=(0:Int))∧(z15_1∧z15_4.snd=(0:Int)→z15_1∧z15_4.snd=(0:Int))∧(z15_1∧z15_4.snd=(0:Int)→z15_2.fst.length≤(1000000:Nat))∧(z15_1∧z15_4.snd=(0:Int)→z15_1∧z15_4.snd=(0:Int))∧z15_8∧z15_8∧((z15_1∧z15_4.snd=(0:Int))∧decide (z15_2.fst=z15_4.fst)=true→z15_2.fst.length≤(1000000:Nat))∧z15_8∧z15_8∧z15_9∧z15_9∧(z15_3.snd==(0:Int)&&decide z15_6&&(verL z15_0 (2:Int)).fst&&(verL z15_0 (2:Int)).snd==(0:Int)&&z15_2.snd==(0:Int)&&z15_4.snd==(0:Int)&&decide (z15_2.fst=z15_4.fst)&& !decide (z15_2.fst=z15_5.fst)&&(rebL (3:Int) (2:Int) [(1:Int),(1:Int),(2:Int)] [ByteArray.mk #[(111:UInt8),(110:UInt8),(101:UInt8)],ByteArray.mk #[(116:UInt8),(119:UInt8),(111:UInt8)],ByteArray.mk #[(115:UInt8),(105:UInt8),(120:UInt8)]]).snd==(6:Int))=true):=by
 delta z15_9 z15_8 z15_7 z15_6 z15_5 z15_4 z15_3 z15_2 z15_1 z15_0
 (repeat' (first|apply And.intro|(intro h;exact absurd h (by decide+kernel))|(intro h;clear h)|decide+kernel))<;>first|decide+kernel|trace_state
theorem k_15_ok:k_15.Ok Try.prog tD:=con_ok tD_ok (Δ:=[k_11,k_12,k_17,k_18,k_16]) ⟨k_11_ok,k_12_ok,k_17_ok,k_18_ok,k_16_ok,trivial⟩ (Ω:=[]) trivial k_15 F15_ok F15_call (fun _=>[]) (fun _=>trivial) 0 (fun _=>fun k=>bif Nat.beq k 1017 then some (.frz [1]) else bif Nat.beq k 1034 then some (.frz [4]) else none) fun x hp=>Eq.mp (by kernel_rfl) (k_15_v )
theorem rebuild_law {n:Nat} {X G D:Mx} (h:∀i j,i<n→j<n→mm n X G i j=unitM i j) {i:Nat} (hi:i<n) (j:Nat):mm n X (mm n G D) i j=D i j:=by
 rw [←mm_assoc]
 exact (mm_congr (fun t ht=>h i t hi ht) fun _ _=>rfl).trans (unit_mm D hi)
open Go.RowKit
def dtM (data:List BA):Mx:=fun t j=>gb (gd ByteArray.empty data t) j
def xsC (i:Nat):UInt8:=UInt8.ofNat i
def ysC (m:Nat) (k:Nat):UInt8:=UInt8.ofNat (m+k)
abbrev gnC (n m:Nat):Mx:=genM n xsC (ysC m)
theorem of_inj8 {a b:Nat} (ha:a<256) (hb:b<256) (h:UInt8.ofNat a=UInt8.ofNat b):a=b:=by
 have:=congrArg UInt8.toNat h
 simpa [Nat.mod_eq_of_lt ha,Nat.mod_eq_of_lt hb] using this
theorem xsC_inj {m:Nat} (hm:m≤16):∀i k,i<m→k<m→xsC i=xsC k→i=k:=fun i k hi hk e=>of_inj8 (by omega) (by omega) e
theorem ysC_inj {n m:Nat} (hm:m≤16) (hn:n≤16):∀i k,i<n→k<n→ysC m i=ysC m k→i=k:=fun i k hi hk e=>by
 have:=of_inj8 (by omega) (by omega) e
 omega
theorem xyC_ne {n m:Nat} (hm:m≤16) (hn:n≤16):∀i k,i<m→k<n→xsC i≠ysC m k:=fun i k hi hk e=>by
 have:=of_inj8 (by omega) (by omega) e
 omega
theorem fC_gen {m:Int} {i k n:Nat} (hm:m≤16) (hn:n≤16) (hi:(i:Int)<m) (hk:k<n):fC m i k=ginv (xsC i^^^ysC m.toNat k):=by
 unfold fC invN
 have e:UInt8.ofNat (i^^^(m.toNat+k))=xsC i^^^ysC m.toNat k:=by
  unfold xsC ysC
  apply UInt8.toNat.inj
  simp
 rw [e,if_neg fun e2=>xyC_ne (n:=n) (m:=m.toNat) (by omega) hn i k (by omega) hk (xor_zero_iff.1 e2)]
structure CdO (n m:Nat):Prop where
 n1:1≤n
 n8:n≤8
 m1:1≤m
 m6:m≤6
theorem allF_mx {n m:Nat} (h:CdO n m) {i j:Nat} (hi:i<n+m) (hj:j<n):gd 0 (gd [] (allF n m) i) j=gnC n m i j:=by
 obtain ⟨h1,h2,h3,h4⟩:=h
 have e1:(fillL (n:Int) n fU).length=n:=by rw [fill_n];simp
 unfold allF gnC genM
 by_cases hi2:i<n
 ·rw [if_pos hi2]
  have e:gd [] (fillL (n:Int) n fU++fillL (m:Int) n (fC m)) i=gd [] (fillL (n:Int) n fU) i:=by
   unfold gd;rw [List.getElem?_append_left (by omega)]
  rw [e]
  exact mx_fill (by omega) (by omega)
 ·rw [if_neg hi2]
  have e:gd [] (fillL (n:Int) n fU++fillL (m:Int) n (fC m)) i=gd [] (fillL (m:Int) n (fC m)) (i - n):=by
   unfold gd;rw [List.getElem?_append_right (by omega),e1]
  rw [e]
  have:=mx_fill (m:=(m:Int)) (n:=(n:Int)) (f:=fC m) (i:=i - n) (j:=j) (by omega) (by omega)
  unfold mxL at this
  rw [this,fC_gen (n:=n) (by omega) (by omega) (by omega) hj,Int.toNat_natCast]
theorem mixS_gd {X:List (List UInt8)} {p:List BA} {i:Nat} (hi:i<X.length):gd ByteArray.empty (mixS X p) i=mixT (gd [] X i) p:=by
 unfold mixS;exact gd_map2 (d:=([]:List UInt8)) hi
theorem mixT_gb {row:List UInt8} {p:List BA} {j:Nat} (hj:j<(gd ByteArray.empty p 0).size):gb (mixT row p) j=sg p.length fun k=>gmul (gd 0 row k) (dtM p k j):=by
 unfold mixT dtM
 rw [gb_txt hj]
structure EnO (data:List BA) (more:Int):Prop where
 c:CdO data.length more.toNat
 m:1≤more∧more≤6
 k:alkE data=0
theorem enc_zero {data:List BA} {more:Int} (h:(encL data more).2=0):EnO data more∧encL data more=(mixS (cauL more data.length).1 data,0):=by
 unfold encL at h ⊢
 by_cases h1:(data.length:Int)=0
 ·rw [if_pos h1] at h;simp at h
 ·rw [if_neg h1] at h ⊢
  by_cases h2:8<(data.length:Int)
  ·rw [if_pos h2] at h;simp at h
  ·rw [if_neg h2] at h ⊢
   by_cases h3:¬(1≤more∧more≤6)
   ·rw [if_pos h3] at h;simp at h
   ·rw [if_neg h3] at h ⊢
    by_cases h4:¬alkE data=0
    ·rw [if_pos h4] at h;exact absurd h h4
    ·rw [if_neg h4]
     have h5:=Classical.not_not.1 h3
     exact ⟨⟨⟨by omega,by omega,by omega,by omega⟩,h5,Classical.not_not.1 h4⟩,rfl⟩
theorem EnO.enc {data:List BA} {more:Int} (h:EnO data more):encL data more=(mixS (cauL more data.length).1 data,0):=by
 have h1:=h.c.n1;have h2:=h.c.n8;have h3:=h.m;have h4:=h.k
 unfold encL
 rw [if_neg (by omega),if_neg (by omega),if_neg (by omega),if_neg (by omega)]
theorem enc_err {data:List BA} {more:Int} (h:¬(encL data more).2=0):(encL data more).1.length=0:=by
 unfold encL at h ⊢
 split;rfl
 split;rfl
 split;rfl
 split;rfl
 rename_i h1 h2 h3 h4
 rw [if_neg h1,if_neg h2,if_neg h3,if_neg h4] at h
 exact absurd rfl h
abbrev allP (data:List BA) (more:Int):List BA:=data++(encL data more).1
theorem EnO.cau {data:List BA} {more:Int} (h:EnO data more):(cauL more data.length).1=fillL more data.length (fC more):=by
 have h1:=h.c.n1;have h2:=h.c.n8;have h3:=h.m
 rw [cau_ok (by omega) (by omega) (by omega) (by omega)]
theorem EnO.len {data:List BA} {more:Int} (h:EnO data more):(encL data more).1.length=more.toNat:=by
 rw [h.enc]
 show (mixS _ _).length=_
 unfold mixS
 rw [List.length_map,h.cau,fill_n]
theorem EnO.siz {data:List BA} {more:Int} (h:EnO data more):(gd ByteArray.empty data 0).size≤64∧(∀t,t<data.length→(gd ByteArray.empty data t).size=(gd ByteArray.empty data 0).size)∧∀t,t<data.length+more.toNat→(gd ByteArray.empty (allP data more) t).size=(gd ByteArray.empty data 0).size:=by
 obtain ⟨a1,a2⟩:=alk_ok h.k
 have h1:=h.c.n1
 refine ⟨a1 _ (gd_mem (by omega)),fun t ht=>a2 _ (gd_mem ht),fun t ht=> ?_⟩
 unfold allP
 by_cases e:t<data.length
 ·have:gd ByteArray.empty (data++(encL data more).1) t=gd ByteArray.empty data t:=by unfold gd;rw [List.getElem?_append_left e]
  rw [this];exact a2 _ (gd_mem e)
 ·have:gd ByteArray.empty (data++(encL data more).1) t=gd ByteArray.empty (encL data more).1 (t - data.length):=by unfold gd;rw [List.getElem?_append_right (by omega)]
  rw [this,h.enc]
  show (gd ByteArray.empty (mixS _ _) _).size=_
  rw [mixS_gd (by rw [h.cau,fill_n];omega)]
  unfold mixT;rw [txt_size]
theorem EnO.all {data:List BA} {more:Int} (h:EnO data more) {t j:Nat} (ht:t<data.length+more.toNat) (hj:j<(gd ByteArray.empty data 0).size):dtM (allP data more) t j=mm data.length (gnC data.length more.toNat) (dtM data) t j:=by
 have h1:=h.c.n1;have h2:=h.c.n8;have h3:=h.m
 unfold allP
 by_cases e:t<data.length
 ·have:dtM (data++(encL data more).1) t j=dtM data t j:=by unfold dtM gd;rw [List.getElem?_append_left e]
  rw [this]
  have e2:mm data.length (gnC data.length more.toNat) (dtM data) t j=mm data.length unitM (dtM data) t j:=sg_congr fun k _=>by unfold gnC genM;rw [if_pos e]
  rw [e2,unit_mm _ e]
 ·have:dtM (data++(encL data more).1) t j=gb (gd ByteArray.empty (encL data more).1 (t - data.length)) j:=by unfold dtM gd;rw [List.getElem?_append_right (by omega)]
  rw [this,h.enc]
  show gb (gd ByteArray.empty (mixS _ _) _) _=_
  rw [mixS_gd (by rw [h.cau,fill_n];omega),mixT_gb hj]
  refine sg_congr fun k hk=> ?_
  congr 1
  rw [h.cau]
  have:=mx_fill (m:=more) (n:=(data.length:Int)) (f:=fC more) (i:=t - data.length) (j:=k) (by omega) (by omega)
  unfold mxL at this
  rw [this,fC_gen (n:=data.length) (by omega) (by omega) (by omega) hk]
  unfold gnC genM
  rw [if_neg e]
theorem atGo_ok {n:Int}:∀{seen l:List Int},(∀i,i∈l→0≤i∧i<n∧¬i∈seen)→l.Nodup→atGo n seen l=0
 |_,[],_,_=>rfl
 |seen,x::r,h,hd=>by
  have h1:=h x (List.mem_cons_self ..)
  rw [List.nodup_cons] at hd
  unfold atGo
  rw [if_neg (by omega),if_neg h1.2.2]
  refine atGo_ok (fun i hi=> ?_) hd.2
  have h2:=h i (List.mem_cons_of_mem _ hi)
  refine ⟨h2.1,h2.2.1,fun hh=> ?_⟩
  rcases List.mem_append.1 hh with e|e
  ·exact h2.2.2 e
  ·rw [List.mem_singleton] at e;subst e;exact hd.1 hi
theorem atE_ok {n:Int} {at_:List Int} (h:∀i,i∈at_→0≤i∧i<n) (hd:at_.Nodup):atE n at_=0:=atGo_ok (fun i hi=>⟨(h i hi).1,(h i hi).2,by simp⟩) hd
theorem atGo_six {n:Int}:∀{seen l:List Int},(∀i,i∈l→0≤i∧i<n)→atGo n seen l=0∨atGo n seen l=6
 |_,[],_=> .inl rfl
 |seen,x::r,h=>by
  have h1:=h x (List.mem_cons_self ..)
  unfold atGo
  rw [if_neg (by omega)]
  split
  ·exact .inr rfl
  ·exact atGo_six fun i hi=>h i (List.mem_cons_of_mem _ hi)
theorem nodup_gd {at_:List Int} (h:at_.Nodup) {i k:Nat} (hi:i<at_.length) (hk:k<at_.length) (e:gd 0 at_ i=gd 0 at_ k):i=k:=by
 have e1:=gd_get (d:=(0:Int)) hi
 have e2:=gd_get (d:=(0:Int)) hk
 rw [←e] at e2
 exact (List.getElem?_inj hi h).1 (e1.trans e2.symm)
structure RbO (n m:Nat) (at_:List Int):Prop where
 c:CdO n m
 l:at_.length=n
 r:∀i,i∈at_→0≤i∧i<(n:Int)+m
 d:at_.Nodup
theorem RbO.in_ {n m:Nat} {at_:List Int} (h:RbO n m at_) {i:Nat} (hi:i<n):0≤gd 0 at_ i∧(gd 0 at_ i).toNat<n+m:=by
 have:=h.r _ (gd_mem (d:=(0:Int)) (xs:=at_) (i:=i) (by rw [h.l];exact hi))
 omega
theorem RbO.row {n m:Nat} {at_:List Int} (h:RbO n m at_) {i:Nat} (hi:i<n):gd [] (rowsF n m at_) i=gd [] (allF n m) (gd 0 at_ i).toNat:=by
 unfold rowsF;exact gd_map2 (d:=(0:Int)) (by rw [h.l];exact hi)
theorem RbO.ok {n m:Nat} {at_:List Int} (h:RbO n m at_):Okm (rowsF n m at_) n n:=by
 have h1:=h.c.n1;have h2:=h.c.n8
 refine ⟨⟨by unfold rowsF;rw [List.length_map,h.l],fun r hr=> ?_⟩,by omega,by omega,by omega,by omega⟩
 have:=rowsF_in (many:=n) (more:=m) (at_:=at_) (by omega) (by omega) h.r r hr
 simpa using this
theorem RbO.mx {n m:Nat} {at_:List Int} (h:RbO n m at_) {i j:Nat} (hi:i<n) (hj:j<n):mxL (rowsF n m at_) i j=gnC n m (gd 0 at_ i).toNat j:=by
 unfold mxL
 rw [h.row hi]
 exact allF_mx h.c (h.in_ hi).2 hj
theorem RbO.inv {n m:Nat} {at_:List Int} (h:RbO n m at_):∃X,invL (rowsF n m at_)=(X,0)∧X.length=n∧(∀i j,i<n→j<n→mm n (mxL X) (fun i j=>gnC n m (gd 0 at_ i).toNat j) i j=unitM i j)∧∀i j,i<n→j<n→mm n (fun i j=>gnC n m (gd 0 at_ i).toNat j) (mxL X) i j=unitM i j:=by
 have h1:=h.c.n1;have h2:=h.c.n8;have h3:=h.c.m1;have h4:=h.c.m6
 obtain ⟨r,hr,⟨q1,q2⟩|⟨q1,X,e,hX,e1,e2⟩⟩:=inv_ok h.ok
 ·exfalso
  have hr2:RankIs n n (fun i j=>gnC n m (gd 0 at_ i).toNat j) r:=⟨hr.thr.congr fun i j hi hj=>(h.mx hi hj).symm,fun k hk=>hr.min k (hk.congr fun i j hi hj=>h.mx hi hj)⟩
  have:=pieces_whole (at_:=fun i=>(gd 0 at_ i).toNat) (xsC_inj (m:=m) (by omega)) (ysC_inj (n:=n) (m:=m) (by omega) (by omega)) (xyC_ne (by omega) (by omega)) (fun i hi=>(h.in_ hi).2) (fun i k hi hk e=>nodup_gd h.d (by rw [h.l];exact hi) (by rw [h.l];exact hk) (by have a:=(h.in_ hi).1;have b:=(h.in_ hk).1;omega)) hr2
  omega
 ·refine ⟨X,e,hX.len,fun i j hi hj=> ?_,fun i j hi hj=> ?_⟩
  ·have:=raw_mx hX.rect h.ok.rect (by omega) hi hj
   rw [e1,unit_mx hi hj] at this
   rw [this]
   exact mm_congr (fun t _=>rfl) fun t ht=>(h.mx ht hj).symm
  ·have:=raw_mx h.ok.rect hX.rect (by omega) hi hj
   rw [e2,unit_mx hi hj] at this
   rw [this]
   exact mm_congr (fun t ht=>(h.mx hi ht).symm) fun t _=>rfl
theorem RbO.reb {n m:Nat} {at_:List Int} {pieces:List BA} (h:RbO n m at_) (hl:pieces.length=at_.length) (hk:alkE pieces=0):rebL n m at_ pieces=(mixS (invL (rowsF n m at_)).1 pieces,0):=by
 obtain ⟨h1,h2,h3,h4⟩:=h.c
 have h5:=h.l
 obtain ⟨X,e,_,_⟩:=h.inv
 have h6:=atE_ok h.r h.d
 unfold rebL
 rw [if_neg (by omega),if_neg (by omega),if_neg (by omega),if_neg (by omega),if_neg (by omega),if_neg (by omega),if_neg (by rw [e];simp)]
open Go.RowKit
theorem reb_len {many more:Int} {at_:List Int} {pieces:List BA}:(rebL many more at_ pieces).1.length≤1000000:=by
 unfold rebL
 split;simp
 split;simp
 split;simp
 split;simp
 split;simp
 split;simp
 split;simp
 rename_i h1 h2 h3 h4 h5 h6 h7
 have:=(inv_w (Classical.not_not.1 h7)).1
 have e:(rowsF many more at_).length=at_.length:=by unfold rowsF;simp
 unfold mixS;simp;omega
open Go.RowKit
theorem mixS_len {X:List (List UInt8)} {p:List BA}:(mixS X p).length=X.length:=by unfold mixS;rw [List.length_map]
theorem RbO.back {n m L:Nat} {at_:List Int} {pieces data:List BA} (h:RbO n m at_) (hp:pieces.length=n) (hs:∀t,t<n→(gd ByteArray.empty pieces t).size=L) (hd:data.length=n) (hz:∀t,t<n→(gd ByteArray.empty data t).size=L) (he:∀t j,t<n→j<L→dtM pieces t j=mm n (fun i j=>gnC n m (gd 0 at_ i).toNat j) (dtM data) t j):mixS (invL (rowsF n m at_)).1 pieces=data:=by
 obtain ⟨X,e,hX,h1,h2⟩:=h.inv
 have hn:=h.c.n1
 rw [e]
 show mixS X pieces=data
 refine gd_iff (d:=ByteArray.empty) (by rw [mixS_len,hX,hd]) fun i hi=> ?_
 rw [mixS_len,hX] at hi
 rw [mixS_gd (by omega)]
 have hs0:=hs 0 (by omega)
 refine str_eq (by unfold mixT;rw [txt_size,hs0,hz i hi]) fun j hj=> ?_
 have hj2:j<L:=by unfold mixT at hj;rw [txt_size,hs0] at hj;exact hj
 rw [mixT_gb (by omega),hp]
 have:=rebuild_law (G:=fun i j=>gnC n m (gd 0 at_ i).toNat j) (D:=dtM data) h1 hi j
 rw [show gb (gd ByteArray.empty data i) j=dtM data i j from rfl, ←this]
 exact sg_congr fun t ht=>by rw [he t j ht hj2];rfl
theorem pick_gd {al:List BA} {at_:List Int} {k:Nat} (hk:k<at_.length):gd ByteArray.empty (at_.map fun i=>gd ByteArray.empty al i.toNat) k=gd ByteArray.empty al (gd 0 at_ k).toNat:=gd_map2 (d:=(0:Int)) hk
theorem reb_law {data:List BA} {more:Int} {at_:List Int} (h:EnO data more) (ha:∀i,i∈at_→0≤i∧i<data.length+more):((rebL data.length more at_ (at_.map fun i=>gd ByteArray.empty (allP data more) i.toNat)).2=0→(rebL data.length more at_ (at_.map fun i=>gd ByteArray.empty (allP data more) i.toNat)).1=data)∧((rebL data.length more at_ (at_.map fun i=>gd ByteArray.empty (allP data more) i.toNat)).2=0∨(rebL data.length more at_ (at_.map fun i=>gd ByteArray.empty (allP data more) i.toNat)).2=8∨(rebL data.length more at_ (at_.map fun i=>gd ByteArray.empty (allP data more) i.toNat)).2=2∨(rebL data.length more at_ (at_.map fun i=>gd ByteArray.empty (allP data more) i.toNat)).2=6):=by
 have h1:=h.c.n1;have h2:=h.c.n8;have h3:=h.m
 obtain ⟨s1,s2,s3⟩:=h.siz
 generalize hp:(at_.map fun i=>gd ByteArray.empty (allP data more) i.toNat)=pieces
 have hl:pieces.length=at_.length:=by rw [←hp,List.length_map]
 have hsz:∀k,k<at_.length→(gd ByteArray.empty pieces k).size=(gd ByteArray.empty data 0).size:=fun k hk=>by
  have:=ha _ (gd_mem (d:=(0:Int)) hk)
  rw [←hp,pick_gd hk];exact s3 _ (by omega)
 by_cases c1:(at_.length:Int)<data.length
 ·have e:rebL data.length more at_ pieces=([],8):=by unfold rebL;rw [if_neg (by omega),if_neg (by omega),if_pos c1]
  rw [e];simp
 ·by_cases c2:(data.length:Int)<at_.length
  ·have e:rebL data.length more at_ pieces=([],2):=by unfold rebL;rw [if_neg (by omega),if_neg (by omega),if_neg c1,if_pos c2]
   rw [e];simp
  ·rcases atGo_six (n:=(data.length:Int)+more) (seen:=[]) (l:=at_) ha with c3|c3
   ·obtain ⟨q1,q2⟩:=atE_rng (n:=(data.length:Int)+more) c3
    have hR:RbO data.length more.toNat at_:=⟨h.c,by omega,fun i hi=>by have:=ha i hi;omega,q2⟩
    have hk:alkE pieces=0:=alk_of (fun s hs=>by
     obtain ⟨k,hk,rfl⟩:=List.getElem_of_mem hs
     have:=hsz k (by omega)
     unfold gd at this;rw [List.getElem?_eq_getElem hk] at this
     simp at this;unfold gd at s1;omega) fun s hs=>by
     obtain ⟨k,hk,rfl⟩:=List.getElem_of_mem hs
     have:=hsz k (by omega)
     rw [hsz 0 (by omega), ←this];unfold gd;rw [List.getElem?_eq_getElem hk];rfl
    have e:=hR.reb (pieces:=pieces) (by omega) hk
    rw [show ((more.toNat:Nat):Int)=more by omega] at e
    rw [e]
    refine ⟨fun _=> ?_, .inl rfl⟩
    have hb:=hR.back (pieces:=pieces) (data:=data) (L:=(gd ByteArray.empty data 0).size) (by omega) (fun t ht=>hsz t (by omega)) rfl s2 fun t j ht hj=>by
     have:=hR.in_ ht
     have e2:=h.all (t:=(gd 0 at_ t).toNat) (j:=j) this.2 hj
     rw [show mm data.length (fun i j=>gnC data.length more.toNat (gd 0 at_ i).toNat j) (dtM data) t j=mm data.length (gnC data.length more.toNat) (dtM data) (gd 0 at_ t).toNat j from rfl, ←e2, ←hp]
     unfold dtM
     rw [pick_gd (by omega)]
    rw [show ((more.toNat:Nat):Int)=more by omega] at hb
    exact hb
   ·have e:rebL data.length more at_ pieces=([],6):=by
     unfold rebL
     rw [if_neg (by omega),if_neg (by omega),if_neg c1,if_neg c2,if_pos (by unfold atE;omega)]
     unfold atE;rw [c3]
    rw [e];simp
theorem mem_gd {α:Type} {d:α} {l:List α} {x:α} (h:x∈l):∃k,k<l.length∧x=gd d l k:=by
 obtain ⟨k,hk,rfl⟩:=List.getElem_of_mem h
 exact ⟨k,hk,by unfold gd;rw [List.getElem?_eq_getElem hk];rfl⟩
def pkG (data:List BA) (more:Int) (at_:List Int) (k:Nat):BA:=gd ByteArray.empty (allP data more) (gd 0 at_ k).toNat
theorem pk_fin {data:List BA} {more i:Int} {at_:List Int} {out:List BA} (h:UpI (at_.length:Int) (pkG data more at_) i out) (hi:at_.length≤i):out=at_.map fun i=>gd ByteArray.empty (allP data more) i.toNat:=by
 rw [h.fin hi,Int.toNat_natCast]
 refine List.ext_getElem (by simp) fun j h1 h2=> ?_
 simp at h1
 rw [List.getElem_map,List.getElem_map,List.getElem_range]
 unfold pkG
 rw [show gd 0 at_ j=at_[j] by unfold gd;rw [List.getElem?_eq_getElem h1];rfl]
theorem rb_fin {data:List BA} {more i:Int} {at_:List Int} {out:List BA} (h:EnO data more) (hu:UpI (at_.length:Int) (pkG data more at_) i out) (hi:at_.length≤i) (hr:∀j,j<i.toNat→0≤gd 0 at_ j∧gd 0 at_ j<data.length+more):((rebL data.length more at_ out).2=0→(rebL data.length more at_ out).1=data)∧((rebL data.length more at_ out).2=0∨(rebL data.length more at_ out).2=8∨(rebL data.length more at_ out).2=2∨(rebL data.length more at_ out).2=6):=by
 rw [pk_fin hu hi]
 refine reb_law h fun x hx=> ?_
 obtain ⟨k,hk,rfl⟩:=mem_gd (d:=(0:Int)) hx
 exact hr k (by omega)
structure RpI (data:List BA) (more:Int) (at_:List Int) (i:Int) (out:List BA):Prop where
 o:EnO data more
 u:UpI (at_.length:Int) (pkG data more at_) i out
 r:∀j,j<i.toNat→0≤gd 0 at_ j∧gd 0 at_ j<data.length+more
theorem EnO.al {data:List BA} {more:Int} (h:EnO data more):((data++(encL data more).1).length:Int)=data.length+more∧data.length≤8∧(encL data more).1.length≤6:=by
 have a1:=h.c.n8;have a2:=h.len;have a3:=h.m
 rw [List.length_append]
 omega
theorem RpI.start {data:List BA} {more:Int} {at_:List Int} (h:EnO data more):RpI data more at_ 0 []:=⟨h, .start (by omega),fun j hj=>by simp at hj⟩
theorem RpI.step {data:List BA} {more i:Int} {at_:List Int} {out:List BA} (h:RpI data more at_ i out) (hi:i<at_.length) (h1:0≤gd 0 at_ i.toNat) (h2:gd 0 at_ i.toNat<((data++(encL data more).1).length:Int)):RpI data more at_ (i+1) (out++[gd ByteArray.empty (data++(encL data more).1) (gd 0 at_ i.toNat).toNat]):=by
 have h0:=h.u.lo
 rw [h.o.al.1] at h2
 refine ⟨h.o,h.u.step hi,fun j hj=> ?_⟩
 by_cases e:j<i.toNat
 ·exact h.r j e
 ·rw [show j=i.toNat by omega];exact ⟨h1,h2⟩
theorem RpI.lo {data:List BA} {more i:Int} {at_:List Int} {out:List BA} (h:RpI data more at_ i out):0≤i∧(out.length:Int)=i∧((data++(encL data more).1).length:Int)=data.length+more:=⟨h.u.lo,h.u.len,h.o.al.1⟩
theorem RpI.fin {data:List BA} {more i:Int} {at_:List Int} {out:List BA} (h:RpI data more at_ i out) (hi:at_.length≤i):((rebL data.length more at_ out).2=0→(rebL data.length more at_ out).1=data)∧((rebL data.length more at_ out).2=0∨(rebL data.length more at_ out).2=8∨(rebL data.length more at_ out).2=2∨(rebL data.length more at_ out).2=6):=rb_fin h.o h.u hi h.r
def i_5_0 (data:(List ByteArray)) (more:Int) (at_:(List Int)) (i:Int) (out:(List ByteArray)):Prop:=RpI data more at_ i out
def k_5:Con Tc Tc.dn:=⟨5,[.ty .lStr, .ty .cInt, .ty .lInt],fun x=>(fun (data:(List ByteArray)) (more:Int) (at_:(List Int))=>at_.length≤1048576) x.1 x.2.1 x.2.2.1,[.cBool],fun x=>(fun (data:(List ByteArray)) (more:Int) (at_:(List Int))=>true) x.1 x.2.1 x.2.2.1⟩
theorem k_5_v (data:(List ByteArray)) (more:Int) (at_:(List Int)) (hp:at_.length≤1048576):True∧True∧(true= !true→false=true)∧(true= !false→(¬(encL data more).snd=(0:Int)→((↑(encL data more).fst.length:Int)==(0:Int))=true)∧((encL data more).snd=(0:Int)→((0:Nat)+data.length)*(16:Nat)≤(140737488355328:Nat)∧(([]++data).length+(encL data more).fst.length)*(16:Nat)≤(140737488355328:Nat)∧i_5_0 data more at_ (0:Int) []∧∀(x:Int) (x_1:List ByteArray),i_5_0 data more at_ x x_1→(x<(↑at_.length:Int)→((0:Int)≤x∧x<(↑at_.length:Int))∧((0:Int)≤gd (0:Int) at_ x.toNat→(0:Int)≤gd (0:Int) at_ x.toNat)∧((0:Int)≤gd (0:Int) at_ x.toNat→(0:Int)≤gd (0:Int) at_ x.toNat)∧((0:Int)≤gd (0:Int) at_ x.toNat→(0:Int)≤x∧x<(↑at_.length:Int))∧((0:Int)≤gd (0:Int) at_ x.toNat→(0:Int)≤gd (0:Int) at_ x.toNat)∧((0:Int)≤gd (0:Int) at_ x.toNat→(0:Int)≤gd (0:Int) at_ x.toNat)∧((0:Int)≤gd (0:Int) at_ x.toNat→(0:Int)≤gd (0:Int) at_ x.toNat)∧((0:Int)≤gd (0:Int) at_ x.toNat→(0:Int)≤gd (0:Int) at_ x.toNat)∧((0:Int)≤gd (0:Int) at_ x.toNat→(0:Int)≤gd (0:Int) at_ x.toNat)∧(gd (0:Int) at_ x.toNat<(0:Int)∨(↑([]++data++(encL data more).fst).length:Int)≤gd (0:Int) at_ x.toNat→true=true)∧((0:Int)≤gd (0:Int) at_ x.toNat∧gd (0:Int) at_ x.toNat<(↑([]++data++(encL data more).fst).length:Int)→((0:Int)≤x∧x<(↑at_.length:Int))∧((0:Int)≤gd (0:Int) at_ x.toNat∧gd (0:Int) at_ x.toNat<(↑([]++data++(encL data more).fst).length:Int))∧(gd (0:Int) at_ x.toNat).toNat<([]++data++(encL data more).fst).length∧(x_1.length+(1:Nat))*(16:Nat)≤(140737488355328:Nat)∧I64 (x+(1:Int))∧i_5_0 data more at_ (x+(1:Int)) (x_1++[gd ByteArray.empty ([]++data++(encL data more).fst) (gd (0:Int) at_ x.toNat).toNat])∧((↑at_.length:Int) - (x+(1:Int))).toNat<((↑at_.length:Int) - x).toNat))∧((↑at_.length:Int)≤x→True∧(¬(rebL (↑data.length:Int) more at_ x_1).snd=(0:Int)→(¬(rebL (↑data.length:Int) more at_ x_1).snd=(8:Int)→¬(rebL (↑data.length:Int) more at_ x_1).snd=(8:Int))∧(¬(rebL (↑data.length:Int) more at_ x_1).snd=(8:Int)→¬(rebL (↑data.length:Int) more at_ x_1).snd=(8:Int))∧(¬(rebL (↑data.length:Int) more at_ x_1).snd=(8:Int)∧¬(rebL (↑data.length:Int) more at_ x_1).snd=(2:Int)→¬(rebL (↑data.length:Int) more at_ x_1).snd=(8:Int)∧¬(rebL (↑data.length:Int) more at_ x_1).snd=(2:Int))∧(¬(rebL (↑data.length:Int) more at_ x_1).snd=(8:Int)∧¬(rebL (↑data.length:Int) more at_ x_1).snd=(2:Int)→¬(rebL (↑data.length:Int) more at_ x_1).snd=(8:Int)∧¬(rebL (↑data.length:Int) more at_ x_1).snd=(2:Int))∧((rebL (↑data.length:Int) more at_ x_1).snd==(8:Int)||(rebL (↑data.length:Int) more at_ x_1).snd==(2:Int)||(rebL (↑data.length:Int) more at_ x_1).snd==(6:Int))=true)∧((rebL (↑data.length:Int) more at_ x_1).snd=(0:Int)→(rebL (↑data.length:Int) more at_ x_1).fst.length≤(1000000:Nat)∧decide ((rebL (↑data.length:Int) more at_ x_1).fst=data)=true)))):=by
 have h1:= @enc_zero data more
 have h2:= @enc_err data more
 have h3:= @EnO.al data more
 have h5:= @reb_len data.length more at_
 have u1:= @RpI.start data more at_
 have u2:= @RpI.step data more
 have u3:= @RpI.lo data more
 have u4:= @RpI.fin data more
 simp only [List.nil_append,Nat.zero_add]
 simp only [Bool.not_false,Bool.not_true,decide_eq_true_eq,decide_eq_false_iff_not]
 (repeat' (first|apply And.intro|intro _))<;>first|assumption|trivial|omega|(grind [i_5_0,I64])|trace_state
theorem k_5_ok:k_5.Ok Try.prog tD:=con_ok tD_ok (Δ:=[k_15,k_11,k_12,k_16]) ⟨k_15_ok,k_11_ok,k_12_ok,k_16_ok,trivial⟩ (Ω:=[]) trivial k_5 F5_ok F5_call (fun _=>[]) (fun _=>trivial) 0 (fun x=>(fun (data:(List ByteArray)) (more:Int) (at_:(List Int))=>(fun k=>bif Nat.beq k 0 then some (.inv [.sl 11 .cInt, .ow 10 .cStr] (fun zo zv=>(fun (i:Int) (out:(List ByteArray))=>i_5_0 data more at_ i out) zv.1 zv.2.1) (fun zo zv=>(fun (i:Int) (out:(List ByteArray))=>((at_.length:Int) - i).toNat) zv.1 zv.2.1)) else none)) x.1 x.2.1 x.2.2.1) fun x hp=>Eq.mp (by kernel_rfl) (k_5_v x.1 x.2.1 x.2.2.1 hp)
theorem CodeRebuilds_walk {w:World} (data:(List ByteArray)) (Adata:Option Addr) (ndata cdata:Nat) (rdata:GoT.rep w w.heap.size [.slice Adata ndata cdata] data) (zdata:ndata≤1048576) (more:Int) (wmore:(Lit.int .i64 more).wf=true) (at_:(List Int)) (Aat_:Option Addr) (nat_ cat_:Nat) (rat_:GoT.rep w w.heap.size [.slice Aat_ nat_ cat_] at_) (zat_:nat_≤1048576):Calls Try.prog 5 #[.slice Adata ndata cdata,I more, .slice Aat_ nat_ cat_] w fun e w'=>e= .returned (.bool true)∧Below w.heap.size w w':=by
 have ldata:=rep_len rdata
 have rmore:GoT.rep w w.heap.size [I more] more:=⟨rfl,i64_bd wmore⟩
 have lat_:=rep_len rat_
 have hf:Fn Try.prog 5 [(tD.en .lStr data).av tD.toTE N0,(tD.en .cInt more).av tD.toTE N0,(tD.en .lInt at_).av tD.toTE N0] (.v (.bool true)):=k_5_ok.2 (data,more,at_,()) N0 (by show at_.length≤1048576;omega)
 exact fn_law (vs:=[.slice Adata ndata cdata,I more, .slice Aat_ nat_ cat_]) hf trivial (.cons (arg_one tD_ok (t:= .lStr) rfl ((LG.list LG.str).av rdata)) (.cons (arg_one tD_ok (t:= .cInt) rfl (LG.i64.av rmore)) (.cons (arg_one tD_ok (t:= .lInt) rfl ((LG.list LG.i64).av rat_)) .nil)))
open Go.ChangeShapes Go.WideShapes Go.ChangeAt Go.RowKit
open Go.ChangeMaps (open_string shut_string)
open Go.Deep
theorem bulk_pos {H:Type} (d:DataW H):1≤Rows.uptoBulk d:=by
 cases d with
 |lit l=>cases l<;>simp [Rows.uptoBulk]
 |_=>simp [Rows.uptoBulk]
theorem bulk_len {H:Type}:∀l:List (DataW H),l.length≤Rows.uptoBulkAll l
 |[]=>Nat.zero_le _
 |d::r=>by
  have h1:=bulk_len r
  have h2:=bulk_pos d
  simp only [Rows.uptoBulkAll,List.length_cons]
  omega
theorem bulk_list {H:Type} {enc:TypeId×Value→H} {P:Program} {W:World} {base:Nat} {sp:Nat→Bool} {held:Bool} {d:DataW H} {p:List MemPlace} {t e:TypeId} {A:Option Addr} {n c:Nat}
  (hu:P.underlying t=some (.slice e)) (htr:DataW.Trod enc P W base sp held t (.slice A n c) d p):n≤Rows.uptoBulk d:=by
 obtain ⟨fuel,hf⟩:=htr
 rcases open_slice hu hf with ⟨hcs,_⟩|⟨a,len,cap,m,n',D,Pl,hcs,_,hl,_,hm,hx,_⟩
 ·cases hcs
  exact Nat.zero_le _
 ·cases hcs
  have hd2:d=_:=(Prod.ext_iff.1 hx).1
  subst hd2
  simp only [Rows.uptoBulk]
  refine Nat.le_trans ?_ (Nat.le_trans (Nat.add_le_add_right (Nat.le_add_right _ _) 1|>fun h=>Nat.le_trans (Nat.le_succ _) h) (Nat.le_refl _))
  refine Nat.le_trans ?_ (bulk_len _)
  simp
theorem bulk_3 {H:Type} {a b c:DataW H} (h:Rows.uptoSmall H ([a,b,c]++[])=true):Rows.uptoBulk a+Rows.uptoBulk b+Rows.uptoBulk c≤1048576:=by
 simp only [Rows.uptoSmall,decide_eq_true_eq,List.append_nil,Rows.uptoBulkAll] at h
 omega
end Go.Proofs.Ytnbgbknocijjlaa
