/- One turned bit of each word of a text is mended and counted: the law WordAll returns true. No condition. -/
import Derived.Test.YtimomnfobfjggaaPZA
import Derived.Test.YtimomnfobfjggaaPZD
import Derived.WalkKit
import Derived.Handy
import Derived.ProofKit
import Derived.OpenShut
import Derived.ShutString
import Derived.ChangeOld
import Derived.Below
import Derived.Lib.Hide
import Derived.WalkLawsBesides
import Derived.WalkSpells
import Derived.Deep.QuietTactic
import Derived.BigQuiet
import Derived.Outline
import Derived.SevenTiedAt
set_option linter.unusedSimpArgs false
set_option linter.unusedVariables false
set_option maxHeartbeats 4000000
set_option maxRecDepth 100000
namespace Go.Proofs.Ytimomnfobfjggaa
open Go.ChangeShapes Go.WideShapes Go.ChangeAt Go.RowKit
open Go.ChangeMaps (open_string shut_string)
theorem NL:ownKnob Try.prog.godebug=none:=by kernel_rfl
theorem Fa:laidOutB Try.prog=true:=by kernel_rfl
set_option maxRecDepth 100000 in
set_option linter.unusedVariables false in
theorem NM (os:Os) (started:os.Started) (H:Type) (enc:TypeId×Value->H):
  ReturnsInHanded {} Try.checked os 4 .any (Rows.wordAllSpec.pre6 enc Try.prog Try.f4 Rows.wordAllRow.domain false) (Rows.wordAllSpec.post enc Try.prog Try.f4 false true false false):=by
 refine returnsInHanded_of_change (C:=Try.checked) NL started (by kernel_rfl) Try.func4
  (ChangeSpec.witness6 (enc:=enc) (C:=Try.checked) false ⟨#[], #[.string ByteArray.empty, .slice none 0 0],[]⟩ 8 (by kernel_rfl) (by kernel_rfl) (by kernel_rfl) (by kernel_rfl)) ?_
 intro W base args ds gs before Fb hW Oz _
 have qW:∀(j:Nat) t v,Try.f4.params[j]? =some t->args[j]? =some v->Value.okWide Try.prog W .any base t v:=Fb
 have NN:=hW
 obtain ⟨p,q,mv,hV,rfl,hfz,cL⟩:=hW
 have hA:DataW.TrodAll enc Try.prog W 0 (fun _=>true) true Try.f4.params.toList args.toList ds p:=mv
 rw [Try.params4] at hA qW
 obtain ⟨v0,OA,d0,OC,p0,q0,gy,rfl,rfl,h0,r0⟩:=trodAll_cons hA
 obtain ⟨v1,OD,d1,OE,p1,q1,rfl,rfl,rfl,h1,r1⟩:=trodAll_cons r0
 obtain ⟨rfl,rfl,rfl⟩:=trodAll_nil r1
 obtain rfl:args= #[v0,v1]:=by cases args;simp_all
 obtain ⟨rfl,rfl⟩:=trodVars_none hV
 have k0:=h0
 have NO:∀x∈p0,x.block<W.heap.size:=by obtain ⟨m,hm⟩:=k0;exact DataW.trod_lt m _ _ _ hm
 obtain ⟨a0,rfl,e0,OF,w0⟩:=open_string Try.underlying9 (qW 0 9 v0 rfl rfl) h0
 have k1:=h1
 have NP:∀x∈p1,x.block<W.heap.size:=by obtain ⟨m,hm⟩:=k1;exact DataW.trod_lt m _ _ _ hm
 obtain ⟨x1,A1,n1,c1,rfl,w1⟩:=Jr MD Try.underlying28 (qW 1 28 v1 rfl rfl) h1
 clear mv Fb
 refine (WordAll_walk (w:=W) a0 w0 x1 A1 n1 c1 w1).mono fun e W' ⟨he,zM⟩=> ?_
 subst he
 exact ⟨_,rfl,_,_,_,[],_,[],NN,trodAll_mk1 (shut_bool Try.underlying4 _),(trodAll_cons_mk (Below.trod Fa (by kernel_rfl) (P2 (by kernel_rfl)) k0 zM NO) (trodAll_cons_mk (Below.trod Fa (by kernel_rfl) (P2 (by kernel_rfl)) k1 zM NP) trodAll_mk0)),rfl,zM.frame _,fun h=>by cases h⟩
set_option maxRecDepth 100000 in
set_option maxHeartbeats 4000000 in
theorem NQ:joinedFacts Try.prog 4 Try.f4 Rows.wordAllSpec Rows.wordAllRow=true:=by
 unfold joinedFacts
 repeat' (with_reducible refine Jk ?_ ?_)
 all_goals as_aux_lemma=>kernel_rfl
theorem NS:Rows.wordAllRow.holds Try.pinned (OpenSpec.ofChange Rows.wordAllSpec):=
 OpenClaim.holds_of_wide 4 Try.f4 rfl rfl rfl rfl rfl rfl rfl ⟨rfl,rfl,rfl,rfl,rfl⟩ rfl rfl rfl rfl rfl (by as_aux_lemma=>kernel_rfl) Try.func4 NQ
  (P2 (by as_aux_lemma=>kernel_rfl)) (by unfold Func.isWrapper;rw [OH (of_decide_eq_false (by as_aux_lemma=>kernel_rfl))];exact ⟨rfl,rfl⟩)
  (fun os started H enc _=>NM os started H enc)
theorem WordAll_holds:Rows.WordAllSaid:=NS
end Go.Proofs.Ytimomnfobfjggaa
