/- What is read is a word but for as many bits as were mended: the law WordOnly returns true. No condition. -/
import Derived.Test.YtimomnfobfjggaaPZA
import Derived.Test.YtimomnfobfjggaaPZC
import Derived.WalkKit
import Derived.Handy
import Derived.ProofKit
import Derived.OpenShut
import Derived.ShutString
import Derived.ChangeOld
import Derived.Below
import Derived.Lib.Hide
import Derived.WalkLawsBesides
import Derived.WalkSpells
import Derived.Deep.QuietTactic
import Derived.BigQuiet
import Derived.Outline
import Derived.SevenTiedAt
set_option linter.unusedSimpArgs false
set_option linter.unusedVariables false
set_option maxHeartbeats 4000000
set_option maxRecDepth 100000
namespace Go.Proofs.Ytimomnfobfjggaa
open Go.ChangeShapes Go.WideShapes Go.ChangeAt Go.RowKit
open Go.ChangeMaps (open_string shut_string)
theorem Nf:ownKnob Try.prog.godebug=none:=by kernel_rfl
theorem Ng:laidOutB Try.prog=true:=by kernel_rfl
set_option maxRecDepth 100000 in
set_option linter.unusedVariables false in
theorem Nh (os:Os) (started:os.Started) (H:Type) (enc:TypeId×Value->H):
  ReturnsInHanded {} Try.checked os 5 .any (Rows.wordOnlySpec.pre6 enc Try.prog Try.f5 Rows.wordOnlyRow.domain false) (Rows.wordOnlySpec.post enc Try.prog Try.f5 false true false false):=by
 refine returnsInHanded_of_change (C:=Try.checked) Nf started (by kernel_rfl) Try.func5
  (ChangeSpec.witness6 (enc:=enc) (C:=Try.checked) false ⟨#[], #[.int .u16 0],[]⟩ 8 (by kernel_rfl) (by kernel_rfl) (by kernel_rfl) (by kernel_rfl)) ?_
 intro W base args ds gs before EJ hW NX _
 have s8:∀(j:Nat) t v,Try.f5.params[j]? =some t->args[j]? =some v->Value.okWide Try.prog W .any base t v:=EJ
 have Ni:=hW
 obtain ⟨p,q,l8,hV,rfl,hfz,cG⟩:=hW
 have hA:DataW.TrodAll enc Try.prog W 0 (fun _=>true) true Try.f5.params.toList args.toList ds p:=l8
 rw [Try.params5] at hA s8
 obtain ⟨v0,NY,d0,NZ,p0,q0,gr,rfl,rfl,h0,r0⟩:=trodAll_cons hA
 obtain ⟨rfl,rfl,rfl⟩:=trodAll_nil r0
 obtain rfl:args= #[v0]:=by cases args;simp_all
 obtain ⟨rfl,rfl⟩:=trodVars_none hV
 have k0:=h0
 have Nj:∀x∈p0,x.block<W.heap.size:=by obtain ⟨m,hm⟩:=k0;exact DataW.trod_lt m _ _ _ hm
 obtain ⟨a0,rfl,e0,N5,w0⟩:=open_int Try.underlying22 (s8 0 22 v0 rfl rfl) h0
 obtain ⟨x0,rfl⟩:=Mc w0
 clear l8 EJ
 refine (WordOnly_walk (w:=W) x0).mono fun e W' ⟨he,EK⟩=> ?_
 subst he
 exact ⟨_,rfl,_,_,_,[],_,[],Ni,trodAll_mk1 (shut_bool Try.underlying4 _),(trodAll_cons_mk (Below.trod Ng (by kernel_rfl) (Px (by kernel_rfl)) k0 EK Nj) trodAll_mk0),rfl,EK.frame _,fun h=>by cases h⟩
set_option maxRecDepth 100000 in
set_option maxHeartbeats 4000000 in
theorem Nk:joinedFacts Try.prog 5 Try.f5 Rows.wordOnlySpec Rows.wordOnlyRow=true:=by
 unfold joinedFacts
 repeat' (with_reducible refine I1 ?_ ?_)
 all_goals as_aux_lemma=>kernel_rfl
theorem Nl:Rows.wordOnlyRow.holds Try.pinned (OpenSpec.ofChange Rows.wordOnlySpec):=
 OpenClaim.holds_of_wide 5 Try.f5 rfl rfl rfl rfl rfl rfl rfl ⟨rfl,rfl,rfl,rfl,rfl⟩ rfl rfl rfl rfl rfl (by as_aux_lemma=>kernel_rfl) Try.func5 Nk
  (Px (by as_aux_lemma=>kernel_rfl)) (by unfold Func.isWrapper;rw [N7 (of_decide_eq_false (by as_aux_lemma=>kernel_rfl))];exact ⟨rfl,rfl⟩)
  (fun os started H enc _=>Nh os started H enc)
theorem WordOnly_holds:Rows.WordOnlySaid:=Nl
end Go.Proofs.Ytimomnfobfjggaa
