/- Read and ReadAll answer just what the document says: the law WireReads returns true. No condition. -/
import Derived.Test.YtpoikkflcpklgaaPWE
import Derived.WalkKit
import Derived.Handy
import Derived.ProofKit
import Derived.OpenShut
import Derived.ShutString
import Derived.ChangeOld
import Derived.Below
import Derived.Lib.Hide
import Derived.WalkLawsBesides
import Derived.WalkSpells
import Derived.Deep.QuietTactic
import Derived.BigQuiet
import Derived.Outline
import Derived.SevenTiedAt
set_option linter.unusedSimpArgs false
set_option linter.unusedVariables false
set_option maxHeartbeats 4000000
set_option maxRecDepth 100000
namespace Go.Proofs.Ytpoikkflcpklgaa
open Go.ChangeShapes Go.WideShapes Go.ChangeAt Go.RowKit
open Go.ChangeMaps (open_string shut_string)
theorem Kh:ownKnob Try.prog.godebug=none:=by kernel_rfl
theorem Ki:laidOutB Try.prog=true:=by kernel_rfl
set_option maxRecDepth 100000 in
set_option linter.unusedVariables false in
theorem Kj (os:Os) (started:os.Started) (H:Type) (enc:TypeId×Value->H):
  ReturnsInHanded {} Try.checked os 4 .any (Rows.wireReadsSpec.pre6 enc Try.prog Try.f4 Rows.wireReadsRow.domain false) (Rows.wireReadsSpec.post enc Try.prog Try.f4 false true false false):=by
 refine returnsInHanded_of_change (C:=Try.checked) Kh started (by kernel_rfl) Try.func4
  (ChangeSpec.witness6 (enc:=enc) (C:=Try.checked) false ⟨#[], #[.string ByteArray.empty],[]⟩ 8 (by kernel_rfl) (by kernel_rfl) (by kernel_rfl) (by kernel_rfl)) ?_
 intro W base args ds gs before BD hW KV _
 have qx:∀(j:Nat) t v,Try.f4.params[j]? =some t->args[j]? =some v->Value.okWide Try.prog W .any base t v:=BD
 have Kk:=hW
 obtain ⟨p,q,ky,hV,rfl,mf,cy⟩:=hW
 have hA:DataW.TrodAll enc Try.prog W 0 (fun _=>true) true Try.f4.params.toList args.toList ds p:=ky
 rw [Try.params4] at hA qx
 obtain ⟨v0,KW,d0,KX,p0,q0,fA,rfl,rfl,h0,r0⟩:=trodAll_cons hA
 obtain ⟨rfl,rfl,rfl⟩:=trodAll_nil r0
 obtain rfl:args= #[v0]:=by cases args;simp_all
 obtain ⟨rfl,rfl⟩:=trodVars_none hV
 have k0:=h0
 have Kl:∀x∈p0,x.block<W.heap.size:=by obtain ⟨m,hm⟩:=k0;exact DataW.trod_lt m _ _ _ hm
 obtain ⟨a0,rfl,e0,KY,w0⟩:=open_string Try.underlying9 (qx 0 9 v0 rfl rfl) h0
 clear ky BD
 refine (WireReads_walk (w:=W) a0 w0).mono fun e W' ⟨he,BE⟩=> ?_
 subst he
 exact ⟨_,rfl,_,_,_,[],_,[],Kk,trodAll_mk1 (shut_bool Try.underlying4 _),(trodAll_cons_mk (Below.trod Ki (by kernel_rfl) (of_decide_eq_true (by kernel_rfl)) k0 BE Kl) trodAll_mk0),rfl,BE.frame _,fun h=>by cases h⟩
set_option maxRecDepth 100000 in
set_option maxHeartbeats 4000000 in
theorem Km:joinedFacts Try.prog 4 Try.f4 Rows.wireReadsSpec Rows.wireReadsRow=true:=by
 unfold joinedFacts
 repeat' (with_reducible refine F6 ?_ ?_)
 all_goals as_aux_lemma=>kernel_rfl
theorem Kn:Rows.wireReadsRow.holds Try.pinned (OpenSpec.ofChange Rows.wireReadsSpec):=
 OpenClaim.holds_of_wide 4 Try.f4 rfl rfl rfl rfl rfl rfl rfl ⟨rfl,rfl,rfl,rfl,rfl⟩ rfl rfl rfl rfl rfl (by as_aux_lemma=>kernel_rfl) Try.func4 Km
  (of_decide_eq_true (by as_aux_lemma=>kernel_rfl)) (by unfold Func.isWrapper;rw [K0 (of_decide_eq_false (by as_aux_lemma=>kernel_rfl))];exact ⟨rfl,rfl⟩)
  (fun os started H enc _=>Kj os started H enc)
theorem WireReads_holds:Rows.WireReadsSaid:=Kn
end Go.Proofs.Ytpoikkflcpklgaa
