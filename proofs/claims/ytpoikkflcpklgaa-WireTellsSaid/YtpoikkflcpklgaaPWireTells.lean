/- Check and Write answer just what the document says: the law WireTells returns true. No condition. -/
import Derived.Test.YtpoikkflcpklgaaPWE
import Derived.WalkKit
import Derived.Handy
import Derived.ProofKit
import Derived.OpenShut
import Derived.ShutString
import Derived.ChangeOld
import Derived.Below
import Derived.Lib.Hide
import Derived.WalkLawsBesides
import Derived.WalkSpells
import Derived.Deep.QuietTactic
import Derived.BigQuiet
import Derived.Outline
import Derived.SevenTiedAt
set_option linter.unusedSimpArgs false
set_option linter.unusedVariables false
set_option maxHeartbeats 4000000
set_option maxRecDepth 100000
namespace Go.Proofs.Ytpoikkflcpklgaa
open Go.ChangeShapes Go.WideShapes Go.ChangeAt Go.RowKit
open Go.ChangeMaps (open_string shut_string)
theorem J2:ownKnob Try.prog.godebug=none:=by kernel_rfl
theorem J3:laidOutB Try.prog=true:=by kernel_rfl
set_option maxRecDepth 100000 in
set_option linter.unusedVariables false in
theorem J4 (os:Os) (started:os.Started) (H:Type) (enc:TypeId×Value->H):
  ReturnsInHanded {} Try.checked os 3 .any (Rows.wireTellsSpec.pre6 enc Try.prog Try.f3 Rows.wireTellsRow.domain false) (Rows.wireTellsSpec.post enc Try.prog Try.f3 false true false false):=by
 refine returnsInHanded_of_change (C:=Try.checked) J2 started (by kernel_rfl) Try.func3
  (ChangeSpec.witness6 (enc:=enc) (C:=Try.checked) false ⟨#[], #[.agg #[.int .i64 0, .int .i64 0, .int .i64 0, .int .i64 0, .int .i64 0, .string ByteArray.empty]],[]⟩ 8 (by kernel_rfl) (by kernel_rfl) (by kernel_rfl) (by kernel_rfl)) ?_
 intro W base args ds gs before Bp hW KF _
 have qq:∀(j:Nat) t v,Try.f3.params[j]? =some t->args[j]? =some v->Value.okWide Try.prog W .any base t v:=Bp
 have J5:=hW
 obtain ⟨p,q,kr,hV,rfl,l8,cu⟩:=hW
 have hA:DataW.TrodAll enc Try.prog W 0 (fun _=>true) true Try.f3.params.toList args.toList ds p:=kr
 rw [Try.params3] at hA qq
 obtain ⟨v0,KG,d0,KH,p0,q0,fv,rfl,rfl,h0,r0⟩:=trodAll_cons hA
 obtain ⟨rfl,rfl,rfl⟩:=trodAll_nil r0
 obtain rfl:args= #[v0]:=by cases args;simp_all
 obtain ⟨rfl,rfl⟩:=trodVars_none hV
 have k0:=h0
 have J6:∀x∈p0,x.block<W.heap.size:=by obtain ⟨m,hm⟩:=k0;exact DataW.trod_lt m _ _ _ hm
 obtain ⟨x0,KI,rfl,w0⟩:=FQ I5 Try.underlying27 (qq 0 27 v0 rfl rfl) h0
 obtain ⟨rfl,J7⟩:=aI.flat w0
 clear kr Bp
 refine (WireTells_walk (w:=W) x0 J7).mono fun e W' ⟨he,Bq⟩=> ?_
 subst he
 exact ⟨_,rfl,_,_,_,[],_,[],J5,trodAll_mk1 (shut_bool Try.underlying4 _),(trodAll_cons_mk (Below.trod J3 (by kernel_rfl) (of_decide_eq_true (by kernel_rfl)) k0 Bq J6) trodAll_mk0),rfl,Bq.frame _,fun h=>by cases h⟩
set_option maxRecDepth 100000 in
set_option maxHeartbeats 4000000 in
theorem J8:joinedFacts Try.prog 3 Try.f3 Rows.wireTellsSpec Rows.wireTellsRow=true:=by
 unfold joinedFacts
 repeat' (with_reducible refine FM ?_ ?_)
 all_goals as_aux_lemma=>kernel_rfl
theorem J9:Rows.wireTellsRow.holds Try.pinned (OpenSpec.ofChange Rows.wireTellsSpec):=
 OpenClaim.holds_of_wide 3 Try.f3 rfl rfl rfl rfl rfl rfl rfl ⟨rfl,rfl,rfl,rfl,rfl⟩ rfl rfl rfl rfl rfl (by as_aux_lemma=>kernel_rfl) Try.func3 J8
  (of_decide_eq_true (by as_aux_lemma=>kernel_rfl)) (by unfold Func.isWrapper;rw [KK (of_decide_eq_false (by as_aux_lemma=>kernel_rfl))];exact ⟨rfl,rfl⟩)
  (fun os started H enc _=>J4 os started H enc)
theorem WireTells_holds:Rows.WireTellsSaid:=J9
end Go.Proofs.Ytpoikkflcpklgaa
