/- A write changes its own block alone; behind it as many are fresh as are up: the law VolumeApart returns true. No condition. -/
import Derived.Test.YtboaekdecndckaaPCA
import Derived.Test.YtboaekdecndckaaPVO
import Derived.WalkKit
import Derived.Handy
import Derived.ProofKit
import Derived.OpenShut
import Derived.ShutString
import Derived.ChangeOld
import Derived.Below
import Derived.Lib.Hide
import Derived.WalkLawsBesides
import Derived.WalkSpells
import Derived.Deep.QuietTactic
import Derived.BigQuiet
import Derived.Outline
import Derived.SevenTiedAt
set_option linter.unusedSimpArgs false
set_option linter.unusedVariables false
set_option maxHeartbeats 4000000
set_option maxRecDepth 100000
namespace Go.Proofs.Ytboaekdecndckaa
open Go.ChangeShapes Go.WideShapes Go.ChangeAt Go.RowKit
open Go.ChangeMaps (open_string shut_string)
theorem adE:ownKnob Try.prog.godebug=none:=by kernel_rfl
theorem Cq:laidOutB Try.prog=true:=by kernel_rfl
set_option maxRecDepth 100000 in
set_option linter.unusedVariables false in
theorem adF (os:Os) (started:os.Started) (H:Type) (enc:TypeId×Value->H):
  ReturnsInHanded {} Try.checked os 3 .any (Rows.volumeApartSpec.pre6 enc Try.prog Try.f3 Rows.volumeApartRow.domain false) (Rows.volumeApartSpec.post enc Try.prog Try.f3 false true false false):=by
 refine returnsInHanded_of_change (C:=Try.checked) adE started (by kernel_rfl) Try.func3
  (ChangeSpec.witness6 (enc:=enc) (C:=Try.checked) false ⟨#[], #[.agg #[.int .i64 0, .int .i64 0, .int .i64 0, .int .i64 0, .int .i64 0, .slice none 0 0, .slice none 0 0], .int .i64 0, .string ByteArray.empty, .int .i64 0],[]⟩ 8 (by kernel_rfl) (by kernel_rfl) (by kernel_rfl) (by kernel_rfl)) ?_
 intro W base args ds gs before Ow hW aes _
 have sd:∀(j:Nat) t v,Try.f3.params[j]? =some t->args[j]? =some v->Value.okWide Try.prog W .any base t v:=Ow
 have hW':=hW
 obtain ⟨p,q,qn,hV,rfl,sL,dC⟩:=hW
 have hA:DataW.TrodAll enc Try.prog W 0 (fun _=>true) true Try.f3.params.toList args.toList ds p:=qn
 rw [Try.params3] at hA sd
 obtain ⟨v0,vs0,d0,ds0,p0,q0,jN,rfl,rfl,h0,r0⟩:=trodAll_cons hA
 obtain ⟨v1,vs1,d1,ds1,p1,q1,rfl,rfl,rfl,h1,r1⟩:=trodAll_cons r0
 obtain ⟨v2,vs2,d2,ds2,p2,q2,rfl,rfl,rfl,h2,r2⟩:=trodAll_cons r1
 obtain ⟨v3,vs3,d3,ds3,p3,q3,rfl,rfl,rfl,h3,r3⟩:=trodAll_cons r2
 obtain ⟨rfl,rfl,rfl⟩:=trodAll_nil r3
 obtain rfl:args= #[v0,v1,v2,v3]:=by cases args;simp_all
 obtain ⟨rfl,rfl⟩:=trodVars_none hV
 have k0:=h0
 have lt0:∀x∈p0,x.block<W.heap.size:=by obtain ⟨m,hm⟩:=k0;exact DataW.trod_lt m _ _ _ hm
 obtain ⟨x0,D7,rfl,w0⟩:=V9 Zj Try.underlying27 (sd 0 27 v0 rfl rfl) h0
 have k1:=h1
 have lt1:∀x∈p1,x.block<W.heap.size:=by obtain ⟨m,hm⟩:=k1;exact DataW.trod_lt m _ _ _ hm
 obtain ⟨a1,rfl,e1,e1',w1⟩:=open_int Try.underlying3 (sd 1 3 v1 rfl rfl) h1
 have k2:=h2
 have lt2:∀x∈p2,x.block<W.heap.size:=by obtain ⟨m,hm⟩:=k2;exact DataW.trod_lt m _ _ _ hm
 obtain ⟨a2,rfl,e2,e2',w2⟩:=open_string Try.underlying9 (sd 2 9 v2 rfl rfl) h2
 have k3:=h3
 have lt3:∀x∈p3,x.block<W.heap.size:=by obtain ⟨m,hm⟩:=k3;exact DataW.trod_lt m _ _ _ hm
 obtain ⟨a3,rfl,e3,e3',w3⟩:=open_int Try.underlying3 (sd 3 3 v3 rfl rfl) h3
 clear qn Ow
 refine (VolumeApart_walk (w:=W) x0 D7 w0 a1 w1 a2 w2 a3 w3).mono fun e W' ⟨he,yy⟩=> ?_
 subst he
 exact ⟨_,rfl,_,_,_,[],_,[],hW',trodAll_mk1 (shut_bool Try.underlying4 _),(trodAll_cons_mk (Below.trod Cq (by kernel_rfl) (af1 (by kernel_rfl)) k0 yy lt0) (trodAll_cons_mk (Below.trod Cq (by kernel_rfl) (af1 (by kernel_rfl)) k1 yy lt1) (trodAll_cons_mk (Below.trod Cq (by kernel_rfl) (af1 (by kernel_rfl)) k2 yy lt2) (trodAll_cons_mk (Below.trod Cq (by kernel_rfl) (af1 (by kernel_rfl)) k3 yy lt3) trodAll_mk0)))),rfl,yy.frame _,fun h=>by cases h⟩
set_option maxRecDepth 100000 in
set_option maxHeartbeats 4000000 in
theorem adL:joinedFacts Try.prog 3 Try.f3 Rows.volumeApartSpec Rows.volumeApartRow=true:=by
 unfold joinedFacts
 repeat' (with_reducible refine V2 ?_ ?_)
 all_goals as_aux_lemma=>kernel_rfl
theorem adM:Rows.volumeApartRow.holds Try.pinned (OpenSpec.ofChange Rows.volumeApartSpec):=
 OpenClaim.holds_of_wide 3 Try.f3 rfl rfl rfl rfl rfl rfl rfl ⟨rfl,rfl,rfl,rfl,rfl⟩ rfl rfl rfl rfl rfl (by as_aux_lemma=>kernel_rfl) Try.func3 adL
  (af1 (by as_aux_lemma=>kernel_rfl)) (by unfold Func.isWrapper;rw [aeE (of_decide_eq_false (by as_aux_lemma=>kernel_rfl))];exact ⟨rfl,rfl⟩)
  (fun os started H enc _=>adF os started H enc)
theorem VolumeApart_holds:Rows.VolumeApartSaid:=adM
end Go.Proofs.Ytboaekdecndckaa
