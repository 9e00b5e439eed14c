/- A node that was away and comes back has what it had; set twice it is set once: the law VolumeComesBack returns true. No condition. -/
import Derived.Test.YtboaekdecndckaaPCA
import Derived.Test.YtboaekdecndckaaPVN
import Derived.WalkKit
import Derived.Handy
import Derived.ProofKit
import Derived.OpenShut
import Derived.ShutString
import Derived.ChangeOld
import Derived.Below
import Derived.Lib.Hide
import Derived.WalkLawsBesides
import Derived.WalkSpells
import Derived.Deep.QuietTactic
import Derived.BigQuiet
import Derived.Outline
import Derived.SevenTiedAt
set_option linter.unusedSimpArgs false
set_option linter.unusedVariables false
set_option maxHeartbeats 4000000
set_option maxRecDepth 100000
namespace Go.Proofs.Ytboaekdecndckaa
open Go.ChangeShapes Go.WideShapes Go.ChangeAt Go.RowKit
open Go.ChangeMaps (open_string shut_string)
theorem abO:ownKnob Try.prog.godebug=none:=by kernel_rfl
theorem Gg:laidOutB Try.prog=true:=by kernel_rfl
set_option maxRecDepth 100000 in
set_option linter.unusedVariables false in
theorem abP (os:Os) (started:os.Started) (H:Type) (enc:TypeId×Value->H):
  ReturnsInHanded {} Try.checked os 4 .any (Rows.volumeComesBackSpec.pre6 enc Try.prog Try.f4 Rows.volumeComesBackRow.domain false) (Rows.volumeComesBackSpec.post enc Try.prog Try.f4 false true false false):=by
 refine returnsInHanded_of_change (C:=Try.checked) abO started (by kernel_rfl) Try.func4
  (ChangeSpec.witness6 (enc:=enc) (C:=Try.checked) false ⟨#[], #[.agg #[.int .i64 0, .int .i64 0, .int .i64 0, .int .i64 0, .int .i64 0, .slice none 0 0, .slice none 0 0], .int .i64 0, .int .i64 0],[]⟩ 8 (by kernel_rfl) (by kernel_rfl) (by kernel_rfl) (by kernel_rfl)) ?_
 intro W base args ds gs before MV hW acC _
 have tc:∀(j:Nat) t v,Try.f4.params[j]? =some t->args[j]? =some v->Value.okWide Try.prog W .any base t v:=MV
 have hW':=hW
 obtain ⟨p,q,pP,hV,rfl,r9,dI⟩:=hW
 have hA:DataW.TrodAll enc Try.prog W 0 (fun _=>true) true Try.f4.params.toList args.toList ds p:=pP
 rw [Try.params4] at hA tc
 obtain ⟨v0,vs0,d0,ds0,p0,q0,jy,rfl,rfl,h0,r0⟩:=trodAll_cons hA
 obtain ⟨v1,vs1,d1,ds1,p1,q1,rfl,rfl,rfl,h1,r1⟩:=trodAll_cons r0
 obtain ⟨v2,vs2,d2,ds2,p2,q2,rfl,rfl,rfl,h2,r2⟩:=trodAll_cons r1
 obtain ⟨rfl,rfl,rfl⟩:=trodAll_nil r2
 obtain rfl:args= #[v0,v1,v2]:=by cases args;simp_all
 obtain ⟨rfl,rfl⟩:=trodVars_none hV
 have k0:=h0
 have lt0:∀x∈p0,x.block<W.heap.size:=by obtain ⟨m,hm⟩:=k0;exact DataW.trod_lt m _ _ _ hm
 obtain ⟨x0,C3,rfl,w0⟩:=Uu XF Try.underlying27 (tc 0 27 v0 rfl rfl) h0
 have k1:=h1
 have lt1:∀x∈p1,x.block<W.heap.size:=by obtain ⟨m,hm⟩:=k1;exact DataW.trod_lt m _ _ _ hm
 obtain ⟨a1,rfl,e1,e1',w1⟩:=open_int Try.underlying3 (tc 1 3 v1 rfl rfl) h1
 have k2:=h2
 have lt2:∀x∈p2,x.block<W.heap.size:=by obtain ⟨m,hm⟩:=k2;exact DataW.trod_lt m _ _ _ hm
 obtain ⟨a2,rfl,e2,e2',w2⟩:=open_int Try.underlying3 (tc 2 3 v2 rfl rfl) h2
 clear pP MV
 refine (VolumeComesBack_walk (w:=W) x0 C3 w0 a1 w1 a2 w2).mono fun e W' ⟨he,Bm⟩=> ?_
 subst he
 exact ⟨_,rfl,_,_,_,[],_,[],hW',trodAll_mk1 (shut_bool Try.underlying4 _),(trodAll_cons_mk (Below.trod Gg (by kernel_rfl) (ad8 (by kernel_rfl)) k0 Bm lt0) (trodAll_cons_mk (Below.trod Gg (by kernel_rfl) (ad8 (by kernel_rfl)) k1 Bm lt1) (trodAll_cons_mk (Below.trod Gg (by kernel_rfl) (ad8 (by kernel_rfl)) k2 Bm lt2) trodAll_mk0))),rfl,Bm.frame _,fun h=>by cases h⟩
set_option maxRecDepth 100000 in
set_option maxHeartbeats 4000000 in
theorem abU:joinedFacts Try.prog 4 Try.f4 Rows.volumeComesBackSpec Rows.volumeComesBackRow=true:=by
 unfold joinedFacts
 repeat' (with_reducible refine Un ?_ ?_)
 all_goals as_aux_lemma=>kernel_rfl
theorem abV:Rows.volumeComesBackRow.holds Try.pinned (OpenSpec.ofChange Rows.volumeComesBackSpec):=
 OpenClaim.holds_of_wide 4 Try.f4 rfl rfl rfl rfl rfl rfl rfl ⟨rfl,rfl,rfl,rfl,rfl⟩ rfl rfl rfl rfl rfl (by as_aux_lemma=>kernel_rfl) Try.func4 abU
  (ad8 (by as_aux_lemma=>kernel_rfl)) (by unfold Func.isWrapper;rw [acL (of_decide_eq_false (by as_aux_lemma=>kernel_rfl))];exact ⟨rfl,rfl⟩)
  (fun os started H enc _=>abP os started H enc)
theorem VolumeComesBack_holds:Rows.VolumeComesBackSaid:=abV
end Go.Proofs.Ytboaekdecndckaa
