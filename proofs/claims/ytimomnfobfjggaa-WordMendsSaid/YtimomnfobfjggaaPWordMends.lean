/- One turned bit of a word is mended and two are seen: the law WordMends returns true. No condition. -/
import Derived.Test.YtimomnfobfjggaaPZA
import Derived.Test.YtimomnfobfjggaaPZC
import Derived.WalkKit
import Derived.Handy
import Derived.ProofKit
import Derived.OpenShut
import Derived.ShutString
import Derived.ChangeOld
import Derived.Below
import Derived.Lib.Hide
import Derived.WalkLawsBesides
import Derived.WalkSpells
import Derived.Deep.QuietTactic
import Derived.BigQuiet
import Derived.Outline
import Derived.SevenTiedAt
set_option linter.unusedSimpArgs false
set_option linter.unusedVariables false
set_option maxHeartbeats 4000000
set_option maxRecDepth 100000
namespace Go.Proofs.Ytimomnfobfjggaa
open Go.ChangeShapes Go.WideShapes Go.ChangeAt Go.RowKit
open Go.ChangeMaps (open_string shut_string)
theorem Nl:ownKnob Try.prog.godebug=none:=by kernel_rfl
theorem zH:laidOutB Try.prog=true:=by kernel_rfl
set_option maxRecDepth 100000 in
set_option linter.unusedVariables false in
theorem Nn (os:Os) (started:os.Started) (H:Type) (enc:TypeId×Value->H):
  ReturnsInHanded {} Try.checked os 3 .any (Rows.wordMendsSpec.pre6 enc Try.prog Try.f3 Rows.wordMendsRow.domain false) (Rows.wordMendsSpec.post enc Try.prog Try.f3 false true false false):=by
 refine returnsInHanded_of_change (C:=Try.checked) Nl started (by kernel_rfl) Try.func3
  (ChangeSpec.witness6 (enc:=enc) (C:=Try.checked) false ⟨#[], #[.int .u8 0, .int .i64 0, .int .i64 0],[]⟩ 8 (by kernel_rfl) (by kernel_rfl) (by kernel_rfl) (by kernel_rfl)) ?_
 intro W base args ds gs before EU hW N9 _
 have o0:∀(j:Nat) t v,Try.f3.params[j]? =some t->args[j]? =some v->Value.okWide Try.prog W .any base t v:=EU
 have No:=hW
 obtain ⟨p,q,me,hV,rfl,hfz,cI⟩:=hW
 have hA:DataW.TrodAll enc Try.prog W 0 (fun _=>true) true Try.f3.params.toList args.toList ds p:=me
 rw [Try.params3] at hA o0
 obtain ⟨v0,Oa,d0,Ob,p0,q0,gv,rfl,rfl,h0,r0⟩:=trodAll_cons hA
 obtain ⟨v1,Oc,d1,Od,p1,q1,rfl,rfl,rfl,h1,r1⟩:=trodAll_cons r0
 obtain ⟨v2,Oe,d2,Of,p2,q2,rfl,rfl,rfl,h2,r2⟩:=trodAll_cons r1
 obtain ⟨rfl,rfl,rfl⟩:=trodAll_nil r2
 obtain rfl:args= #[v0,v1,v2]:=by cases args;simp_all
 obtain ⟨rfl,rfl⟩:=trodVars_none hV
 have k0:=h0
 have Np:∀x∈p0,x.block<W.heap.size:=by obtain ⟨m,hm⟩:=k0;exact DataW.trod_lt m _ _ _ hm
 obtain ⟨a0,rfl,e0,Og,w0⟩:=open_int Try.underlying5 (o0 0 5 v0 rfl rfl) h0
 obtain ⟨x0,rfl⟩:=I9 w0
 have k1:=h1
 have Nq:∀x∈p1,x.block<W.heap.size:=by obtain ⟨m,hm⟩:=k1;exact DataW.trod_lt m _ _ _ hm
 obtain ⟨a1,rfl,e1,Oh,w1⟩:=open_int Try.underlying3 (o0 1 3 v1 rfl rfl) h1
 have k2:=h2
 have Nr:∀x∈p2,x.block<W.heap.size:=by obtain ⟨m,hm⟩:=k2;exact DataW.trod_lt m _ _ _ hm
 obtain ⟨a2,rfl,e2,Oi,w2⟩:=open_int Try.underlying3 (o0 2 3 v2 rfl rfl) h2
 clear me EU
 refine (WordMends_walk (w:=W) x0 a1 w1 a2 w2).mono fun e W' ⟨he,vH⟩=> ?_
 subst he
 exact ⟨_,rfl,_,_,_,[],_,[],No,trodAll_mk1 (shut_bool Try.underlying4 _),(trodAll_cons_mk (Below.trod zH (by kernel_rfl) (PE (by kernel_rfl)) k0 vH Np) (trodAll_cons_mk (Below.trod zH (by kernel_rfl) (PE (by kernel_rfl)) k1 vH Nq) (trodAll_cons_mk (Below.trod zH (by kernel_rfl) (PE (by kernel_rfl)) k2 vH Nr) trodAll_mk0))),rfl,vH.frame _,fun h=>by cases h⟩
set_option maxRecDepth 100000 in
set_option maxHeartbeats 4000000 in
theorem Ns:joinedFacts Try.prog 3 Try.f3 Rows.wordMendsSpec Rows.wordMendsRow=true:=by
 unfold joinedFacts
 repeat' (with_reducible refine Ja ?_ ?_)
 all_goals as_aux_lemma=>kernel_rfl
theorem Nt:Rows.wordMendsRow.holds Try.pinned (OpenSpec.ofChange Rows.wordMendsSpec):=
 OpenClaim.holds_of_wide 3 Try.f3 rfl rfl rfl rfl rfl rfl rfl ⟨rfl,rfl,rfl,rfl,rfl⟩ rfl rfl rfl rfl rfl (by as_aux_lemma=>kernel_rfl) Try.func3 Ns
  (PE (by as_aux_lemma=>kernel_rfl)) (by unfold Func.isWrapper;rw [Ol (of_decide_eq_false (by as_aux_lemma=>kernel_rfl))];exact ⟨rfl,rfl⟩)
  (fun os started H enc _=>Nn os started H enc)
theorem WordMends_holds:Rows.WordMendsSaid:=Nt
end Go.Proofs.Ytimomnfobfjggaa
