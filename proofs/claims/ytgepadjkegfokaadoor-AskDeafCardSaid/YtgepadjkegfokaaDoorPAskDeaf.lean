/- An operation that is done, or another operation's message, changes nothing: the law AskDeaf returns true. No condition. -/
import Derived.Test.YtgepadjkegfokaaDoorPAskL
import Derived.Test.YtgepadjkegfokaaDoorPAskF
import Derived.WalkKit
import Derived.Handy
import Derived.ProofKit
import Derived.OpenShut
import Derived.ShutString
import Derived.ChangeOld
import Derived.Below
import Derived.Lib.Hide
import Derived.WalkLawsBesides
import Derived.WalkSpells
import Derived.Deep.QuietTactic
import Derived.BigQuiet
import Derived.Outline
import Derived.SevenTiedAt
namespace Go.Proofs.YtgepadjkegfokaaDoor
set_option linter.unusedSimpArgs false
set_option linter.unusedVariables false
open Go.ChangeShapes Go.WideShapes Go.ChangeAt Go.RowKit
open Go.ChangeMaps (open_string shut_string)
set_option maxRecDepth 100000
set_option maxHeartbeats 4000000
abbrev adeaq0 (a : Ask) : OB := some ⟨8, [[VI a.op, VI a.kind, VI a.phase, .v (.string a.data), VI a.best.at_.time, VI a.best.at_.who, .v (.string a.best.data), .v (.int .u64 (a.heard.n : Int))]]⟩
abbrev adeaq1 (m : Msg) : OB := some ⟨6, [[VI m.kind, VI m.op, VI m.node, VI m.copy.at_.time, VI m.copy.at_.who, .v (.string m.copy.data)]]⟩
abbrev adeaq2 (v : Voters) (a : Ask) (m : Msg) : LB := [some ⟨2, [[.lst 1 (v.weights.map cI), VI v.need]]⟩, (adeaq0 a), (adeaq1 m)]
abbrev adeaq3 : LS := [(5, .ref 2 6 0 0), (4, .ref 1 8 0 0), (3, .ref 0 2 0 0)]
abbrev adeaq4 (m : Msg) : AV := .agg [VI m.kind, VI m.op, VI m.node, VI m.copy.at_.time, VI m.copy.at_.who, .v (.string m.copy.data)]
abbrev adeaq5 (a : Ask) : AV := .agg [VI a.op, VI a.kind, VI a.phase, .v (.string a.data), VI a.best.at_.time, VI a.best.at_.who, .v (.string a.best.data), .v (.int .u64 (a.heard.n : Int))]
abbrev adeaq6 (m : Msg) (a : Ask) (v : Voters) : LS := (13, (adeaq4 m)) :: (12, (adeaq5 a)) :: (11, .agg [.lst 1 (v.weights.map cI), VI v.need]) :: adeaq3
abbrev adeaq7 (v : Voters) (a : Ask) (m : Msg) : AV := .agg [VI (((hearA v a m).1).op), VI (((hearA v a m).1).kind), VI (((hearA v a m).1).phase), .v (.string (((hearA v a m).1).data)), VI (((((hearA v a m).1).best).at_).time), VI (((((hearA v a m).1).best).at_).who), .v (.string ((((hearA v a m).1).best).data)), .v (.int .u64 (((hearA v a m).1).heard.n : Int))]
abbrev adeaq8 (v : Voters) (a : Ask) (m : Msg) : LS := (14, .tup [(adeaq7 v a m), .lst 6 (((hearA v a m).2.1).map Msg.cs), VI ((hearA v a m).2.2)]) :: (adeaq6 m a v)
abbrev adeaq9 (v : Voters) (a : Ask) (m : Msg) : OB := some ⟨8, [[VI (((hearA v a m).1).op), VI (((hearA v a m).1).kind), VI (((hearA v a m).1).phase), .v (.string (((hearA v a m).1).data)), VI (((((hearA v a m).1).best).at_).time), VI (((((hearA v a m).1).best).at_).who), .v (.string ((((hearA v a m).1).best).data)), .v (.int .u64 (((hearA v a m).1).heard.n : Int))]]⟩
abbrev adeaq10 (v : Voters) (a : Ask) (m : Msg) : LB := [some ⟨2, [[.lst 1 (v.weights.map cI), VI v.need]]⟩, (adeaq0 a), (adeaq1 m), (adeaq9 v a m)]
abbrev adeaq11 (v : Voters) (a : Ask) (m : Msg) : LS := [(9, VI ((hearA v a m).2.2)), (8, .lst 6 (((hearA v a m).2.1).map Msg.cs)), (7, .ref 3 8 0 0), (5, .ref 2 6 0 0), (4, .ref 1 8 0 0)]
abbrev adeaq12 (v : Voters) (a : Ask) (m : Msg) : LS := (20, VI ((hearA v a m).2.2)) :: (19, .v (.bool false)) :: (adeaq11 v a m)
abbrev adeaq13 (a : Ask) (v : Voters) (m : Msg) : LS := (24, VI a.phase) :: (23, .ref 1 8 0 2) :: (22, .v (.bool false)) :: (21, .v (.bool false)) :: (adeaq12 v a m)
abbrev adeaq14 (a : Ask) (m : Msg) (v : Voters) : LS := (30, VI a.op) :: (29, .ref 1 8 0 0) :: (28, VI m.op) :: (27, .ref 2 6 0 1) :: (26, .v (.bool true)) :: (25, .v (.bool true)) :: (adeaq13 a v m)
abbrev adeaq15 (a : Ask) (v : Voters) (m : Msg) : LS := (36, (adeaq5 a)) :: (35, (adeaq7 v a m)) :: (34, .v (.bool false)) :: (33, .v (.bool false)) :: (32, .v (.bool false)) :: (31, .v (.bool false)) :: (adeaq14 a m v)
abbrev adeaq16 (v : Voters) (a : Ask) (m : Msg) : LS := (39, .lst 6 (((hearA v a m).2.1).map Msg.cs)) :: (38, .v (.bool true)) :: (37, .v (.bool true)) :: (adeaq15 a v m)
abbrev adeaq17 (v : Voters) (a : Ask) (m : Msg) : LS := (40, VI (List.length ((hearA v a m).2.1) : Int)) :: (adeaq16 v a m)
abbrev adeaq18 (a : Ask) (v : Voters) (m : Msg) : LS := (36, (adeaq5 a)) :: (35, (adeaq7 v a m)) :: (34, .v (.bool false)) :: (33, .v (.bool false)) :: (32, .v (.bool false)) :: (31, .v undef) :: (30, .v undef) :: (29, .v undef) :: (28, .v undef) :: (27, .v undef) :: (26, .v (.bool false)) :: (25, .v (.bool false)) :: (adeaq13 a v m)
abbrev adeaq19 (v : Voters) (a : Ask) (m : Msg) : LS := (39, .lst 6 (((hearA v a m).2.1).map Msg.cs)) :: (38, .v (.bool true)) :: (37, .v (.bool true)) :: (adeaq18 a v m)
abbrev adeaq20 (v : Voters) (a : Ask) (m : Msg) : LS := (40, VI (List.length ((hearA v a m).2.1) : Int)) :: (adeaq19 v a m)
theorem askDeaf_fn (v : Voters) (a : Ask) (m : Msg) (hx : v.weights.length ≤ 9223372036854775807) : Fn Tryd.prog 7 [.agg [.lst 1 (v.weights.map cI), VI v.need], .agg [VI a.op, VI a.kind, VI a.phase, .v (.string a.data), VI a.best.at_.time, VI a.best.at_.who, .v (.string a.best.data), .v (.int .u64 (a.heard.n : Int))], .agg [VI m.kind, VI m.op, VI m.node, VI m.copy.at_.time, VI m.copy.at_.who, .v (.string m.copy.data)]] (.v (.bool true)) := by
  refine fn_walkW F7_ok (of_decide_eq_true (by kernel_rfl)) ?_
  refine EL.sreg ?_
  refine OW.last 4 [3, 4, 5] (x' := ⟨adeaq3, (adeaq2 v a m)⟩) (by kernel_rfl) (by kernel_rfl) ?_
  refine EL.sreg ?_
  refine OW.run 3 (x' := ⟨(adeaq6 m a v), (adeaq2 v a m)⟩) (by kernel_rfl) ?_
  refine OW.fn (ar := [.agg [.lst 1 (v.weights.map cI), VI v.need], (adeaq5 a), (adeaq4 m)]) (x' := ⟨(adeaq8 v a m), (adeaq2 v a m)⟩) (by kernel_rfl) (by kernel_rfl) F8_call (hear_fn v a m hx) (by kernel_rfl) (by kernel_rfl) ?_
  refine OW.last 8 [4, 5, 7, 8, 9] (x' := ⟨(adeaq11 v a m), (adeaq10 v a m)⟩) (by kernel_rfl) (by kernel_rfl) ?_
  refine EL.seq ?_
  refine EL.sreg ?_
  refine OW.fn (ar := []) (x' := ⟨(18, .v (.bool true)) :: (adeaq11 v a m), (adeaq10 v a m)⟩) (by kernel_rfl) (by kernel_rfl) F12_call (begun_fn) (by kernel_rfl) (by kernel_rfl) ?_
  refine OW.last 1 [4, 5, 7, 8, 9, 19] (x' := ⟨(19, .v (.bool false)) :: (adeaq11 v a m), (adeaq10 v a m)⟩) (by kernel_rfl) (by kernel_rfl) ?_
  refine EL.condF (by kernel_rfl) ?_
  refine EL.skip ?_
  refine thenL_norm ?_
  refine EL.sreg ?_
  refine OW.run 3 (x' := ⟨(22, .v (.bool (((hearA v a m).2.2) != 0))) :: (21, .v (.bool (((hearA v a m).2.2) != 0))) :: (adeaq12 v a m), (adeaq10 v a m)⟩) (by kernel_rfl) ?_
  rcases Bool.eq_false_or_eq_true ((((hearA v a m).2.2) != 0)) with h1 | h1
  rw [h1]
  have g1 : ¬ (((hearA v a m).2.2) = 0) := by simpa using h1
  refine OW.last 22 [6] (x' := ⟨[(6, .v (.bool true))], (adeaq10 v a m)⟩) (by kernel_rfl) (by kernel_rfl) ?_
  refine EL.ret ?_
  refine ⟨.inr rfl, .v (.bool true), by kernel_rfl, Ale.of_eq ?_⟩
  focus ((refine congrArg (fun b => AV.v (Value.bool b)) ?_; first | rfl | (have e9 := hear_deaf (v := v) (a := a) (m := m) (by assumption) (by first | (left; omega) | (right; omega)); first | (rw [e9]; rfl) | (exfalso; simp only [e9, strEq, beq_self_eq_true, Bool.and_true, Bool.and_self] at *; first | contradiction | (simp_all; done)))))
  rw [h1]
  have g1 : (((hearA v a m).2.2) = 0) := by simpa using h1
  refine OW.run 4 (x' := ⟨(26, .v (.bool (a.phase != 3))) :: (25, .v (.bool (a.phase != 3))) :: (adeaq13 a v m), (adeaq10 v a m)⟩) (by kernel_rfl) ?_
  rcases Bool.eq_false_or_eq_true ((a.phase != 3)) with h2 | h2
  rw [h2]
  have g2 : ¬ (a.phase = 3) := by simpa using h2
  refine OW.run 8 (x' := ⟨(34, .v (.bool (m.op == a.op))) :: (33, .v (.bool (m.op == a.op))) :: (32, .v (.bool (m.op == a.op))) :: (31, .v (.bool (m.op == a.op))) :: (adeaq14 a m v), (adeaq10 v a m)⟩) (by kernel_rfl) ?_
  rcases Bool.eq_false_or_eq_true ((m.op == a.op)) with h3 | h3
  rw [h3]
  have g3 : (m.op = a.op) := by simpa using h3
  refine OW.last 10 [6] (x' := ⟨[(6, .v (.bool true))], (adeaq10 v a m)⟩) (by kernel_rfl) (by kernel_rfl) ?_
  refine EL.ret ?_
  refine ⟨.inr rfl, .v (.bool true), by kernel_rfl, Ale.of_eq ?_⟩
  focus ((refine congrArg (fun b => AV.v (Value.bool b)) ?_; first | rfl | (have e9 := hear_deaf (v := v) (a := a) (m := m) (by assumption) (by first | (left; omega) | (right; omega)); first | (rw [e9]; rfl) | (exfalso; simp only [e9, strEq, beq_self_eq_true, Bool.and_true, Bool.and_self] at *; first | contradiction | (simp_all; done)))))
  rw [h3]
  have g3 : ¬ (m.op = a.op) := by simpa using h3
  refine OW.run 4 (x' := ⟨(38, .v (.bool (((((hearA v a m).1).op) == a.op) && (((((hearA v a m).1).kind) == a.kind) && (((((hearA v a m).1).phase) == a.phase) && (strEq (((hearA v a m).1).data) a.data && (((((((hearA v a m).1).best).at_).time) == a.best.at_.time) && (((((((hearA v a m).1).best).at_).who) == a.best.at_.who) && (strEq ((((hearA v a m).1).best).data) a.best.data && (((((hearA v a m).1).heard.n : Int) == (a.heard.n : Int)) && true)))))))))) :: (37, .v (.bool (((((hearA v a m).1).op) == a.op) && (((((hearA v a m).1).kind) == a.kind) && (((((hearA v a m).1).phase) == a.phase) && (strEq (((hearA v a m).1).data) a.data && (((((((hearA v a m).1).best).at_).time) == a.best.at_.time) && (((((((hearA v a m).1).best).at_).who) == a.best.at_.who) && (strEq ((((hearA v a m).1).best).data) a.best.data && (((((hearA v a m).1).heard.n : Int) == (a.heard.n : Int)) && true)))))))))) :: (adeaq15 a v m), (adeaq10 v a m)⟩) (by kernel_rfl) ?_
  rcases Bool.eq_false_or_eq_true ((((((hearA v a m).1).op) == a.op) && (((((hearA v a m).1).kind) == a.kind) && (((((hearA v a m).1).phase) == a.phase) && (strEq (((hearA v a m).1).data) a.data && (((((((hearA v a m).1).best).at_).time) == a.best.at_.time) && (((((((hearA v a m).1).best).at_).who) == a.best.at_.who) && (strEq ((((hearA v a m).1).best).data) a.best.data && (((((hearA v a m).1).heard.n : Int) == (a.heard.n : Int)) && true))))))))) with h4 | h4
  rw [h4]
  refine OW.run 1 (x' := ⟨(adeaq16 v a m), (adeaq10 v a m)⟩) (by kernel_rfl) ?_
  refine OW.ope (v := VI (List.length ((hearA v a m).2.1) : Int)) (u := []) (acc := []) (x' := ⟨(adeaq17 v a m), (adeaq10 v a m)⟩) (by kernel_rfl) (opE_len Msg.cs ((hearA v a m).2.1) (.s 39) 6 (by kernel_rfl) (by kernel_rfl) (.inl rfl)) (by kernel_rfl) ?_
  refine OW.last 4 [6] (x' := ⟨[(6, .v (.bool ((List.length ((hearA v a m).2.1) : Int) == 0)))], (adeaq10 v a m)⟩) (by kernel_rfl) (by kernel_rfl) ?_
  refine EL.ret ?_
  refine ⟨.inr rfl, .v (.bool ((List.length ((hearA v a m).2.1) : Int) == 0)), by kernel_rfl, Ale.of_eq ?_⟩
  focus ((refine congrArg (fun b => AV.v (Value.bool b)) ?_; first | rfl | (have e9 := hear_deaf (v := v) (a := a) (m := m) (by assumption) (by first | (left; omega) | (right; omega)); first | (rw [e9]; rfl) | (exfalso; simp only [e9, strEq, beq_self_eq_true, Bool.and_true, Bool.and_self] at *; first | contradiction | (simp_all; done)))))
  rw [h4]
  refine OW.last 6 [6] (x' := ⟨[(6, .v (.bool false))], (adeaq10 v a m)⟩) (by kernel_rfl) (by kernel_rfl) ?_
  refine EL.ret ?_
  refine ⟨.inr rfl, .v (.bool false), by kernel_rfl, Ale.of_eq ?_⟩
  focus ((refine congrArg (fun b => AV.v (Value.bool b)) ?_; first | rfl | (have e9 := hear_deaf (v := v) (a := a) (m := m) (by assumption) (by first | (left; omega) | (right; omega)); first | (rw [e9]; rfl) | (exfalso; simp only [e9, strEq, beq_self_eq_true, Bool.and_true, Bool.and_self] at *; first | contradiction | (simp_all; done)))))
  rw [h2]
  have g2 : (a.phase = 3) := by simpa using h2
  refine OW.run 12 (x' := ⟨(38, .v (.bool (((((hearA v a m).1).op) == a.op) && (((((hearA v a m).1).kind) == a.kind) && (((((hearA v a m).1).phase) == a.phase) && (strEq (((hearA v a m).1).data) a.data && (((((((hearA v a m).1).best).at_).time) == a.best.at_.time) && (((((((hearA v a m).1).best).at_).who) == a.best.at_.who) && (strEq ((((hearA v a m).1).best).data) a.best.data && (((((hearA v a m).1).heard.n : Int) == (a.heard.n : Int)) && true)))))))))) :: (37, .v (.bool (((((hearA v a m).1).op) == a.op) && (((((hearA v a m).1).kind) == a.kind) && (((((hearA v a m).1).phase) == a.phase) && (strEq (((hearA v a m).1).data) a.data && (((((((hearA v a m).1).best).at_).time) == a.best.at_.time) && (((((((hearA v a m).1).best).at_).who) == a.best.at_.who) && (strEq ((((hearA v a m).1).best).data) a.best.data && (((((hearA v a m).1).heard.n : Int) == (a.heard.n : Int)) && true)))))))))) :: (adeaq18 a v m), (adeaq10 v a m)⟩) (by kernel_rfl) ?_
  rcases Bool.eq_false_or_eq_true ((((((hearA v a m).1).op) == a.op) && (((((hearA v a m).1).kind) == a.kind) && (((((hearA v a m).1).phase) == a.phase) && (strEq (((hearA v a m).1).data) a.data && (((((((hearA v a m).1).best).at_).time) == a.best.at_.time) && (((((((hearA v a m).1).best).at_).who) == a.best.at_.who) && (strEq ((((hearA v a m).1).best).data) a.best.data && (((((hearA v a m).1).heard.n : Int) == (a.heard.n : Int)) && true))))))))) with h5 | h5
  rw [h5]
  refine OW.run 1 (x' := ⟨(adeaq19 v a m), (adeaq10 v a m)⟩) (by kernel_rfl) ?_
  refine OW.ope (v := VI (List.length ((hearA v a m).2.1) : Int)) (u := []) (acc := []) (x' := ⟨(adeaq20 v a m), (adeaq10 v a m)⟩) (by kernel_rfl) (opE_len Msg.cs ((hearA v a m).2.1) (.s 39) 6 (by kernel_rfl) (by kernel_rfl) (.inl rfl)) (by kernel_rfl) ?_
  refine OW.last 4 [6] (x' := ⟨[(6, .v (.bool ((List.length ((hearA v a m).2.1) : Int) == 0)))], (adeaq10 v a m)⟩) (by kernel_rfl) (by kernel_rfl) ?_
  refine EL.ret ?_
  refine ⟨.inr rfl, .v (.bool ((List.length ((hearA v a m).2.1) : Int) == 0)), by kernel_rfl, Ale.of_eq ?_⟩
  focus ((refine congrArg (fun b => AV.v (Value.bool b)) ?_; first | rfl | (have e9 := hear_deaf (v := v) (a := a) (m := m) (by assumption) (by first | (left; omega) | (right; omega)); first | (rw [e9]; rfl) | (exfalso; simp only [e9, strEq, beq_self_eq_true, Bool.and_true, Bool.and_self] at *; first | contradiction | (simp_all; done)))))
  rw [h5]
  refine OW.last 6 [6] (x' := ⟨[(6, .v (.bool false))], (adeaq10 v a m)⟩) (by kernel_rfl) (by kernel_rfl) ?_
  refine EL.ret ?_
  refine ⟨.inr rfl, .v (.bool false), by kernel_rfl, Ale.of_eq ?_⟩
  focus ((refine congrArg (fun b => AV.v (Value.bool b)) ?_; first | rfl | (have e9 := hear_deaf (v := v) (a := a) (m := m) (by assumption) (by first | (left; omega) | (right; omega)); first | (rw [e9]; rfl) | (exfalso; simp only [e9, strEq, beq_self_eq_true, Bool.and_true, Bool.and_self] at *; first | contradiction | (simp_all; done)))))
theorem AskDeaf_walk {w : World} (hG : GlE (E0 w fun b => b < w.heap.size)) (v : Voters) (csv : List Value) (rv : GoT.rep w w.heap.size csv v) (a : Ask) (_oka : a.ok) (m : Msg) (_okm : m.ok) : Calls Tryd.prog 7 #[.agg csv.toArray, a.v, m.v] w fun e w' => e = .returned (.bool true) ∧ Below w.heap.size w w' := by
  have lv := (Voters.av rv).2
  exact fn_law (vs := [.agg csv.toArray, a.v, m.v]) (askDeaf_fn v a m (by first | assumption | omega)) hG (.cons ((Voters.av rv).1) (.cons ((R2.agg (.cons (.v rfl) (.cons (.v rfl) (.cons (.v rfl) (.cons (.v rfl) (.cons (.v rfl) (.cons (.v rfl) (.cons (.v rfl) (.cons (.v rfl) (.nil))))))))) : Rep _ a.v _)) (.cons ((R2.agg (.cons (.v rfl) (.cons (.v rfl) (.cons (.v rfl) (.cons (.v rfl) (.cons (.v rfl) (.cons (.v rfl) (.nil))))))) : Rep _ m.v _)) (.nil))))
theorem AskDeaf_own : ownKnob Tryd.prog.godebug = none := by kernel_rfl
theorem AskDeaf_laidOut : laidOutB Tryd.prog = true := by kernel_rfl
set_option maxRecDepth 100000 in
set_option linter.unusedVariables false in
theorem AskDeaf_lifted (os : Os) (started : os.Started) (H : Type) (enc : TypeId × Value → H) :
    ReturnsInHanded {} Tryd.checked os 7 .any (fun w args => (Rows.askDeafSpec.pre enc Tryd.prog Tryd.f7 [] false w args ∧ laidMetH Tryd.prog Rows.askDeafRow.laid w) ∧ sizedMet enc Tryd.prog Tryd.f7 (OpenSpec.ofChange Rows.askDeafSpec) false w args)
      (Rows.askDeafSpec.post enc Tryd.prog Tryd.f7 false true false false) := by
  refine returnsInHanded_of_change_and (C := Tryd.checked) (X := fun w _ => laidMetH Tryd.prog Rows.askDeafRow.laid w) (fun _ _ _ hh h => h.of_heap hh) AskDeaf_own started (by kernel_rfl) Tryd.func7
    (ChangeSpec.witness_shaped (enc := enc) (C := Tryd.checked) (os := os) (X := fun w _ => laidMetH Tryd.prog Rows.askDeafRow.laid w) false (World.doorLaid Tryd.prog 14 os) #[.agg #[.slice none 0 0, .int .i64 0], .agg #[.int .i64 0, .int .i64 0, .int .i64 0, .string ByteArray.empty, .int .i64 0, .int .i64 0, .string ByteArray.empty, .int .u64 0], .agg #[.int .i64 0, .int .i64 0, .int .i64 0, .int .i64 0, .int .i64 0, .string ByteArray.empty]] 8 rfl (World.shaped_of_RefB (by kernel_rfl) (by kernel_rfl)) (by kernel_rfl) (by kernel_rfl) (by kernel_rfl) (laidMetH_of_parts3 (fuel := 8) (laidMet_of_run' 8 (by kernel_rfl) (by kernel_rfl)) (by kernel_rfl) (by kernel_rfl))) ?_
  intro W base args ds gs before hval0 hW _ _ hL _
  have hval : ∀ (j : Nat) t v, Tryd.f7.params[j]? = some t → args[j]? = some v → Value.okWide Tryd.prog W .any base t v := hval0
  have hW' := hW
  obtain ⟨p, q, hA0, hV, rfl, hfz, hnd⟩ := hW
  have hA : DataW.TrodAll enc Tryd.prog W 0 (fun _ => true) true Tryd.f7.params.toList args.toList ds p := hA0
  rw [Tryd.params7] at hA hval
  obtain ⟨v0, vs0, d0, ds0, p0, q0, hargs, rfl, rfl, h0, r0⟩ := trodAll_cons hA
  obtain ⟨v1, vs1, d1, ds1, p1, q1, rfl, rfl, rfl, h1, r1⟩ := trodAll_cons r0
  obtain ⟨v2, vs2, d2, ds2, p2, q2, rfl, rfl, rfl, h2, r2⟩ := trodAll_cons r1
  obtain ⟨rfl, rfl, rfl⟩ := trodAll_nil r2
  obtain rfl : args = #[v0, v1, v2] := by cases args; simp_all
  obtain ⟨rfl, rfl⟩ := trodVars_none hV
  have k0 := h0
  have lt0 : ∀ x ∈ p0, x.block < W.heap.size := by obtain ⟨m, hm⟩ := k0; exact DataW.trod_lt m _ _ _ hm
  obtain ⟨x0, cs0, rfl, w0⟩ := open_agg opens_Voters Tryd.underlying24 (hval 0 24 v0 rfl rfl) h0
  have k1 := h1
  have lt1 : ∀ x ∈ p1, x.block < W.heap.size := by obtain ⟨m, hm⟩ := k1; exact DataW.trod_lt m _ _ _ hm
  obtain ⟨x1, cs1, rfl, w1⟩ := open_agg opens_Ask Tryd.underlying31 (hval 1 31 v1 rfl rfl) h1
  obtain ⟨rfl, ok1⟩ := Ask.flat w1
  have k2 := h2
  have lt2 : ∀ x ∈ p2, x.block < W.heap.size := by obtain ⟨m, hm⟩ := k2; exact DataW.trod_lt m _ _ _ hm
  obtain ⟨x2, cs2, rfl, w2⟩ := open_agg opens_Msg Tryd.underlying33 (hval 2 33 v2 rfl rfl) h2
  obtain ⟨rfl, ok2⟩ := Msg.flat w2
  clear hA0 hval0
  refine (AskDeaf_walk (w := W) (glE_of hL) x0 cs0 w0 x1 ok1 x2 ok2).mono fun e W' ⟨he, bel⟩ => ?_
  subst he
  exact ⟨_, rfl, _, _, _, [], _, [], hW', trodAll_mk1 (shut_bool Tryd.underlying4 _), (trodAll_cons_mk (Below.trod AskDeaf_laidOut (by kernel_rfl) (of_decide_eq_true (by kernel_rfl)) k0 bel lt0) (trodAll_cons_mk (Below.trod AskDeaf_laidOut (by kernel_rfl) (of_decide_eq_true (by kernel_rfl)) k1 bel lt1) (trodAll_cons_mk (Below.trod AskDeaf_laidOut (by kernel_rfl) (of_decide_eq_true (by kernel_rfl)) k2 bel lt2) trodAll_mk0))), rfl, bel.frame _, fun h => by cases h⟩
set_option maxRecDepth 100000 in
set_option maxHeartbeats 4000000 in
theorem AskDeaf_row : Rows.AskDeafSaid :=
  OpenClaim.holds_of_wide 7 Tryd.f7 rfl rfl rfl rfl rfl rfl rfl ⟨rfl, rfl, rfl, rfl, rfl⟩ rfl rfl rfl rfl rfl (by kernel_rfl) Tryd.func7 (by kernel_rfl)
    (of_decide_eq_true (by kernel_rfl)) (by unfold Func.isWrapper; first | (rw [if_pos (by decide +kernel)]; kernel_rfl) | (rw [if_neg (by decide +kernel)]; exact ⟨rfl, rfl⟩))
    (fun os started H enc _ => AskDeaf_lifted os started H enc)
set_option maxRecDepth 100000 in
set_option maxHeartbeats 4000000 in
theorem AskDeaf_holds : Rows.AskDeafCardSaid :=
  Claim7.holds_tied_plain_at .later [] [.data] true (true, "5bc4e28d4169921c484dbcdca1986270267f967a52b7c27f070fd8606f0cf834") false
    AskDeaf_row (fun _ h => by cases h) (by kernel_rfl) (fun _ h => by cases h) askDeaf_row_tie rfl ⟨rfl, rfl⟩ (by kernel_rfl) rfl
    (fun f fn hf hfn => by
      obtain rfl : f = 7 := Option.some.inj ((show Tryd.prog.funcNamed "supercargo/supercargolaw.AskDeaf" = some 7 by kernel_rfl).symm.trans hf) |>.symm
      obtain rfl : fn = Tryd.f7 := (Option.some.inj (Tryd.func7.symm.trans hfn)).symm
      exact ⟨by kernel_rfl, fun j t ht => by
        rw [Tryd.params7] at ht
        have hm : t ∈ [24, 31, 33] := by simpa using Array.mem_of_getElem? ht
        have hall : ([24, 31, 33].all fun u => !Tryd.prog.wantsStandIn u) = true := by kernel_rfl
        exact (show Tryd.prog.wantsStandIn t = false by simpa using List.all_eq_true.1 hall t hm)⟩)
    (by kernel_rfl)
end Go.Proofs.YtgepadjkegfokaaDoor
