/- What functions answer (contracts). No condition. -/
import Derived.Test.YtnbgbknocijjlaaPCF
import Derived.Test.YtnbgbknocijjlaaPMD
set_option linter.unusedSimpArgs false
set_option linter.unusedVariables false
set_option maxHeartbeats 4000000
set_option maxRecDepth 100000
namespace Go.Proofs.Ytnbgbknocijjlaa
open Go.RowKit
theorem reb_len {many more : Int} {at_ : List Int} {pieces : List BA} : (rebL many more at_ pieces).1.length ≤ 1000000 := by
  unfold rebL
  split; simp
  split; simp
  split; simp
  split; simp
  split; simp
  split; simp
  split; simp
  rename_i h1 h2 h3 h4 h5 h6 h7
  have := (inv_w (Classical.not_not.1 h7)).1
  have e : (rowsF many more at_).length = at_.length := by unfold rowsF; simp
  unfold mixS; simp; omega
def k_3 : Con Tc Tc.dn := ⟨3, [.ty .lStr, .ty .cInt, .ty .cInt, .ty .lInt, .ty .lStr], fun x => (fun (data : (List ByteArray)) (more : Int) (many : Int) (at_ : (List Int)) (pieces : (List ByteArray)) => True) x.1 x.2.1 x.2.2.1 x.2.2.2.1 x.2.2.2.2.1, [.cBool], fun x => (fun (data : (List ByteArray)) (more : Int) (many : Int) (at_ : (List Int)) (pieces : (List ByteArray)) => true) x.1 x.2.1 x.2.2.1 x.2.2.2.1 x.2.2.2.2.1⟩
abbrev z3_0 (data : (List ByteArray)) (more : Int) := (true = true ∧ decide ((encL data more).fst = (encL data more).fst) = true)
theorem k_3_v (data : (List ByteArray)) (more : Int) (many : Int) (at_ : (List Int)) (pieces : (List ByteArray)) : True ∧ True ∧ True ∧ True ∧ True ∧ (true = true → true = true) ∧ (true = true → true = true) ∧ (true = true → (encL data more).fst.length ≤ (1000000 : Nat)) ∧ (true = true → true = true) ∧ (true = true ∧ decide ((encL data more).fst = (encL data more).fst) = true → true = true ∧ decide ((encL data more).fst = (encL data more).fst) = true) ∧ (true = true ∧ decide ((encL data more).fst = (encL data more).fst) = true → true = true ∧ decide ((encL data more).fst = (encL data more).fst) = true) ∧ (true = true ∧ decide ((encL data more).fst = (encL data more).fst) = true → true = true ∧ decide ((encL data more).fst = (encL data more).fst) = true) ∧ ((z3_0 data more) ∧ (encL data more).snd = (encL data more).snd → (z3_0 data more) ∧ (encL data more).snd = (encL data more).snd) ∧ ((z3_0 data more) ∧ (encL data more).snd = (encL data more).snd → (z3_0 data more) ∧ (encL data more).snd = (encL data more).snd) ∧ ((z3_0 data more) ∧ (encL data more).snd = (encL data more).snd → (rebL many more at_ pieces).fst.length ≤ (1000000 : Nat)) ∧ ((z3_0 data more) ∧ (encL data more).snd = (encL data more).snd → (z3_0 data more) ∧ (encL data more).snd = (encL data more).snd) ∧ (((z3_0 data more) ∧ (encL data more).snd = (encL data more).snd) ∧ decide ((rebL many more at_ pieces).fst = (rebL many more at_ pieces).fst) = true → ((z3_0 data more) ∧ (encL data more).snd = (encL data more).snd) ∧ decide ((rebL many more at_ pieces).fst = (rebL many more at_ pieces).fst) = true) ∧ (((z3_0 data more) ∧ (encL data more).snd = (encL data more).snd) ∧ decide ((rebL many more at_ pieces).fst = (rebL many more at_ pieces).fst) = true → ((z3_0 data more) ∧ (encL data more).snd = (encL data more).snd) ∧ decide ((rebL many more at_ pieces).fst = (rebL many more at_ pieces).fst) = true) ∧ (((z3_0 data more) ∧ (encL data more).snd = (encL data more).snd) ∧ decide ((rebL many more at_ pieces).fst = (rebL many more at_ pieces).fst) = true → ((z3_0 data more) ∧ (encL data more).snd = (encL data more).snd) ∧ decide ((rebL many more at_ pieces).fst = (rebL many more at_ pieces).fst) = true) ∧ (true && decide ((encL data more).fst = (encL data more).fst) && (encL data more).snd == (encL data more).snd && decide ((rebL many more at_ pieces).fst = (rebL many more at_ pieces).fst) && (rebL many more at_ pieces).snd == (rebL many more at_ pieces).snd) = true := by
  delta z3_0
  have h1 := @enc_len data more
  have h2 := @reb_len many more at_ pieces
  (repeat' (first | apply And.intro | intro _)) <;> first | assumption | trivial | omega | (grind []) | trace_state
theorem k_3_ok : k_3.Ok Try.prog tD := con_ok tD_ok (Δ := [k_15, k_11, k_12, k_13, k_14, k_16]) ⟨k_15_ok, k_11_ok, k_12_ok, k_13_ok, k_14_ok, k_16_ok, trivial⟩ (Ω := []) trivial k_3 F3_ok F3_call (fun _ => []) (fun _ => trivial) 0 (fun x => (fun (data : (List ByteArray)) (more : Int) (many : Int) (at_ : (List Int)) (pieces : (List ByteArray)) => (fun _ => none)) x.1 x.2.1 x.2.2.1 x.2.2.2.1 x.2.2.2.2.1) fun x hp => Eq.mp (by kernel_rfl) (k_3_v x.1 x.2.1 x.2.2.1 x.2.2.2.1 x.2.2.2.2.1)
theorem CodeTells_walk {w : World} (data : (List ByteArray)) (Adata : Option Addr) (ndata cdata : Nat) (rdata : GoT.rep w w.heap.size [.slice Adata ndata cdata] data) (more : Int) (wmore : (Lit.int .i64 more).wf = true) (many : Int) (wmany : (Lit.int .i64 many).wf = true) (at_ : (List Int)) (Aat_ : Option Addr) (nat_ cat_ : Nat) (rat_ : GoT.rep w w.heap.size [.slice Aat_ nat_ cat_] at_) (pieces : (List ByteArray)) (Apieces : Option Addr) (npieces cpieces : Nat) (rpieces : GoT.rep w w.heap.size [.slice Apieces npieces cpieces] pieces) : Calls Try.prog 3 #[.slice Adata ndata cdata, I more, I many, .slice Aat_ nat_ cat_, .slice Apieces npieces cpieces] w fun e w' => e = .returned (.bool true) ∧ Below w.heap.size w w' := by
  have rmore : GoT.rep w w.heap.size [I more] more := ⟨rfl, i64_bd wmore⟩
  have rmany : GoT.rep w w.heap.size [I many] many := ⟨rfl, i64_bd wmany⟩
  have hf : Fn Try.prog 3 [(tD.en .lStr data).av tD.toTE N0, (tD.en .cInt more).av tD.toTE N0, (tD.en .cInt many).av tD.toTE N0, (tD.en .lInt at_).av tD.toTE N0, (tD.en .lStr pieces).av tD.toTE N0] (.v (.bool true)) := k_3_ok.2 (data, more, many, at_, pieces, ()) N0 trivial
  exact fn_law (vs := [.slice Adata ndata cdata, I more, I many, .slice Aat_ nat_ cat_, .slice Apieces npieces cpieces]) hf trivial (.cons (arg_one tD_ok (t := .lStr) rfl ((LG.list LG.str).av rdata)) (.cons (arg_one tD_ok (t := .cInt) rfl (LG.i64.av rmore)) (.cons (arg_one tD_ok (t := .cInt) rfl (LG.i64.av rmany)) (.cons (arg_one tD_ok (t := .lInt) rfl ((LG.list LG.i64).av rat_)) (.cons (arg_one tD_ok (t := .lStr) rfl ((LG.list LG.str).av rpieces)) .nil)))))
end Go.Proofs.Ytnbgbknocijjlaa
