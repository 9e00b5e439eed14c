/- What functions answer (contracts). No condition. -/
import Derived.Test.YtpagdlhlfmenmaaDoorPSD
import Derived.Test.YtpagdlhlfmenmaaDoorPQuorM
set_option linter.unusedSimpArgs false
set_option linter.unusedVariables false
set_option maxHeartbeats 4000000
set_option maxRecDepth 100000
namespace Go.Proofs.YtpagdlhlfmenmaaDoor
open Go.RowKit
def orP : List Int → Int
  | [] => 0
  | a :: r => if a ≠ 0 then a else orP r
def max2 (a b : Stp) : Stp := if b.cmp a > 0 then b else a
def maxF : List Stp → Stp
  | [] => ⟨0, 0⟩
  | a :: r => r.foldl max2 a
def chkL : List Stp → Int
  | [] => 0
  | s :: r => if s.checkE ≠ 0 then s.checkE else chkL r
def maxP (l : List Stp) : Stp × Int := if l.length > 64 then (⟨0, 0⟩, 2) else if chkL l ≠ 0 then (⟨0, 0⟩, chkL l) else (maxF (⟨0, 0⟩ :: l), 0)
def nextL (l : List Stp) (who : Int) : Stp × Int := if (maxP l).2 ≠ 0 then (⟨0, 0⟩, (maxP l).2) else if ¬ (0 ≤ who ∧ who ≤ 31) ∨ (maxP l).1.time = 1000000 then (⟨0, 0⟩, 3) else (⟨(maxP l).1.time + 1, who⟩, 0)
theorem Stp.cmp_lt {a b : Stp} : a.cmp b < 0 ↔ a.lt b := by
  unfold Stp.cmp cmpP Stp.lt; (repeat' split) <;> omega
def Copy.raw (c o : Copy) : Copy := if c.at_.lt o.at_ then o else c
theorem max2_ok {a b : Stp} (ha : a.okS) (hb : b.okS) : (max2 a b).okS := by unfold max2; split <;> assumption
theorem foldl_ok : ∀ {l : List Stp} {a : Stp}, a.okS → chkL l = 0 → (l.foldl max2 a).okS
  | [], a, ha, _ => ha
  | s :: r, a, ha, h => by
    unfold chkL at h
    have hs : s.okS := by
      by_cases hh : s.okS
      · exact hh
      · rw [if_pos (by unfold Stp.checkE; rw [if_neg hh]; decide)] at h; unfold Stp.checkE at h; rw [if_neg hh] at h; simp at h
    rw [if_neg (by unfold Stp.checkE; rw [if_pos hs]; decide)] at h
    exact foldl_ok (a := max2 a s) (max2_ok ha hs) h
theorem maxP_ok {l : List Stp} (h : (maxP l).2 = 0) : (maxP l).1.okS := by
  unfold maxP at h ⊢
  by_cases h1 : l.length > 64
  · rw [if_pos h1] at h; simp at h
  · rw [if_neg h1] at h ⊢
    by_cases h2 : chkL l ≠ 0
    · rw [if_pos h2] at h; exact absurd h h2
    · rw [if_neg h2]; exact foldl_ok (by unfold Stp.okS; decide) (by omega)
theorem maxF_init {xs : List Stp} (h : 0 < xs.length) : (xs.drop (Int.toNat 1)).foldl max2 (gd ⟨0, 0⟩ xs (Int.toNat 0)) = maxF xs := by
  cases xs with
  | nil => simp at h
  | cons a r => rfl
def i_76_0 (l : (List Int)) (k : Int) : Prop := 0 ≤ k ∧ k ≤ l.length ∧ l.length ≤ 1000000 ∧ orP (l.drop k.toNat) = orP l
def k_76 : Con Tc Tc.dn := ⟨76, [.ty .lInt], fun x => (fun (l : (List Int)) => l.length ≤ 1000000) x.1, [.cInt], fun x => (fun (l : (List Int)) => orP l) x.1⟩
theorem k_76_v (l : (List Int)) (hp : l.length ≤ 1000000) : i_76_0 l (0 : Int) ∧ ∀ (x : Int), i_76_0 l x → (x < (↑l.length : Int) → ((0 : Int) ≤ x ∧ x < (↑l.length : Int)) ∧ (¬gd (0 : Int) l x.toNat = (0 : Int) → gd (0 : Int) l x.toNat = orP l) ∧ (gd (0 : Int) l x.toNat = (0 : Int) → I64 (x + (1 : Int)) ∧ i_76_0 l (x + (1 : Int)) ∧ ((↑l.length : Int) - (x + (1 : Int))).toNat < ((↑l.length : Int) - x).toNat)) ∧ ((↑l.length : Int) ≤ x → (0 : Int) = orP l) := by
  (repeat' (first | apply And.intro | intro _)) <;> first | assumption | trivial | omega | (grind [orP, drop_gd, drop_end, I64, i_76_0]) | trace_state
theorem k_76_ok : k_76.Ok Tryd.prog tD := con_ok tD_ok (Δ := []) trivial (Ω := []) trivial k_76 F76_ok F76_call (fun _ => []) (fun _ => trivial) 0 (fun x => (fun (l : (List Int)) => (fun k => bif Nat.beq k 0 then some (.inv [.sl 8 .cInt] (fun zv => (fun (k : Int) => i_76_0 l k) zv.1) (fun zv => (fun (k : Int) => ((l.length : Int) - k).toNat) zv.1)) else none)) x.1) fun x hp => Eq.mp (by kernel_rfl) (k_76_v x.1 hp)
def k_53 : Con Tc Tc.dn := ⟨53, [.ty .cStamp, .ty .cStamp], fun x => (fun (a : Stp) (b : Stp) => True) x.1 x.2.1, [.cInt], fun x => (fun (a : Stp) (b : Stp) => a.cmp b) x.1 x.2.1⟩
theorem k_53_v (a : Stp) (b : Stp) : True ∧ True ∧ (2 : Nat) ≤ (1000000 : Nat) ∧ orP [cmpP a.time b.time, cmpP a.who b.who] = a.cmp b := by
  (repeat' (first | apply And.intro | intro _)) <;> first | assumption | trivial | omega | (grind [Stp.cmp, cmpP, orP]) | trace_state
theorem k_53_ok : k_53.Ok Tryd.prog tD := con_ok tD_ok (Δ := [k_77, k_76]) ⟨k_77_ok, k_76_ok, trivial⟩ (Ω := []) trivial k_53 F53_ok F53_call (fun _ => []) (fun _ => trivial) 0 (fun x => (fun (a : Stp) (b : Stp) => (fun _ => none)) x.1 x.2.1) fun x hp => Eq.mp (by kernel_rfl) (k_53_v x.1 x.2.1)
def k_23 : Con Tc Tc.dn := ⟨23, [.ty .cStamp, .ty .cStamp], fun x => (fun (a : Stp) (b : Stp) => True) x.1 x.2.1, [.cBool], fun x => (fun (a : Stp) (b : Stp) => decide (a.lt b)) x.1 x.2.1⟩
theorem k_23_v (a : Stp) (b : Stp) : True ∧ decide (a.cmp b < (0 : Int)) = decide (a.lt b) := by
  (repeat' (first | apply And.intro | intro _)) <;> first | assumption | trivial | omega | (grind [Stp.cmp_lt]) | trace_state
theorem k_23_ok : k_23.Ok Tryd.prog tD := con_ok tD_ok (Δ := [k_53]) ⟨k_53_ok, trivial⟩ (Ω := []) trivial k_23 F23_ok F23_call (fun _ => []) (fun _ => trivial) 0 (fun x => (fun (a : Stp) (b : Stp) => (fun _ => none)) x.1 x.2.1) fun x hp => Eq.mp (by kernel_rfl) (k_23_v x.1 x.2.1)
def i_153_0 (xs : (List Stp)) (i : Int) (m : Stp) : Prop := 1 ≤ i ∧ i ≤ xs.length ∧ xs.length ≤ 1000000 ∧ (xs.drop i.toNat).foldl max2 m = maxF xs
def k_153 : Con Tc Tc.dn := ⟨153, [.ty .lStamp, .fnc 53 []], fun x => (fun (xs : (List Stp)) => 0 < xs.length ∧ xs.length ≤ 1000000) x.1, [.cStamp], fun x => (fun (xs : (List Stp)) => maxF xs) x.1⟩
theorem k_153_v (xs : (List Stp)) (hp : 0 < xs.length ∧ xs.length ≤ 1000000) : ((↑xs.length : Int) < (1 : Int) → False) ∧ ((1 : Int) ≤ (↑xs.length : Int) → ((0 : Int) ≤ (0 : Int) ∧ (0 : Int) < (↑xs.length : Int)) ∧ i_153_0 xs (1 : Int) (gd (Stp.mk (0 : Int) (0 : Int)) xs (Int.toNat (0 : Int))) ∧ ∀ (x : Int) (x_1 : Stp), i_153_0 xs x x_1 → (x < (↑xs.length : Int) → ((0 : Int) ≤ x ∧ x < (↑xs.length : Int)) ∧ True ∧ ((0 : Int) < (gd (Stp.mk (0 : Int) (0 : Int)) xs x.toNat).cmp x_1 → ((0 : Int) ≤ x ∧ x < (↑xs.length : Int)) ∧ I64 (x + (1 : Int)) ∧ i_153_0 xs (x + (1 : Int)) (gd (Stp.mk (0 : Int) (0 : Int)) xs x.toNat) ∧ ((↑xs.length : Int) - (x + (1 : Int))).toNat < ((↑xs.length : Int) - x).toNat) ∧ ((gd (Stp.mk (0 : Int) (0 : Int)) xs x.toNat).cmp x_1 ≤ (0 : Int) → I64 (x + (1 : Int)) ∧ i_153_0 xs (x + (1 : Int)) x_1 ∧ ((↑xs.length : Int) - (x + (1 : Int))).toNat < ((↑xs.length : Int) - x).toNat)) ∧ ((↑xs.length : Int) ≤ x → x_1 = maxF xs)) := by
  have hmi := @maxF_init xs
  (repeat' (first | apply And.intro | intro _)) <;> first | assumption | trivial | omega | (grind [max2, drop_gd, drop_end, I64, i_153_0]) | trace_state
theorem k_153_ok : k_153.Ok Tryd.prog tD := con_ok tD_ok (Δ := [k_53]) ⟨k_53_ok, trivial⟩ (Ω := []) trivial k_153 F153_ok F153_call (fun _ => []) (fun _ => trivial) 0 (fun x => (fun (xs : (List Stp)) => (fun k => bif Nat.beq k 0 then some (.inv [.sl 6 .cInt, .ce 1 .cStamp] (fun zv => (fun (i : Int) (m : Stp) => i_153_0 xs i m) zv.1 zv.2.1) (fun zv => (fun (i : Int) (m : Stp) => ((xs.length : Int) - i).toNat) zv.1 zv.2.1)) else none)) x.1) fun x hp => Eq.mp (by kernel_rfl) (k_153_v x.1 hp)
def i_152_0 (l : (List Stp)) (k : Int) (r : Stp) : Prop := 0 ≤ k ∧ k ≤ l.length ∧ l.length ≤ 64 ∧ chkL (l.drop k.toNat) = chkL l
def k_152 : Con Tc Tc.dn := ⟨152, [.ty .lStamp], fun x => (fun (l : (List Stp)) => l.length ≤ 1000000) x.1, [.cStamp, .cInt], fun x => (fun (l : (List Stp)) => maxP l) x.1⟩
theorem k_152_v (l : (List Stp)) (hp : l.length ≤ 1000000) : ((64 : Int) < (↑l.length : Int) → (Stp.mk (0 : Int) (0 : Int), (2 : Int)) = maxP l) ∧ ((↑l.length : Int) ≤ (64 : Int) → i_152_0 l (0 : Int) (Stp.mk (0 : Int) (0 : Int)) ∧ ∀ (x : Int) (x_1 : Stp), i_152_0 l x x_1 → (x < (↑l.length : Int) → ((0 : Int) ≤ x ∧ x < (↑l.length : Int)) ∧ True ∧ (¬(gd (Stp.mk (0 : Int) (0 : Int)) l x.toNat).checkE = (0 : Int) → (Stp.mk (0 : Int) (0 : Int), (gd (Stp.mk (0 : Int) (0 : Int)) l x.toNat).checkE) = maxP l) ∧ ((gd (Stp.mk (0 : Int) (0 : Int)) l x.toNat).checkE = (0 : Int) → I64 (x + (1 : Int)) ∧ i_152_0 l (x + (1 : Int)) x_1 ∧ ((↑l.length : Int) - (x + (1 : Int))).toNat < ((↑l.length : Int) - x).toNat)) ∧ ((↑l.length : Int) ≤ x → ((1 : Nat) + l.length) * (16 : Nat) ≤ (140737488355328 : Nat) ∧ ((0 : Nat) < ([Stp.mk (0 : Int) (0 : Int)] ++ l).length ∧ ([Stp.mk (0 : Int) (0 : Int)] ++ l).length ≤ (1000000 : Nat)) ∧ (maxF ([Stp.mk (0 : Int) (0 : Int)] ++ l), (0 : Int)) = maxP l)) := by
  (repeat' (first | apply And.intro | intro _)) <;> first | assumption | trivial | omega | (grind [maxP, chkL, drop_gd, drop_end, I64, i_152_0, List.singleton_append, List.length_cons]) | trace_state
theorem k_152_ok : k_152.Ok Tryd.prog tD := con_ok tD_ok (Δ := [k_66, k_153]) ⟨k_66_ok, k_153_ok, trivial⟩ (Ω := []) trivial k_152 F152_ok F152_call (fun _ => []) (fun _ => trivial) 0 (fun x => (fun (l : (List Stp)) => (fun k => bif Nat.beq k 0 then some (.inv [.sl 13 .cInt, .ce 0 .cStamp] (fun zv => (fun (k : Int) (r : Stp) => i_152_0 l k r) zv.1 zv.2.1) (fun zv => (fun (k : Int) (r : Stp) => ((l.length : Int) - k).toNat) zv.1 zv.2.1)) else none)) x.1) fun x hp => Eq.mp (by kernel_rfl) (k_152_v x.1 hp)
def k_151 : Con Tc Tc.dn := ⟨151, [.ty .lStamp, .ty .cInt], fun x => (fun (l : (List Stp)) (who : Int) => l.length ≤ 1000000) x.1 x.2.1, [.cStamp, .cInt], fun x => (fun (l : (List Stp)) (who : Int) => nextL l who) x.1 x.2.1⟩
theorem k_151_v (l : (List Stp)) (who : Int) (hp : l.length ≤ 1000000) : l.length ≤ (1000000 : Nat) ∧ ((maxP l).snd = (0 : Int) → (maxP l).snd = (0 : Int)) ∧ ((maxP l).snd = (0 : Int) → True) ∧ ((maxP l).snd = (0 : Int) → (maxP l).snd = (0 : Int)) ∧ ((maxP l).snd = (0 : Int) → (maxP l).snd = (0 : Int)) ∧ ((maxP l).snd = (0 : Int) ∧ decide ((0 : Int) ≤ who ∧ who ≤ (31 : Int)) = !!true → (maxP l).snd = (0 : Int) ∧ decide ((0 : Int) ≤ who ∧ who ≤ (31 : Int)) = !!true) ∧ ((maxP l).snd = (0 : Int) ∧ decide ((0 : Int) ≤ who ∧ who ≤ (31 : Int)) = !!true → (maxP l).snd = (0 : Int) ∧ decide ((0 : Int) ≤ who ∧ who ≤ (31 : Int)) = !!true) ∧ ((maxP l).snd = (0 : Int) → (maxP l).snd = (0 : Int)) ∧ ((maxP l).snd = (0 : Int) → decide ((0 : Int) ≤ who ∧ who ≤ (31 : Int)) = !false → (maxP l).snd = (0 : Int) ∧ decide ((0 : Int) ≤ who ∧ who ≤ (31 : Int)) = !!true) ∧ ((maxP l).snd = (0 : Int) → (maxP l).snd = (0 : Int)) ∧ ((maxP l).snd = (0 : Int) ∧ (decide ((0 : Int) ≤ who ∧ who ≤ (31 : Int)) = !true ∨ (maxP l).fst.time = (1000000 : Int)) → (Stp.mk (0 : Int) (0 : Int), (3 : Int)) = nextL l who) ∧ (¬(maxP l).snd = (0 : Int) ∨ decide ((0 : Int) ≤ who ∧ who ≤ (31 : Int)) = !false ∧ ¬(maxP l).fst.time = (1000000 : Int) → (¬(maxP l).snd = (0 : Int) → (Stp.mk (0 : Int) (0 : Int), (maxP l).snd) = nextL l who) ∧ ((maxP l).snd = (0 : Int) → I64 ((maxP l).fst.time + (1 : Int)) ∧ (Stp.mk ((maxP l).fst.time + (1 : Int)) who, (0 : Int)) = nextL l who)) := by
  have hmo := @maxP_ok l
  (repeat' (first | apply And.intro | intro _)) <;> first | assumption | trivial | omega | (grind [nextL, I64, Stp.okS]) | trace_state
theorem k_151_ok : k_151.Ok Tryd.prog tD := con_ok tD_ok (Δ := [k_152, k_102]) ⟨k_152_ok, k_102_ok, trivial⟩ (Ω := []) trivial k_151 F151_ok F151_call (fun _ => []) (fun _ => trivial) 0 (fun x => (fun (l : (List Stp)) (who : Int) => (fun _ => none)) x.1 x.2.1) fun x hp => Eq.mp (by kernel_rfl) (k_151_v x.1 x.2.1 hp)
def k_138 : Con Tc Tc.dn := ⟨138, [.ty .cCopy, .ty .cCopy], fun x => (fun (c : Copy) (o : Copy) => True) x.1 x.2.1, [.cCopy], fun x => (fun (c : Copy) (o : Copy) => c.raw o) x.1 x.2.1⟩
theorem k_138_v (c : Copy) (o : Copy) : True ∧ (decide (c.at_.lt o.at_) = true → o = c.raw o) ∧ (decide (c.at_.lt o.at_) = false → c = c.raw o) := by
  (repeat' (first | apply And.intro | intro _)) <;> first | assumption | trivial | omega | (grind [Copy.raw]) | trace_state
theorem k_138_ok : k_138.Ok Tryd.prog tD := con_ok tD_ok (Δ := [k_23]) ⟨k_23_ok, trivial⟩ (Ω := []) trivial k_138 F138_ok F138_call (fun _ => []) (fun _ => trivial) 0 (fun x => (fun (c : Copy) (o : Copy) => (fun _ => none)) x.1 x.2.1) fun x hp => Eq.mp (by kernel_rfl) (k_138_v x.1 x.2.1)
open Go.RowKit
def Ask.checkE (a : Ask) (ws : List Int) (need : Int) : Int :=
  if qcheckP ws need ≠ 0 then qcheckP ws need else if ¬ (0 ≤ a.op ∧ a.op ≤ 30) then 3 else if ¬ (1 ≤ a.kind ∧ a.kind ≤ 2) ∨ ¬ (1 ≤ a.phase ∧ a.phase ≤ 3) then 7 else if a.data.size > 64 then 2 else if a.kind = 1 ∧ a.data.size ≠ 0 then 1 else if a.best.checkE ≠ 0 then a.best.checkE else if (len64 a.heard.n : Int) > ws.length then 3 else 0
theorem ask_ok {a : Ask} {ws : List Int} {need : Int} (h : a.checkE ws need = 0) : qcheckP ws need = 0 ∧ (0 ≤ a.op ∧ a.op ≤ 30) ∧ (1 ≤ a.kind ∧ a.kind ≤ 2) ∧ (1 ≤ a.phase ∧ a.phase ≤ 3) ∧ a.data.size ≤ 64 ∧ (a.kind = 1 → a.data.size = 0) ∧ a.best.checkE = 0 ∧ a.heard.n < 2 ^ ws.length := by
  unfold Ask.checkE at h
  repeat' split at h
  all_goals first
    | (exfalso; simp at h; done)
    | (exfalso; contradiction)
    | skip
  rename_i h1 h2 h3 h4 h5 h6 h7
  refine ⟨by omega, by omega, by omega, by omega, by omega, fun hk => ?_, by omega, Nat.not_le.1 fun hh => h7 ?_⟩
  · by_cases hd : a.data.size = 0
    · exact hd
    · exact absurd ⟨hk, hd⟩ h5
  · have := len64_gt.2 hh; omega
theorem msg_node {m : Msg} (h : m.checkE = 0) : (0 ≤ m.node ∧ m.node < 64) ∧ m.copy.checkE = 0 := by
  unfold Msg.checkE at h
  by_cases h1 : 1 ≤ m.kind ∧ m.kind ≤ 4
  · rw [if_neg (fun hh => hh h1)] at h
    by_cases h2 : 0 ≤ m.op ∧ m.op ≤ 30 ∧ 0 ≤ m.node ∧ m.node ≤ 11
    · rw [if_neg (fun hh => hh h2)] at h
      by_cases h3 : m.copy.checkE = 0
      · exact ⟨by omega, h3⟩
      · rw [if_pos h3] at h; exact absurd h h3
    · rw [if_pos h2] at h; simp at h
  · rw [if_pos h1] at h; simp at h
def toAllM (n : Nat) (m : Msg) : List Msg := (List.range n).map fun (i : Nat) => (⟨m.kind, m.op, (i : Int), m.copy⟩ : Msg)
def Ask.zero : Ask := ⟨0, 0, 0, ⟨#[]⟩, ⟨⟨0, 0⟩, ⟨#[]⟩⟩, uN (Int.toNat 0)⟩
def Ask.new (op kind : Int) (data : ByteArray) : Ask := ⟨op, kind, 1, data, ⟨⟨0, 0⟩, ⟨#[]⟩⟩, uN (Int.toNat 0)⟩
def beginA (v : Vtr) (op kind : Int) (data : ByteArray) : Ask × List Msg × Int :=
  if (Ask.new op kind data).checkE v.weights v.need ≠ 0 then (Ask.zero, [], (Ask.new op kind data).checkE v.weights v.need)
  else (Ask.new op kind data, toAllM v.weights.length ⟨1, op, 0, ⟨⟨0, 0⟩, ⟨#[]⟩⟩⟩, 0)
theorem qc_nodes {ws : List Int} {need : Int} (h : qcheckP ws need = 0) : (nodesP ws).2 = 0 := by
  unfold qcheckP at h
  by_cases hh : (nodesP ws).2 = 0
  · exact hh
  · rw [if_pos hh] at h; exact absurd h hh
theorem qc_len {ws : List Int} {need : Int} (h : qcheckP ws need = 0) : ws.length ≤ 12 := (nodes_bd (qc_nodes h)).2.2.2.1
theorem toAllM_succ (n : Nat) (m : Msg) : toAllM (n + 1) m = toAllM n m ++ [⟨m.kind, m.op, (n : Int), m.copy⟩] := by simp [toAllM, List.range_succ]
theorem toAllM_int {k : Int} (h : 0 ≤ k) (m p : Msg) (hp : p.kind = m.kind ∧ p.op = m.op ∧ p.copy = m.copy) : toAllM (k + 1).toNat m = toAllM k.toNat m ++ [⟨p.kind, p.op, k, p.copy⟩] := by
  obtain ⟨e1, e2, e3⟩ := hp
  rw [show (k + 1).toNat = k.toNat + 1 by omega, toAllM_succ, e1, e2, e3, show ((k.toNat : Nat) : Int) = k by omega]
theorem toAllM_len (n : Nat) (m : Msg) : (toAllM n m).length = n := by simp [toAllM]
theorem ask_len {a : Ask} {ws : List Int} {need : Int} (h : a.checkE ws need = 0) : ws.length ≤ 12 := qc_len (ask_ok h).1
def k_103 : Con Tc Tc.dn := ⟨103, [.ty .cInt, .ty .cInt, .ty .cInt], fun x => (fun (n : Int) (lo : Int) (hi : Int) => True) x.1 x.2.1 x.2.2.1, [.cBool], fun x => (fun (n : Int) (lo : Int) (hi : Int) => decide (lo ≤ n ∧ n ≤ hi)) x.1 x.2.1 x.2.2.1⟩
theorem k_103_v (n : Int) (lo : Int) (hi : Int) : (lo ≤ n → lo ≤ n) ∧ (lo ≤ n → lo ≤ n) ∧ (lo ≤ n → lo ≤ n) ∧ (decide (lo ≤ n) && decide (n ≤ hi)) = decide (lo ≤ n ∧ n ≤ hi) := by
  (repeat' (first | apply And.intro | intro _)) <;> first | assumption | trivial | omega | (grind []) | trace_state
theorem k_103_ok : k_103.Ok Tryd.prog tD := con_ok tD_ok (Δ := []) trivial (Ω := []) trivial k_103 F103_ok F103_call (fun _ => []) (fun _ => trivial) 0 (fun x => (fun (n : Int) (lo : Int) (hi : Int) => (fun _ => none)) x.1 x.2.1 x.2.2.1) fun x hp => Eq.mp (by kernel_rfl) (k_103_v x.1 x.2.1 x.2.2.1)
def k_67 : Con Tc Tc.dn := ⟨67, [.ty .cVoters, .ty .cAsk], fun x => (fun (v : Vtr) (a : Ask) => True) x.1 x.2.1, [.cInt], fun x => (fun (v : Vtr) (a : Ask) => a.checkE v.weights v.need) x.1 x.2.1⟩
theorem k_67_v (v : Vtr) (a : Ask) : True ∧ (¬qcheckP v.weights v.need = (0 : Int) → qcheckP v.weights v.need = a.checkE v.weights v.need) ∧ (qcheckP v.weights v.need = (0 : Int) → True ∧ (decide ((0 : Int) ≤ a.op ∧ a.op ≤ (30 : Int)) = !true → (3 : Int) = a.checkE v.weights v.need) ∧ (decide ((0 : Int) ≤ a.op ∧ a.op ≤ (30 : Int)) = !false → True ∧ (decide ((1 : Int) ≤ a.kind ∧ a.kind ≤ (2 : Int)) = !!true → True) ∧ (decide ((1 : Int) ≤ a.kind ∧ a.kind ≤ (2 : Int)) = !true ∧ decide ((1 : Int) ≤ a.kind ∧ a.kind ≤ (2 : Int)) = !true ∨ decide ((1 : Int) ≤ a.kind ∧ a.kind ≤ (2 : Int)) = !!true ∧ decide ((1 : Int) ≤ a.phase ∧ a.phase ≤ (3 : Int)) = !true → (7 : Int) = a.checkE v.weights v.need) ∧ ((decide ((1 : Int) ≤ a.kind ∧ a.kind ≤ (2 : Int)) = !false ∨ decide ((1 : Int) ≤ a.kind ∧ a.kind ≤ (2 : Int)) = !false) ∧ (decide ((1 : Int) ≤ a.kind ∧ a.kind ≤ (2 : Int)) = !!false ∨ decide ((1 : Int) ≤ a.phase ∧ a.phase ≤ (3 : Int)) = !false) → ((64 : Int) < (↑a.data.size : Int) → (2 : Int) = a.checkE v.weights v.need) ∧ ((↑a.data.size : Int) ≤ (64 : Int) → (a.kind = (1 : Int) → a.kind = (1 : Int)) ∧ (a.kind = (1 : Int) → a.kind = (1 : Int)) ∧ (a.kind = (1 : Int) → a.kind = (1 : Int)) ∧ (a.kind = (1 : Int) ∧ ¬a.data = ByteArray.mk #[] → (1 : Int) = a.checkE v.weights v.need) ∧ (¬a.kind = (1 : Int) ∨ a.data = ByteArray.mk #[] → True ∧ (a.best.checkE = (0 : Int) → a.best.checkE = (0 : Int)) ∧ (a.best.checkE = (0 : Int) → a.best.checkE = (0 : Int)) ∧ (a.best.checkE = (0 : Int) → True) ∧ (a.best.checkE = (0 : Int) → a.best.checkE = (0 : Int)) ∧ (a.best.checkE = (0 : Int) → a.best.checkE = (0 : Int)) ∧ (a.best.checkE = (0 : Int) → a.best.checkE = (0 : Int)) ∧ (a.best.checkE = (0 : Int) → a.best.checkE = (0 : Int)) ∧ (a.best.checkE = (0 : Int) → a.best.checkE = (0 : Int)) ∧ (a.best.checkE = (0 : Int) ∧ (↑v.weights.length : Int) < (↑(len64 a.heard.n) : Int) → (3 : Int) = a.checkE v.weights v.need) ∧ (¬a.best.checkE = (0 : Int) ∨ (↑(len64 a.heard.n) : Int) ≤ (↑v.weights.length : Int) → a.best.checkE = a.checkE v.weights v.need)))))) := by
  (repeat' (first | apply And.intro | intro _)) <;> first | assumption | trivial | omega | (grind [Ask.checkE, ba_size]) | trace_state
theorem k_67_ok : k_67.Ok Tryd.prog tD := con_ok tD_ok (Δ := [k_35, k_103, k_46, k_78]) ⟨k_35_ok, k_103_ok, k_46_ok, k_78_ok, trivial⟩ (Ω := []) trivial k_67 F67_ok F67_call (fun _ => []) (fun _ => trivial) 0 (fun x => (fun (v : Vtr) (a : Ask) => (fun _ => none)) x.1 x.2.1) fun x hp => Eq.mp (by kernel_rfl) (k_67_v x.1 x.2.1)
def i_137_0 (v : Vtr) (m : Msg) (out : (List Msg)) (k : Int) (p : Msg) : Prop := 0 ≤ k ∧ k ≤ v.weights.length ∧ v.weights.length ≤ 1000000 ∧ (p.kind = m.kind ∧ p.op = m.op ∧ p.copy = m.copy) ∧ out = toAllM k.toNat m
def k_137 : Con Tc Tc.dn := ⟨137, [.ty .cVoters, .ty .cMsg], fun x => (fun (v : Vtr) (m : Msg) => v.weights.length ≤ 1000000) x.1 x.2.1, [.lMsg], fun x => (fun (v : Vtr) (m : Msg) => toAllM v.weights.length m) x.1 x.2.1⟩
theorem k_137_v (v : Vtr) (m : Msg) (hp : v.weights.length ≤ 1000000) : i_137_0 v m [] (0 : Int) m ∧ ∀ (x : List Msg) (x_1 : Int) (x_2 : Msg), i_137_0 v m x x_1 x_2 → (x_1 < (↑v.weights.length : Int) → (x.length + (1 : Nat)) * (56 : Nat) ≤ (140737488355328 : Nat) ∧ I64 (x_1 + (1 : Int)) ∧ i_137_0 v m (x ++ [Msg.mk x_2.kind x_2.op x_1 x_2.copy]) (x_1 + (1 : Int)) (Msg.mk x_2.kind x_2.op x_1 x_2.copy) ∧ ((↑v.weights.length : Int) - (x_1 + (1 : Int))).toNat < ((↑v.weights.length : Int) - x_1).toNat) ∧ ((↑v.weights.length : Int) ≤ x_1 → x = toAllM v.weights.length m) := by
  (repeat' (first | apply And.intro | intro _)) <;> first | assumption | trivial | omega | (grind [i_137_0, toAllM_int, I64, toAllM_len, toAllM]) | trace_state
theorem k_137_ok : k_137.Ok Tryd.prog tD := con_ok tD_ok (Δ := []) trivial (Ω := []) trivial k_137 F137_ok F137_call (fun _ => []) (fun _ => trivial) 0 (fun x => (fun (v : Vtr) (m : Msg) => (fun k => bif Nat.beq k 0 then some (.inv [.ow 5 .cMsg, .sl 10 .cInt, .ce 1 .cMsg] (fun zv => (fun (out : (List Msg)) (k : Int) (p : Msg) => i_137_0 v m out k p) zv.1 zv.2.1 zv.2.2.1) (fun zv => (fun (out : (List Msg)) (k : Int) (p : Msg) => ((v.weights.length : Int) - k).toNat) zv.1 zv.2.1 zv.2.2.1)) else none)) x.1 x.2.1) fun x hp => Eq.mp (by kernel_rfl) (k_137_v x.1 x.2.1 hp)
def k_119 : Con Tc Tc.dn := ⟨119, [.ty .cVoters, .ty .cInt, .ty .cInt, .ty .cStr], fun x => (fun (v : Vtr) (op : Int) (kind : Int) (data : ByteArray) => True) x.1 x.2.1 x.2.2.1 x.2.2.2.1, [.cAsk, .lMsg, .cInt], fun x => (fun (v : Vtr) (op : Int) (kind : Int) (data : ByteArray) => beginA v op kind data) x.1 x.2.1 x.2.2.1 x.2.2.2.1⟩
theorem k_119_v (v : Vtr) (op : Int) (kind : Int) (data : ByteArray) : True ∧ (¬(Ask.mk op kind (1 : Int) data (Copy.mk (Stp.mk (0 : Int) (0 : Int)) (ByteArray.mk #[])) (uN (Int.toNat (0 : Int)))).checkE v.weights v.need = (0 : Int) → (Ask.mk (0 : Int) (0 : Int) (0 : Int) (ByteArray.mk #[]) (Copy.mk (Stp.mk (0 : Int) (0 : Int)) (ByteArray.mk #[])) (uN (Int.toNat (0 : Int))), [], (Ask.mk op kind (1 : Int) data (Copy.mk (Stp.mk (0 : Int) (0 : Int)) (ByteArray.mk #[])) (uN (Int.toNat (0 : Int)))).checkE v.weights v.need) = beginA v op kind data) ∧ ((Ask.mk op kind (1 : Int) data (Copy.mk (Stp.mk (0 : Int) (0 : Int)) (ByteArray.mk #[])) (uN (Int.toNat (0 : Int)))).checkE v.weights v.need = (0 : Int) → v.weights.length ≤ (1000000 : Nat) ∧ (Ask.mk op kind (1 : Int) data (Copy.mk (Stp.mk (0 : Int) (0 : Int)) (ByteArray.mk #[])) (uN (Int.toNat (0 : Int))), toAllM v.weights.length (Msg.mk (1 : Int) op (0 : Int) (Copy.mk (Stp.mk (0 : Int) (0 : Int)) (ByteArray.mk #[]))), (0 : Int)) = beginA v op kind data) := by
  (repeat' (first | apply And.intro | intro _)) <;> first | assumption | trivial | omega | (grind [beginA, Ask.zero, Ask.new, ask_len]) | trace_state
theorem k_119_ok : k_119.Ok Tryd.prog tD := con_ok tD_ok (Δ := [k_67, k_137]) ⟨k_67_ok, k_137_ok, trivial⟩ (Ω := []) trivial k_119 F119_ok F119_call (fun _ => []) (fun _ => trivial) 0 (fun x => (fun (v : Vtr) (op : Int) (kind : Int) (data : ByteArray) => (fun _ => none)) x.1 x.2.1 x.2.2.1 x.2.2.2.1) fun x hp => Eq.mp (by kernel_rfl) (k_119_v x.1 x.2.1 x.2.2.1 x.2.2.2.1)
open Go.RowKit
def bitU (k : Int) : U64 := uN ((uN (Int.toNat 1)).n * 2 ^ min k.toNat 64)
def wantsA (p : Int) : Int := if p = 1 then 2 else if p = 2 then 4 else 0
def heardA (a : Ask) (m : Msg) : Ask := ⟨a.op, a.kind, a.phase, a.data, if a.phase = 1 then a.best.raw m.copy else a.best, opU .or a.heard (bitU m.node)⟩
def hearT (v : Vtr) (a : Ask) (m : Msg) : Ask × List Msg :=
  if m.op ≠ a.op ∨ m.kind ≠ wantsA a.phase ∨ m.node ≥ v.weights.length ∨ ¬ ((opU .and a.heard (bitU m.node)).n : Int) = 0 then (a, [])
  else if ¬ (enoughP v.weights v.need (heardA a m).heard.n).1 = true then (heardA a m, [])
  else if a.phase = 2 then (⟨a.op, a.kind, 3, a.data, (heardA a m).best, (heardA a m).heard⟩, [])
  else if a.kind = 1 then (⟨a.op, a.kind, 2, a.data, (heardA a m).best, uN (Int.toNat 0)⟩, toAllM v.weights.length ⟨3, a.op, 0, (heardA a m).best⟩)
  else if (nextL [(heardA a m).best.at_] a.op).2 = 0 then (⟨a.op, a.kind, 2, a.data, ⟨(nextL [(heardA a m).best.at_] a.op).1, a.data⟩, uN (Int.toNat 0)⟩, toAllM v.weights.length ⟨3, a.op, 0, ⟨(nextL [(heardA a m).best.at_] a.op).1, a.data⟩⟩)
  else (a, [])
def hearA (v : Vtr) (a : Ask) (m : Msg) : Ask × List Msg × Int :=
  if a.checkE v.weights v.need ≠ 0 then (Ask.zero, [], a.checkE v.weights v.need) else if m.checkE ≠ 0 then (Ask.zero, [], m.checkE)
  else ((hearT v a m).1, (hearT v a m).2, 0)
def serveA (c : Copy) (m : Msg) : Copy × List Msg × Int :=
  if c.checkE ≠ 0 then (⟨⟨0, 0⟩, ⟨#[]⟩⟩, [], c.checkE) else if m.checkE ≠ 0 then (⟨⟨0, 0⟩, ⟨#[]⟩⟩, [], m.checkE)
  else if m.kind = 1 then (c, [⟨2, m.op, m.node, c⟩], 0) else if m.kind = 3 then (c.raw m.copy, [⟨4, m.op, m.node, ⟨⟨0, 0⟩, ⟨#[]⟩⟩⟩], 0) else (c, [], 0)
theorem msg_in {m : Msg} (h : m.checkE = 0) : 0 ≤ m.op ∧ m.op ≤ 30 ∧ 0 ≤ m.node ∧ m.node ≤ 11 ∧ 1 ≤ m.kind ∧ m.kind ≤ 4 := by
  unfold Msg.checkE at h
  by_cases h1 : 1 ≤ m.kind ∧ m.kind ≤ 4
  · rw [if_neg (fun hh => hh h1)] at h
    by_cases h2 : 0 ≤ m.op ∧ m.op ≤ 30 ∧ 0 ≤ m.node ∧ m.node ≤ 11
    · omega
    · rw [if_pos h2] at h; simp at h
  · rw [if_pos h1] at h; simp at h
def k_120 : Con Tc Tc.dn := ⟨120, [.ty .cCopy, .ty .cMsg], fun x => (fun (c : Copy) (m : Msg) => True) x.1 x.2.1, [.cCopy, .lMsg, .cInt], fun x => (fun (c : Copy) (m : Msg) => serveA c m) x.1 x.2.1⟩
theorem k_120_v (c : Copy) (m : Msg) : True ∧ (c.checkE = (0 : Int) → True ∧ (¬m.checkE = (0 : Int) → (Copy.mk (Stp.mk (0 : Int) (0 : Int)) (ByteArray.mk #[]), [], m.checkE) = serveA c m) ∧ (m.checkE = (0 : Int) → (m.kind = (1 : Int) → (c, [Msg.mk (2 : Int) m.op m.node c], (0 : Int)) = serveA c m) ∧ (¬m.kind = (1 : Int) → (m.kind = (3 : Int) → True ∧ (c.raw m.copy, [Msg.mk (4 : Int) m.op m.node (Copy.mk (Stp.mk (0 : Int) (0 : Int)) (ByteArray.mk #[]))], (0 : Int)) = serveA c m) ∧ (¬m.kind = (3 : Int) → (c, [], (0 : Int)) = serveA c m)))) ∧ (¬c.checkE = (0 : Int) → (¬c.checkE = (0 : Int) → (Copy.mk (Stp.mk (0 : Int) (0 : Int)) (ByteArray.mk #[]), [], c.checkE) = serveA c m) ∧ (c.checkE = (0 : Int) → (m.kind = (1 : Int) → (c, [Msg.mk (2 : Int) m.op m.node c], (0 : Int)) = serveA c m) ∧ (¬m.kind = (1 : Int) → (m.kind = (3 : Int) → True ∧ (c.raw m.copy, [Msg.mk (4 : Int) m.op m.node (Copy.mk (Stp.mk (0 : Int) (0 : Int)) (ByteArray.mk #[]))], (0 : Int)) = serveA c m) ∧ (¬m.kind = (3 : Int) → (c, [], (0 : Int)) = serveA c m)))) := by
  (repeat' (first | apply And.intro | intro _)) <;> first | assumption | trivial | omega | (grind [serveA]) | trace_state
theorem k_120_ok : k_120.Ok Tryd.prog tD := con_ok tD_ok (Δ := [k_46, k_69, k_138]) ⟨k_46_ok, k_69_ok, k_138_ok, trivial⟩ (Ω := []) trivial k_120 F120_ok F120_call (fun _ => []) (fun _ => trivial) 0 (fun x => (fun (c : Copy) (m : Msg) => (fun _ => none)) x.1 x.2.1) fun x hp => Eq.mp (by kernel_rfl) (k_120_v x.1 x.2.1)
def k_121 : Con Tc Tc.dn := ⟨121, [.ty .cVoters, .ty .cAsk, .ty .cMsg], fun x => (fun (v : Vtr) (a : Ask) (m : Msg) => True) x.1 x.2.1 x.2.2.1, [.cAsk, .lMsg, .cInt], fun x => (fun (v : Vtr) (a : Ask) (m : Msg) => hearA v a m) x.1 x.2.1 x.2.2.1⟩
theorem k_121_v (v : Vtr) (a : Ask) (m : Msg) : True ∧ (a.checkE v.weights v.need = (0 : Int) → True ∧ (¬m.checkE = (0 : Int) → (Ask.mk (0 : Int) (0 : Int) (0 : Int) (ByteArray.mk #[]) (Copy.mk (Stp.mk (0 : Int) (0 : Int)) (ByteArray.mk #[])) (uN (Int.toNat (0 : Int))), [], m.checkE) = hearA v a m) ∧ (m.checkE = (0 : Int) → (0 : Int) ≤ m.node ∧ (m.op = a.op → m.op = a.op) ∧ (m.op = a.op → m.op = a.op) ∧ (m.op = a.op → m.op = a.op) ∧ (m.op = a.op → m.op = a.op) ∧ (m.op = a.op → m.op = a.op) ∧ (m.op = a.op → m.op = a.op) ∧ (m.op = a.op → m.op = a.op) ∧ (m.op = a.op → m.op = a.op) ∧ (m.op = a.op → m.op = a.op) ∧ (m.op = a.op → m.op = a.op) ∧ ((m.op = a.op ∧ m.kind = if a.phase = (1 : Int) then (2 : Int) else if a.phase = (2 : Int) then (4 : Int) else (0 : Int)) → m.op = a.op ∧ m.kind = if a.phase = (1 : Int) then (2 : Int) else if a.phase = (2 : Int) then (4 : Int) else (0 : Int)) ∧ ((m.op = a.op ∧ m.kind = if a.phase = (1 : Int) then (2 : Int) else if a.phase = (2 : Int) then (4 : Int) else (0 : Int)) → m.op = a.op ∧ m.kind = if a.phase = (1 : Int) then (2 : Int) else if a.phase = (2 : Int) then (4 : Int) else (0 : Int)) ∧ ((m.op = a.op ∧ m.kind = if a.phase = (1 : Int) then (2 : Int) else if a.phase = (2 : Int) then (4 : Int) else (0 : Int)) → m.op = a.op ∧ m.kind = if a.phase = (1 : Int) then (2 : Int) else if a.phase = (2 : Int) then (4 : Int) else (0 : Int)) ∧ ((m.op = a.op ∧ m.kind = if a.phase = (1 : Int) then (2 : Int) else if a.phase = (2 : Int) then (4 : Int) else (0 : Int)) → m.op = a.op ∧ m.kind = if a.phase = (1 : Int) then (2 : Int) else if a.phase = (2 : Int) then (4 : Int) else (0 : Int)) ∧ ((m.op = a.op ∧ m.kind = if a.phase = (1 : Int) then (2 : Int) else if a.phase = (2 : Int) then (4 : Int) else (0 : Int)) → m.op = a.op ∧ m.kind = if a.phase = (1 : Int) then (2 : Int) else if a.phase = (2 : Int) then (4 : Int) else (0 : Int)) ∧ ((m.op = a.op ∧ m.kind = if a.phase = (1 : Int) then (2 : Int) else if a.phase = (2 : Int) then (4 : Int) else (0 : Int)) → m.op = a.op ∧ m.kind = if a.phase = (1 : Int) then (2 : Int) else if a.phase = (2 : Int) then (4 : Int) else (0 : Int)) ∧ ((m.op = a.op ∧ m.kind = if a.phase = (1 : Int) then (2 : Int) else if a.phase = (2 : Int) then (4 : Int) else (0 : Int)) → m.op = a.op ∧ m.kind = if a.phase = (1 : Int) then (2 : Int) else if a.phase = (2 : Int) then (4 : Int) else (0 : Int)) ∧ ((m.op = a.op ∧ m.kind = if a.phase = (1 : Int) then (2 : Int) else if a.phase = (2 : Int) then (4 : Int) else (0 : Int)) → m.op = a.op ∧ m.kind = if a.phase = (1 : Int) then (2 : Int) else if a.phase = (2 : Int) then (4 : Int) else (0 : Int)) ∧ ((m.op = a.op ∧ m.kind = if a.phase = (1 : Int) then (2 : Int) else if a.phase = (2 : Int) then (4 : Int) else (0 : Int)) → m.op = a.op ∧ m.kind = if a.phase = (1 : Int) then (2 : Int) else if a.phase = (2 : Int) then (4 : Int) else (0 : Int)) ∧ ((m.op = a.op ∧ m.kind = if a.phase = (1 : Int) then (2 : Int) else if a.phase = (2 : Int) then (4 : Int) else (0 : Int)) ∧ m.node < (↑v.weights.length : Int) → (m.op = a.op ∧ m.kind = if a.phase = (1 : Int) then (2 : Int) else if a.phase = (2 : Int) then (4 : Int) else (0 : Int)) ∧ m.node < (↑v.weights.length : Int)) ∧ ((m.op = a.op ∧ m.kind = if a.phase = (1 : Int) then (2 : Int) else if a.phase = (2 : Int) then (4 : Int) else (0 : Int)) ∧ m.node < (↑v.weights.length : Int) → (m.op = a.op ∧ m.kind = if a.phase = (1 : Int) then (2 : Int) else if a.phase = (2 : Int) then (4 : Int) else (0 : Int)) ∧ m.node < (↑v.weights.length : Int)) ∧ ((m.op = a.op ∧ m.kind = if a.phase = (1 : Int) then (2 : Int) else if a.phase = (2 : Int) then (4 : Int) else (0 : Int)) ∧ m.node < (↑v.weights.length : Int) → (m.op = a.op ∧ m.kind = if a.phase = (1 : Int) then (2 : Int) else if a.phase = (2 : Int) then (4 : Int) else (0 : Int)) ∧ m.node < (↑v.weights.length : Int)) ∧ ((m.op = a.op ∧ m.kind = if a.phase = (1 : Int) then (2 : Int) else if a.phase = (2 : Int) then (4 : Int) else (0 : Int)) ∧ m.node < (↑v.weights.length : Int) → (m.op = a.op ∧ m.kind = if a.phase = (1 : Int) then (2 : Int) else if a.phase = (2 : Int) then (4 : Int) else (0 : Int)) ∧ m.node < (↑v.weights.length : Int)) ∧ ((m.op = a.op ∧ m.kind = if a.phase = (1 : Int) then (2 : Int) else if a.phase = (2 : Int) then (4 : Int) else (0 : Int)) ∧ m.node < (↑v.weights.length : Int) → (m.op = a.op ∧ m.kind = if a.phase = (1 : Int) then (2 : Int) else if a.phase = (2 : Int) then (4 : Int) else (0 : Int)) ∧ m.node < (↑v.weights.length : Int)) ∧ ((m.op = a.op ∧ m.kind = if a.phase = (1 : Int) then (2 : Int) else if a.phase = (2 : Int) then (4 : Int) else (0 : Int)) ∧ m.node < (↑v.weights.length : Int) → (m.op = a.op ∧ m.kind = if a.phase = (1 : Int) then (2 : Int) else if a.phase = (2 : Int) then (4 : Int) else (0 : Int)) ∧ m.node < (↑v.weights.length : Int)) ∧ ((m.op = a.op ∧ m.kind = if a.phase = (1 : Int) then (2 : Int) else if a.phase = (2 : Int) then (4 : Int) else (0 : Int)) ∧ m.node < (↑v.weights.length : Int) → (m.op = a.op ∧ m.kind = if a.phase = (1 : Int) then (2 : Int) else if a.phase = (2 : Int) then (4 : Int) else (0 : Int)) ∧ m.node < (↑v.weights.length : Int)) ∧ ((m.op = a.op ∧ m.kind = if a.phase = (1 : Int) then (2 : Int) else if a.phase = (2 : Int) then (4 : Int) else (0 : Int)) ∧ m.node < (↑v.weights.length : Int) → (m.op = a.op ∧ m.kind = if a.phase = (1 : Int) then (2 : Int) else if a.phase = (2 : Int) then (4 : Int) else (0 : Int)) ∧ m.node < (↑v.weights.length : Int)) ∧ (((¬m.op = a.op ∨ ¬m.kind = if a.phase = (1 : Int) then (2 : Int) else if a.phase = (2 : Int) then (4 : Int) else (0 : Int)) ∨ (↑v.weights.length : Int) ≤ m.node) ∨ ¬(↑(opU BinOp.and a.heard (uN ((uN (Int.toNat (1 : Int))).n * (2 : Nat) ^ min m.node.toNat (64 : Nat)))).n : Int) = (↑(uN (Int.toNat (0 : Int))).n : Int) → (a, [], (0 : Int)) = hearA v a m) ∧ (((m.op = a.op ∧ m.kind = if a.phase = (1 : Int) then (2 : Int) else if a.phase = (2 : Int) then (4 : Int) else (0 : Int)) ∧ m.node < (↑v.weights.length : Int)) ∧ (↑(opU BinOp.and a.heard (uN ((uN (Int.toNat (1 : Int))).n * (2 : Nat) ^ min m.node.toNat (64 : Nat)))).n : Int) = (↑(uN (Int.toNat (0 : Int))).n : Int) → (a.phase = (1 : Int) → True ∧ True ∧ ((enoughP v.weights v.need ((a.heard.n ||| (uN ((uN (Int.toNat (1 : Int))).n * (2 : Nat) ^ min m.node.toNat (64 : Nat))).n) % (18446744073709551616 : Nat))).fst = !true → (Ask.mk a.op a.kind a.phase a.data (a.best.raw m.copy) (opU BinOp.or a.heard (uN ((uN (Int.toNat (1 : Int))).n * (2 : Nat) ^ min m.node.toNat (64 : Nat)))), [], (0 : Int)) = hearA v a m) ∧ ((enoughP v.weights v.need ((a.heard.n ||| (uN ((uN (Int.toNat (1 : Int))).n * (2 : Nat) ^ min m.node.toNat (64 : Nat))).n) % (18446744073709551616 : Nat))).fst = !false → (a.phase = (2 : Int) → (Ask.mk a.op a.kind (3 : Int) a.data (a.best.raw m.copy) (opU BinOp.or a.heard (uN ((uN (Int.toNat (1 : Int))).n * (2 : Nat) ^ min m.node.toNat (64 : Nat)))), [], (0 : Int)) = hearA v a m) ∧ (¬a.phase = (2 : Int) → (a.kind = (1 : Int) → v.weights.length ≤ (1000000 : Nat) ∧ (Ask.mk a.op a.kind (2 : Int) a.data (a.best.raw m.copy) (uN (Int.toNat (0 : Int))), toAllM v.weights.length (Msg.mk (3 : Int) a.op (0 : Int) (a.best.raw m.copy)), (0 : Int)) = hearA v a m) ∧ (¬a.kind = (1 : Int) → (1 : Nat) ≤ (1000000 : Nat) ∧ (¬(nextL [(a.best.raw m.copy).at_] a.op).snd = (0 : Int) → (a, [], (0 : Int)) = hearA v a m) ∧ ((nextL [(a.best.raw m.copy).at_] a.op).snd = (0 : Int) → v.weights.length ≤ (1000000 : Nat) ∧ (Ask.mk a.op a.kind (2 : Int) a.data (Copy.mk (nextL [(a.best.raw m.copy).at_] a.op).fst a.data) (uN (Int.toNat (0 : Int))), toAllM v.weights.length (Msg.mk (3 : Int) a.op (0 : Int) (Copy.mk (nextL [(a.best.raw m.copy).at_] a.op).fst a.data)), (0 : Int)) = hearA v a m))))) ∧ (¬a.phase = (1 : Int) → True ∧ ((enoughP v.weights v.need ((a.heard.n ||| (uN ((uN (Int.toNat (1 : Int))).n * (2 : Nat) ^ min m.node.toNat (64 : Nat))).n) % (18446744073709551616 : Nat))).fst = !true → (Ask.mk a.op a.kind a.phase a.data a.best (opU BinOp.or a.heard (uN ((uN (Int.toNat (1 : Int))).n * (2 : Nat) ^ min m.node.toNat (64 : Nat)))), [], (0 : Int)) = hearA v a m) ∧ ((enoughP v.weights v.need ((a.heard.n ||| (uN ((uN (Int.toNat (1 : Int))).n * (2 : Nat) ^ min m.node.toNat (64 : Nat))).n) % (18446744073709551616 : Nat))).fst = !false → (a.phase = (2 : Int) → (Ask.mk a.op a.kind (3 : Int) a.data a.best (opU BinOp.or a.heard (uN ((uN (Int.toNat (1 : Int))).n * (2 : Nat) ^ min m.node.toNat (64 : Nat)))), [], (0 : Int)) = hearA v a m) ∧ (¬a.phase = (2 : Int) → (a.kind = (1 : Int) → v.weights.length ≤ (1000000 : Nat) ∧ (Ask.mk a.op a.kind (2 : Int) a.data a.best (uN (Int.toNat (0 : Int))), toAllM v.weights.length (Msg.mk (3 : Int) a.op (0 : Int) a.best), (0 : Int)) = hearA v a m) ∧ (¬a.kind = (1 : Int) → (1 : Nat) ≤ (1000000 : Nat) ∧ (¬(nextL [a.best.at_] a.op).snd = (0 : Int) → (a, [], (0 : Int)) = hearA v a m) ∧ ((nextL [a.best.at_] a.op).snd = (0 : Int) → v.weights.length ≤ (1000000 : Nat) ∧ (Ask.mk a.op a.kind (2 : Int) a.data (Copy.mk (nextL [a.best.at_] a.op).fst a.data) (uN (Int.toNat (0 : Int))), toAllM v.weights.length (Msg.mk (3 : Int) a.op (0 : Int) (Copy.mk (nextL [a.best.at_] a.op).fst a.data)), (0 : Int)) = hearA v a m)))))))) ∧ (¬a.checkE v.weights v.need = (0 : Int) → (¬a.checkE v.weights v.need = (0 : Int) → (Ask.mk (0 : Int) (0 : Int) (0 : Int) (ByteArray.mk #[]) (Copy.mk (Stp.mk (0 : Int) (0 : Int)) (ByteArray.mk #[])) (uN (Int.toNat (0 : Int))), [], a.checkE v.weights v.need) = hearA v a m) ∧ (a.checkE v.weights v.need = (0 : Int) → (0 : Int) ≤ m.node ∧ (m.op = a.op → m.op = a.op) ∧ (m.op = a.op → m.op = a.op) ∧ (m.op = a.op → m.op = a.op) ∧ (m.op = a.op → m.op = a.op) ∧ (m.op = a.op → m.op = a.op) ∧ (m.op = a.op → m.op = a.op) ∧ (m.op = a.op → m.op = a.op) ∧ (m.op = a.op → m.op = a.op) ∧ (m.op = a.op → m.op = a.op) ∧ (m.op = a.op → m.op = a.op) ∧ ((m.op = a.op ∧ m.kind = if a.phase = (1 : Int) then (2 : Int) else if a.phase = (2 : Int) then (4 : Int) else (0 : Int)) → m.op = a.op ∧ m.kind = if a.phase = (1 : Int) then (2 : Int) else if a.phase = (2 : Int) then (4 : Int) else (0 : Int)) ∧ ((m.op = a.op ∧ m.kind = if a.phase = (1 : Int) then (2 : Int) else if a.phase = (2 : Int) then (4 : Int) else (0 : Int)) → m.op = a.op ∧ m.kind = if a.phase = (1 : Int) then (2 : Int) else if a.phase = (2 : Int) then (4 : Int) else (0 : Int)) ∧ ((m.op = a.op ∧ m.kind = if a.phase = (1 : Int) then (2 : Int) else if a.phase = (2 : Int) then (4 : Int) else (0 : Int)) → m.op = a.op ∧ m.kind = if a.phase = (1 : Int) then (2 : Int) else if a.phase = (2 : Int) then (4 : Int) else (0 : Int)) ∧ ((m.op = a.op ∧ m.kind = if a.phase = (1 : Int) then (2 : Int) else if a.phase = (2 : Int) then (4 : Int) else (0 : Int)) → m.op = a.op ∧ m.kind = if a.phase = (1 : Int) then (2 : Int) else if a.phase = (2 : Int) then (4 : Int) else (0 : Int)) ∧ ((m.op = a.op ∧ m.kind = if a.phase = (1 : Int) then (2 : Int) else if a.phase = (2 : Int) then (4 : Int) else (0 : Int)) → m.op = a.op ∧ m.kind = if a.phase = (1 : Int) then (2 : Int) else if a.phase = (2 : Int) then (4 : Int) else (0 : Int)) ∧ ((m.op = a.op ∧ m.kind = if a.phase = (1 : Int) then (2 : Int) else if a.phase = (2 : Int) then (4 : Int) else (0 : Int)) → m.op = a.op ∧ m.kind = if a.phase = (1 : Int) then (2 : Int) else if a.phase = (2 : Int) then (4 : Int) else (0 : Int)) ∧ ((m.op = a.op ∧ m.kind = if a.phase = (1 : Int) then (2 : Int) else if a.phase = (2 : Int) then (4 : Int) else (0 : Int)) → m.op = a.op ∧ m.kind = if a.phase = (1 : Int) then (2 : Int) else if a.phase = (2 : Int) then (4 : Int) else (0 : Int)) ∧ ((m.op = a.op ∧ m.kind = if a.phase = (1 : Int) then (2 : Int) else if a.phase = (2 : Int) then (4 : Int) else (0 : Int)) → m.op = a.op ∧ m.kind = if a.phase = (1 : Int) then (2 : Int) else if a.phase = (2 : Int) then (4 : Int) else (0 : Int)) ∧ ((m.op = a.op ∧ m.kind = if a.phase = (1 : Int) then (2 : Int) else if a.phase = (2 : Int) then (4 : Int) else (0 : Int)) → m.op = a.op ∧ m.kind = if a.phase = (1 : Int) then (2 : Int) else if a.phase = (2 : Int) then (4 : Int) else (0 : Int)) ∧ ((m.op = a.op ∧ m.kind = if a.phase = (1 : Int) then (2 : Int) else if a.phase = (2 : Int) then (4 : Int) else (0 : Int)) ∧ m.node < (↑v.weights.length : Int) → (m.op = a.op ∧ m.kind = if a.phase = (1 : Int) then (2 : Int) else if a.phase = (2 : Int) then (4 : Int) else (0 : Int)) ∧ m.node < (↑v.weights.length : Int)) ∧ ((m.op = a.op ∧ m.kind = if a.phase = (1 : Int) then (2 : Int) else if a.phase = (2 : Int) then (4 : Int) else (0 : Int)) ∧ m.node < (↑v.weights.length : Int) → (m.op = a.op ∧ m.kind = if a.phase = (1 : Int) then (2 : Int) else if a.phase = (2 : Int) then (4 : Int) else (0 : Int)) ∧ m.node < (↑v.weights.length : Int)) ∧ ((m.op = a.op ∧ m.kind = if a.phase = (1 : Int) then (2 : Int) else if a.phase = (2 : Int) then (4 : Int) else (0 : Int)) ∧ m.node < (↑v.weights.length : Int) → (m.op = a.op ∧ m.kind = if a.phase = (1 : Int) then (2 : Int) else if a.phase = (2 : Int) then (4 : Int) else (0 : Int)) ∧ m.node < (↑v.weights.length : Int)) ∧ ((m.op = a.op ∧ m.kind = if a.phase = (1 : Int) then (2 : Int) else if a.phase = (2 : Int) then (4 : Int) else (0 : Int)) ∧ m.node < (↑v.weights.length : Int) → (m.op = a.op ∧ m.kind = if a.phase = (1 : Int) then (2 : Int) else if a.phase = (2 : Int) then (4 : Int) else (0 : Int)) ∧ m.node < (↑v.weights.length : Int)) ∧ ((m.op = a.op ∧ m.kind = if a.phase = (1 : Int) then (2 : Int) else if a.phase = (2 : Int) then (4 : Int) else (0 : Int)) ∧ m.node < (↑v.weights.length : Int) → (m.op = a.op ∧ m.kind = if a.phase = (1 : Int) then (2 : Int) else if a.phase = (2 : Int) then (4 : Int) else (0 : Int)) ∧ m.node < (↑v.weights.length : Int)) ∧ ((m.op = a.op ∧ m.kind = if a.phase = (1 : Int) then (2 : Int) else if a.phase = (2 : Int) then (4 : Int) else (0 : Int)) ∧ m.node < (↑v.weights.length : Int) → (m.op = a.op ∧ m.kind = if a.phase = (1 : Int) then (2 : Int) else if a.phase = (2 : Int) then (4 : Int) else (0 : Int)) ∧ m.node < (↑v.weights.length : Int)) ∧ ((m.op = a.op ∧ m.kind = if a.phase = (1 : Int) then (2 : Int) else if a.phase = (2 : Int) then (4 : Int) else (0 : Int)) ∧ m.node < (↑v.weights.length : Int) → (m.op = a.op ∧ m.kind = if a.phase = (1 : Int) then (2 : Int) else if a.phase = (2 : Int) then (4 : Int) else (0 : Int)) ∧ m.node < (↑v.weights.length : Int)) ∧ ((m.op = a.op ∧ m.kind = if a.phase = (1 : Int) then (2 : Int) else if a.phase = (2 : Int) then (4 : Int) else (0 : Int)) ∧ m.node < (↑v.weights.length : Int) → (m.op = a.op ∧ m.kind = if a.phase = (1 : Int) then (2 : Int) else if a.phase = (2 : Int) then (4 : Int) else (0 : Int)) ∧ m.node < (↑v.weights.length : Int)) ∧ (((¬m.op = a.op ∨ ¬m.kind = if a.phase = (1 : Int) then (2 : Int) else if a.phase = (2 : Int) then (4 : Int) else (0 : Int)) ∨ (↑v.weights.length : Int) ≤ m.node) ∨ ¬(↑(opU BinOp.and a.heard (uN ((uN (Int.toNat (1 : Int))).n * (2 : Nat) ^ min m.node.toNat (64 : Nat)))).n : Int) = (↑(uN (Int.toNat (0 : Int))).n : Int) → (a, [], (0 : Int)) = hearA v a m) ∧ (((m.op = a.op ∧ m.kind = if a.phase = (1 : Int) then (2 : Int) else if a.phase = (2 : Int) then (4 : Int) else (0 : Int)) ∧ m.node < (↑v.weights.length : Int)) ∧ (↑(opU BinOp.and a.heard (uN ((uN (Int.toNat (1 : Int))).n * (2 : Nat) ^ min m.node.toNat (64 : Nat)))).n : Int) = (↑(uN (Int.toNat (0 : Int))).n : Int) → (a.phase = (1 : Int) → True ∧ True ∧ ((enoughP v.weights v.need ((a.heard.n ||| (uN ((uN (Int.toNat (1 : Int))).n * (2 : Nat) ^ min m.node.toNat (64 : Nat))).n) % (18446744073709551616 : Nat))).fst = !true → (Ask.mk a.op a.kind a.phase a.data (a.best.raw m.copy) (opU BinOp.or a.heard (uN ((uN (Int.toNat (1 : Int))).n * (2 : Nat) ^ min m.node.toNat (64 : Nat)))), [], (0 : Int)) = hearA v a m) ∧ ((enoughP v.weights v.need ((a.heard.n ||| (uN ((uN (Int.toNat (1 : Int))).n * (2 : Nat) ^ min m.node.toNat (64 : Nat))).n) % (18446744073709551616 : Nat))).fst = !false → (a.phase = (2 : Int) → (Ask.mk a.op a.kind (3 : Int) a.data (a.best.raw m.copy) (opU BinOp.or a.heard (uN ((uN (Int.toNat (1 : Int))).n * (2 : Nat) ^ min m.node.toNat (64 : Nat)))), [], (0 : Int)) = hearA v a m) ∧ (¬a.phase = (2 : Int) → (a.kind = (1 : Int) → v.weights.length ≤ (1000000 : Nat) ∧ (Ask.mk a.op a.kind (2 : Int) a.data (a.best.raw m.copy) (uN (Int.toNat (0 : Int))), toAllM v.weights.length (Msg.mk (3 : Int) a.op (0 : Int) (a.best.raw m.copy)), (0 : Int)) = hearA v a m) ∧ (¬a.kind = (1 : Int) → (1 : Nat) ≤ (1000000 : Nat) ∧ (¬(nextL [(a.best.raw m.copy).at_] a.op).snd = (0 : Int) → (a, [], (0 : Int)) = hearA v a m) ∧ ((nextL [(a.best.raw m.copy).at_] a.op).snd = (0 : Int) → v.weights.length ≤ (1000000 : Nat) ∧ (Ask.mk a.op a.kind (2 : Int) a.data (Copy.mk (nextL [(a.best.raw m.copy).at_] a.op).fst a.data) (uN (Int.toNat (0 : Int))), toAllM v.weights.length (Msg.mk (3 : Int) a.op (0 : Int) (Copy.mk (nextL [(a.best.raw m.copy).at_] a.op).fst a.data)), (0 : Int)) = hearA v a m))))) ∧ (¬a.phase = (1 : Int) → True ∧ ((enoughP v.weights v.need ((a.heard.n ||| (uN ((uN (Int.toNat (1 : Int))).n * (2 : Nat) ^ min m.node.toNat (64 : Nat))).n) % (18446744073709551616 : Nat))).fst = !true → (Ask.mk a.op a.kind a.phase a.data a.best (opU BinOp.or a.heard (uN ((uN (Int.toNat (1 : Int))).n * (2 : Nat) ^ min m.node.toNat (64 : Nat)))), [], (0 : Int)) = hearA v a m) ∧ ((enoughP v.weights v.need ((a.heard.n ||| (uN ((uN (Int.toNat (1 : Int))).n * (2 : Nat) ^ min m.node.toNat (64 : Nat))).n) % (18446744073709551616 : Nat))).fst = !false → (a.phase = (2 : Int) → (Ask.mk a.op a.kind (3 : Int) a.data a.best (opU BinOp.or a.heard (uN ((uN (Int.toNat (1 : Int))).n * (2 : Nat) ^ min m.node.toNat (64 : Nat)))), [], (0 : Int)) = hearA v a m) ∧ (¬a.phase = (2 : Int) → (a.kind = (1 : Int) → v.weights.length ≤ (1000000 : Nat) ∧ (Ask.mk a.op a.kind (2 : Int) a.data a.best (uN (Int.toNat (0 : Int))), toAllM v.weights.length (Msg.mk (3 : Int) a.op (0 : Int) a.best), (0 : Int)) = hearA v a m) ∧ (¬a.kind = (1 : Int) → (1 : Nat) ≤ (1000000 : Nat) ∧ (¬(nextL [a.best.at_] a.op).snd = (0 : Int) → (a, [], (0 : Int)) = hearA v a m) ∧ ((nextL [a.best.at_] a.op).snd = (0 : Int) → v.weights.length ≤ (1000000 : Nat) ∧ (Ask.mk a.op a.kind (2 : Int) a.data (Copy.mk (nextL [a.best.at_] a.op).fst a.data) (uN (Int.toNat (0 : Int))), toAllM v.weights.length (Msg.mk (3 : Int) a.op (0 : Int) (Copy.mk (nextL [a.best.at_] a.op).fst a.data)), (0 : Int)) = hearA v a m)))))))) := by
  have hmi := @msg_in m
  have hal := @ask_len a v.weights v.need
  have hu0 : (uN (Int.toNat 0)).n = 0 := rfl
  have hb : uN ((uN (Int.toNat 1)).n * 2 ^ min m.node.toNat 64) = bitU m.node := rfl
  have hor : ∀ x y : U64, (x.n ||| y.n) % 18446744073709551616 = (opU .or x y).n := fun _ _ => rfl
  have hw : wantsA a.phase = if a.phase = 1 then 2 else if a.phase = 2 then 4 else 0 := rfl
  simp only [hb, hor, hu0, ← hw]
  clear hb hor hu0 hw
  (repeat' (first | apply And.intro | intro _)) <;> first | assumption | trivial | omega | (grind [Ask.zero]) | (simp only [hearA, hearT, heardA, *]; grind) | (unfold hearA hearT heardA; (repeat' split) <;> first | rfl | (exfalso; grind) | grind | (simp_all; done)) | trace_state
def l_121 : PD Tc.dn k_121.ps → List (IL Tc Tc.dn) := fun x => (fun (v : Vtr) (a : Ask) (m : Msg) => ([⟨139, .fn F139 (fun _ => none)⟩, ⟨149, .fn F149 (fun _ => none)⟩])) x.1 x.2.1 x.2.2.1
theorem l_121_ok : ∀ x, ILs Tryd.prog tD (l_121 x) := fun _ => ⟨⟨F139_ok, F139_call⟩, ⟨F149_ok, F149_call⟩, trivial⟩
theorem k_121_ok : k_121.Ok Tryd.prog tD := con_ok tD_ok (Δ := [k_67, k_69, k_137, k_138, k_24, k_151]) ⟨k_67_ok, k_69_ok, k_137_ok, k_138_ok, k_24_ok, k_151_ok, trivial⟩ (Ω := []) trivial k_121 F121_ok F121_call (l_121) (l_121_ok) 2 (fun x => (fun (v : Vtr) (a : Ask) (m : Msg) => (fun _ => none)) x.1 x.2.1 x.2.2.1) fun x hp => Eq.mp (by kernel_rfl) (k_121_v x.1 x.2.1 x.2.2.1)
open Go.RowKit
def Cluster.zero : Cluster := ⟨⟨[], 0⟩, [], [], [], [], 0⟩
def Copy.zero : Copy := ⟨⟨0, 0⟩, ⟨#[]⟩⟩
def newC (v : Vtr) : Cluster × Int := if qcheckP v.weights v.need ≠ 0 then (Cluster.zero, qcheckP v.weights v.need) else (⟨v, List.replicate v.weights.length Copy.zero, [], [], [], 0⟩, 0)
def asksGo (v : Vtr) (ts : List Term) (k : Int) : List Ask → Int → Int
  | [], _ => 0
  | a :: r, i => if a.op ≠ i then 1 else if a.checkE v.weights v.need ≠ 0 then a.checkE v.weights v.need else if termB (gd ⟨0, 0⟩ ts i.toNat) a k = false then 4 else asksGo v ts k r (i + 1)
def asksE (c : Cluster) : Int := if c.asks.length > 31 then 2 else if c.asks.length ≠ c.terms.length then 1 else asksGo c.voters c.terms c.clock c.asks 0
def netGo (n a : Int) : List Msg → Int
  | [] => 0
  | m :: r => if m.checkE ≠ 0 then m.checkE else if m.node ≥ n ∨ m.op ≥ a then 3 else netGo n a r
def netE (c : Cluster) : Int := if c.net.length > 200 then 2 else netGo c.nodes.length c.asks.length c.net
def copGo : List Copy → Int
  | [] => 0
  | c :: r => if c.checkE ≠ 0 then c.checkE else copGo r
def Cluster.checkE (c : Cluster) : Int :=
  if qcheckP c.voters.weights c.voters.need ≠ 0 then qcheckP c.voters.weights c.voters.need else if c.nodes.length ≠ c.voters.weights.length then 1 else if copGo c.nodes ≠ 0 then copGo c.nodes
  else if asksE c ≠ 0 then asksE c else if netE c ≠ 0 then netE c else if c.clock < 0 ∨ c.clock > 1000000 then 3 else 0
def k_12 : Con Tc Tc.dn := ⟨12, [.ty .cVoters], fun x => (fun (v : Vtr) => True) x.1, [.cCluster, .cInt], fun x => (fun (v : Vtr) => newC v) x.1⟩
theorem k_12_v (v : Vtr) : True ∧ (¬qcheckP v.weights v.need = (0 : Int) → (Cluster.mk (Vtr.mk [] (0 : Int)) [] [] [] [] (0 : Int), qcheckP v.weights v.need) = newC v) ∧ (qcheckP v.weights v.need = (0 : Int) → (↑v.weights.length : Int) * (8 : Int) ≤ (140737488355328 : Int) ∧ ((0 : Int) ≤ (↑v.weights.length : Int) ∧ (↑v.weights.length : Int) ≤ (↑v.weights.length : Int) ∧ (↑v.weights.length : Int) * (↑(32 : Nat) : Int) ≤ (140737488355328 : Int)) ∧ (Cluster.mk v (List.replicate (↑v.weights.length : Int).toNat (Copy.mk (Stp.mk (0 : Int) (0 : Int)) (ByteArray.mk #[]))) [] [] [] (0 : Int), (0 : Int)) = newC v) := by
  (repeat' (first | apply And.intro | intro _)) <;> first | assumption | trivial | omega | (grind [newC, Cluster.zero, Copy.zero, qc_len, Int.toNat_natCast]) | trace_state
theorem k_12_ok : k_12.Ok Tryd.prog tD := con_ok tD_ok (Δ := [k_35, k_36]) ⟨k_35_ok, k_36_ok, trivial⟩ (Ω := []) trivial k_12 F12_ok F12_call (fun _ => []) (fun _ => trivial) 0 (fun x => (fun (v : Vtr) => (fun _ => none)) x.1) fun x hp => Eq.mp (by kernel_rfl) (k_12_v x.1)
def i_47_0 (c : Cluster) (i : Int) : Prop := 0 ≤ i ∧ i ≤ c.asks.length ∧ c.asks.length ≤ 31 ∧ c.asks.length = c.terms.length ∧ asksGo c.voters c.terms c.clock (c.asks.drop i.toNat) i = asksE c
def k_47 : Con Tc Tc.dn := ⟨47, [.ty .cCluster], fun x => (fun (c : Cluster) => True) x.1, [.cInt], fun x => (fun (c : Cluster) => asksE c) x.1⟩
theorem k_47_v (c : Cluster) : ((31 : Int) < (↑c.asks.length : Int) → (2 : Int) = asksE c) ∧ ((↑c.asks.length : Int) ≤ (31 : Int) → (¬(↑c.asks.length : Int) = (↑c.terms.length : Int) → (1 : Int) = asksE c) ∧ ((↑c.asks.length : Int) = (↑c.terms.length : Int) → i_47_0 c (0 : Int) ∧ ∀ (x : Int), i_47_0 c x → (x < (↑c.asks.length : Int) → ((0 : Int) ≤ x ∧ x < (↑c.asks.length : Int)) ∧ (¬(gd (Ask.mk (0 : Int) (0 : Int) (0 : Int) ByteArray.empty (Copy.mk (Stp.mk (0 : Int) (0 : Int)) ByteArray.empty) (U64.mk (0 : Nat) LY.u64._proof_1)) c.asks x.toNat).op = x → (1 : Int) = asksE c) ∧ ((gd (Ask.mk (0 : Int) (0 : Int) (0 : Int) ByteArray.empty (Copy.mk (Stp.mk (0 : Int) (0 : Int)) ByteArray.empty) (U64.mk (0 : Nat) LY.u64._proof_1)) c.asks x.toNat).op = x → True ∧ (¬(gd (Ask.mk (0 : Int) (0 : Int) (0 : Int) ByteArray.empty (Copy.mk (Stp.mk (0 : Int) (0 : Int)) ByteArray.empty) (U64.mk (0 : Nat) LY.u64._proof_1)) c.asks x.toNat).checkE c.voters.weights c.voters.need = (0 : Int) → (gd (Ask.mk (0 : Int) (0 : Int) (0 : Int) ByteArray.empty (Copy.mk (Stp.mk (0 : Int) (0 : Int)) ByteArray.empty) (U64.mk (0 : Nat) LY.u64._proof_1)) c.asks x.toNat).checkE c.voters.weights c.voters.need = asksE c) ∧ ((gd (Ask.mk (0 : Int) (0 : Int) (0 : Int) ByteArray.empty (Copy.mk (Stp.mk (0 : Int) (0 : Int)) ByteArray.empty) (U64.mk (0 : Nat) LY.u64._proof_1)) c.asks x.toNat).checkE c.voters.weights c.voters.need = (0 : Int) → ((0 : Int) ≤ x ∧ x < (↑c.terms.length : Int)) ∧ True ∧ (termB (gd (Term.mk (0 : Int) (0 : Int)) c.terms x.toNat) (gd (Ask.mk (0 : Int) (0 : Int) (0 : Int) ByteArray.empty (Copy.mk (Stp.mk (0 : Int) (0 : Int)) ByteArray.empty) (U64.mk (0 : Nat) LY.u64._proof_1)) c.asks x.toNat) c.clock = !true → (4 : Int) = asksE c) ∧ (termB (gd (Term.mk (0 : Int) (0 : Int)) c.terms x.toNat) (gd (Ask.mk (0 : Int) (0 : Int) (0 : Int) ByteArray.empty (Copy.mk (Stp.mk (0 : Int) (0 : Int)) ByteArray.empty) (U64.mk (0 : Nat) LY.u64._proof_1)) c.asks x.toNat) c.clock = !false → I64 (x + (1 : Int)) ∧ i_47_0 c (x + (1 : Int)) ∧ ((↑c.asks.length : Int) - (x + (1 : Int))).toNat < ((↑c.asks.length : Int) - x).toNat)))) ∧ ((↑c.asks.length : Int) ≤ x → (0 : Int) = asksE c))) := by
  (repeat' (first | apply And.intro | intro _)) <;> first | assumption | trivial | omega | (grind [asksE, asksGo, i_47_0, I64, drop_gd, drop_end]) | trace_state
theorem k_47_ok : k_47.Ok Tryd.prog tD := con_ok tD_ok (Δ := [k_67, k_68]) ⟨k_67_ok, k_68_ok, trivial⟩ (Ω := []) trivial k_47 F47_ok F47_call (fun _ => []) (fun _ => trivial) 0 (fun x => (fun (c : Cluster) => (fun k => bif Nat.beq k 0 then some (.inv [.sl 22 .cInt] (fun zv => (fun (i : Int) => i_47_0 c i) zv.1) (fun zv => (fun (i : Int) => ((c.asks.length : Int) - i).toNat) zv.1)) else none)) x.1) fun x hp => Eq.mp (by kernel_rfl) (k_47_v x.1)
def i_48_0 (c : Cluster) (i : Int) : Prop := 0 ≤ i ∧ i ≤ c.net.length ∧ c.net.length ≤ 200 ∧ netGo c.nodes.length c.asks.length (c.net.drop i.toNat) = netE c
def k_48 : Con Tc Tc.dn := ⟨48, [.ty .cCluster], fun x => (fun (c : Cluster) => True) x.1, [.cInt], fun x => (fun (c : Cluster) => netE c) x.1⟩
theorem k_48_v (c : Cluster) : ((200 : Int) < (↑c.net.length : Int) → (2 : Int) = netE c) ∧ ((↑c.net.length : Int) ≤ (200 : Int) → i_48_0 c (0 : Int) ∧ ∀ (x : Int), i_48_0 c x → (x < (↑c.net.length : Int) → ((0 : Int) ≤ x ∧ x < (↑c.net.length : Int)) ∧ True ∧ (¬(gd (Msg.mk (0 : Int) (0 : Int) (0 : Int) (Copy.mk (Stp.mk (0 : Int) (0 : Int)) ByteArray.empty)) c.net x.toNat).checkE = (0 : Int) → (gd (Msg.mk (0 : Int) (0 : Int) (0 : Int) (Copy.mk (Stp.mk (0 : Int) (0 : Int)) ByteArray.empty)) c.net x.toNat).checkE = netE c) ∧ ((gd (Msg.mk (0 : Int) (0 : Int) (0 : Int) (Copy.mk (Stp.mk (0 : Int) (0 : Int)) ByteArray.empty)) c.net x.toNat).checkE = (0 : Int) → ((gd (Msg.mk (0 : Int) (0 : Int) (0 : Int) (Copy.mk (Stp.mk (0 : Int) (0 : Int)) ByteArray.empty)) c.net x.toNat).node < (↑c.nodes.length : Int) → (gd (Msg.mk (0 : Int) (0 : Int) (0 : Int) (Copy.mk (Stp.mk (0 : Int) (0 : Int)) ByteArray.empty)) c.net x.toNat).node < (↑c.nodes.length : Int)) ∧ ((gd (Msg.mk (0 : Int) (0 : Int) (0 : Int) (Copy.mk (Stp.mk (0 : Int) (0 : Int)) ByteArray.empty)) c.net x.toNat).node < (↑c.nodes.length : Int) → (gd (Msg.mk (0 : Int) (0 : Int) (0 : Int) (Copy.mk (Stp.mk (0 : Int) (0 : Int)) ByteArray.empty)) c.net x.toNat).node < (↑c.nodes.length : Int)) ∧ ((gd (Msg.mk (0 : Int) (0 : Int) (0 : Int) (Copy.mk (Stp.mk (0 : Int) (0 : Int)) ByteArray.empty)) c.net x.toNat).node < (↑c.nodes.length : Int) → (gd (Msg.mk (0 : Int) (0 : Int) (0 : Int) (Copy.mk (Stp.mk (0 : Int) (0 : Int)) ByteArray.empty)) c.net x.toNat).node < (↑c.nodes.length : Int)) ∧ ((gd (Msg.mk (0 : Int) (0 : Int) (0 : Int) (Copy.mk (Stp.mk (0 : Int) (0 : Int)) ByteArray.empty)) c.net x.toNat).node < (↑c.nodes.length : Int) → (gd (Msg.mk (0 : Int) (0 : Int) (0 : Int) (Copy.mk (Stp.mk (0 : Int) (0 : Int)) ByteArray.empty)) c.net x.toNat).node < (↑c.nodes.length : Int)) ∧ ((gd (Msg.mk (0 : Int) (0 : Int) (0 : Int) (Copy.mk (Stp.mk (0 : Int) (0 : Int)) ByteArray.empty)) c.net x.toNat).node < (↑c.nodes.length : Int) → (gd (Msg.mk (0 : Int) (0 : Int) (0 : Int) (Copy.mk (Stp.mk (0 : Int) (0 : Int)) ByteArray.empty)) c.net x.toNat).node < (↑c.nodes.length : Int)) ∧ ((gd (Msg.mk (0 : Int) (0 : Int) (0 : Int) (Copy.mk (Stp.mk (0 : Int) (0 : Int)) ByteArray.empty)) c.net x.toNat).node < (↑c.nodes.length : Int) → (gd (Msg.mk (0 : Int) (0 : Int) (0 : Int) (Copy.mk (Stp.mk (0 : Int) (0 : Int)) ByteArray.empty)) c.net x.toNat).node < (↑c.nodes.length : Int)) ∧ ((↑c.nodes.length : Int) ≤ (gd (Msg.mk (0 : Int) (0 : Int) (0 : Int) (Copy.mk (Stp.mk (0 : Int) (0 : Int)) ByteArray.empty)) c.net x.toNat).node ∨ (↑c.asks.length : Int) ≤ (gd (Msg.mk (0 : Int) (0 : Int) (0 : Int) (Copy.mk (Stp.mk (0 : Int) (0 : Int)) ByteArray.empty)) c.net x.toNat).op → (3 : Int) = netE c) ∧ ((gd (Msg.mk (0 : Int) (0 : Int) (0 : Int) (Copy.mk (Stp.mk (0 : Int) (0 : Int)) ByteArray.empty)) c.net x.toNat).node < (↑c.nodes.length : Int) ∧ (gd (Msg.mk (0 : Int) (0 : Int) (0 : Int) (Copy.mk (Stp.mk (0 : Int) (0 : Int)) ByteArray.empty)) c.net x.toNat).op < (↑c.asks.length : Int) → I64 (x + (1 : Int)) ∧ i_48_0 c (x + (1 : Int)) ∧ ((↑c.net.length : Int) - (x + (1 : Int))).toNat < ((↑c.net.length : Int) - x).toNat))) ∧ ((↑c.net.length : Int) ≤ x → (0 : Int) = netE c)) := by
  (repeat' (first | apply And.intro | intro _)) <;> first | assumption | trivial | omega | (grind [netE, netGo, i_48_0, I64, drop_gd, drop_end]) | trace_state
theorem k_48_ok : k_48.Ok Tryd.prog tD := con_ok tD_ok (Δ := [k_69]) ⟨k_69_ok, trivial⟩ (Ω := []) trivial k_48 F48_ok F48_call (fun _ => []) (fun _ => trivial) 0 (fun x => (fun (c : Cluster) => (fun k => bif Nat.beq k 0 then some (.inv [.sl 13 .cInt] (fun zv => (fun (i : Int) => i_48_0 c i) zv.1) (fun zv => (fun (i : Int) => ((c.net.length : Int) - i).toNat) zv.1)) else none)) x.1) fun x hp => Eq.mp (by kernel_rfl) (k_48_v x.1)
def i_18_0 (c : Cluster) (i : Int) : Prop := 0 ≤ i ∧ i ≤ c.nodes.length ∧ c.nodes.length ≤ 12 ∧ c.nodes.length = c.voters.weights.length ∧ qcheckP c.voters.weights c.voters.need = 0 ∧ copGo (c.nodes.drop i.toNat) = copGo c.nodes
def k_18 : Con Tc Tc.dn := ⟨18, [.ty .cCluster], fun x => (fun (c : Cluster) => True) x.1, [.cInt], fun x => (fun (c : Cluster) => c.checkE) x.1⟩
theorem k_18_v (c : Cluster) : True ∧ (¬qcheckP c.voters.weights c.voters.need = (0 : Int) → qcheckP c.voters.weights c.voters.need = c.checkE) ∧ (qcheckP c.voters.weights c.voters.need = (0 : Int) → (¬(↑c.nodes.length : Int) = (↑c.voters.weights.length : Int) → (1 : Int) = c.checkE) ∧ ((↑c.nodes.length : Int) = (↑c.voters.weights.length : Int) → i_18_0 c (0 : Int) ∧ ∀ (x : Int), i_18_0 c x → (x < (↑c.nodes.length : Int) → ((0 : Int) ≤ x ∧ x < (↑c.nodes.length : Int)) ∧ True ∧ (¬(gd (Copy.mk (Stp.mk (0 : Int) (0 : Int)) ByteArray.empty) c.nodes x.toNat).checkE = (0 : Int) → (gd (Copy.mk (Stp.mk (0 : Int) (0 : Int)) ByteArray.empty) c.nodes x.toNat).checkE = c.checkE) ∧ ((gd (Copy.mk (Stp.mk (0 : Int) (0 : Int)) ByteArray.empty) c.nodes x.toNat).checkE = (0 : Int) → I64 (x + (1 : Int)) ∧ i_18_0 c (x + (1 : Int)) ∧ ((↑c.nodes.length : Int) - (x + (1 : Int))).toNat < ((↑c.nodes.length : Int) - x).toNat)) ∧ ((↑c.nodes.length : Int) ≤ x → True ∧ (¬asksE c = (0 : Int) → asksE c = c.checkE) ∧ (asksE c = (0 : Int) → True ∧ (¬netE c = (0 : Int) → netE c = c.checkE) ∧ (netE c = (0 : Int) → ((0 : Int) ≤ c.clock → (0 : Int) ≤ c.clock) ∧ ((0 : Int) ≤ c.clock → (0 : Int) ≤ c.clock) ∧ ((0 : Int) ≤ c.clock → (0 : Int) ≤ c.clock) ∧ (c.clock < (0 : Int) ∨ (1000000 : Int) < c.clock → (3 : Int) = c.checkE) ∧ ((0 : Int) ≤ c.clock ∧ c.clock ≤ (1000000 : Int) → (0 : Int) = c.checkE)))))) := by
  (repeat' (first | apply And.intro | intro _)) <;> first | assumption | trivial | omega | (grind [Cluster.checkE, copGo, i_18_0, I64, drop_gd, drop_end, qc_len]) | trace_state
theorem k_18_ok : k_18.Ok Tryd.prog tD := con_ok tD_ok (Δ := [k_35, k_46, k_47, k_48]) ⟨k_35_ok, k_46_ok, k_47_ok, k_48_ok, trivial⟩ (Ω := []) trivial k_18 F18_ok F18_call (fun _ => []) (fun _ => trivial) 0 (fun x => (fun (c : Cluster) => (fun k => bif Nat.beq k 0 then some (.inv [.sl 31 .cInt] (fun zv => (fun (i : Int) => i_18_0 c i) zv.1) (fun zv => (fun (i : Int) => ((c.nodes.length : Int) - i).toNat) zv.1)) else bif Nat.beq k 1 then some (.unr 3) else none)) x.1) fun x hp => Eq.mp (by kernel_rfl) (k_18_v x.1)
open Go.RowKit
def sendC (c : Cluster) : Cluster × Int := if c.net.length > 200 then (Cluster.zero, 2) else (c, 0)
def beginC (c : Cluster) (kind : Int) (data : ByteArray) : Cluster × Int :=
  if c.asks.length = 31 then (Cluster.zero, 2) else if (beginA c.voters c.asks.length kind data).2.2 ≠ 0 then (Cluster.zero, (beginA c.voters c.asks.length kind data).2.2)
  else sendC ⟨c.voters, c.nodes, c.asks ++ [(beginA c.voters c.asks.length kind data).1], c.terms ++ [⟨c.clock, 0⟩], c.net ++ (beginA c.voters c.asks.length kind data).2.1, c.clock⟩
abbrev Ask.nil : Ask := ⟨0, 0, 0, ByteArray.empty, ⟨⟨0, 0⟩, ByteArray.empty⟩, ⟨0, LY.u64._proof_1⟩⟩
abbrev Copy.nil : Copy := ⟨⟨0, 0⟩, ByteArray.empty⟩
abbrev Msg.nil : Msg := ⟨0, 0, 0, Copy.nil⟩
def passC (c : Cluster) (m : Msg) : Cluster :=
  if m.kind = 1 ∨ m.kind = 3 then ⟨c.voters, c.nodes.set m.node.toNat (serveA (gd Copy.nil c.nodes m.node.toNat) m).1, c.asks, c.terms, c.net ++ (serveA (gd Copy.nil c.nodes m.node.toNat) m).2.1, c.clock⟩
  else ⟨c.voters, c.nodes, c.asks.set m.op.toNat (hearA c.voters (gd Ask.nil c.asks m.op.toNat) m).1, if (hearA c.voters (gd Ask.nil c.asks m.op.toNat) m).1.phase = 3 ∧ (gd Ask.nil c.asks m.op.toNat).phase ≠ 3 then c.terms.set m.op.toNat ⟨(gd ⟨0, 0⟩ c.terms m.op.toNat).begin, c.clock⟩ else c.terms, c.net ++ (hearA c.voters (gd Ask.nil c.asks m.op.toNat) m).2.1, c.clock⟩
def stepP (c : Cluster) (x : Step) : Cluster × Int :=
  if c.clock = 1000000 then (Cluster.zero, 2) else if x.kind < 1 ∨ x.kind > 5 then (Cluster.zero, 7) else if (x.data ≠ ⟨#[]⟩ ∧ x.kind ≠ 2) ∨ ((x.kind = 1 ∨ x.kind = 2) ∧ x.n ≠ 0) then (Cluster.zero, 1)
  else if x.kind = 1 then beginC ⟨c.voters, c.nodes, c.asks, c.terms, c.net, c.clock + 1⟩ 1 ⟨#[]⟩ else if x.kind = 2 then beginC ⟨c.voters, c.nodes, c.asks, c.terms, c.net, c.clock + 1⟩ 2 x.data
  else if x.n < 0 ∨ x.n ≥ c.net.length then (Cluster.zero, 3)
  else if x.kind = 5 then sendC ⟨c.voters, c.nodes, c.asks, c.terms, c.net ++ [gd Msg.nil c.net x.n.toNat], c.clock + 1⟩
  else if x.kind = 4 then (⟨c.voters, c.nodes, c.asks, c.terms, c.net.eraseIdx x.n.toNat, c.clock + 1⟩, 0)
  else sendC (passC ⟨c.voters, c.nodes, c.asks, c.terms, c.net.eraseIdx x.n.toNat, c.clock + 1⟩ (gd Msg.nil c.net x.n.toNat))
theorem netGo_ok {n a : Int} : ∀ {l : List Msg}, netGo n a l = 0 → ∀ m, m ∈ l → m.checkE = 0 ∧ m.node < n ∧ m.op < a
  | [], _, m, hm => by simp at hm
  | q :: r, h, m, hm => by
    unfold netGo at h
    split at h
    · rename_i h1; exact absurd h h1
    · split at h
      · simp at h
      · rcases List.mem_cons.1 hm with rfl | hm
        · omega
        · exact netGo_ok h m hm
theorem check_ok {c : Cluster} (h : c.checkE = 0) : qcheckP c.voters.weights c.voters.need = 0 ∧ c.nodes.length = c.voters.weights.length ∧ copGo c.nodes = 0 ∧ asksE c = 0 ∧ netE c = 0 ∧ 0 ≤ c.clock ∧ c.clock ≤ 1000000 := by
  unfold Cluster.checkE at h
  repeat' split at h
  all_goals first | omega | (exfalso; contradiction) | (exfalso; simp at h; done)
theorem check_len {c : Cluster} (h : c.checkE = 0) : c.asks.length ≤ 31 ∧ c.asks.length = c.terms.length ∧ c.net.length ≤ 200 ∧ c.nodes.length ≤ 12 ∧ c.voters.weights.length ≤ 12 := by
  obtain ⟨h1, h2, h3, h4, h5, h6⟩ := check_ok h
  have := qc_len h1
  unfold asksE at h4
  unfold netE at h5
  repeat' split at h4
  all_goals repeat' split at h5
  all_goals first | omega | (exfalso; simp at h4; done) | (exfalso; simp at h5; done)
theorem check_net {c : Cluster} (h : c.checkE = 0) {m : Msg} (hm : m ∈ c.net) : m.checkE = 0 ∧ m.node < c.nodes.length ∧ m.op < c.asks.length := by
  have h5 := (check_ok h).2.2.2.2.1
  unfold netE at h5
  split at h5
  · simp at h5
  · exact netGo_ok h5 m hm
theorem gd_set {α : Type} {d z : α} {xs : List α} {i : Nat} (h : i < xs.length) : gd d (xs.set i z) i = z := by
  unfold gd; rw [List.getElem?_set_self h]; rfl
theorem beginA_len (v : Vtr) (op kind : Int) (data : ByteArray) : (beginA v op kind data).2.1.length ≤ 12 := by
  unfold beginA
  split
  · simp
  · rename_i h
    have := ask_len (a := Ask.new op kind data) (ws := v.weights) (need := v.need) (by omega)
    simp only [toAllM_len]; omega
theorem hearA_len (v : Vtr) (a : Ask) (m : Msg) : (hearA v a m).2.1.length ≤ 12 := by
  unfold hearA
  split
  · simp
  · rename_i h
    have := ask_len (a := a) (ws := v.weights) (need := v.need) (by omega)
    split
    · simp
    · unfold hearT
      repeat' split
      all_goals first | (simp; done) | (simp only [toAllM_len]; omega)
theorem serveA_len (c : Copy) (m : Msg) : (serveA c m).2.1.length ≤ 1 := by
  unfold serveA
  repeat' split
  all_goals simp
def k_37 : Con Tc Tc.dn := ⟨37, [.ty .cCluster, .ty .cStep], fun x => (fun (c : Cluster) (x : Step) => c.checkE = 0) x.1 x.2.1, [.cCluster, .cInt], fun x => (fun (c : Cluster) (x : Step) => stepP c x) x.1 x.2.1⟩
abbrev z37_0 (c : Cluster) (x : Step) := (gd (Msg.mk (0 : Int) (0 : Int) (0 : Int) (Copy.mk (Stp.mk (0 : Int) (0 : Int)) ByteArray.empty)) c.net x.n.toNat)
abbrev z37_1 := (Ask.mk (0 : Int) (0 : Int) (0 : Int) ByteArray.empty (Copy.mk (Stp.mk (0 : Int) (0 : Int)) ByteArray.empty) (U64.mk (0 : Nat) LY.u64._proof_1))
abbrev z37_3 (c : Cluster) (x : Step) := (hearA c.voters (gd z37_1 c.asks (z37_0 c x).op.toNat) (z37_0 c x))
abbrev z37_2 (c : Cluster) (x : Step) := (gd z37_1 (c.asks.set (z37_0 c x).op.toNat (z37_3 c x).fst) (z37_0 c x).op.toNat)
abbrev z37_4 (c : Cluster) := (beginA c.voters (↑c.asks.length : Int) (1 : Int) (ByteArray.mk #[]))
abbrev z37_5 := (Cluster.mk (Vtr.mk [] (0 : Int)) [] [] [] [] (0 : Int), (2 : Int))
abbrev z37_6 (c : Cluster) (x : Step) := (beginA c.voters (↑c.asks.length : Int) (2 : Int) x.data)
abbrev z37_7 (c : Cluster) (x : Step) := (serveA (gd (Copy.mk (Stp.mk (0 : Int) (0 : Int)) ByteArray.empty) c.nodes (z37_0 c x).node.toNat) (z37_0 c x))
abbrev z37_8 (x : Step) := (x.data = ByteArray.mk #[] ∨ x.kind = (2 : Int) → x.kind = (1 : Int) ∨ x.kind = (2 : Int) → x.kind = (1 : Int) ∨ x.kind = (2 : Int))
abbrev z37_9 (c : Cluster) (x : Step) := ((z37_2 c x).phase = (3 : Int) → (z37_2 c x).phase = (3 : Int))
theorem k_37_v (c : Cluster) (x : Step) (hp : c.checkE = 0) : (c.clock = (1000000 : Int) → z37_5 = stepP c x) ∧ (¬c.clock = (1000000 : Int) → (↑c.voters.weights.length : Int) * (8 : Int) ≤ (140737488355328 : Int) ∧ (↑c.nodes.length : Int) * (32 : Int) ≤ (140737488355328 : Int) ∧ (↑c.asks.length : Int) * (80 : Int) ≤ (140737488355328 : Int) ∧ (↑c.terms.length : Int) * (16 : Int) ≤ (140737488355328 : Int) ∧ (↑c.net.length : Int) * (56 : Int) ≤ (140737488355328 : Int) ∧ I64 (c.clock + (1 : Int)) ∧ (¬x.kind = (1 : Int) → ¬x.kind = (1 : Int)) ∧ (¬x.kind = (1 : Int) → ¬x.kind = (1 : Int)) ∧ (¬x.kind = (1 : Int) → ¬x.kind = (1 : Int)) ∧ ((1 : Int) ≤ x.kind → (1 : Int) ≤ x.kind) ∧ ((1 : Int) ≤ x.kind → (1 : Int) ≤ x.kind) ∧ ((1 : Int) ≤ x.kind → (1 : Int) ≤ x.kind) ∧ (x.kind < (1 : Int) ∨ (5 : Int) < x.kind → (Cluster.mk (Vtr.mk [] (0 : Int)) [] [] [] [] (0 : Int), (7 : Int)) = stepP c x) ∧ ((1 : Int) ≤ x.kind ∧ x.kind ≤ (5 : Int) → (¬x.data = ByteArray.mk #[] → ¬x.data = ByteArray.mk #[]) ∧ (¬x.data = ByteArray.mk #[] → ¬x.data = ByteArray.mk #[]) ∧ (¬x.data = ByteArray.mk #[] → ¬x.data = ByteArray.mk #[]) ∧ (z37_8 x) ∧ (z37_8 x) ∧ (z37_8 x) ∧ ((¬x.data = ByteArray.mk #[] ∧ ¬x.kind = (2 : Int)) ∧ ¬x.data = ByteArray.mk #[] ∧ ¬x.kind = (2 : Int) ∨ (x.data = ByteArray.mk #[] ∨ x.kind = (2 : Int)) ∧ (x.kind = (1 : Int) ∨ x.kind = (2 : Int)) ∧ ¬x.n = (0 : Int) → (Cluster.mk (Vtr.mk [] (0 : Int)) [] [] [] [] (0 : Int), (1 : Int)) = stepP c x) ∧ (((x.data = ByteArray.mk #[] ∨ x.kind = (2 : Int)) ∨ x.data = ByteArray.mk #[] ∨ x.kind = (2 : Int)) ∧ (¬x.data = ByteArray.mk #[] ∧ ¬x.kind = (2 : Int) ∨ ¬x.kind = (1 : Int) ∧ ¬x.kind = (2 : Int) ∨ x.n = (0 : Int)) → (x.kind = (1 : Int) → ((↑c.asks.length : Int) = (31 : Int) → z37_5 = stepP c x) ∧ (¬(↑c.asks.length : Int) = (31 : Int) → True ∧ (¬(z37_4 c).snd.snd = (0 : Int) → (¬(z37_4 c).snd.snd = (0 : Int) → (Cluster.mk (Vtr.mk [] (0 : Int)) [] [] [] [] (0 : Int), (z37_4 c).snd.snd) = stepP c x) ∧ ((z37_4 c).snd.snd = (0 : Int) → (Cluster.mk c.voters c.nodes c.asks c.terms c.net (c.clock + (1 : Int)), (0 : Int)) = stepP c x)) ∧ ((z37_4 c).snd.snd = (0 : Int) → (c.asks.length + (1 : Nat)) * (80 : Nat) ≤ (140737488355328 : Nat) ∧ (c.terms.length + (1 : Nat)) * (16 : Nat) ≤ (140737488355328 : Nat) ∧ (c.net.length + (z37_4 c).snd.fst.length) * (56 : Nat) ≤ (140737488355328 : Nat) ∧ ((200 : Int) < (↑(c.net ++ (z37_4 c).snd.fst).length : Int) → z37_5 = stepP c x) ∧ ((↑(c.net ++ (z37_4 c).snd.fst).length : Int) ≤ (200 : Int) → (Cluster.mk c.voters c.nodes (c.asks ++ [(z37_4 c).fst]) (c.terms ++ [Term.mk (c.clock + (1 : Int)) (0 : Int)]) (c.net ++ (z37_4 c).snd.fst) (c.clock + (1 : Int)), (0 : Int)) = stepP c x)))) ∧ (¬x.kind = (1 : Int) → (x.kind = (2 : Int) → ((↑c.asks.length : Int) = (31 : Int) → z37_5 = stepP c x) ∧ (¬(↑c.asks.length : Int) = (31 : Int) → True ∧ (¬(z37_6 c x).snd.snd = (0 : Int) → (¬(z37_6 c x).snd.snd = (0 : Int) → (Cluster.mk (Vtr.mk [] (0 : Int)) [] [] [] [] (0 : Int), (z37_6 c x).snd.snd) = stepP c x) ∧ ((z37_6 c x).snd.snd = (0 : Int) → (Cluster.mk c.voters c.nodes c.asks c.terms c.net (c.clock + (1 : Int)), (0 : Int)) = stepP c x)) ∧ ((z37_6 c x).snd.snd = (0 : Int) → (c.asks.length + (1 : Nat)) * (80 : Nat) ≤ (140737488355328 : Nat) ∧ (c.terms.length + (1 : Nat)) * (16 : Nat) ≤ (140737488355328 : Nat) ∧ (c.net.length + (z37_6 c x).snd.fst.length) * (56 : Nat) ≤ (140737488355328 : Nat) ∧ ((200 : Int) < (↑(c.net ++ (z37_6 c x).snd.fst).length : Int) → z37_5 = stepP c x) ∧ ((↑(c.net ++ (z37_6 c x).snd.fst).length : Int) ≤ (200 : Int) → (Cluster.mk c.voters c.nodes (c.asks ++ [(z37_6 c x).fst]) (c.terms ++ [Term.mk (c.clock + (1 : Int)) (0 : Int)]) (c.net ++ (z37_6 c x).snd.fst) (c.clock + (1 : Int)), (0 : Int)) = stepP c x)))) ∧ (¬x.kind = (2 : Int) → ((0 : Int) ≤ x.n → (0 : Int) ≤ x.n) ∧ ((0 : Int) ≤ x.n → (0 : Int) ≤ x.n) ∧ ((0 : Int) ≤ x.n → (0 : Int) ≤ x.n) ∧ ((0 : Int) ≤ x.n → (0 : Int) ≤ x.n) ∧ ((0 : Int) ≤ x.n → (0 : Int) ≤ x.n) ∧ ((0 : Int) ≤ x.n → (0 : Int) ≤ x.n) ∧ ((0 : Int) ≤ x.n → (0 : Int) ≤ x.n) ∧ ((0 : Int) ≤ x.n → (0 : Int) ≤ x.n) ∧ ((0 : Int) ≤ x.n → (0 : Int) ≤ x.n) ∧ (x.n < (0 : Int) ∨ (↑c.net.length : Int) ≤ x.n → (Cluster.mk (Vtr.mk [] (0 : Int)) [] [] [] [] (0 : Int), (3 : Int)) = stepP c x) ∧ ((0 : Int) ≤ x.n ∧ x.n < (↑c.net.length : Int) → ((0 : Int) ≤ x.n ∧ x.n < (↑c.net.length : Int)) ∧ x.n.toNat < c.net.length ∧ (x.kind = (5 : Int) → (c.net.length + (1 : Nat)) * (56 : Nat) ≤ (140737488355328 : Nat) ∧ ((200 : Int) < (↑(c.net ++ [gd (Msg.mk (0 : Int) (0 : Int) (0 : Int) (Copy.mk (Stp.mk (0 : Int) (0 : Int)) ByteArray.empty)) c.net x.n.toNat]).length : Int) → z37_5 = stepP c x) ∧ ((↑(c.net ++ [gd (Msg.mk (0 : Int) (0 : Int) (0 : Int) (Copy.mk (Stp.mk (0 : Int) (0 : Int)) ByteArray.empty)) c.net x.n.toNat]).length : Int) ≤ (200 : Int) → (Cluster.mk c.voters c.nodes c.asks c.terms (c.net ++ [gd (Msg.mk (0 : Int) (0 : Int) (0 : Int) (Copy.mk (Stp.mk (0 : Int) (0 : Int)) ByteArray.empty)) c.net x.n.toNat]) (c.clock + (1 : Int)), (0 : Int)) = stepP c x)) ∧ (¬x.kind = (5 : Int) → I64 (x.n + (1 : Int)) ∧ (0 : Int) ≤ x.n ∧ x.n < (↑c.net.length : Int) ∧ x.n + (1 : Int) = x.n + (1 : Int) ∧ c.net.length ≤ (1000000 : Nat) ∧ (x.kind = (4 : Int) → (Cluster.mk c.voters c.nodes c.asks c.terms (c.net.eraseIdx x.n.toNat) (c.clock + (1 : Int)), (0 : Int)) = stepP c x) ∧ (¬x.kind = (4 : Int) → ((z37_0 c x).kind = (1 : Int) ∧ (z37_0 c x).kind = (1 : Int) ∨ ¬(z37_0 c x).kind = (1 : Int) ∧ (z37_0 c x).kind = (3 : Int) → ((0 : Int) ≤ (z37_0 c x).node ∧ (z37_0 c x).node < (↑c.nodes.length : Int)) ∧ (z37_0 c x).node.toNat < c.nodes.length ∧ True ∧ ((0 : Int) ≤ (z37_0 c x).node ∧ (z37_0 c x).node < (↑c.nodes.length : Int)) ∧ (z37_0 c x).node.toNat < c.nodes.length ∧ ((c.net.eraseIdx x.n.toNat).length + (z37_7 c x).snd.fst.length) * (56 : Nat) ≤ (140737488355328 : Nat) ∧ ((200 : Int) < (↑(c.net.eraseIdx x.n.toNat ++ (z37_7 c x).snd.fst).length : Int) → z37_5 = stepP c x) ∧ ((↑(c.net.eraseIdx x.n.toNat ++ (z37_7 c x).snd.fst).length : Int) ≤ (200 : Int) → (Cluster.mk c.voters (c.nodes.set (z37_0 c x).node.toNat (z37_7 c x).fst) c.asks c.terms (c.net.eraseIdx x.n.toNat ++ (z37_7 c x).snd.fst) (c.clock + (1 : Int)), (0 : Int)) = stepP c x)) ∧ ((¬(z37_0 c x).kind = (1 : Int) ∨ ¬(z37_0 c x).kind = (1 : Int)) ∧ ((z37_0 c x).kind = (1 : Int) ∨ ¬(z37_0 c x).kind = (3 : Int)) → ((0 : Int) ≤ (z37_0 c x).op ∧ (z37_0 c x).op < (↑c.asks.length : Int)) ∧ (z37_0 c x).op.toNat < c.asks.length ∧ (z37_0 c x).op.toNat < c.asks.length ∧ True ∧ (z37_0 c x).op.toNat < c.asks.length ∧ (z37_0 c x).op.toNat < (c.asks.set (z37_0 c x).op.toNat (z37_3 c x).fst).length ∧ (z37_9 c x) ∧ (z37_9 c x) ∧ (z37_9 c x) ∧ ((z37_2 c x).phase = (3 : Int) → (z37_0 c x).op.toNat < (c.asks.set (z37_0 c x).op.toNat (z37_3 c x).fst).length) ∧ (z37_9 c x) ∧ (z37_9 c x) ∧ (z37_9 c x) ∧ ((z37_2 c x).phase = (3 : Int) ∧ ¬(gd z37_1 c.asks (z37_0 c x).op.toNat).phase = (z37_2 c x).phase → ((0 : Int) ≤ (z37_0 c x).op ∧ (z37_0 c x).op < (↑c.terms.length : Int)) ∧ (z37_0 c x).op.toNat < c.terms.length ∧ ((c.net.eraseIdx x.n.toNat).length + (z37_3 c x).snd.fst.length) * (56 : Nat) ≤ (140737488355328 : Nat) ∧ ((200 : Int) < (↑(c.net.eraseIdx x.n.toNat ++ (z37_3 c x).snd.fst).length : Int) → z37_5 = stepP c x) ∧ ((↑(c.net.eraseIdx x.n.toNat ++ (z37_3 c x).snd.fst).length : Int) ≤ (200 : Int) → (Cluster.mk c.voters c.nodes (c.asks.set (z37_0 c x).op.toNat (z37_3 c x).fst) (c.terms.set (z37_0 c x).op.toNat (Term.mk (gd (Term.mk (0 : Int) (0 : Int)) c.terms (z37_0 c x).op.toNat).begin (c.clock + (1 : Int)))) (c.net.eraseIdx x.n.toNat ++ (z37_3 c x).snd.fst) (c.clock + (1 : Int)), (0 : Int)) = stepP c x)) ∧ (¬(z37_2 c x).phase = (3 : Int) ∨ (gd z37_1 c.asks (z37_0 c x).op.toNat).phase = (z37_2 c x).phase → ((c.net.eraseIdx x.n.toNat).length + (z37_3 c x).snd.fst.length) * (56 : Nat) ≤ (140737488355328 : Nat) ∧ ((200 : Int) < (↑(c.net.eraseIdx x.n.toNat ++ (z37_3 c x).snd.fst).length : Int) → z37_5 = stepP c x) ∧ ((↑(c.net.eraseIdx x.n.toNat ++ (z37_3 c x).snd.fst).length : Int) ≤ (200 : Int) → (Cluster.mk c.voters c.nodes (c.asks.set (z37_0 c x).op.toNat (z37_3 c x).fst) c.terms (c.net.eraseIdx x.n.toNat ++ (z37_3 c x).snd.fst) (c.clock + (1 : Int)), (0 : Int)) = stepP c x))))))))))) := by
  delta z37_9 z37_8 z37_7 z37_6 z37_5 z37_4 z37_3 z37_2 z37_1 z37_0
  have hl := check_len hp
  have hcl := check_ok hp
  have hm : 0 ≤ x.n → x.n < c.net.length → (gd Msg.nil c.net x.n.toNat).checkE = 0 ∧ (gd Msg.nil c.net x.n.toNat).node < c.nodes.length ∧ (gd Msg.nil c.net x.n.toNat).op < c.asks.length ∧ 0 ≤ (gd Msg.nil c.net x.n.toNat).node ∧ 0 ≤ (gd Msg.nil c.net x.n.toNat).op := fun h1 h2 => by
    have h3 := check_net hp (m := gd Msg.nil c.net x.n.toNat) (gd_mem (by omega))
    have h4 := msg_in h3.1
    omega
  have hb1 := beginA_len c.voters c.asks.length 1 ⟨#[]⟩
  have hb2 := beginA_len c.voters c.asks.length 2 x.data
  have hh := hearA_len c.voters
  have hs := serveA_len
  (repeat' (first | apply And.intro | intro _)) <;> first | assumption | trivial | omega | (grind [I64]) | (simp only [stepP, beginC, sendC, passC, *]; grind [Cluster.zero, gd_set]) | (unfold stepP beginC sendC passC; grind [Cluster.zero, gd_set]) | trace_state
def l_37 : PD Tc.dn k_37.ps → List (IL Tc Tc.dn) := fun x => (fun (c : Cluster) (x : Step) => ([⟨52, .fn F52 (fun _ => none)⟩, ⟨61, .fn F61 (fun _ => none)⟩, ⟨94, .fn F94 (fun _ => none)⟩, ⟨95, .fn F95 (fun _ => none)⟩, ⟨97, .fn F97 (fun _ => none)⟩, ⟨96, .del .cMsg 56 [.v (.int .i64 0), .v (.int .i64 0), .v (.int .i64 0), .v (.int .i64 0), .v (.int .i64 0), .v (.string ⟨#[]⟩)]⟩])) x.1 x.2.1
theorem l_37_ok : ∀ x, ILs Tryd.prog tD (l_37 x) := fun _ => ⟨⟨F52_ok, F52_call⟩, ⟨F61_ok, F61_call⟩, ⟨F94_ok, F94_call⟩, ⟨F95_ok, F95_call⟩, ⟨F97_ok, F97_call⟩, ⟨F96_ok, F96_call, rfl⟩, trivial⟩
theorem k_37_ok : k_37.Ok Tryd.prog tD := con_ok tD_ok (Δ := [k_36, k_119, k_120, k_121]) ⟨k_36_ok, k_119_ok, k_120_ok, k_121_ok, trivial⟩ (Ω := [o_72, o_73, o_74, o_75]) ⟨o_72_ok, o_73_ok, o_74_ok, o_75_ok, trivial⟩ k_37 F37_ok F37_call (l_37) (l_37_ok) 5 (fun x => (fun (c : Cluster) (x : Step) => (fun _ => none)) x.1 x.2.1) fun x hp => Eq.mp (by kernel_rfl) (k_37_v x.1 x.2.1 hp)
theorem copGo_iff : ∀ {l : List Copy}, copGo l = 0 ↔ ∀ c, c ∈ l → c.checkE = 0
  | [] => by simp [copGo]
  | c :: r => by
    unfold copGo
    by_cases h : c.checkE = 0
    · rw [if_neg (by omega), copGo_iff (l := r)]; simp [h]
    · rw [if_pos h]; simp [h]
theorem netGo_iff {n a : Int} : ∀ {l : List Msg}, netGo n a l = 0 ↔ ∀ m, m ∈ l → m.checkE = 0 ∧ m.node < n ∧ m.op < a
  | [] => by simp [netGo]
  | m :: r => by
    unfold netGo
    by_cases h : m.checkE = 0
    · rw [if_neg (by omega)]
      by_cases h2 : m.node ≥ n ∨ m.op ≥ a
      · rw [if_pos h2]; simp; intro _ h3; omega
      · rw [if_neg h2, netGo_iff (l := r)]; simp [h]; intro _; omega
    · rw [if_pos h]; simp [h]
theorem asksGo_iff {v : Vtr} {ts : List Term} {k : Int} : ∀ {l : List Ask} {i : Int}, 0 ≤ i → (asksGo v ts k l i = 0 ↔ ∀ (j : Nat) a, l[j]? = some a → a.op = i + j ∧ a.checkE v.weights v.need = 0 ∧ termB (gd ⟨0, 0⟩ ts (i.toNat + j)) a k = true)
  | [], i, _ => by simp [asksGo]
  | a :: r, i, hi => by
    unfold asksGo
    have ih := asksGo_iff (v := v) (ts := ts) (k := k) (l := r) (i := i + 1) (by omega)
    by_cases h1 : a.op = i
    · rw [if_neg (by omega)]
      by_cases h2 : a.checkE v.weights v.need = 0
      · rw [if_neg (by omega)]
        by_cases h3 : termB (gd ⟨0, 0⟩ ts i.toNat) a k = true
        · rw [if_neg (by simp [h3]), ih]
          constructor
          · intro h j b hb
            cases j with
            | zero => simp at hb; subst hb; exact ⟨by omega, h2, h3⟩
            | succ j =>
              obtain ⟨q1, q2, q3⟩ := h j b (by simpa using hb)
              refine ⟨by rw [q1]; omega, q2, ?_⟩
              rw [show i.toNat + (j + 1) = (i + 1).toNat + j by omega]; exact q3
          · intro h j b hb
            obtain ⟨q1, q2, q3⟩ := h (j + 1) b (by simpa using hb)
            refine ⟨by rw [q1]; omega, q2, ?_⟩
            rw [show (i + 1).toNat + j = i.toNat + (j + 1) by omega]; exact q3
        · rw [if_pos (by simpa using h3)]
          constructor
          · intro h; simp at h
          · intro h; exact absurd (h 0 a rfl).2.2 h3
      · rw [if_pos h2]
        constructor
        · intro h; exact absurd h h2
        · intro h; exact absurd (h 0 a rfl).2.1 h2
    · rw [if_pos h1]
      constructor
      · intro h; simp at h
      · intro h; have := (h 0 a rfl).1; omega
structure Cluster.Ok (c : Cluster) : Prop where
  q : qcheckP c.voters.weights c.voters.need = 0
  nl : c.nodes.length = c.voters.weights.length
  cop : ∀ x, x ∈ c.nodes → x.checkE = 0
  al : c.asks.length ≤ 31
  tl : c.terms.length = c.asks.length
  ask : ∀ (j : Nat) a, c.asks[j]? = some a → a.op = j ∧ a.checkE c.voters.weights c.voters.need = 0
  tm : ∀ (j : Nat) a t, c.asks[j]? = some a → c.terms[j]? = some t → termB t a c.clock = true
  ml : c.net.length ≤ 200
  net : ∀ m, m ∈ c.net → m.checkE = 0 ∧ m.node < c.nodes.length ∧ m.op < c.asks.length
  clk : 0 ≤ c.clock ∧ c.clock ≤ 1000000
theorem Cluster.ok_iff {c : Cluster} : c.checkE = 0 ↔ c.Ok := by
  constructor
  · intro h
    obtain ⟨h1, h2, h3, h4, h5, h6⟩ := check_ok h
    obtain ⟨l1, l2, l3, l4, l5⟩ := check_len h
    have ha : asksGo c.voters c.terms c.clock c.asks 0 = 0 := by
      unfold asksE at h4; rw [if_neg (by omega), if_neg (by omega)] at h4; exact h4
    have hn : netGo c.nodes.length c.asks.length c.net = 0 := by
      unfold netE at h5; rw [if_neg (by omega)] at h5; exact h5
    have ha' := (asksGo_iff (by omega)).1 ha
    refine ⟨h1, h2, copGo_iff.1 h3, l1, l2.symm, fun j a hj => ?_, fun j a t hj ht => ?_, l3, netGo_iff.1 hn, h6⟩
    · have := ha' j a hj; exact ⟨by rw [this.1]; omega, this.2.1⟩
    · have := (ha' j a hj).2.2
      unfold gd at this
      rw [show (0 : Int).toNat + j = j by omega, ht] at this; exact this
  · intro h
    have ha : asksE c = 0 := by
      unfold asksE; rw [if_neg (by have := h.al; omega), if_neg (by have := h.tl; omega)]
      refine (asksGo_iff (by omega)).2 fun j a hj => ⟨by rw [(h.ask j a hj).1]; omega, (h.ask j a hj).2, ?_⟩
      have hjl := (List.getElem?_eq_some_iff.1 hj).1
      have ht := gd_get (d := (⟨0, 0⟩ : Term)) (xs := c.terms) (i := j) (by rw [h.tl]; exact hjl)
      rw [show (0 : Int).toNat + j = j by omega]
      exact h.tm j a _ hj ht
    have hn : netE c = 0 := by
      unfold netE; rw [if_neg (by have := h.ml; omega)]; exact netGo_iff.2 h.net
    unfold Cluster.checkE
    rw [if_neg (by have := h.q; omega), if_neg (by have := h.nl; omega), if_neg (by have := copGo_iff.2 h.cop; omega), if_neg (by omega), if_neg (by omega), if_neg (by have := h.clk; omega)]
theorem raw_ok {a b : Copy} (ha : a.checkE = 0) (hb : b.checkE = 0) : (a.raw b).checkE = 0 := by unfold Copy.raw; split <;> assumption
theorem msg_copy {m : Msg} (h : m.checkE = 0) : m.copy.checkE = 0 := (msg_node h).2
theorem msg_mk {k op n : Int} {c : Copy} (hk : 1 ≤ k ∧ k ≤ 4) (ho : 0 ≤ op ∧ op ≤ 30) (hn : 0 ≤ n ∧ n ≤ 11) (hc : c.checkE = 0) (hf : (k = 2 ∨ k = 3) ∨ c = ⟨⟨0, 0⟩, ⟨#[]⟩⟩) : (⟨k, op, n, c⟩ : Msg).checkE = 0 := by
  unfold Msg.checkE
  rw [if_neg (by simp only; omega), if_neg (by simp only; omega), if_neg (by simp only; omega), if_neg]
  rintro ⟨h1, h2⟩
  rcases hf with hf | hf
  · exact h1 hf
  · subst hf; exact h2 ⟨rfl, rfl, rfl⟩
theorem serve_ok {c : Copy} {m : Msg} (hc : c.checkE = 0) (hm : m.checkE = 0) : (serveA c m).1.checkE = 0 ∧ ∀ q, q ∈ (serveA c m).2.1 → q.checkE = 0 ∧ q.node = m.node ∧ q.op = m.op := by
  have hi := msg_in hm
  unfold serveA
  rw [if_neg (by omega), if_neg (by omega)]
  split
  · exact ⟨hc, fun q hq => by simp at hq; subst hq; exact ⟨msg_mk (by omega) (by omega) (by omega) hc (.inl (by omega)), rfl, rfl⟩⟩
  · split
    · exact ⟨raw_ok hc (msg_copy hm), fun q hq => by simp at hq; subst hq; exact ⟨msg_mk (by omega) (by omega) (by omega) (by decide) (.inr rfl), rfl, rfl⟩⟩
    · exact ⟨hc, fun q hq => by simp at hq⟩
theorem bitU_n {k : Int} (h : 0 ≤ k ∧ k < 64) : (bitU k).n = 2 ^ k.toNat := by
  unfold bitU
  have h1 : (uN (Int.toNat 1)).n = 1 := rfl
  have h2 : min k.toNat 64 = k.toNat := by omega
  have h3 : 2 ^ k.toNat < 18446744073709551616 := by
    have := Nat.pow_lt_pow_right (a := 2) (by decide) (show k.toNat < 64 by omega); simpa using this
  rw [h1, h2, Nat.one_mul, uN_n h3]
theorem or_len {a : U64} {k : Int} {n : Nat} (h : 0 ≤ k ∧ k < n ∧ n ≤ 12) (ha : a.n < 2 ^ n) : (opU .or a (bitU k)).n < 2 ^ n := by
  rw [opU_n, bitU_n (by omega)]
  exact opN_lt .or ha (Nat.pow_lt_pow_right (by decide) (by omega))
theorem ask_iff {a : Ask} {ws : List Int} {need : Int} : a.checkE ws need = 0 ↔ qcheckP ws need = 0 ∧ (0 ≤ a.op ∧ a.op ≤ 30) ∧ (1 ≤ a.kind ∧ a.kind ≤ 2) ∧ (1 ≤ a.phase ∧ a.phase ≤ 3) ∧ a.data.size ≤ 64 ∧ (a.kind = 1 → a.data.size = 0) ∧ a.best.checkE = 0 ∧ a.heard.n < 2 ^ ws.length := by
  refine ⟨ask_ok, fun ⟨h1, h2, h3, h4, h5, h6, h7, h8⟩ => ?_⟩
  unfold Ask.checkE
  have h9 : ¬ (len64 a.heard.n : Int) > ws.length := fun hh => by have := len64_gt.1 (show ws.length < len64 a.heard.n by omega); omega
  rw [if_neg (by omega), if_neg (by omega), if_neg (by omega), if_neg (by omega), if_neg (fun hh => hh.2 (h6 hh.1)), if_neg (by omega), if_neg h9]
theorem next_ok {s : Stp} {who : Int} (h : (nextL [s] who).2 = 0) : (nextL [s] who).1.okS := by
  unfold nextL at h ⊢
  split at h
  · rename_i h1; exact absurd h h1
  · rename_i h1
    split at h
    · simp at h
    · rename_i h2
      rw [if_neg h1, if_neg h2]
      have := maxP_ok (l := [s]) (by omega)
      unfold Stp.okS at this ⊢
      simp only
      omega
theorem copy_ok {c : Copy} : c.checkE = 0 ↔ c.at_.okS ∧ c.data.size ≤ 64 := by
  unfold Copy.checkE
  by_cases h : c.at_.okS
  · rw [if_pos h]
    by_cases h2 : c.data.size > 64
    · rw [if_pos h2]; simp; intro _; omega
    · rw [if_neg h2]; simp [h]; omega
  · rw [if_neg h]; simp [h]
theorem toAll_ok {n : Nat} {k op : Int} {c : Copy} (hk : 1 ≤ k ∧ k ≤ 4) (ho : 0 ≤ op ∧ op ≤ 30) (hn : n ≤ 12) (hc : c.checkE = 0) (hf : (k = 2 ∨ k = 3) ∨ c = ⟨⟨0, 0⟩, ⟨#[]⟩⟩) : ∀ q, q ∈ toAllM n ⟨k, op, 0, c⟩ → q.checkE = 0 ∧ 0 ≤ q.node ∧ q.node < n ∧ q.op = op ∧ q.kind = k ∧ q.copy = c := by
  intro q hq
  unfold toAllM at hq
  rw [List.mem_map] at hq
  obtain ⟨i, hi, rfl⟩ := hq
  rw [List.mem_range] at hi
  exact ⟨msg_mk hk ho (by omega) hc hf, by simp only; omega, by simp only; omega, rfl, rfl, rfl⟩
theorem hear_cases {v : Vtr} {a : Ask} {m : Msg} (ha : a.checkE v.weights v.need = 0) (hm : m.checkE = 0) : hearA v a m = (a, [], 0) ∨
    (m.op = a.op ∧ m.kind = wantsA a.phase ∧ m.node < v.weights.length ∧
      (hearA v a m = (heardA a m, [], 0) ∨
      ((enoughP v.weights v.need (heardA a m).heard.n).1 = true ∧ a.phase = 2 ∧ hearA v a m = (⟨a.op, a.kind, 3, a.data, (heardA a m).best, (heardA a m).heard⟩, [], 0)) ∨
      ((enoughP v.weights v.need (heardA a m).heard.n).1 = true ∧ a.phase = 1 ∧ a.kind = 1 ∧ hearA v a m = (⟨a.op, a.kind, 2, a.data, (heardA a m).best, uN (Int.toNat 0)⟩, toAllM v.weights.length ⟨3, a.op, 0, (heardA a m).best⟩, 0)) ∨
      ((enoughP v.weights v.need (heardA a m).heard.n).1 = true ∧ a.phase = 1 ∧ a.kind = 2 ∧ (nextL [(heardA a m).best.at_] a.op).2 = 0 ∧
        hearA v a m = (⟨a.op, a.kind, 2, a.data, ⟨(nextL [(heardA a m).best.at_] a.op).1, a.data⟩, uN (Int.toNat 0)⟩, toAllM v.weights.length ⟨3, a.op, 0, ⟨(nextL [(heardA a m).best.at_] a.op).1, a.data⟩⟩, 0)))) := by
  obtain ⟨h1, h2, h3, h4, h5, h6, h7, h8⟩ := ask_ok ha
  have hi := msg_in hm
  have hw : m.kind = wantsA a.phase → a.phase = 1 ∨ a.phase = 2 := by unfold wantsA; intro h; split at h <;> first | omega | (split at h <;> omega)
  unfold hearA
  rw [if_neg (by omega), if_neg (by omega)]
  unfold hearT
  split
  · exact .inl rfl
  · rename_i c1
    have c1' : m.op = a.op ∧ m.kind = wantsA a.phase ∧ m.node < v.weights.length := by omega
    have hp := hw c1'.2.1
    split
    · exact .inr ⟨c1'.1, c1'.2.1, c1'.2.2, .inl rfl⟩
    · rename_i c2
      have c2' : (enoughP v.weights v.need (heardA a m).heard.n).1 = true := by simpa using c2
      split
      · rename_i c3; exact .inr ⟨c1'.1, c1'.2.1, c1'.2.2, .inr (.inl ⟨c2', c3, rfl⟩)⟩
      · rename_i c3
        split
        · rename_i c4; exact .inr ⟨c1'.1, c1'.2.1, c1'.2.2, .inr (.inr (.inl ⟨c2', by omega, c4, rfl⟩))⟩
        · rename_i c4
          split
          · rename_i c5; exact .inr ⟨c1'.1, c1'.2.1, c1'.2.2, .inr (.inr (.inr ⟨c2', by omega, by omega, c5, rfl⟩))⟩
          · exact .inl rfl
theorem heard_ok {v : Vtr} {a : Ask} {m : Msg} (ha : a.checkE v.weights v.need = 0) (hm : m.checkE = 0) (hn : m.node < v.weights.length) : (heardA a m).checkE v.weights v.need = 0 := by
  have h := ask_ok ha
  have hi := msg_in hm
  have hl := qc_len h.1
  refine ask_iff.2 ⟨h.1, h.2.1, h.2.2.1, h.2.2.2.1, h.2.2.2.2.1, h.2.2.2.2.2.1, ?_, or_len ⟨hi.2.2.1, hn, hl⟩ h.2.2.2.2.2.2.2⟩
  show (if a.phase = 1 then a.best.raw m.copy else a.best).checkE = 0
  split
  · exact raw_ok h.2.2.2.2.2.2.1 (msg_copy hm)
  · exact h.2.2.2.2.2.2.1
theorem hear_ok {v : Vtr} {a : Ask} {m : Msg} (ha : a.checkE v.weights v.need = 0) (hm : m.checkE = 0) : (hearA v a m).1.checkE v.weights v.need = 0 ∧ (hearA v a m).1.op = a.op ∧ (∀ q, q ∈ (hearA v a m).2.1 → q.checkE = 0 ∧ 0 ≤ q.node ∧ q.node < v.weights.length ∧ q.op = a.op) := by
  have h := ask_ok ha
  have hl := qc_len h.1
  have z0 : (uN (Int.toNat 0)).n = 0 := rfl
  have zp : (uN (Int.toNat 0)).n < 2 ^ v.weights.length := by rw [z0]; exact Nat.two_pow_pos _
  rcases hear_cases ha hm with e | ⟨h1, h2, h3, e | ⟨_, h5, e⟩ | ⟨_, h5, h6, e⟩ | ⟨_, h5, h6, h7, e⟩⟩ <;> rw [e]
  · exact ⟨ha, rfl, fun q hq => by simp at hq⟩
  · exact ⟨heard_ok ha hm h3, rfl, fun q hq => by simp at hq⟩
  · have hh := ask_ok (heard_ok ha hm h3)
    exact ⟨ask_iff.2 ⟨h.1, h.2.1, h.2.2.1, by simp only; omega, h.2.2.2.2.1, h.2.2.2.2.2.1, hh.2.2.2.2.2.2.1, hh.2.2.2.2.2.2.2⟩, rfl, fun q hq => by simp at hq⟩
  · have hh := ask_ok (heard_ok ha hm h3)
    refine ⟨ask_iff.2 ⟨h.1, h.2.1, h.2.2.1, by simp only; omega, h.2.2.2.2.1, h.2.2.2.2.2.1, hh.2.2.2.2.2.2.1, zp⟩, rfl, fun q hq => ?_⟩
    obtain ⟨q1, q2, q3, q4, _⟩ := toAll_ok (by omega) h.2.1 hl hh.2.2.2.2.2.2.1 (.inl (.inr rfl)) q hq
    exact ⟨q1, q2, q3, q4⟩
  · have hc : (⟨(nextL [(heardA a m).best.at_] a.op).1, a.data⟩ : Copy).checkE = 0 := copy_ok.2 ⟨next_ok h7, h.2.2.2.2.1⟩
    refine ⟨ask_iff.2 ⟨h.1, h.2.1, h.2.2.1, by simp only; omega, h.2.2.2.2.1, h.2.2.2.2.2.1, hc, zp⟩, rfl, fun q hq => ?_⟩
    obtain ⟨q1, q2, q3, q4, _⟩ := toAll_ok (by omega) h.2.1 hl hc (.inl (.inr rfl)) q hq
    exact ⟨q1, q2, q3, q4⟩
theorem begin_ok {v : Vtr} {op kind : Int} {data : ByteArray} (h : (beginA v op kind data).2.2 = 0) : beginA v op kind data = (Ask.new op kind data, toAllM v.weights.length ⟨1, op, 0, ⟨⟨0, 0⟩, ⟨#[]⟩⟩⟩, 0) ∧ (Ask.new op kind data).checkE v.weights v.need = 0 := by
  unfold beginA at h ⊢
  split at h
  · rename_i h1; exact absurd h h1
  · rename_i h1; rw [if_neg h1]; exact ⟨rfl, by omega⟩
theorem term_up {t : Term} {a : Ask} {k : Int} (h : termB t a k = true) : termB t a (k + 1) = true := by
  unfold termB at h ⊢
  simp only [decide_eq_true_eq] at h ⊢
  split at h
  · rename_i hp; rw [if_pos hp]; omega
  · rename_i hp; rw [if_neg hp]; omega
theorem mem_erase {α : Type} {l : List α} {n : Nat} {x : α} (h : x ∈ l.eraseIdx n) : x ∈ l := List.mem_of_mem_eraseIdx h
theorem get_set {α : Type} {l : List α} {i j : Nat} {x y : α} (h : (l.set i x)[j]? = some y) : (i = j ∧ y = x ∧ i < l.length) ∨ (i ≠ j ∧ l[j]? = some y) := by
  rw [List.getElem?_set] at h
  by_cases hij : i = j
  · rw [if_pos hij] at h
    split at h
    · simp at h; exact .inl ⟨hij, h.symm, by omega⟩
    · simp at h
  · rw [if_neg hij] at h; exact .inr ⟨hij, h⟩
theorem send_ok {c : Cluster} (h : (sendC c).2 = 0) : sendC c = (c, 0) ∧ c.net.length ≤ 200 := by
  unfold sendC at h ⊢
  split at h
  · simp at h
  · rename_i h1; rw [if_neg h1]; exact ⟨rfl, by omega⟩
theorem hear_done {v : Vtr} {a : Ask} {m : Msg} (ha : a.checkE v.weights v.need = 0) (hm : m.checkE = 0) (hp : a.phase = 3) : hearA v a m = (a, [], 0) := by
  rcases hear_cases ha hm with e | ⟨h1, h2, _⟩
  · exact e
  · have := msg_in hm
    unfold wantsA at h2; rw [hp] at h2; simp at h2; omega
theorem term_ph {t : Term} {a b : Ask} {k : Int} (h : termB t a k = true) (hp : b.phase = 3 ↔ a.phase = 3) : termB t b k = true := by
  unfold termB at h ⊢
  simp only [decide_eq_true_eq] at h ⊢
  by_cases h1 : a.phase = 3
  · rw [if_pos h1] at h; rw [if_pos (hp.2 h1)]; exact h
  · rw [if_neg h1] at h; rw [if_neg (fun hh => h1 (hp.1 hh))]; exact h
theorem step_cases {c : Cluster} {x : Step} (hc : c.checkE = 0) (h : (stepP c x).2 = 0) : c.clock < 1000000 ∧
    ((∃ kind data, ((x.kind = 1 ∧ kind = 1 ∧ data = ⟨#[]⟩) ∨ (x.kind = 2 ∧ kind = 2 ∧ data = x.data)) ∧ c.asks.length < 31 ∧ (beginA c.voters c.asks.length kind data).2.2 = 0 ∧
        stepP c x = (⟨c.voters, c.nodes, c.asks ++ [(beginA c.voters c.asks.length kind data).1], c.terms ++ [⟨c.clock + 1, 0⟩], c.net ++ (beginA c.voters c.asks.length kind data).2.1, c.clock + 1⟩, 0) ∧ (stepP c x).1.net.length ≤ 200) ∨
      (∃ m, 0 ≤ x.n ∧ x.n < c.net.length ∧ m = gd Msg.nil c.net x.n.toNat ∧ m ∈ c.net ∧
        ((x.kind = 5 ∧ stepP c x = (⟨c.voters, c.nodes, c.asks, c.terms, c.net ++ [m], c.clock + 1⟩, 0) ∧ (stepP c x).1.net.length ≤ 200) ∨
         (x.kind = 4 ∧ stepP c x = (⟨c.voters, c.nodes, c.asks, c.terms, c.net.eraseIdx x.n.toNat, c.clock + 1⟩, 0)) ∨
         (x.kind = 3 ∧ stepP c x = (passC ⟨c.voters, c.nodes, c.asks, c.terms, c.net.eraseIdx x.n.toNat, c.clock + 1⟩ m, 0) ∧ (stepP c x).1.net.length ≤ 200)))) := by
  have hl := check_len hc
  have hk := (check_ok hc).2.2.2.2.2
  have bg : ∀ (c' : Cluster) kind data, c'.asks.length ≤ 31 → (beginC c' kind data).2 = 0 → c'.asks.length < 31 ∧ (beginA c'.voters c'.asks.length kind data).2.2 = 0 ∧ beginC c' kind data = (⟨c'.voters, c'.nodes, c'.asks ++ [(beginA c'.voters c'.asks.length kind data).1], c'.terms ++ [⟨c'.clock, 0⟩], c'.net ++ (beginA c'.voters c'.asks.length kind data).2.1, c'.clock⟩, 0) ∧ (beginC c' kind data).1.net.length ≤ 200 := by
    intro c' kind data hle hb
    unfold beginC at hb ⊢
    split at hb
    · simp at hb
    · rename_i h1
      split at hb
      · rename_i h2; exact absurd hb h2
      · rename_i h2
        rw [if_neg h1, if_neg h2]
        obtain ⟨e1, e2⟩ := send_ok hb
        exact ⟨by omega, by omega, e1, by rw [e1]; exact e2⟩
  unfold stepP at h ⊢
  split at h
  · simp at h
  rename_i g1; rw [if_neg g1]
  split at h
  · simp at h
  rename_i g2; rw [if_neg g2]
  split at h
  · simp at h
  rename_i g3; rw [if_neg g3]
  refine ⟨by omega, ?_⟩
  split at h
  · rename_i g4; rw [if_pos g4]
    obtain ⟨q1, q2, q3, q4⟩ := bg _ _ _ (by simpa using hl.1) h
    exact .inl ⟨1, ⟨#[]⟩, .inl ⟨g4, rfl, rfl⟩, q1, q2, q3, q4⟩
  rename_i g4; rw [if_neg g4]
  split at h
  · rename_i g5; rw [if_pos g5]
    obtain ⟨q1, q2, q3, q4⟩ := bg _ _ _ (by simpa using hl.1) h
    exact .inl ⟨2, x.data, .inr ⟨g5, rfl, rfl⟩, q1, q2, q3, q4⟩
  rename_i g5; rw [if_neg g5]
  split at h
  · simp at h
  rename_i g6; rw [if_neg g6]
  refine .inr ⟨_, by omega, by omega, rfl, gd_mem (by omega), ?_⟩
  split at h
  · rename_i g7; rw [if_pos g7]
    obtain ⟨e1, e2⟩ := send_ok h
    exact .inl ⟨g7, e1, by rw [e1]; exact e2⟩
  rename_i g7; rw [if_neg g7]
  split at h
  · rename_i g8; rw [if_pos g8]; exact .inr (.inl ⟨g8, rfl⟩)
  rename_i g8; rw [if_neg g8]
  obtain ⟨e1, e2⟩ := send_ok h
  exact .inr (.inr ⟨by omega, e1, by rw [e1]; exact e2⟩)
theorem step_ok {c : Cluster} {x : Step} (hc : c.checkE = 0) (h : (stepP c x).2 = 0) : (stepP c x).1.checkE = 0 := by
  have ok := Cluster.ok_iff.1 hc
  have hl := qc_len ok.q
  have hnl := ok.nl
  have htl := ok.tl
  have hclk := ok.clk
  refine Cluster.ok_iff.2 ?_
  obtain ⟨hk, ⟨kind, data, hkd, hal, hb, e, hn⟩ | ⟨m, h0, h1, hm, hmem, ⟨_, e, hn⟩ | ⟨_, e⟩ | ⟨_, e, hn⟩⟩⟩ := step_cases hc h
  · rw [e] at hn ⊢
    obtain ⟨b1, b2⟩ := begin_ok hb
    rw [b1] at hn ⊢
    have bo := ask_ok b2
    refine ⟨ok.q, ok.nl, ok.cop, by simp; omega, by simp; omega, fun j a hj => ?_, fun j a t hj ht => ?_, hn, fun q hq => ?_, by simp only; omega⟩
    · simp only at hj
      rcases Nat.lt_or_ge j c.asks.length with hlt | hge
      · rw [List.getElem?_append_left hlt] at hj; exact ok.ask j a hj
      · rw [List.getElem?_append_right hge] at hj
        have hj0 : j - c.asks.length = 0 := by
          rcases Nat.eq_zero_or_pos (j - c.asks.length) with h | h
          · exact h
          · rw [List.getElem?_eq_none (by simp; omega)] at hj; simp at hj
        rw [hj0] at hj; simp at hj; subst hj
        refine ⟨?_, b2⟩
        show (c.asks.length : Int) = j
        omega
    · simp only at hj ht
      rcases Nat.lt_or_ge j c.asks.length with hlt | hge
      · rw [List.getElem?_append_left hlt] at hj
        rw [List.getElem?_append_left (by omega)] at ht
        exact term_up (ok.tm j a t hj ht)
      · rw [List.getElem?_append_right hge] at hj
        rw [List.getElem?_append_right (by omega)] at ht
        have hj0 : j - c.asks.length = 0 := by
          rcases Nat.eq_zero_or_pos (j - c.asks.length) with h | h
          · exact h
          · rw [List.getElem?_eq_none (by simp; omega)] at hj; simp at hj
        rw [hj0] at hj; rw [show j - c.terms.length = 0 by omega] at ht
        simp at hj ht; subst hj; subst ht
        unfold termB Ask.new
        simp; omega
    · simp only [List.mem_append] at hq
      rcases hq with hq | hq
      · have := ok.net q hq; simp; omega
      · obtain ⟨q1, q2, q3, q4, _⟩ := toAll_ok (by omega) bo.2.1 hl (by decide) (.inr rfl) q hq
        refine ⟨q1, by simp only; omega, ?_⟩
        rw [q4]; simp; show (c.asks.length : Int) < _; omega
  · rw [e] at hn ⊢
    refine ⟨ok.q, ok.nl, ok.cop, ok.al, ok.tl, ok.ask, fun j a t hj ht => term_up (ok.tm j a t hj ht), hn, fun q hq => ?_, by simp only; omega⟩
    simp only [List.mem_append, List.mem_singleton] at hq
    rcases hq with hq | rfl
    · exact ok.net q hq
    · exact ok.net q hmem
  · rw [e]
    refine ⟨ok.q, ok.nl, ok.cop, ok.al, ok.tl, ok.ask, fun j a t hj ht => term_up (ok.tm j a t hj ht), ?_, fun q hq => ok.net q (mem_erase hq), by simp only; omega⟩
    have := ok.ml
    simp only [List.length_eraseIdx]; split <;> omega
  · rw [e] at hn ⊢
    have om := ok.net m hmem
    have hi := msg_in om.1
    unfold passC at hn ⊢
    split at hn
    · rename_i hp
      rw [if_pos hp]
      have hget := gd_get (d := Copy.nil) (xs := c.nodes) (i := m.node.toNat) (by omega)
      have hcn := ok.cop _ (List.mem_of_getElem? hget)
      have hs := serve_ok hcn om.1
      refine ⟨ok.q, by simp only [List.length_set]; exact ok.nl, fun y hy => ?_, ok.al, ok.tl, ok.ask, fun j a t hj ht => term_up (ok.tm j a t hj ht), hn, fun q hq => ?_, by simp only; omega⟩
      · rcases List.mem_or_eq_of_mem_set hy with hy | rfl
        · exact ok.cop y hy
        · exact hs.1
      · simp only [List.mem_append] at hq
        simp only [List.length_set]
        rcases hq with hq | hq
        · exact ok.net q (mem_erase hq)
        · have := hs.2 q hq; omega
    · rename_i hp
      rw [if_neg hp]
      have hget := gd_get (d := Ask.nil) (xs := c.asks) (i := m.op.toNat) (by omega)
      have hca := ok.ask _ _ hget
      have hh := hear_ok hca.2 om.1
      refine ⟨ok.q, ok.nl, ok.cop, by simp only [List.length_set]; exact ok.al, ?_, fun j a hj => ?_, fun j a t hj ht => ?_, hn, fun q hq => ?_, by simp only; omega⟩
      · simp only [List.length_set]
        split
        · rw [List.length_set]; exact ok.tl
        · exact ok.tl
      · rcases get_set hj with ⟨rfl, rfl, _⟩ | ⟨_, hj⟩
        · exact ⟨hh.2.1.trans hca.1, hh.1⟩
        · exact ok.ask j a hj
      · simp only at hj ht
        rcases get_set hj with ⟨rfl, rfl, hlt⟩ | ⟨hne, hj⟩
        · have hgt := gd_get (d := (⟨0, 0⟩ : Term)) (xs := c.terms) (i := m.op.toNat) (by omega)
          have h0 := ok.tm _ _ _ hget hgt
          split at ht
          · rename_i hph
            rw [List.getElem?_set_self (by omega)] at ht
            simp only [Option.some.injEq] at ht; subst ht
            unfold termB at h0 ⊢
            simp only [decide_eq_true_eq] at h0 ⊢
            rw [if_pos hph.1]
            rw [if_neg hph.2] at h0
            omega
          · rename_i hph
            rw [hgt] at ht
            simp only [Option.some.injEq] at ht; subst ht
            refine term_up (term_ph h0 ⟨fun h3 => ?_, fun h3 => ?_⟩)
            · by_cases h4 : (gd Ask.nil c.asks m.op.toNat).phase = 3
              · exact h4
              · exact absurd ⟨h3, h4⟩ hph
            · rw [hear_done hca.2 om.1 h3]; exact h3
        · split at ht
          · rw [List.getElem?_set_ne hne] at ht; exact term_up (ok.tm j a t hj ht)
          · exact term_up (ok.tm j a t hj ht)
      · simp only [List.mem_append] at hq
        simp only [List.length_set]
        rcases hq with hq | hq
        · exact ok.net q (mem_erase hq)
        · have := hh.2.2 q hq
          have h8 := hca.1
          omega
open Go.RowKit
def doP (c : Cluster) (x : Step) : Cluster × Int := if c.checkE ≠ 0 then (Cluster.zero, c.checkE) else stepP c x
def runGo : List Step → Cluster → Int → Cluster × Int
  | [], c, n => (c, n)
  | x :: r, c, n => if (stepP c x).2 = 0 then runGo r (stepP c x).1 (n + 1) else runGo r c n
def runP (c : Cluster) (l : List Step) : Cluster × Int × Int := if c.checkE ≠ 0 then (Cluster.zero, 0, c.checkE) else if l.length > 200 then (Cluster.zero, 0, 2) else ((runGo l c 0).1, (runGo l c 0).2, 0)
theorem small_of {c : Cluster} (h : c.checkE = 0) : Clu.small c := by
  have := check_len h
  unfold Clu.small; omega
def k_13 : Con Tc Tc.dn := ⟨13, [.ty .cCluster, .ty .cStep], fun x => (fun (c : Cluster) (x : Step) => True) x.1 x.2.1, [.cCluster, .cInt], fun x => (fun (c : Cluster) (x : Step) => doP c x) x.1 x.2.1⟩
theorem k_13_v (c : Cluster) (x : Step) : True ∧ (¬c.checkE = (0 : Int) → (Cluster.mk (Vtr.mk [] (0 : Int)) [] [] [] [] (0 : Int), c.checkE) = doP c x) ∧ (c.checkE = (0 : Int) → c.checkE = (0 : Int) ∧ stepP c x = doP c x) := by
  (repeat' (first | apply And.intro | intro _)) <;> first | assumption | trivial | omega | (grind [doP, Cluster.zero]) | trace_state
theorem k_13_ok : k_13.Ok Tryd.prog tD := con_ok tD_ok (Δ := [k_18, k_37]) ⟨k_18_ok, k_37_ok, trivial⟩ (Ω := []) trivial k_13 F13_ok F13_call (fun _ => []) (fun _ => trivial) 0 (fun x => (fun (c : Cluster) (x : Step) => (fun _ => none)) x.1 x.2.1) fun x hp => Eq.mp (by kernel_rfl) (k_13_v x.1 x.2.1)
def i_20_0 (c : Cluster) (l : (List Step)) (i : Int) (n : Int) (d : Cluster) : Prop := 0 ≤ i ∧ i ≤ l.length ∧ l.length ≤ 200 ∧ 0 ≤ n ∧ n ≤ i ∧ d.checkE = 0 ∧ c.checkE = 0 ∧ runGo (l.drop i.toNat) d n = runGo l c 0
def k_20 : Con Tc Tc.dn := ⟨20, [.ty .cCluster, .ty .lStep], fun x => (fun (c : Cluster) (l : (List Step)) => True) x.1 x.2.1, [.cCluster, .cInt, .cInt], fun x => (fun (c : Cluster) (l : (List Step)) => runP c l) x.1 x.2.1⟩
theorem k_20_v (c : Cluster) (l : (List Step)) : True ∧ (c.checkE = (0 : Int) → c.checkE = (0 : Int)) ∧ (c.checkE = (0 : Int) → c.checkE = (0 : Int)) ∧ (c.checkE = (0 : Int) → c.checkE = (0 : Int)) ∧ (c.checkE = (0 : Int) ∧ (200 : Int) < (↑l.length : Int) → (Cluster.mk (Vtr.mk [] (0 : Int)) [] [] [] [] (0 : Int), (0 : Int), (2 : Int)) = runP c l) ∧ (¬c.checkE = (0 : Int) ∨ (↑l.length : Int) ≤ (200 : Int) → (¬c.checkE = (0 : Int) → (Cluster.mk (Vtr.mk [] (0 : Int)) [] [] [] [] (0 : Int), (0 : Int), c.checkE) = runP c l) ∧ (c.checkE = (0 : Int) → Clu.small c ∧ i_20_0 c l (0 : Int) (0 : Int) c ∧ ∀ (x x_1 : Int) (x_2 : Cluster), i_20_0 c l x x_1 x_2 → (x < (↑l.length : Int) → ((0 : Int) ≤ x ∧ x < (↑l.length : Int)) ∧ x_2.checkE = (0 : Int) ∧ ((stepP x_2 (gd (Step.mk (0 : Int) (0 : Int) ByteArray.empty) l x.toNat)).snd = (0 : Int) → I64 (x_1 + (1 : Int)) ∧ I64 (x + (1 : Int)) ∧ i_20_0 c l (x + (1 : Int)) (x_1 + (1 : Int)) (stepP x_2 (gd (Step.mk (0 : Int) (0 : Int) ByteArray.empty) l x.toNat)).fst ∧ ((↑l.length : Int) - (x + (1 : Int))).toNat < ((↑l.length : Int) - x).toNat) ∧ (¬(stepP x_2 (gd (Step.mk (0 : Int) (0 : Int) ByteArray.empty) l x.toNat)).snd = (0 : Int) → I64 (x + (1 : Int)) ∧ i_20_0 c l (x + (1 : Int)) x_1 x_2 ∧ ((↑l.length : Int) - (x + (1 : Int))).toNat < ((↑l.length : Int) - x).toNat)) ∧ ((↑l.length : Int) ≤ x → (x_2, x_1, (0 : Int)) = runP c l))) := by
  have hso := @step_ok
  have hcl := @check_len c
  (repeat' (first | apply And.intro | intro _)) <;> first | assumption | trivial | omega | (grind [runP, runGo, i_20_0, I64, drop_gd, drop_end, Cluster.zero, small_of]) | trace_state
theorem k_20_ok : k_20.Ok Tryd.prog tD := con_ok tD_ok (Δ := [k_18, k_52, k_37]) ⟨k_18_ok, k_52_ok, k_37_ok, trivial⟩ (Ω := []) trivial k_20 F20_ok F20_call (fun _ => []) (fun _ => trivial) 0 (fun x => (fun (c : Cluster) (l : (List Step)) => (fun k => bif Nat.beq k 0 then some (.inv [.sl 30 .cInt, .sl 8 .cInt, .ce 0 .cCluster] (fun zv => (fun (i : Int) (n : Int) (d : Cluster) => i_20_0 c l i n d) zv.1 zv.2.1 zv.2.2.1) (fun zv => (fun (i : Int) (n : Int) (d : Cluster) => ((l.length : Int) - i).toNat) zv.1 zv.2.1 zv.2.2.1)) else none)) x.1 x.2.1) fun x hp => Eq.mp (by kernel_rfl) (k_20_v x.1 x.2.1)
open Go.RowKit
def passS : Step := ⟨3, 0, ⟨#[]⟩⟩
def satC (v : Vtr) (l : List Step) : Cluster × Bool := if (newC v).2 ≠ 0 then ((newC v).1, false) else ((runP (newC v).1 l).1, decide ((runP (newC v).1 l).2.2 = 0))
theorem rep_succ {i : Int} (h : 0 ≤ i) (x : Step) : List.replicate (i + 1).toNat x = List.replicate i.toNat x ++ [x] := by
  rw [show (i + 1).toNat = i.toNat + 1 by omega, List.replicate_succ']
def k_42 : Con Tc Tc.dn := ⟨42, [], fun _ => True, [.cVoters], fun _ => ⟨[1, 1, 1], 2⟩⟩
theorem k_42_v  : Vtr.mk [(1 : Int), (1 : Int), (1 : Int)] (2 : Int) = Vtr.mk [(1 : Int), (1 : Int), (1 : Int)] (2 : Int) := by
  rfl
theorem k_42_ok : k_42.Ok Tryd.prog tD := con_ok tD_ok (Δ := []) trivial (Ω := []) trivial k_42 F42_ok F42_call (fun _ => []) (fun _ => trivial) 0 (fun _ => fun _ => none) fun x hp => Eq.mp (by kernel_rfl) (k_42_v )
def k_30 : Con Tc Tc.dn := ⟨30, [.ty .cInt, .ty .cInt], fun x => (fun (t : Int) (w : Int) => True) x.1 x.2.1, [.cStamp], fun x => (fun (t : Int) (w : Int) => ⟨t, w⟩) x.1 x.2.1⟩
theorem k_30_v (t : Int) (w : Int) : Stp.mk t w = Stp.mk t w := by
  rfl
theorem k_30_ok : k_30.Ok Tryd.prog tD := con_ok tD_ok (Δ := []) trivial (Ω := []) trivial k_30 F30_ok F30_call (fun _ => []) (fun _ => trivial) 0 (fun x => (fun (t : Int) (w : Int) => (fun _ => none)) x.1 x.2.1) fun x hp => Eq.mp (by kernel_rfl) (k_30_v x.1 x.2.1)
def k_29 : Con Tc Tc.dn := ⟨29, [.ty .cInt, .ty .cInt, .ty .cStr], fun x => (fun (t : Int) (w : Int) (s : ByteArray) => True) x.1 x.2.1 x.2.2.1, [.cCopy], fun x => (fun (t : Int) (w : Int) (s : ByteArray) => ⟨⟨t, w⟩, s⟩) x.1 x.2.1 x.2.2.1⟩
theorem k_29_v (t : Int) (w : Int) (s : ByteArray) : True ∧ Copy.mk (Stp.mk t w) s = Copy.mk (Stp.mk t w) s := by
  (repeat' (first | apply And.intro | intro _)) <;> first | assumption | trivial | omega | (grind []) | trace_state
theorem k_29_ok : k_29.Ok Tryd.prog tD := con_ok tD_ok (Δ := [k_30]) ⟨k_30_ok, trivial⟩ (Ω := []) trivial k_29 F29_ok F29_call (fun _ => []) (fun _ => trivial) 0 (fun x => (fun (t : Int) (w : Int) (s : ByteArray) => (fun _ => none)) x.1 x.2.1 x.2.2.1) fun x hp => Eq.mp (by kernel_rfl) (k_29_v x.1 x.2.1 x.2.2.1)
def i_43_0 (n : Int) (out : (List Step)) (i : Int) : Prop := 0 ≤ i ∧ i ≤ n ∧ n ≤ 1000 ∧ out = List.replicate i.toNat passS
def k_43 : Con Tc Tc.dn := ⟨43, [.ty .cInt], fun x => (fun (n : Int) => 0 ≤ n ∧ n ≤ 1000) x.1, [.lStep], fun x => (fun (n : Int) => List.replicate n.toNat passS) x.1⟩
theorem k_43_v (n : Int) (hp : 0 ≤ n ∧ n ≤ 1000) : i_43_0 n [] (0 : Int) ∧ ∀ (x : List Step) (x_1 : Int), i_43_0 n x x_1 → (x_1 < n → (x.length + (1 : Nat)) * (32 : Nat) ≤ (140737488355328 : Nat) ∧ I64 (x_1 + (1 : Int)) ∧ i_43_0 n (x ++ [Step.mk (3 : Int) (0 : Int) (ByteArray.mk #[])]) (x_1 + (1 : Int)) ∧ (n - (x_1 + (1 : Int))).toNat < (n - x_1).toNat) ∧ (n ≤ x_1 → x = List.replicate n.toNat passS) := by
  (repeat' (first | apply And.intro | intro _)) <;> first | assumption | trivial | omega | (grind [i_43_0, rep_succ, passS, I64, List.length_replicate]) | trace_state
theorem k_43_ok : k_43.Ok Tryd.prog tD := con_ok tD_ok (Δ := []) trivial (Ω := []) trivial k_43 F43_ok F43_call (fun _ => []) (fun _ => trivial) 0 (fun x => (fun (n : Int) => (fun k => bif Nat.beq k 0 then some (.inv [.ow 3 .cStep, .sl 4 .cInt] (fun zv => (fun (out : (List Step)) (i : Int) => i_43_0 n out i) zv.1 zv.2.1) (fun zv => (fun (out : (List Step)) (i : Int) => (n - i).toNat) zv.1 zv.2.1)) else none)) x.1) fun x hp => Eq.mp (by kernel_rfl) (k_43_v x.1 hp)
def k_22 : Con Tc Tc.dn := ⟨22, [.ty .cVoters, .ty .lStep], fun x => (fun (v : Vtr) (l : (List Step)) => True) x.1 x.2.1, [.cCluster, .cBool], fun x => (fun (v : Vtr) (l : (List Step)) => satC v l) x.1 x.2.1⟩
theorem k_22_v (v : Vtr) (l : (List Step)) : True ∧ (¬(newC v).snd = (0 : Int) → ((newC v).fst, false) = satC v l) ∧ ((newC v).snd = (0 : Int) → True ∧ ((runP (newC v).fst l).fst, (runP (newC v).fst l).snd.snd == (0 : Int)) = satC v l) := by
  (repeat' (first | apply And.intro | intro _)) <;> first | assumption | trivial | omega | (grind [satC]) | trace_state
theorem k_22_ok : k_22.Ok Tryd.prog tD := con_ok tD_ok (Δ := [k_12, k_20]) ⟨k_12_ok, k_20_ok, trivial⟩ (Ω := []) trivial k_22 F22_ok F22_call (fun _ => []) (fun _ => trivial) 0 (fun x => (fun (v : Vtr) (l : (List Step)) => (fun _ => none)) x.1 x.2.1) fun x hp => Eq.mp (by kernel_rfl) (k_22_v x.1 x.2.1)
def k_16 : Con Tc Tc.dn := ⟨16, [], fun _ => True, [.cBool], fun _ => true⟩
abbrev z16_1 := (Ask.mk (0 : Int) (0 : Int) (0 : Int) ByteArray.empty (Copy.mk (Stp.mk (0 : Int) (0 : Int)) ByteArray.empty) (U64.mk (0 : Nat) LY.u64._proof_1))
abbrev z16_6 := (newC (Vtr.mk [(1 : Int), (1 : Int), (1 : Int)] (2 : Int)))
abbrev z16_0 := (runP z16_6.fst ([Step.mk (2 : Int) (0 : Int) (ByteArray.mk #[(97 : UInt8)])] ++ List.replicate (Int.toNat (12 : Int)) passS ++ [Step.mk (1 : Int) (0 : Int) (ByteArray.mk #[])] ++ List.replicate (Int.toNat (12 : Int)) passS))
abbrev z16_3 := ((z16_6.snd = (0 : Int) ∧ z16_0.snd.snd = (0 : Int)) ∧ z16_0.snd.fst = (26 : Int))
abbrev z16_2 := (((z16_3 ∧ (↑z16_0.fst.asks.length : Int) = (2 : Int)) ∧ (gd z16_1 z16_0.fst.asks (Int.toNat (0 : Int))).phase = (3 : Int)) ∧ (gd z16_1 z16_0.fst.asks (Int.toNat (1 : Int))).best.at_.time = (1 : Int) ∧ (gd z16_1 z16_0.fst.asks (Int.toNat (1 : Int))).best.at_.who = (0 : Int) ∧ (gd z16_1 z16_0.fst.asks (Int.toNat (1 : Int))).best.data = ByteArray.mk #[(97 : UInt8)])
abbrev z16_4 := (((z16_3 ∧ (↑z16_0.fst.asks.length : Int) = (2 : Int)) ∧ (gd z16_1 z16_0.fst.asks (Int.toNat (0 : Int))).phase = (3 : Int)) ∧ (gd z16_1 z16_0.fst.asks (Int.toNat (1 : Int))).best.at_.time = (1 : Int) ∧ (gd z16_1 z16_0.fst.asks (Int.toNat (1 : Int))).best.at_.who = (0 : Int) ∧ (gd z16_1 z16_0.fst.asks (Int.toNat (1 : Int))).best.data = ByteArray.mk #[(97 : UInt8)] → ((z16_3 ∧ (↑z16_0.fst.asks.length : Int) = (2 : Int)) ∧ (gd z16_1 z16_0.fst.asks (Int.toNat (0 : Int))).phase = (3 : Int)) ∧ (gd z16_1 z16_0.fst.asks (Int.toNat (1 : Int))).best.at_.time = (1 : Int) ∧ (gd z16_1 z16_0.fst.asks (Int.toNat (1 : Int))).best.at_.who = (0 : Int) ∧ (gd z16_1 z16_0.fst.asks (Int.toNat (1 : Int))).best.data = ByteArray.mk #[(97 : UInt8)])
abbrev z16_5 := ((z16_3 ∧ (↑z16_0.fst.asks.length : Int) = (2 : Int)) ∧ (gd z16_1 z16_0.fst.asks (Int.toNat (0 : Int))).phase = (3 : Int) → (z16_3 ∧ (↑z16_0.fst.asks.length : Int) = (2 : Int)) ∧ (gd z16_1 z16_0.fst.asks (Int.toNat (0 : Int))).phase = (3 : Int))
abbrev z16_7 := (gd (Term.mk (0 : Int) (0 : Int)) z16_0.fst.terms (Int.toNat (1 : Int)))
abbrev z16_8 := (((z16_2 ∧ (0 : Int) < z16_7.end_) ∧ (↑z16_0.fst.net.length : Int) = (0 : Int)) ∧ (doP z16_6.fst (Step.mk (3 : Int) (0 : Int) (ByteArray.mk #[]))).snd = (3 : Int) → ((z16_2 ∧ (0 : Int) < z16_7.end_) ∧ (↑z16_0.fst.net.length : Int) = (0 : Int)) ∧ (doP z16_6.fst (Step.mk (3 : Int) (0 : Int) (ByteArray.mk #[]))).snd = (3 : Int))
abbrev z16_9 := (z16_3 ∧ (↑z16_0.fst.asks.length : Int) = (2 : Int) → z16_3 ∧ (↑z16_0.fst.asks.length : Int) = (2 : Int))
abbrev z16_10 := ((z16_6.snd = (0 : Int) ∧ z16_0.snd.snd = (0 : Int)) ∧ z16_0.snd.fst = (26 : Int) → (z16_6.snd = (0 : Int) ∧ z16_0.snd.snd = (0 : Int)) ∧ z16_0.snd.fst = (26 : Int))
theorem k_16_v  : True ∧ True ∧ ((0 : Int) ≤ (12 : Int) ∧ (12 : Int) ≤ (1000 : Int)) ∧ ((1 : Nat) + (List.replicate (Int.toNat (12 : Int)) passS).length) * (32 : Nat) ≤ (140737488355328 : Nat) ∧ (([Step.mk (2 : Int) (0 : Int) (ByteArray.mk #[(97 : UInt8)])] ++ List.replicate (Int.toNat (12 : Int)) passS).length + (1 : Nat)) * (32 : Nat) ≤ (140737488355328 : Nat) ∧ ((0 : Int) ≤ (12 : Int) ∧ (12 : Int) ≤ (1000 : Int)) ∧ (([Step.mk (2 : Int) (0 : Int) (ByteArray.mk #[(97 : UInt8)])] ++ List.replicate (Int.toNat (12 : Int)) passS ++ [Step.mk (1 : Int) (0 : Int) (ByteArray.mk #[])]).length + (List.replicate (Int.toNat (12 : Int)) passS).length) * (32 : Nat) ≤ (140737488355328 : Nat) ∧ True ∧ True ∧ (z16_6.snd = (0 : Int) → z16_6.snd = (0 : Int)) ∧ (z16_6.snd = (0 : Int) → z16_6.snd = (0 : Int)) ∧ (z16_6.snd = (0 : Int) ∧ z16_0.snd.snd = (0 : Int) → z16_6.snd = (0 : Int) ∧ z16_0.snd.snd = (0 : Int)) ∧ (z16_6.snd = (0 : Int) ∧ z16_0.snd.snd = (0 : Int) → z16_6.snd = (0 : Int) ∧ z16_0.snd.snd = (0 : Int)) ∧ z16_10 ∧ z16_10 ∧ z16_10 ∧ z16_10 ∧ z16_9 ∧ z16_9 ∧ (z16_3 ∧ (↑z16_0.fst.asks.length : Int) = (2 : Int) → (0 : Int) ≤ (0 : Int) ∧ (0 : Int) < (↑z16_0.fst.asks.length : Int)) ∧ z16_9 ∧ z16_9 ∧ z16_9 ∧ z16_9 ∧ z16_5 ∧ z16_5 ∧ ((z16_3 ∧ (↑z16_0.fst.asks.length : Int) = (2 : Int)) ∧ (gd z16_1 z16_0.fst.asks (Int.toNat (0 : Int))).phase = (3 : Int) → (0 : Int) ≤ (1 : Int) ∧ (1 : Int) < (↑z16_0.fst.asks.length : Int)) ∧ z16_5 ∧ z16_5 ∧ ((z16_3 ∧ (↑z16_0.fst.asks.length : Int) = (2 : Int)) ∧ (gd z16_1 z16_0.fst.asks (Int.toNat (0 : Int))).phase = (3 : Int) → True) ∧ z16_5 ∧ z16_5 ∧ z16_5 ∧ z16_4 ∧ z16_4 ∧ (((z16_3 ∧ (↑z16_0.fst.asks.length : Int) = (2 : Int)) ∧ (gd z16_1 z16_0.fst.asks (Int.toNat (0 : Int))).phase = (3 : Int)) ∧ (gd z16_1 z16_0.fst.asks (Int.toNat (1 : Int))).best.at_.time = (1 : Int) ∧ (gd z16_1 z16_0.fst.asks (Int.toNat (1 : Int))).best.at_.who = (0 : Int) ∧ (gd z16_1 z16_0.fst.asks (Int.toNat (1 : Int))).best.data = ByteArray.mk #[(97 : UInt8)] → (0 : Int) ≤ (1 : Int) ∧ (1 : Int) < (↑z16_0.fst.terms.length : Int)) ∧ z16_4 ∧ z16_4 ∧ z16_4 ∧ z16_4 ∧ (z16_2 ∧ (0 : Int) < z16_7.end_ → z16_2 ∧ (0 : Int) < z16_7.end_) ∧ (z16_2 ∧ (0 : Int) < z16_7.end_ → z16_2 ∧ (0 : Int) < z16_7.end_) ∧ (z16_2 ∧ (0 : Int) < z16_7.end_ → z16_2 ∧ (0 : Int) < z16_7.end_) ∧ (z16_2 ∧ (0 : Int) < z16_7.end_ → z16_2 ∧ (0 : Int) < z16_7.end_) ∧ ((z16_2 ∧ (0 : Int) < z16_7.end_) ∧ (↑z16_0.fst.net.length : Int) = (0 : Int) → (z16_2 ∧ (0 : Int) < z16_7.end_) ∧ (↑z16_0.fst.net.length : Int) = (0 : Int)) ∧ ((z16_2 ∧ (0 : Int) < z16_7.end_) ∧ (↑z16_0.fst.net.length : Int) = (0 : Int) → (z16_2 ∧ (0 : Int) < z16_7.end_) ∧ (↑z16_0.fst.net.length : Int) = (0 : Int)) ∧ z16_8 ∧ (((z16_2 ∧ (0 : Int) < z16_7.end_) ∧ (↑z16_0.fst.net.length : Int) = (0 : Int)) ∧ (doP z16_6.fst (Step.mk (3 : Int) (0 : Int) (ByteArray.mk #[]))).snd = (3 : Int) → True) ∧ z16_8 ∧ z16_8 ∧ (z16_6.snd == (0 : Int) && z16_0.snd.snd == (0 : Int) && z16_0.snd.fst == (26 : Int) && (↑z16_0.fst.asks.length : Int) == (2 : Int) && (gd z16_1 z16_0.fst.asks (Int.toNat (0 : Int))).phase == (3 : Int) && ((gd z16_1 z16_0.fst.asks (Int.toNat (1 : Int))).best.at_.time == (1 : Int) && ((gd z16_1 z16_0.fst.asks (Int.toNat (1 : Int))).best.at_.who == (0 : Int) && strEq (gd z16_1 z16_0.fst.asks (Int.toNat (1 : Int))).best.data (ByteArray.mk #[(97 : UInt8)]))) && decide ((0 : Int) < z16_7.end_) && (↑z16_0.fst.net.length : Int) == (0 : Int) && (doP z16_6.fst (Step.mk (3 : Int) (0 : Int) (ByteArray.mk #[]))).snd == (3 : Int) && z16_6.fst.checkE == (0 : Int)) = true := by
  delta z16_10 z16_9 z16_8 z16_7 z16_6 z16_5 z16_4 z16_3 z16_2 z16_1 z16_0
  (repeat' (first | apply And.intro | intro _)) <;> first | assumption | trivial | (decide +kernel) | trace_state
theorem k_16_ok : k_16.Ok Tryd.prog tD := con_ok tD_ok (Δ := [k_42, k_29, k_43, k_12, k_20, k_13, k_18]) ⟨k_42_ok, k_29_ok, k_43_ok, k_12_ok, k_20_ok, k_13_ok, k_18_ok, trivial⟩ (Ω := []) trivial k_16 F16_ok F16_call (fun _ => []) (fun _ => trivial) 0 (fun _ => fun _ => none) fun x hp => Eq.mp (by kernel_rfl) (k_16_v )
def Cluster.new (v : Vtr) : Cluster := ⟨v, List.replicate v.weights.length Copy.zero, [], [], [], 0⟩
theorem new_check {v : Vtr} (h : qcheckP v.weights v.need = 0) : (Cluster.new v).checkE = 0 := by
  refine Cluster.ok_iff.2 ⟨h, by simp [Cluster.new], fun x hx => ?_, by simp [Cluster.new], by simp [Cluster.new], fun j a hj => by simp [Cluster.new] at hj, fun j a t hj => by simp [Cluster.new] at hj, by simp [Cluster.new], fun m hm => by simp [Cluster.new] at hm, by simp [Cluster.new]⟩
  simp only [Cluster.new] at hx
  rw [List.eq_of_mem_replicate hx]; decide
theorem sat_new {v : Vtr} {l : List Step} (h : (satC v l).2 = true) : qcheckP v.weights v.need = 0 ∧ (satC v l).1 = (runGo l (Cluster.new v) 0).1 := by
  unfold satC newC at h ⊢
  by_cases hq : qcheckP v.weights v.need ≠ 0
  · rw [if_pos hq] at h; simp only [ne_eq, hq, not_false_eq_true, if_true] at h; simp at h
  · rw [if_neg hq] at h ⊢
    have hq' : qcheckP v.weights v.need = 0 := by omega
    rw [if_neg (by simp)] at h ⊢
    refine ⟨hq', ?_⟩
    unfold runP at h ⊢
    have hn := new_check hq'
    have hn' : ¬ (⟨v, List.replicate v.weights.length Copy.zero, [], [], [], 0⟩ : Cluster).checkE ≠ 0 := fun hh => hh hn
    simp only at h ⊢
    rw [if_neg hn'] at h ⊢
    split at h
    · simp at h
    · rename_i h3; rw [if_neg h3]; rfl
theorem nodesGo_sum : ∀ (ws : List Int) (a : Int), (nodesGo ws a).2 = 0 → (nodesGo ws a).1 = a + lsum ws
  | [], a, _ => by simp [nodesGo, lsum]
  | w :: r, a, h => by
    unfold nodesGo at h ⊢
    by_cases hw : 0 ≤ w ∧ w ≤ 100
    · rw [if_pos hw] at h ⊢; rw [nodesGo_sum r _ h]; simp only [lsum]; omega
    · rw [if_neg hw] at h; simp at h
theorem nodes_sum {ws : List Int} (h : (nodesP ws).2 = 0) : (nodesP ws).1 = lsum ws := by
  unfold nodesP at h ⊢
  by_cases h1 : ws.length = 0
  · rw [if_pos h1] at h; simp at h
  · by_cases h2 : ws.length > 12
    · rw [if_neg h1, if_pos h2] at h; simp at h
    · rw [if_neg h1, if_neg h2] at h ⊢; rw [nodesGo_sum ws 0 h]; omega
theorem qc_need {ws : List Int} {need : Int} (h : qcheckP ws need = 0) : 1 ≤ need ∧ need ≤ lsum ws ∧ lsum ws < 2 * need ∧ lsum ws ≤ 1200 := by
  have hn := qc_nodes h
  have hb := nodes_bd hn
  have hs := nodes_sum hn
  unfold qcheckP at h
  rw [if_neg (fun hh => hh hn)] at h
  by_cases h1 : need < 1 ∨ need > (nodesP ws).1
  · rw [if_pos h1] at h; simp at h
  · rw [if_neg h1] at h
    by_cases h2 : 2 * need ≤ (nodesP ws).1
    · rw [if_pos h2] at h; simp at h
    · omega
def inS (x k : Nat) : Bool := x / 2 ^ k % 2 == 1
theorem inS_bit {x n : Nat} : inS x n = x.testBit n := by
  rw [Nat.testBit_eq_decide_div_mod_eq]; unfold inS; rw [Bool.eq_iff_iff]; simp
theorem bsum_full : ∀ (ws : List Int) (x : Nat), (∀ j, j < ws.length → inS x j = true) → bsum ws x = lsum ws
  | [], x, _ => rfl
  | w :: ws, x, h => by
    have h0 := h 0 (by simp)
    have h1 : x % 2 = 1 := by simpa [inS] using h0
    have ih := bsum_full ws (x / 2) fun j hj => by
      have := h (j + 1) (by simp; omega)
      rw [inS_bit] at this ⊢
      rw [Nat.testBit_succ] at this; exact this
    simp only [bsum, if_pos h1, lsum, ih]
theorem bit_mem {x : U64} {k : Int} {n : Nat} (hk : 0 ≤ k ∧ k < 64) : inS (opU .or x (bitU k)).n n = true ↔ inS x.n n = true ∨ n = k.toNat := by
  rw [opU_n, bitU_n hk]
  show inS (x.n ||| 2 ^ k.toNat) n = true ↔ _
  rw [inS_bit, inS_bit, Nat.testBit_or, Nat.testBit_two_pow]
  simp
  constructor <;> rintro (h | h) <;> first | exact .inl h | exact .inr h.symm
theorem enough_iff {ws : List Int} {need : Int} {x : Nat} (hq : qcheckP ws need = 0) (hx : x < 2 ^ ws.length) : (enoughP ws need x).1 = true ↔ need ≤ bsum ws x := by
  unfold enoughP
  rw [if_neg (fun hh => hh hq), sumP_0 (qc_nodes hq) hx]
  simp
theorem maxP_1 {s : Stp} (h : (maxP [s]).2 = 0) : (maxP [s]).1 = s ∧ s.okS := by
  have hs : s.okS := by
    unfold maxP at h
    by_cases hh : s.okS
    · exact hh
    · exfalso
      rw [if_neg (by simp)] at h
      have : chkL [s] = 3 := by unfold chkL Stp.checkE; rw [if_neg hh]; rfl
      rw [this] at h; simp at h
  refine ⟨?_, hs⟩
  have hc : chkL [s] = 0 := by unfold chkL Stp.checkE; rw [if_pos hs]; rfl
  unfold maxP
  rw [if_neg (by simp), if_neg (by omega)]
  show (if s.cmp ⟨0, 0⟩ > 0 then s else ⟨0, 0⟩) = s
  unfold Stp.okS at hs
  split
  · rfl
  · rename_i h1
    unfold Stp.cmp cmpP at h1
    obtain ⟨t, w⟩ := s
    simp only at hs h1 ⊢
    rw [Stp.mk.injEq]
    repeat' split at h1
    all_goals omega
theorem next_1 {s : Stp} {who : Int} (h : (nextL [s] who).2 = 0) : (nextL [s] who).1 = ⟨s.time + 1, who⟩ := by
  unfold nextL at h ⊢
  split at h
  · rename_i h1; exact absurd h h1
  · rename_i h1
    split at h
    · simp at h
    · rename_i h2; rw [if_neg h1, if_neg h2, (maxP_1 (by omega)).1]
theorem heard_best (a : Ask) (m : Msg) : (heardA a m).best = if a.phase = 1 then a.best.raw m.copy else a.best := rfl
theorem get_app {α : Type} {l : List α} {x y : α} {j : Nat} (h : (l ++ [x])[j]? = some y) : (j < l.length ∧ l[j]? = some y) ∨ (j = l.length ∧ y = x) := by
  rcases Nat.lt_or_ge j l.length with hlt | hge
  · rw [List.getElem?_append_left hlt] at h; exact .inl ⟨hlt, h⟩
  · rw [List.getElem?_append_right hge, List.getElem?_singleton] at h
    split at h
    · simp at h; exact .inr ⟨by omega, h.symm⟩
    · simp at h
def From (asks : List Ask) (x : Copy) : Prop := (x.at_ = ⟨0, 0⟩ ∧ x.data = ⟨#[]⟩) ∨ ∃ a : Ask, asks[x.at_.who.toNat]? = some a ∧ 0 ≤ x.at_.who ∧ 1 ≤ x.at_.time ∧ a.kind = 2 ∧ a.data = x.data ∧ 2 ≤ a.phase ∧ a.best = x
theorem bsum_0 : ∀ ws : List Int, bsum ws 0 = 0
  | [] => rfl
  | w :: ws => by simp only [bsum]; rw [if_neg (by decide), Int.zero_add]; exact (bsum_0 ws)
theorem mem_erase_or {α : Type} {l : List α} {i : Nat} {d x : α} (h : x ∈ l) : x ∈ l.eraseIdx i ∨ x = gd d l i := by
  obtain ⟨j, h1, h2⟩ := List.getElem_of_mem h
  by_cases hj : j = i
  · subst hj
    right
    have := gd_get (d := d) h1
    rw [List.getElem?_eq_getElem h1, h2] at this
    exact Option.some.inj this
  · exact .inl (List.mem_eraseIdx_iff_getElem?.2 ⟨j, hj, by rw [List.getElem?_eq_getElem h1, h2]⟩)
theorem and_bit {x : U64} {k : Int} (h : 0 ≤ k ∧ k < 64) : ((opU .and x (bitU k)).n : Int) = 0 ↔ inS x.n k.toNat = false := by
  rw [opU_n, bitU_n h]
  show ((x.n &&& 2 ^ k.toNat : Nat) : Int) = 0 ↔ _
  rw [inS_bit]
  constructor
  · intro h0
    have h1 : x.n &&& 2 ^ k.toNat = 0 := by omega
    have h2 : (x.n &&& 2 ^ k.toNat).testBit k.toNat = false := by rw [h1]; simp
    rw [Nat.testBit_and, Nat.testBit_two_pow] at h2
    simpa using h2
  · intro h0
    have h1 : x.n &&& 2 ^ k.toNat = 0 := Nat.eq_of_testBit_eq fun i => by
      rw [Nat.testBit_and, Nat.testBit_two_pow]
      by_cases hi : k.toNat = i
      · subst hi; simp [h0]
      · simp [hi]
    omega
theorem next_fine {s : Stp} {who : Int} (hs : s.okS) (hw : 0 ≤ who ∧ who ≤ 31) (ht : s.time < 1000000) : (nextL [s] who).2 = 0 := by
  have hc : chkL [s] = 0 := by unfold chkL Stp.checkE; rw [if_pos hs]; rfl
  have hm : (maxP [s]).2 = 0 := by unfold maxP; rw [if_neg (by simp), if_neg (by omega)]
  have h1 := maxP_1 hm
  unfold nextL
  rw [if_neg (by omega), h1.1, if_neg (by omega)]
theorem hear_live {v : Vtr} {a : Ask} {m : Msg} (ha : a.checkE v.weights v.need = 0) (hm : m.checkE = 0) (hop : m.op = a.op) (hn : m.node < v.weights.length) (ht : (heardA a m).best.at_.time < 1000000) :
    (hearA v a m = (a, [], 0) ∧ (m.kind ≠ wantsA a.phase ∨ inS a.heard.n m.node.toNat = true)) ∨
    (m.kind = wantsA a.phase ∧
      ((hearA v a m = (heardA a m, [], 0) ∧ ¬ v.need ≤ bsum v.weights (heardA a m).heard.n) ∨
       hearA v a m = (⟨a.op, a.kind, 3, a.data, (heardA a m).best, (heardA a m).heard⟩, [], 0) ∨
       ∃ b : Copy, b.at_.time ≤ (heardA a m).best.at_.time + 1 ∧ hearA v a m = (⟨a.op, a.kind, 2, a.data, b, uN (Int.toNat 0)⟩, toAllM v.weights.length ⟨3, a.op, 0, b⟩, 0))) := by
  have h := ask_ok ha
  have hi := msg_in hm
  have hl := qc_len h.1
  have hh := heard_ok ha hm hn
  have hho := ask_ok hh
  have hw : m.kind = wantsA a.phase → a.phase = 1 ∨ a.phase = 2 := by unfold wantsA; intro h; split at h <;> first | omega | (split at h <;> omega)
  unfold hearA
  rw [if_neg (by omega), if_neg (by omega)]
  unfold hearT
  split
  · rename_i c1
    refine .inl ⟨rfl, ?_⟩
    by_cases h1 : m.kind = wantsA a.phase
    · right
      have h2 : ¬ ((opU .and a.heard (bitU m.node)).n : Int) = 0 := by
        rcases c1 with c | c | c | c
        · exact absurd hop c
        · exact absurd h1 c
        · omega
        · exact c
      rw [and_bit (by omega)] at h2
      simpa using h2
    · exact .inl h1
  · rename_i c1
    have c1' : m.kind = wantsA a.phase := by omega
    have hp := hw c1'
    refine .inr ⟨c1', ?_⟩
    split
    · rename_i c2
      refine .inl ⟨rfl, fun hc => c2 ((enough_iff h.1 hho.2.2.2.2.2.2.2).2 hc)⟩
    · right
      split
      · exact .inl rfl
      · rename_i c3
        right
        split
        · exact ⟨_, by omega, rfl⟩
        · have hnx := next_fine (who := a.op) (copy_ok.1 hho.2.2.2.2.2.2.1).1 (by omega) ht
          rw [if_pos hnx]
          refine ⟨_, ?_, rfl⟩
          simp only [next_1 hnx]; omega
structure InvL (c : Cluster) : Prop where
  tn : ∀ x, x ∈ c.nodes → x.at_.time ≤ c.clock
  ta : ∀ a, a ∈ c.asks → a.best.at_.time ≤ c.clock
  tm : ∀ m, m ∈ c.net → m.copy.at_.time ≤ c.clock
  few : ∀ (k : Nat) a, c.asks[k]? = some a → a.phase ≠ 3 → ¬ c.voters.need ≤ bsum c.voters.weights a.heard.n
  go : ∀ (k : Nat) a, c.asks[k]? = some a → a.phase ≠ 3 → ∀ n, n < c.voters.weights.length → inS a.heard.n n = false → ∃ m : Msg, m ∈ c.net ∧ m.op = k ∧ m.node = n ∧ (m.kind = wantsA a.phase ∨ m.kind = wantsA a.phase - 1)
theorem toAll_mem {n : Nat} {m : Msg} {j : Nat} (h : j < n) : (⟨m.kind, m.op, (j : Int), m.copy⟩ : Msg) ∈ toAllM n m := by
  unfold toAllM
  exact List.mem_map.2 ⟨j, List.mem_range.2 h, rfl⟩
theorem raw_time {a b : Copy} {t : Int} (ha : a.at_.time ≤ t) (hb : b.at_.time ≤ t) : (a.raw b).at_.time ≤ t := by unfold Copy.raw; split <;> assumption
theorem invL_step {c : Cluster} {x : Step} (hc : c.checkE = 0) (I : InvL c) (h : (stepP c x).2 = 0) (hx : x.kind ≠ 4) : InvL (stepP c x).1 := by
  have ok := Cluster.ok_iff.1 hc
  have hl := qc_len ok.q
  have hq := qc_need ok.q
  have hclk := ok.clk
  have hnl := ok.nl
  have htl := ok.tl
  obtain ⟨hk, ⟨kind, data, hkd, hal, hb, e, hn⟩ | ⟨m, h0, h1, hm, hmem, ⟨_, e, hn⟩ | ⟨h4, e⟩ | ⟨_, e, hn⟩⟩⟩ := step_cases hc h
  · obtain ⟨b1, b2⟩ := begin_ok hb
    have bo := ask_ok b2
    rw [e, b1]
    refine ⟨fun x hx => ?_, fun a ha => ?_, fun q hq => ?_, fun k a ha hp => ?_, fun k a ha hp n hn hin => ?_⟩
    · have := I.tn x hx; simp only; omega
    · simp only at ha ⊢
      rcases List.mem_append.1 ha with ha | ha
      · have := I.ta a ha; omega
      · simp at ha; subst ha; simp only [Ask.new]; omega
    · simp only at hq ⊢
      rcases List.mem_append.1 hq with hq | hq
      · have := I.tm q hq; omega
      · obtain ⟨_, _, _, _, _, q6⟩ := toAll_ok (by omega) bo.2.1 (qc_len ok.q) (by decide) (.inr rfl) q hq
        rw [q6]; simp only; omega
    · rcases get_app ha with ⟨_, ha⟩ | ⟨_, rfl⟩
      · exact I.few k a ha hp
      · have : (Ask.new c.asks.length kind data).heard.n = 0 := rfl
        simp only; rw [this, bsum_0]; omega
    · rcases get_app ha with ⟨_, ha⟩ | ⟨hk, rfl⟩
      · obtain ⟨m, q1, q2⟩ := I.go k a ha hp n hn hin
        exact ⟨m, List.mem_append_left _ q1, q2⟩
      · refine ⟨_, List.mem_append_right _ (toAll_mem (j := n) hn), by simp only; omega, rfl, ?_⟩
        right; rfl
  · rw [e]
    refine ⟨fun x hx => ?_, fun a ha => ?_, fun q hq => ?_, I.few, fun k a ha hp n hn hin => ?_⟩
    · have := I.tn x hx; simp only; omega
    · have := I.ta a ha; simp only; omega
    · simp only at hq ⊢
      rcases List.mem_append.1 hq with hq | hq
      · have := I.tm q hq; omega
      · simp at hq; subst hq; have := I.tm q hmem; omega
    · obtain ⟨m, q1, q2⟩ := I.go k a ha hp n hn hin
      exact ⟨m, List.mem_append_left _ q1, q2⟩
  · exact absurd h4 hx
  · rw [e]
    have om := ok.net m hmem
    have hi := msg_in om.1
    have tmm := I.tm m hmem
    have erase : ∀ q, q ∈ c.net → q ∈ c.net.eraseIdx x.n.toNat ∨ q = m := fun q hq => by rw [hm]; exact mem_erase_or hq
    unfold passC
    split
    · rename_i hp
      have hget := gd_get (d := Copy.nil) (xs := c.nodes) (i := m.node.toNat) (by omega)
      simp only
      generalize gd Copy.nil c.nodes m.node.toNat = nd at hget
      have hcn := ok.cop _ (List.mem_of_getElem? hget)
      have tnd := I.tn _ (List.mem_of_getElem? hget)
      have hs : (serveA nd m).1.at_.time ≤ c.clock ∧ (∀ q, q ∈ (serveA nd m).2.1 → q.copy.at_.time ≤ c.clock) ∧ ∃ q : Msg, q ∈ (serveA nd m).2.1 ∧ q.op = m.op ∧ q.node = m.node ∧ q.kind = m.kind + 1 := by
        unfold serveA
        rw [if_neg (by omega), if_neg (by omega)]
        split
        · rename_i hk1
          exact ⟨tnd, fun q hq => by simp at hq; subst hq; exact tnd, _, List.mem_singleton.2 rfl, rfl, rfl, by simp only; omega⟩
        · rw [if_pos (by omega)]
          exact ⟨raw_time tnd tmm, fun q hq => by simp at hq; subst hq; simp only; omega, _, List.mem_singleton.2 rfl, rfl, rfl, by simp only; omega⟩
      obtain ⟨s1, s2, q0, s3, s4, s5, s6⟩ := hs
      refine ⟨fun x hx => ?_, fun a ha => ?_, fun q hq => ?_, I.few, fun k a ha hp n hn hin => ?_⟩
      · simp only at hx ⊢
        rcases List.mem_or_eq_of_mem_set hx with hx | rfl
        · have := I.tn x hx; omega
        · omega
      · have := I.ta a ha; simp only; omega
      · simp only at hq ⊢
        rcases List.mem_append.1 hq with hq | hq
        · have := I.tm q (mem_erase hq); omega
        · have := s2 q hq; omega
      · obtain ⟨q, q1, q2, q3, q4⟩ := I.go k a ha hp n hn hin
        rcases erase q q1 with q5 | rfl
        · exact ⟨q, List.mem_append_left _ q5, q2, q3, q4⟩
        · refine ⟨q0, List.mem_append_right _ s3, by omega, by omega, .inl ?_⟩
          have : wantsA a.phase = 2 ∨ wantsA a.phase = 4 ∨ wantsA a.phase = 0 := by unfold wantsA; split <;> first | omega | (split <;> omega)
          omega
    · rename_i hp
      have hget := gd_get (d := Ask.nil) (xs := c.asks) (i := m.op.toNat) (by omega)
      simp only
      generalize gd Ask.nil c.asks m.op.toNat = a0 at hget
      have hca := ok.ask _ _ hget
      have hlt := (List.getElem?_eq_some_iff.1 hget).1
      have ta0 := I.ta _ (List.mem_of_getElem? hget)
      have tH : (heardA a0 m).best.at_.time ≤ c.clock := by
        rw [heard_best]; split
        · exact raw_time ta0 tmm
        · exact ta0
      have cases := hear_live hca.2 om.1 (by rw [hca.1]; omega) (by omega) (show (heardA a0 m).best.at_.time < 1000000 by omega)
      have other : ∀ {k : Nat} {a : Ask}, c.asks[k]? = some a → k ≠ m.op.toNat → a.phase ≠ 3 → ∀ out : List Msg, ∀ n, n < c.voters.weights.length → inS a.heard.n n = false → ∃ q : Msg, q ∈ c.net.eraseIdx x.n.toNat ++ out ∧ q.op = k ∧ q.node = n ∧ (q.kind = wantsA a.phase ∨ q.kind = wantsA a.phase - 1) := fun {k a} ha hne hp out n hn hin => by
        obtain ⟨q, q1, q2, q3, q4⟩ := I.go k a ha hp n hn hin
        rcases erase q q1 with q5 | rfl
        · exact ⟨q, List.mem_append_left _ q5, q2, q3, q4⟩
        · omega
      have build : ∀ (a' : Ask) (out : List Msg), hearA c.voters a0 m = (a', out, 0) → a'.best.at_.time ≤ c.clock + 1 → (∀ q, q ∈ out → q.copy.at_.time ≤ c.clock + 1) → (a'.phase ≠ 3 → ¬ c.voters.need ≤ bsum c.voters.weights a'.heard.n) → (a'.phase ≠ 3 → ∀ n, n < c.voters.weights.length → inS a'.heard.n n = false → ∃ q : Msg, q ∈ c.net.eraseIdx x.n.toNat ++ out ∧ q.op = m.op.toNat ∧ q.node = n ∧ (q.kind = wantsA a'.phase ∨ q.kind = wantsA a'.phase - 1)) →
          InvL ⟨c.voters, c.nodes, c.asks.set m.op.toNat (hearA c.voters a0 m).1, if (hearA c.voters a0 m).1.phase = 3 ∧ a0.phase ≠ 3 then c.terms.set m.op.toNat ⟨(gd ⟨0, 0⟩ c.terms m.op.toNat).begin, c.clock + 1⟩ else c.terms, c.net.eraseIdx x.n.toNat ++ (hearA c.voters a0 m).2.1, c.clock + 1⟩ := fun a' out e b1 b2 b3 b4 => by
        rw [e]
        refine ⟨fun x hx => ?_, fun a ha => ?_, fun q hq => ?_, fun k a ha hp => ?_, fun k a ha hp n hn hin => ?_⟩
        · have := I.tn x hx; simp only; omega
        · simp only at ha ⊢
          rcases List.mem_or_eq_of_mem_set ha with ha | rfl
          · have := I.ta a ha; omega
          · exact b1
        · simp only at hq ⊢
          rcases List.mem_append.1 hq with hq | hq
          · have := I.tm q (mem_erase hq); omega
          · exact b2 q hq
        · rcases get_set ha with ⟨rfl, rfl, _⟩ | ⟨hne, ha⟩
          · exact b3 hp
          · exact I.few k a ha hp
        · rcases get_set ha with ⟨rfl, rfl, _⟩ | ⟨hne, ha⟩
          · exact b4 hp n hn hin
          · exact other ha (fun h => hne h.symm) hp out n hn hin
      have keep : a0.phase ≠ 3 → ∀ n, n < c.voters.weights.length → inS a0.heard.n n = false → (m.node = n → m.kind = wantsA a0.phase → False) → ∃ q : Msg, q ∈ c.net.eraseIdx x.n.toNat ++ [] ∧ q.op = m.op.toNat ∧ q.node = n ∧ (q.kind = wantsA a0.phase ∨ q.kind = wantsA a0.phase - 1) := fun hp3 n hn hin hno => by
        obtain ⟨q, q1, q2, q3, q4⟩ := I.go _ a0 hget hp3 n hn hin
        rcases erase q q1 with q5 | rfl
        · exact ⟨q, List.mem_append_left _ q5, q2, q3, q4⟩
        · have : wantsA a0.phase = 2 ∨ wantsA a0.phase = 4 ∨ wantsA a0.phase = 0 := by unfold wantsA; split <;> first | omega | (split <;> omega)
          rcases q4 with q4 | q4
          · exact (hno q3 q4).elim
          · omega
      rcases cases with ⟨e, why⟩ | ⟨hkw, ⟨e, nen⟩ | e | ⟨b, hbt, e⟩⟩
      · refine build a0 [] e (by omega) (fun q hq => by simp at hq) (I.few _ a0 hget) fun hp3 n hn hin => keep hp3 n hn hin fun g1 g2 => ?_
        rcases why with w | w
        · exact w g2
        · rw [show m.node.toNat = n by omega, hin] at w; simp at w
      · refine build _ [] e (by omega) (fun q hq => by simp at hq) (fun _ => nen) fun hp3 n hn hin => ?_
        have hin' : ¬ inS (heardA a0 m).heard.n n = true := by simpa using hin
        have hor : ¬ (inS a0.heard.n n = true ∨ n = m.node.toNat) := fun hh => hin' ((bit_mem (by omega)).2 hh)
        exact keep hp3 n hn (by simpa using fun hh => hor (.inl hh)) fun g1 g2 => hor (.inr (by omega))
      · exact build _ [] e (by simp only; omega) (fun q hq => by simp at hq) (fun h => absurd rfl h) fun h => absurd rfl h
      · have hao := ask_ok hca.2
        refine build _ _ e (by simp only; omega) (fun q hq => ?_) (fun _ => ?_) fun hp3 n hn hin => ?_
        · unfold toAllM at hq
          obtain ⟨j, _, rfl⟩ := List.mem_map.1 hq
          simp only; omega
        · have z0 : (uN (Int.toNat 0)).n = 0 := rfl
          simp only; rw [z0, bsum_0]; omega
        · refine ⟨_, List.mem_append_right _ (toAll_mem (j := n) hn), by simp only; rw [hca.1], rfl, ?_⟩
          right; rfl
theorem invL_run : ∀ (l : List Step) (c : Cluster) (n : Int), c.checkE = 0 → InvL c → (∀ x, x ∈ l → x.kind ≠ 4) → (runGo l c n).1.checkE = 0 ∧ InvL (runGo l c n).1
  | [], c, n, hc, hp, _ => ⟨hc, hp⟩
  | x :: r, c, n, hc, hp, hx => by
    unfold runGo
    split
    · rename_i h
      exact invL_run r _ _ (step_ok hc h) (invL_step hc hp h (hx x (by simp))) fun y hy => hx y (by simp [hy])
    · exact invL_run r _ _ hc hp fun y hy => hx y (by simp [hy])
theorem invL_new {v : Vtr} : InvL (Cluster.new v) := by
  refine ⟨fun x hx => ?_, fun a ha => by simp [Cluster.new] at ha, fun m hm => by simp [Cluster.new] at hm, fun k a ha => by simp [Cluster.new] at ha, fun k a ha => by simp [Cluster.new] at ha⟩
  simp only [Cluster.new] at hx ⊢
  rw [List.eq_of_mem_replicate hx]; decide
theorem invL_sat {v : Vtr} {l : List Step} (h : (satC v l).2 = true) (hx : ∀ x, x ∈ l → x.kind ≠ 4) : (satC v l).1.checkE = 0 ∧ InvL (satC v l).1 := by
  obtain ⟨h1, h2⟩ := sat_new h
  rw [h2]
  exact invL_run l _ 0 (new_check h1) invL_new hx
theorem pass_err {c : Cluster} (hc : c.checkE = 0) (hn : 0 < c.net.length) (h : (doP c passS).2 ≠ 0) : (doP c passS).2 = 2 := by
  unfold doP at h ⊢
  rw [if_neg (by omega)] at h ⊢
  unfold stepP passS at h ⊢
  simp only at h ⊢
  split at h
  · rename_i h1; rw [if_pos h1]
  · rename_i h1; rw [if_neg h1]
    rw [if_neg (by decide), if_neg (by decide), if_neg (by decide), if_neg (by decide), if_neg (by omega), if_neg (by decide), if_neg (by decide)] at h ⊢
    unfold sendC at h ⊢
    split at h
    · rename_i h2; rw [if_pos h2]
    · simp at h
theorem pass_live {c : Cluster} (hc : c.checkE = 0) (I : InvL c) (h : (doP c passS).2 = 0) : (doP c passS).1.checkE = 0 ∧ InvL (doP c passS).1 := by
  unfold doP at h ⊢
  rw [if_neg (by omega)] at h ⊢
  exact ⟨step_ok hc h, invL_step hc I h (by decide)⟩
theorem live_end {c : Cluster} (hc : c.checkE = 0) (I : InvL c) (hn : c.net.length = 0) {k : Nat} {a : Ask} {t : Term} (ha : c.asks[k]? = some a) (ht : c.terms[k]? = some t) : a.phase = 3 ∧ t.end_ ≠ 0 := by
  have ok := Cluster.ok_iff.1 hc
  have hq := qc_need ok.q
  have h3 : a.phase = 3 := Classical.byContradiction fun hp => by
    refine I.few k a ha hp ?_
    rw [bsum_full _ _ fun j hj => ?_]
    · exact hq.2.1
    · refine Classical.byContradiction fun hin => ?_
      obtain ⟨m, q1, _⟩ := I.go k a ha hp j hj (by simpa using hin)
      rw [List.eq_nil_of_length_eq_zero hn] at q1; simp at q1
  refine ⟨h3, ?_⟩
  have := ok.tm k a t ha ht
  unfold termB at this
  simp only [decide_eq_true_eq] at this
  rw [if_pos h3] at this; omega
open Go.RowKit
def i_9_2 (v : Vtr) (l : (List Step)) (k : Int) : Prop := 0 ≤ k
def i_9_1 (v : Vtr) (l : (List Step)) (i : Int) (c : Cluster) : Prop := 0 ≤ i ∧ i ≤ 2000 ∧ c.checkE = 0 ∧ InvL c
def i_9_0 (v : Vtr) (l : (List Step)) (kept : (List Step)) (i : Int) : Prop := 0 ≤ i ∧ i ≤ l.length ∧ l.length * 32 ≤ 140737488351232 ∧ kept.length ≤ i ∧ ∀ x, x ∈ kept → x.kind ≠ 4
def k_9 : Con Tc Tc.dn := ⟨9, [.ty .cVoters, .ty .lStep], fun x => (fun (v : Vtr) (l : (List Step)) => l.length * 32 ≤ 140737488351232) x.1 x.2.1, [.cBool], fun x => (fun (v : Vtr) (l : (List Step)) => true) x.1 x.2.1⟩
abbrev z9_0 := (Ask.mk (0 : Int) (0 : Int) (0 : Int) ByteArray.empty (Copy.mk (Stp.mk (0 : Int) (0 : Int)) ByteArray.empty) (U64.mk (0 : Nat) LY.u64._proof_1))
theorem k_9_v (v : Vtr) (l : (List Step)) (hp : l.length * 32 ≤ 140737488351232) : True ∧ (true = !true → false = true) ∧ (true = !false → i_9_0 v l [] (0 : Int) ∧ ∀ (x : List Step) (x_1 : Int), i_9_0 v l x x_1 → (x_1 < (↑l.length : Int) → ((0 : Int) ≤ x_1 ∧ x_1 < (↑l.length : Int)) ∧ (¬(gd (Step.mk (0 : Int) (0 : Int) ByteArray.empty) l x_1.toNat).kind = (4 : Int) → ((0 : Int) ≤ x_1 ∧ x_1 < (↑l.length : Int)) ∧ (x.length + (1 : Nat)) * (32 : Nat) ≤ (140737488355328 : Nat) ∧ I64 (x_1 + (1 : Int)) ∧ i_9_0 v l (x ++ [gd (Step.mk (0 : Int) (0 : Int) ByteArray.empty) l x_1.toNat]) (x_1 + (1 : Int)) ∧ ((↑l.length : Int) - (x_1 + (1 : Int))).toNat < ((↑l.length : Int) - x_1).toNat) ∧ ((gd (Step.mk (0 : Int) (0 : Int) ByteArray.empty) l x_1.toNat).kind = (4 : Int) → I64 (x_1 + (1 : Int)) ∧ i_9_0 v l x (x_1 + (1 : Int)) ∧ ((↑l.length : Int) - (x_1 + (1 : Int))).toNat < ((↑l.length : Int) - x_1).toNat)) ∧ ((↑l.length : Int) ≤ x_1 → True ∧ ((satC v x).snd = !true → true = true) ∧ ((satC v x).snd = !false → i_9_1 v l (0 : Int) (satC v x).fst ∧ ∀ (x : Int) (x_2 : Cluster), i_9_1 v l x x_2 → (x < (2000 : Int) → x < (2000 : Int)) ∧ (x < (2000 : Int) → x < (2000 : Int)) ∧ (x < (2000 : Int) → x < (2000 : Int)) ∧ (x < (2000 : Int) → x < (2000 : Int)) ∧ (x < (2000 : Int) ∧ (0 : Int) < (↑x_2.net.length : Int) → True ∧ (¬(doP x_2 (Step.mk (3 : Int) (0 : Int) (ByteArray.mk #[]))).snd = (0 : Int) → ((doP x_2 (Step.mk (3 : Int) (0 : Int) (ByteArray.mk #[]))).snd == (2 : Int)) = true) ∧ ((doP x_2 (Step.mk (3 : Int) (0 : Int) (ByteArray.mk #[]))).snd = (0 : Int) → I64 (x + (1 : Int)) ∧ i_9_1 v l (x + (1 : Int)) (doP x_2 (Step.mk (3 : Int) (0 : Int) (ByteArray.mk #[]))).fst ∧ ((2000 : Int) - (x + (1 : Int))).toNat < ((2000 : Int) - x).toNat)) ∧ ((2000 : Int) ≤ x ∨ (↑x_2.net.length : Int) ≤ (0 : Int) → ((0 : Int) < (↑x_2.net.length : Int) → true = true) ∧ ((↑x_2.net.length : Int) ≤ (0 : Int) → i_9_2 v l (0 : Int) ∧ ∀ (x : Int), i_9_2 v l x → (x < (↑x_2.asks.length : Int) → ((0 : Int) ≤ x ∧ x < (↑x_2.asks.length : Int)) ∧ ((gd z9_0 x_2.asks x.toNat).phase = (3 : Int) → (gd z9_0 x_2.asks x.toNat).phase = (3 : Int)) ∧ ((gd z9_0 x_2.asks x.toNat).phase = (3 : Int) → (gd z9_0 x_2.asks x.toNat).phase = (3 : Int)) ∧ ((gd z9_0 x_2.asks x.toNat).phase = (3 : Int) → (gd z9_0 x_2.asks x.toNat).phase = (3 : Int)) ∧ ((gd z9_0 x_2.asks x.toNat).phase = (3 : Int) → (0 : Int) ≤ x ∧ x < (↑x_2.terms.length : Int)) ∧ ((gd z9_0 x_2.asks x.toNat).phase = (3 : Int) → (gd z9_0 x_2.asks x.toNat).phase = (3 : Int)) ∧ ((gd z9_0 x_2.asks x.toNat).phase = (3 : Int) → (gd z9_0 x_2.asks x.toNat).phase = (3 : Int)) ∧ ((gd z9_0 x_2.asks x.toNat).phase = (3 : Int) → (gd z9_0 x_2.asks x.toNat).phase = (3 : Int)) ∧ ((gd z9_0 x_2.asks x.toNat).phase = (3 : Int) → (gd z9_0 x_2.asks x.toNat).phase = (3 : Int)) ∧ (¬(gd z9_0 x_2.asks x.toNat).phase = (3 : Int) ∨ (gd (Term.mk (0 : Int) (0 : Int)) x_2.terms x.toNat).end_ = (0 : Int) → false = true) ∧ ((gd z9_0 x_2.asks x.toNat).phase = (3 : Int) ∧ ¬(gd (Term.mk (0 : Int) (0 : Int)) x_2.terms x.toNat).end_ = (0 : Int) → I64 (x + (1 : Int)) ∧ i_9_2 v l (x + (1 : Int)) ∧ ((31 : Int) - (x + (1 : Int))).toNat < ((31 : Int) - x).toNat)) ∧ ((↑x_2.asks.length : Int) ≤ x → true = true)))))) := by
  delta z9_0
  have h0 := @invL_sat v
  have h1 := @pass_err
  have h2 := @pass_live
  have h3 : ∀ {c : Cluster} {k : Int}, c.checkE = 0 → InvL c → c.net.length = 0 → 0 ≤ k → k < c.asks.length → (gd Ask.nil c.asks k.toNat).phase = 3 ∧ ¬ (gd (⟨0, 0⟩ : Term) c.terms k.toNat).end_ = 0 := fun hc I hn h1 h2 => live_end hc I hn (gd_get (by omega)) (gd_get (by have := (Cluster.ok_iff.1 hc).tl; omega))
  have h4 : ∀ {c : Cluster}, c.checkE = 0 → c.asks.length ≤ 31 ∧ c.terms.length = c.asks.length := fun h => ⟨(Cluster.ok_iff.1 h).al, (Cluster.ok_iff.1 h).tl⟩
  simp only [passS, Ask.nil] at h1 h2 h3
  (repeat' (first | apply And.intro | intro _)) <;> first | assumption | trivial | omega | grind [i_9_2, i_9_1, i_9_0, I64] | trace_state
theorem k_9_ok : k_9.Ok Tryd.prog tD := con_ok tD_ok (Δ := [k_22, k_16, k_13]) ⟨k_22_ok, k_16_ok, k_13_ok, trivial⟩ (Ω := []) trivial k_9 F9_ok F9_call (fun _ => []) (fun _ => trivial) 0 (fun x => (fun (v : Vtr) (l : (List Step)) => (fun k => bif Nat.beq k 0 then some (.inv [.ow 5 .cStep, .sl 6 .cInt] (fun zv => (fun (kept : (List Step)) (i : Int) => i_9_0 v l kept i) zv.1 zv.2.1) (fun zv => (fun (kept : (List Step)) (i : Int) => ((l.length : Int) - i).toNat) zv.1 zv.2.1)) else bif Nat.beq k 1 then some (.inv [.sl 9 .cInt, .ce 2 .cCluster] (fun zv => (fun (i : Int) (c : Cluster) => i_9_1 v l i c) zv.1 zv.2.1) (fun zv => (fun (i : Int) (c : Cluster) => (2000 - i).toNat) zv.1 zv.2.1)) else bif Nat.beq k 2 then some (.inv [.sl 12 .cInt] (fun zv => (fun (k : Int) => i_9_2 v l k) zv.1) (fun zv => (fun (k : Int) => (31 - k).toNat) zv.1)) else none)) x.1 x.2.1) fun x hp => Eq.mp (by kernel_rfl) (k_9_v x.1 x.2.1 hp)
theorem ClusterLives_walk {w : World} (hG : GlE (E0 w fun b => b < w.heap.size)) (v : Vtr) (csv : List Value) (rv : GoT.rep w w.heap.size csv v) (l : (List Step)) (Al : Option Addr) (nl cl : Nat) (rl : GoT.rep w w.heap.size [.slice Al nl cl] l) (zl : nl * 32 ≤ 140737488351232) : Calls Tryd.prog 9 #[.agg csv.toArray, .slice Al nl cl] w fun e w' => e = .returned (.bool true) ∧ Below w.heap.size w w' := by
  have ll := rep_len rl
  have hf : Fn Tryd.prog 9 [(tD.en .cVoters v).av tD.toTE N0, (tD.en .lStep l).av tD.toTE N0] (.v (.bool true)) := k_9_ok.2 (v, l, ()) N0 (by show l.length * 32 ≤ 140737488351232; omega)
  exact fn_law (vs := [.agg csv.toArray, .slice Al nl cl]) hf hG (.cons (arg_ag tD_ok (t := .cVoters) rfl (lgVoters.av rv)) (.cons (arg_one tD_ok (t := .lStep) rfl ((LG.list lgStep).av rl)) .nil))
end Go.Proofs.YtpagdlhlfmenmaaDoor
