/- What functions answer (contracts). No condition. -/
import Derived.Test.YtpagdlhlfmenmaaDoorPSG
import Derived.Test.YtpagdlhlfmenmaaDoorPQuorM
set_option linter.unusedSimpArgs false
set_option linter.unusedVariables false
set_option maxHeartbeats 4000000
set_option maxRecDepth 100000
namespace Go.Proofs.YtpagdlhlfmenmaaDoor
open Go.RowKit
def Cluster.zero : Cluster := ⟨⟨[], 0⟩, [], [], [], [], 0⟩
def Copy.zero : Copy := ⟨⟨0, 0⟩, ⟨#[]⟩⟩
def newC (v : Vtr) : Cluster × Int := if qcheckP v.weights v.need ≠ 0 then (Cluster.zero, qcheckP v.weights v.need) else (⟨v, List.replicate v.weights.length Copy.zero, [], [], [], 0⟩, 0)
def asksGo (v : Vtr) (ts : List Term) (k : Int) : List Ask → Int → Int
  | [], _ => 0
  | a :: r, i => if a.op ≠ i then 1 else if a.checkE v.weights v.need ≠ 0 then a.checkE v.weights v.need else if termB (gd ⟨0, 0⟩ ts i.toNat) a k = false then 4 else asksGo v ts k r (i + 1)
def asksE (c : Cluster) : Int := if c.asks.length > 31 then 2 else if c.asks.length ≠ c.terms.length then 1 else asksGo c.voters c.terms c.clock c.asks 0
def netGo (n a : Int) : List Msg → Int
  | [] => 0
  | m :: r => if m.checkE ≠ 0 then m.checkE else if m.node ≥ n ∨ m.op ≥ a then 3 else netGo n a r
def netE (c : Cluster) : Int := if c.net.length > 200 then 2 else netGo c.nodes.length c.asks.length c.net
def copGo : List Copy → Int
  | [] => 0
  | c :: r => if c.checkE ≠ 0 then c.checkE else copGo r
def Cluster.checkE (c : Cluster) : Int :=
  if qcheckP c.voters.weights c.voters.need ≠ 0 then qcheckP c.voters.weights c.voters.need else if c.nodes.length ≠ c.voters.weights.length then 1 else if copGo c.nodes ≠ 0 then copGo c.nodes
  else if asksE c ≠ 0 then asksE c else if netE c ≠ 0 then netE c else if c.clock < 0 ∨ c.clock > 1000000 then 3 else 0
def k_12 : Con Tc Tc.dn := ⟨12, [.ty .cVoters], fun x => (fun (v : Vtr) => True) x.1, [.cCluster, .cInt], fun x => (fun (v : Vtr) => newC v) x.1⟩
theorem k_12_v (v : Vtr) : True ∧ (¬qcheckP v.weights v.need = (0 : Int) → (Cluster.mk (Vtr.mk [] (0 : Int)) [] [] [] [] (0 : Int), qcheckP v.weights v.need) = newC v) ∧ (qcheckP v.weights v.need = (0 : Int) → (↑v.weights.length : Int) * (8 : Int) ≤ (140737488355328 : Int) ∧ ((0 : Int) ≤ (↑v.weights.length : Int) ∧ (↑v.weights.length : Int) ≤ (↑v.weights.length : Int) ∧ (↑v.weights.length : Int) * (↑(32 : Nat) : Int) ≤ (140737488355328 : Int)) ∧ (Cluster.mk v (List.replicate (↑v.weights.length : Int).toNat (Copy.mk (Stp.mk (0 : Int) (0 : Int)) (ByteArray.mk #[]))) [] [] [] (0 : Int), (0 : Int)) = newC v) := by
  (repeat' (first | apply And.intro | intro _)) <;> first | assumption | trivial | omega | (grind [newC, Cluster.zero, Copy.zero, qc_len, Int.toNat_natCast]) | trace_state
theorem k_12_ok : k_12.Ok Tryd.prog tD := con_ok tD_ok (Δ := [k_35, k_36]) ⟨k_35_ok, k_36_ok, trivial⟩ (Ω := []) trivial k_12 F12_ok F12_call (fun _ => []) (fun _ => trivial) 0 (fun x => (fun (v : Vtr) => (fun _ => none)) x.1) fun x hp => Eq.mp (by kernel_rfl) (k_12_v x.1)
def i_47_0 (c : Cluster) (i : Int) : Prop := 0 ≤ i ∧ i ≤ c.asks.length ∧ c.asks.length ≤ 31 ∧ c.asks.length = c.terms.length ∧ asksGo c.voters c.terms c.clock (c.asks.drop i.toNat) i = asksE c
def k_47 : Con Tc Tc.dn := ⟨47, [.ty .cCluster], fun x => (fun (c : Cluster) => True) x.1, [.cInt], fun x => (fun (c : Cluster) => asksE c) x.1⟩
theorem k_47_v (c : Cluster) : ((31 : Int) < (↑c.asks.length : Int) → (2 : Int) = asksE c) ∧ ((↑c.asks.length : Int) ≤ (31 : Int) → (¬(↑c.asks.length : Int) = (↑c.terms.length : Int) → (1 : Int) = asksE c) ∧ ((↑c.asks.length : Int) = (↑c.terms.length : Int) → i_47_0 c (0 : Int) ∧ ∀ (x : Int), i_47_0 c x → (x < (↑c.asks.length : Int) → ((0 : Int) ≤ x ∧ x < (↑c.asks.length : Int)) ∧ (¬(gd (Ask.mk (0 : Int) (0 : Int) (0 : Int) ByteArray.empty (Copy.mk (Stp.mk (0 : Int) (0 : Int)) ByteArray.empty) (U64.mk (0 : Nat) LY.u64._proof_1)) c.asks x.toNat).op = x → (1 : Int) = asksE c) ∧ ((gd (Ask.mk (0 : Int) (0 : Int) (0 : Int) ByteArray.empty (Copy.mk (Stp.mk (0 : Int) (0 : Int)) ByteArray.empty) (U64.mk (0 : Nat) LY.u64._proof_1)) c.asks x.toNat).op = x → True ∧ (¬(gd (Ask.mk (0 : Int) (0 : Int) (0 : Int) ByteArray.empty (Copy.mk (Stp.mk (0 : Int) (0 : Int)) ByteArray.empty) (U64.mk (0 : Nat) LY.u64._proof_1)) c.asks x.toNat).checkE c.voters.weights c.voters.need = (0 : Int) → (gd (Ask.mk (0 : Int) (0 : Int) (0 : Int) ByteArray.empty (Copy.mk (Stp.mk (0 : Int) (0 : Int)) ByteArray.empty) (U64.mk (0 : Nat) LY.u64._proof_1)) c.asks x.toNat).checkE c.voters.weights c.voters.need = asksE c) ∧ ((gd (Ask.mk (0 : Int) (0 : Int) (0 : Int) ByteArray.empty (Copy.mk (Stp.mk (0 : Int) (0 : Int)) ByteArray.empty) (U64.mk (0 : Nat) LY.u64._proof_1)) c.asks x.toNat).checkE c.voters.weights c.voters.need = (0 : Int) → ((0 : Int) ≤ x ∧ x < (↑c.terms.length : Int)) ∧ True ∧ (termB (gd (Term.mk (0 : Int) (0 : Int)) c.terms x.toNat) (gd (Ask.mk (0 : Int) (0 : Int) (0 : Int) ByteArray.empty (Copy.mk (Stp.mk (0 : Int) (0 : Int)) ByteArray.empty) (U64.mk (0 : Nat) LY.u64._proof_1)) c.asks x.toNat) c.clock = !true → (4 : Int) = asksE c) ∧ (termB (gd (Term.mk (0 : Int) (0 : Int)) c.terms x.toNat) (gd (Ask.mk (0 : Int) (0 : Int) (0 : Int) ByteArray.empty (Copy.mk (Stp.mk (0 : Int) (0 : Int)) ByteArray.empty) (U64.mk (0 : Nat) LY.u64._proof_1)) c.asks x.toNat) c.clock = !false → I64 (x + (1 : Int)) ∧ i_47_0 c (x + (1 : Int)) ∧ ((↑c.asks.length : Int) - (x + (1 : Int))).toNat < ((↑c.asks.length : Int) - x).toNat)))) ∧ ((↑c.asks.length : Int) ≤ x → (0 : Int) = asksE c))) := by
  (repeat' (first | apply And.intro | intro _)) <;> first | assumption | trivial | omega | (grind [asksE, asksGo, i_47_0, I64, drop_gd, drop_end]) | trace_state
theorem k_47_ok : k_47.Ok Tryd.prog tD := con_ok tD_ok (Δ := [k_67, k_68]) ⟨k_67_ok, k_68_ok, trivial⟩ (Ω := []) trivial k_47 F47_ok F47_call (fun _ => []) (fun _ => trivial) 0 (fun x => (fun (c : Cluster) => (fun k => bif Nat.beq k 0 then some (.inv [.sl 22 .cInt] (fun zv => (fun (i : Int) => i_47_0 c i) zv.1) (fun zv => (fun (i : Int) => ((c.asks.length : Int) - i).toNat) zv.1)) else none)) x.1) fun x hp => Eq.mp (by kernel_rfl) (k_47_v x.1)
def i_48_0 (c : Cluster) (i : Int) : Prop := 0 ≤ i ∧ i ≤ c.net.length ∧ c.net.length ≤ 200 ∧ netGo c.nodes.length c.asks.length (c.net.drop i.toNat) = netE c
def k_48 : Con Tc Tc.dn := ⟨48, [.ty .cCluster], fun x => (fun (c : Cluster) => True) x.1, [.cInt], fun x => (fun (c : Cluster) => netE c) x.1⟩
theorem k_48_v (c : Cluster) : ((200 : Int) < (↑c.net.length : Int) → (2 : Int) = netE c) ∧ ((↑c.net.length : Int) ≤ (200 : Int) → i_48_0 c (0 : Int) ∧ ∀ (x : Int), i_48_0 c x → (x < (↑c.net.length : Int) → ((0 : Int) ≤ x ∧ x < (↑c.net.length : Int)) ∧ True ∧ (¬(gd (Msg.mk (0 : Int) (0 : Int) (0 : Int) (Copy.mk (Stp.mk (0 : Int) (0 : Int)) ByteArray.empty)) c.net x.toNat).checkE = (0 : Int) → (gd (Msg.mk (0 : Int) (0 : Int) (0 : Int) (Copy.mk (Stp.mk (0 : Int) (0 : Int)) ByteArray.empty)) c.net x.toNat).checkE = netE c) ∧ ((gd (Msg.mk (0 : Int) (0 : Int) (0 : Int) (Copy.mk (Stp.mk (0 : Int) (0 : Int)) ByteArray.empty)) c.net x.toNat).checkE = (0 : Int) → ((gd (Msg.mk (0 : Int) (0 : Int) (0 : Int) (Copy.mk (Stp.mk (0 : Int) (0 : Int)) ByteArray.empty)) c.net x.toNat).node < (↑c.nodes.length : Int) → (gd (Msg.mk (0 : Int) (0 : Int) (0 : Int) (Copy.mk (Stp.mk (0 : Int) (0 : Int)) ByteArray.empty)) c.net x.toNat).node < (↑c.nodes.length : Int)) ∧ ((gd (Msg.mk (0 : Int) (0 : Int) (0 : Int) (Copy.mk (Stp.mk (0 : Int) (0 : Int)) ByteArray.empty)) c.net x.toNat).node < (↑c.nodes.length : Int) → (gd (Msg.mk (0 : Int) (0 : Int) (0 : Int) (Copy.mk (Stp.mk (0 : Int) (0 : Int)) ByteArray.empty)) c.net x.toNat).node < (↑c.nodes.length : Int)) ∧ ((gd (Msg.mk (0 : Int) (0 : Int) (0 : Int) (Copy.mk (Stp.mk (0 : Int) (0 : Int)) ByteArray.empty)) c.net x.toNat).node < (↑c.nodes.length : Int) → (gd (Msg.mk (0 : Int) (0 : Int) (0 : Int) (Copy.mk (Stp.mk (0 : Int) (0 : Int)) ByteArray.empty)) c.net x.toNat).node < (↑c.nodes.length : Int)) ∧ ((gd (Msg.mk (0 : Int) (0 : Int) (0 : Int) (Copy.mk (Stp.mk (0 : Int) (0 : Int)) ByteArray.empty)) c.net x.toNat).node < (↑c.nodes.length : Int) → (gd (Msg.mk (0 : Int) (0 : Int) (0 : Int) (Copy.mk (Stp.mk (0 : Int) (0 : Int)) ByteArray.empty)) c.net x.toNat).node < (↑c.nodes.length : Int)) ∧ ((gd (Msg.mk (0 : Int) (0 : Int) (0 : Int) (Copy.mk (Stp.mk (0 : Int) (0 : Int)) ByteArray.empty)) c.net x.toNat).node < (↑c.nodes.length : Int) → (gd (Msg.mk (0 : Int) (0 : Int) (0 : Int) (Copy.mk (Stp.mk (0 : Int) (0 : Int)) ByteArray.empty)) c.net x.toNat).node < (↑c.nodes.length : Int)) ∧ ((gd (Msg.mk (0 : Int) (0 : Int) (0 : Int) (Copy.mk (Stp.mk (0 : Int) (0 : Int)) ByteArray.empty)) c.net x.toNat).node < (↑c.nodes.length : Int) → (gd (Msg.mk (0 : Int) (0 : Int) (0 : Int) (Copy.mk (Stp.mk (0 : Int) (0 : Int)) ByteArray.empty)) c.net x.toNat).node < (↑c.nodes.length : Int)) ∧ ((↑c.nodes.length : Int) ≤ (gd (Msg.mk (0 : Int) (0 : Int) (0 : Int) (Copy.mk (Stp.mk (0 : Int) (0 : Int)) ByteArray.empty)) c.net x.toNat).node ∨ (↑c.asks.length : Int) ≤ (gd (Msg.mk (0 : Int) (0 : Int) (0 : Int) (Copy.mk (Stp.mk (0 : Int) (0 : Int)) ByteArray.empty)) c.net x.toNat).op → (3 : Int) = netE c) ∧ ((gd (Msg.mk (0 : Int) (0 : Int) (0 : Int) (Copy.mk (Stp.mk (0 : Int) (0 : Int)) ByteArray.empty)) c.net x.toNat).node < (↑c.nodes.length : Int) ∧ (gd (Msg.mk (0 : Int) (0 : Int) (0 : Int) (Copy.mk (Stp.mk (0 : Int) (0 : Int)) ByteArray.empty)) c.net x.toNat).op < (↑c.asks.length : Int) → I64 (x + (1 : Int)) ∧ i_48_0 c (x + (1 : Int)) ∧ ((↑c.net.length : Int) - (x + (1 : Int))).toNat < ((↑c.net.length : Int) - x).toNat))) ∧ ((↑c.net.length : Int) ≤ x → (0 : Int) = netE c)) := by
  (repeat' (first | apply And.intro | intro _)) <;> first | assumption | trivial | omega | (grind [netE, netGo, i_48_0, I64, drop_gd, drop_end]) | trace_state
theorem k_48_ok : k_48.Ok Tryd.prog tD := con_ok tD_ok (Δ := [k_69]) ⟨k_69_ok, trivial⟩ (Ω := []) trivial k_48 F48_ok F48_call (fun _ => []) (fun _ => trivial) 0 (fun x => (fun (c : Cluster) => (fun k => bif Nat.beq k 0 then some (.inv [.sl 13 .cInt] (fun zv => (fun (i : Int) => i_48_0 c i) zv.1) (fun zv => (fun (i : Int) => ((c.net.length : Int) - i).toNat) zv.1)) else none)) x.1) fun x hp => Eq.mp (by kernel_rfl) (k_48_v x.1)
def i_18_0 (c : Cluster) (i : Int) : Prop := 0 ≤ i ∧ i ≤ c.nodes.length ∧ c.nodes.length ≤ 12 ∧ c.nodes.length = c.voters.weights.length ∧ qcheckP c.voters.weights c.voters.need = 0 ∧ copGo (c.nodes.drop i.toNat) = copGo c.nodes
def k_18 : Con Tc Tc.dn := ⟨18, [.ty .cCluster], fun x => (fun (c : Cluster) => True) x.1, [.cInt], fun x => (fun (c : Cluster) => c.checkE) x.1⟩
theorem k_18_v (c : Cluster) : True ∧ (¬qcheckP c.voters.weights c.voters.need = (0 : Int) → qcheckP c.voters.weights c.voters.need = c.checkE) ∧ (qcheckP c.voters.weights c.voters.need = (0 : Int) → (¬(↑c.nodes.length : Int) = (↑c.voters.weights.length : Int) → (1 : Int) = c.checkE) ∧ ((↑c.nodes.length : Int) = (↑c.voters.weights.length : Int) → i_18_0 c (0 : Int) ∧ ∀ (x : Int), i_18_0 c x → (x < (↑c.nodes.length : Int) → ((0 : Int) ≤ x ∧ x < (↑c.nodes.length : Int)) ∧ True ∧ (¬(gd (Copy.mk (Stp.mk (0 : Int) (0 : Int)) ByteArray.empty) c.nodes x.toNat).checkE = (0 : Int) → (gd (Copy.mk (Stp.mk (0 : Int) (0 : Int)) ByteArray.empty) c.nodes x.toNat).checkE = c.checkE) ∧ ((gd (Copy.mk (Stp.mk (0 : Int) (0 : Int)) ByteArray.empty) c.nodes x.toNat).checkE = (0 : Int) → I64 (x + (1 : Int)) ∧ i_18_0 c (x + (1 : Int)) ∧ ((↑c.nodes.length : Int) - (x + (1 : Int))).toNat < ((↑c.nodes.length : Int) - x).toNat)) ∧ ((↑c.nodes.length : Int) ≤ x → True ∧ (¬asksE c = (0 : Int) → asksE c = c.checkE) ∧ (asksE c = (0 : Int) → True ∧ (¬netE c = (0 : Int) → netE c = c.checkE) ∧ (netE c = (0 : Int) → ((0 : Int) ≤ c.clock → (0 : Int) ≤ c.clock) ∧ ((0 : Int) ≤ c.clock → (0 : Int) ≤ c.clock) ∧ ((0 : Int) ≤ c.clock → (0 : Int) ≤ c.clock) ∧ (c.clock < (0 : Int) ∨ (1000000 : Int) < c.clock → (3 : Int) = c.checkE) ∧ ((0 : Int) ≤ c.clock ∧ c.clock ≤ (1000000 : Int) → (0 : Int) = c.checkE)))))) := by
  (repeat' (first | apply And.intro | intro _)) <;> first | assumption | trivial | omega | (grind [Cluster.checkE, copGo, i_18_0, I64, drop_gd, drop_end, qc_len]) | trace_state
theorem k_18_ok : k_18.Ok Tryd.prog tD := con_ok tD_ok (Δ := [k_35, k_46, k_47, k_48]) ⟨k_35_ok, k_46_ok, k_47_ok, k_48_ok, trivial⟩ (Ω := []) trivial k_18 F18_ok F18_call (fun _ => []) (fun _ => trivial) 0 (fun x => (fun (c : Cluster) => (fun k => bif Nat.beq k 0 then some (.inv [.sl 31 .cInt] (fun zv => (fun (i : Int) => i_18_0 c i) zv.1) (fun zv => (fun (i : Int) => ((c.nodes.length : Int) - i).toNat) zv.1)) else bif Nat.beq k 1 then some (.unr 3) else none)) x.1) fun x hp => Eq.mp (by kernel_rfl) (k_18_v x.1)
open Go.RowKit
def sendC (c : Cluster) : Cluster × Int := if c.net.length > 200 then (Cluster.zero, 2) else (c, 0)
def beginC (c : Cluster) (kind : Int) (data : ByteArray) : Cluster × Int :=
  if c.asks.length = 31 then (Cluster.zero, 2) else if (beginA c.voters c.asks.length kind data).2.2 ≠ 0 then (Cluster.zero, (beginA c.voters c.asks.length kind data).2.2)
  else sendC ⟨c.voters, c.nodes, c.asks ++ [(beginA c.voters c.asks.length kind data).1], c.terms ++ [⟨c.clock, 0⟩], c.net ++ (beginA c.voters c.asks.length kind data).2.1, c.clock⟩
abbrev Ask.nil : Ask := ⟨0, 0, 0, ByteArray.empty, ⟨⟨0, 0⟩, ByteArray.empty⟩, ⟨0, LY.u64._proof_1⟩⟩
abbrev Copy.nil : Copy := ⟨⟨0, 0⟩, ByteArray.empty⟩
abbrev Msg.nil : Msg := ⟨0, 0, 0, Copy.nil⟩
def passC (c : Cluster) (m : Msg) : Cluster :=
  if m.kind = 1 ∨ m.kind = 3 then ⟨c.voters, c.nodes.set m.node.toNat (serveA (gd Copy.nil c.nodes m.node.toNat) m).1, c.asks, c.terms, c.net ++ (serveA (gd Copy.nil c.nodes m.node.toNat) m).2.1, c.clock⟩
  else ⟨c.voters, c.nodes, c.asks.set m.op.toNat (hearA c.voters (gd Ask.nil c.asks m.op.toNat) m).1, if (hearA c.voters (gd Ask.nil c.asks m.op.toNat) m).1.phase = 3 ∧ (gd Ask.nil c.asks m.op.toNat).phase ≠ 3 then c.terms.set m.op.toNat ⟨(gd ⟨0, 0⟩ c.terms m.op.toNat).begin, c.clock⟩ else c.terms, c.net ++ (hearA c.voters (gd Ask.nil c.asks m.op.toNat) m).2.1, c.clock⟩
def stepP (c : Cluster) (x : Step) : Cluster × Int :=
  if c.clock = 1000000 then (Cluster.zero, 2) else if x.kind < 1 ∨ x.kind > 5 then (Cluster.zero, 7) else if (x.data ≠ ⟨#[]⟩ ∧ x.kind ≠ 2) ∨ ((x.kind = 1 ∨ x.kind = 2) ∧ x.n ≠ 0) then (Cluster.zero, 1)
  else if x.kind = 1 then beginC ⟨c.voters, c.nodes, c.asks, c.terms, c.net, c.clock + 1⟩ 1 ⟨#[]⟩ else if x.kind = 2 then beginC ⟨c.voters, c.nodes, c.asks, c.terms, c.net, c.clock + 1⟩ 2 x.data
  else if x.n < 0 ∨ x.n ≥ c.net.length then (Cluster.zero, 3)
  else if x.kind = 5 then sendC ⟨c.voters, c.nodes, c.asks, c.terms, c.net ++ [gd Msg.nil c.net x.n.toNat], c.clock + 1⟩
  else if x.kind = 4 then (⟨c.voters, c.nodes, c.asks, c.terms, c.net.eraseIdx x.n.toNat, c.clock + 1⟩, 0)
  else sendC (passC ⟨c.voters, c.nodes, c.asks, c.terms, c.net.eraseIdx x.n.toNat, c.clock + 1⟩ (gd Msg.nil c.net x.n.toNat))
theorem netGo_ok {n a : Int} : ∀ {l : List Msg}, netGo n a l = 0 → ∀ m, m ∈ l → m.checkE = 0 ∧ m.node < n ∧ m.op < a
  | [], _, m, hm => by simp at hm
  | q :: r, h, m, hm => by
    unfold netGo at h
    split at h
    · rename_i h1; exact absurd h h1
    · split at h
      · simp at h
      · rcases List.mem_cons.1 hm with rfl | hm
        · omega
        · exact netGo_ok h m hm
theorem check_ok {c : Cluster} (h : c.checkE = 0) : qcheckP c.voters.weights c.voters.need = 0 ∧ c.nodes.length = c.voters.weights.length ∧ copGo c.nodes = 0 ∧ asksE c = 0 ∧ netE c = 0 ∧ 0 ≤ c.clock ∧ c.clock ≤ 1000000 := by
  unfold Cluster.checkE at h
  repeat' split at h
  all_goals first | omega | (exfalso; contradiction) | (exfalso; simp at h; done)
theorem check_len {c : Cluster} (h : c.checkE = 0) : c.asks.length ≤ 31 ∧ c.asks.length = c.terms.length ∧ c.net.length ≤ 200 ∧ c.nodes.length ≤ 12 ∧ c.voters.weights.length ≤ 12 := by
  obtain ⟨h1, h2, h3, h4, h5, h6⟩ := check_ok h
  have := qc_len h1
  unfold asksE at h4
  unfold netE at h5
  repeat' split at h4
  all_goals repeat' split at h5
  all_goals first | omega | (exfalso; simp at h4; done) | (exfalso; simp at h5; done)
theorem check_net {c : Cluster} (h : c.checkE = 0) {m : Msg} (hm : m ∈ c.net) : m.checkE = 0 ∧ m.node < c.nodes.length ∧ m.op < c.asks.length := by
  have h5 := (check_ok h).2.2.2.2.1
  unfold netE at h5
  split at h5
  · simp at h5
  · exact netGo_ok h5 m hm
theorem gd_set {α : Type} {d z : α} {xs : List α} {i : Nat} (h : i < xs.length) : gd d (xs.set i z) i = z := by
  unfold gd; rw [List.getElem?_set_self h]; rfl
theorem beginA_len (v : Vtr) (op kind : Int) (data : ByteArray) : (beginA v op kind data).2.1.length ≤ 12 := by
  unfold beginA
  split
  · simp
  · rename_i h
    have := ask_len (a := Ask.new op kind data) (ws := v.weights) (need := v.need) (by omega)
    simp only [toAllM_len]; omega
theorem hearA_len (v : Vtr) (a : Ask) (m : Msg) : (hearA v a m).2.1.length ≤ 12 := by
  unfold hearA
  split
  · simp
  · rename_i h
    have := ask_len (a := a) (ws := v.weights) (need := v.need) (by omega)
    split
    · simp
    · unfold hearT
      repeat' split
      all_goals first | (simp; done) | (simp only [toAllM_len]; omega)
theorem serveA_len (c : Copy) (m : Msg) : (serveA c m).2.1.length ≤ 1 := by
  unfold serveA
  repeat' split
  all_goals simp
def k_37 : Con Tc Tc.dn := ⟨37, [.ty .cCluster, .ty .cStep], fun x => (fun (c : Cluster) (x : Step) => c.checkE = 0) x.1 x.2.1, [.cCluster, .cInt], fun x => (fun (c : Cluster) (x : Step) => stepP c x) x.1 x.2.1⟩
abbrev z37_0 (c : Cluster) (x : Step) := (gd (Msg.mk (0 : Int) (0 : Int) (0 : Int) (Copy.mk (Stp.mk (0 : Int) (0 : Int)) ByteArray.empty)) c.net x.n.toNat)
abbrev z37_1 := (Ask.mk (0 : Int) (0 : Int) (0 : Int) ByteArray.empty (Copy.mk (Stp.mk (0 : Int) (0 : Int)) ByteArray.empty) (U64.mk (0 : Nat) LY.u64._proof_1))
abbrev z37_3 (c : Cluster) (x : Step) := (hearA c.voters (gd z37_1 c.asks (z37_0 c x).op.toNat) (z37_0 c x))
abbrev z37_2 (c : Cluster) (x : Step) := (gd z37_1 (c.asks.set (z37_0 c x).op.toNat (z37_3 c x).fst) (z37_0 c x).op.toNat)
abbrev z37_4 (c : Cluster) := (beginA c.voters (↑c.asks.length : Int) (1 : Int) (ByteArray.mk #[]))
abbrev z37_5 := (Cluster.mk (Vtr.mk [] (0 : Int)) [] [] [] [] (0 : Int), (2 : Int))
abbrev z37_6 (c : Cluster) (x : Step) := (beginA c.voters (↑c.asks.length : Int) (2 : Int) x.data)
abbrev z37_7 (c : Cluster) (x : Step) := (serveA (gd (Copy.mk (Stp.mk (0 : Int) (0 : Int)) ByteArray.empty) c.nodes (z37_0 c x).node.toNat) (z37_0 c x))
abbrev z37_8 (x : Step) := (x.data = ByteArray.mk #[] ∨ x.kind = (2 : Int) → x.kind = (1 : Int) ∨ x.kind = (2 : Int) → x.kind = (1 : Int) ∨ x.kind = (2 : Int))
abbrev z37_9 (c : Cluster) (x : Step) := ((z37_2 c x).phase = (3 : Int) → (z37_2 c x).phase = (3 : Int))
theorem k_37_v (c : Cluster) (x : Step) (hp : c.checkE = 0) : (c.clock = (1000000 : Int) → z37_5 = stepP c x) ∧ (¬c.clock = (1000000 : Int) → (↑c.voters.weights.length : Int) * (8 : Int) ≤ (140737488355328 : Int) ∧ (↑c.nodes.length : Int) * (32 : Int) ≤ (140737488355328 : Int) ∧ (↑c.asks.length : Int) * (80 : Int) ≤ (140737488355328 : Int) ∧ (↑c.terms.length : Int) * (16 : Int) ≤ (140737488355328 : Int) ∧ (↑c.net.length : Int) * (56 : Int) ≤ (140737488355328 : Int) ∧ I64 (c.clock + (1 : Int)) ∧ (¬x.kind = (1 : Int) → ¬x.kind = (1 : Int)) ∧ (¬x.kind = (1 : Int) → ¬x.kind = (1 : Int)) ∧ (¬x.kind = (1 : Int) → ¬x.kind = (1 : Int)) ∧ ((1 : Int) ≤ x.kind → (1 : Int) ≤ x.kind) ∧ ((1 : Int) ≤ x.kind → (1 : Int) ≤ x.kind) ∧ ((1 : Int) ≤ x.kind → (1 : Int) ≤ x.kind) ∧ (x.kind < (1 : Int) ∨ (5 : Int) < x.kind → (Cluster.mk (Vtr.mk [] (0 : Int)) [] [] [] [] (0 : Int), (7 : Int)) = stepP c x) ∧ ((1 : Int) ≤ x.kind ∧ x.kind ≤ (5 : Int) → (¬x.data = ByteArray.mk #[] → ¬x.data = ByteArray.mk #[]) ∧ (¬x.data = ByteArray.mk #[] → ¬x.data = ByteArray.mk #[]) ∧ (¬x.data = ByteArray.mk #[] → ¬x.data = ByteArray.mk #[]) ∧ (z37_8 x) ∧ (z37_8 x) ∧ (z37_8 x) ∧ ((¬x.data = ByteArray.mk #[] ∧ ¬x.kind = (2 : Int)) ∧ ¬x.data = ByteArray.mk #[] ∧ ¬x.kind = (2 : Int) ∨ (x.data = ByteArray.mk #[] ∨ x.kind = (2 : Int)) ∧ (x.kind = (1 : Int) ∨ x.kind = (2 : Int)) ∧ ¬x.n = (0 : Int) → (Cluster.mk (Vtr.mk [] (0 : Int)) [] [] [] [] (0 : Int), (1 : Int)) = stepP c x) ∧ (((x.data = ByteArray.mk #[] ∨ x.kind = (2 : Int)) ∨ x.data = ByteArray.mk #[] ∨ x.kind = (2 : Int)) ∧ (¬x.data = ByteArray.mk #[] ∧ ¬x.kind = (2 : Int) ∨ ¬x.kind = (1 : Int) ∧ ¬x.kind = (2 : Int) ∨ x.n = (0 : Int)) → (x.kind = (1 : Int) → ((↑c.asks.length : Int) = (31 : Int) → z37_5 = stepP c x) ∧ (¬(↑c.asks.length : Int) = (31 : Int) → True ∧ (¬(z37_4 c).snd.snd = (0 : Int) → (¬(z37_4 c).snd.snd = (0 : Int) → (Cluster.mk (Vtr.mk [] (0 : Int)) [] [] [] [] (0 : Int), (z37_4 c).snd.snd) = stepP c x) ∧ ((z37_4 c).snd.snd = (0 : Int) → (Cluster.mk c.voters c.nodes c.asks c.terms c.net (c.clock + (1 : Int)), (0 : Int)) = stepP c x)) ∧ ((z37_4 c).snd.snd = (0 : Int) → (c.asks.length + (1 : Nat)) * (80 : Nat) ≤ (140737488355328 : Nat) ∧ (c.terms.length + (1 : Nat)) * (16 : Nat) ≤ (140737488355328 : Nat) ∧ (c.net.length + (z37_4 c).snd.fst.length) * (56 : Nat) ≤ (140737488355328 : Nat) ∧ ((200 : Int) < (↑(c.net ++ (z37_4 c).snd.fst).length : Int) → z37_5 = stepP c x) ∧ ((↑(c.net ++ (z37_4 c).snd.fst).length : Int) ≤ (200 : Int) → (Cluster.mk c.voters c.nodes (c.asks ++ [(z37_4 c).fst]) (c.terms ++ [Term.mk (c.clock + (1 : Int)) (0 : Int)]) (c.net ++ (z37_4 c).snd.fst) (c.clock + (1 : Int)), (0 : Int)) = stepP c x)))) ∧ (¬x.kind = (1 : Int) → (x.kind = (2 : Int) → ((↑c.asks.length : Int) = (31 : Int) → z37_5 = stepP c x) ∧ (¬(↑c.asks.length : Int) = (31 : Int) → True ∧ (¬(z37_6 c x).snd.snd = (0 : Int) → (¬(z37_6 c x).snd.snd = (0 : Int) → (Cluster.mk (Vtr.mk [] (0 : Int)) [] [] [] [] (0 : Int), (z37_6 c x).snd.snd) = stepP c x) ∧ ((z37_6 c x).snd.snd = (0 : Int) → (Cluster.mk c.voters c.nodes c.asks c.terms c.net (c.clock + (1 : Int)), (0 : Int)) = stepP c x)) ∧ ((z37_6 c x).snd.snd = (0 : Int) → (c.asks.length + (1 : Nat)) * (80 : Nat) ≤ (140737488355328 : Nat) ∧ (c.terms.length + (1 : Nat)) * (16 : Nat) ≤ (140737488355328 : Nat) ∧ (c.net.length + (z37_6 c x).snd.fst.length) * (56 : Nat) ≤ (140737488355328 : Nat) ∧ ((200 : Int) < (↑(c.net ++ (z37_6 c x).snd.fst).length : Int) → z37_5 = stepP c x) ∧ ((↑(c.net ++ (z37_6 c x).snd.fst).length : Int) ≤ (200 : Int) → (Cluster.mk c.voters c.nodes (c.asks ++ [(z37_6 c x).fst]) (c.terms ++ [Term.mk (c.clock + (1 : Int)) (0 : Int)]) (c.net ++ (z37_6 c x).snd.fst) (c.clock + (1 : Int)), (0 : Int)) = stepP c x)))) ∧ (¬x.kind = (2 : Int) → ((0 : Int) ≤ x.n → (0 : Int) ≤ x.n) ∧ ((0 : Int) ≤ x.n → (0 : Int) ≤ x.n) ∧ ((0 : Int) ≤ x.n → (0 : Int) ≤ x.n) ∧ ((0 : Int) ≤ x.n → (0 : Int) ≤ x.n) ∧ ((0 : Int) ≤ x.n → (0 : Int) ≤ x.n) ∧ ((0 : Int) ≤ x.n → (0 : Int) ≤ x.n) ∧ ((0 : Int) ≤ x.n → (0 : Int) ≤ x.n) ∧ ((0 : Int) ≤ x.n → (0 : Int) ≤ x.n) ∧ ((0 : Int) ≤ x.n → (0 : Int) ≤ x.n) ∧ (x.n < (0 : Int) ∨ (↑c.net.length : Int) ≤ x.n → (Cluster.mk (Vtr.mk [] (0 : Int)) [] [] [] [] (0 : Int), (3 : Int)) = stepP c x) ∧ ((0 : Int) ≤ x.n ∧ x.n < (↑c.net.length : Int) → ((0 : Int) ≤ x.n ∧ x.n < (↑c.net.length : Int)) ∧ x.n.toNat < c.net.length ∧ (x.kind = (5 : Int) → (c.net.length + (1 : Nat)) * (56 : Nat) ≤ (140737488355328 : Nat) ∧ ((200 : Int) < (↑(c.net ++ [gd (Msg.mk (0 : Int) (0 : Int) (0 : Int) (Copy.mk (Stp.mk (0 : Int) (0 : Int)) ByteArray.empty)) c.net x.n.toNat]).length : Int) → z37_5 = stepP c x) ∧ ((↑(c.net ++ [gd (Msg.mk (0 : Int) (0 : Int) (0 : Int) (Copy.mk (Stp.mk (0 : Int) (0 : Int)) ByteArray.empty)) c.net x.n.toNat]).length : Int) ≤ (200 : Int) → (Cluster.mk c.voters c.nodes c.asks c.terms (c.net ++ [gd (Msg.mk (0 : Int) (0 : Int) (0 : Int) (Copy.mk (Stp.mk (0 : Int) (0 : Int)) ByteArray.empty)) c.net x.n.toNat]) (c.clock + (1 : Int)), (0 : Int)) = stepP c x)) ∧ (¬x.kind = (5 : Int) → I64 (x.n + (1 : Int)) ∧ (0 : Int) ≤ x.n ∧ x.n < (↑c.net.length : Int) ∧ x.n + (1 : Int) = x.n + (1 : Int) ∧ c.net.length ≤ (1000000 : Nat) ∧ (x.kind = (4 : Int) → (Cluster.mk c.voters c.nodes c.asks c.terms (c.net.eraseIdx x.n.toNat) (c.clock + (1 : Int)), (0 : Int)) = stepP c x) ∧ (¬x.kind = (4 : Int) → ((z37_0 c x).kind = (1 : Int) ∧ (z37_0 c x).kind = (1 : Int) ∨ ¬(z37_0 c x).kind = (1 : Int) ∧ (z37_0 c x).kind = (3 : Int) → ((0 : Int) ≤ (z37_0 c x).node ∧ (z37_0 c x).node < (↑c.nodes.length : Int)) ∧ (z37_0 c x).node.toNat < c.nodes.length ∧ True ∧ ((0 : Int) ≤ (z37_0 c x).node ∧ (z37_0 c x).node < (↑c.nodes.length : Int)) ∧ (z37_0 c x).node.toNat < c.nodes.length ∧ ((c.net.eraseIdx x.n.toNat).length + (z37_7 c x).snd.fst.length) * (56 : Nat) ≤ (140737488355328 : Nat) ∧ ((200 : Int) < (↑(c.net.eraseIdx x.n.toNat ++ (z37_7 c x).snd.fst).length : Int) → z37_5 = stepP c x) ∧ ((↑(c.net.eraseIdx x.n.toNat ++ (z37_7 c x).snd.fst).length : Int) ≤ (200 : Int) → (Cluster.mk c.voters (c.nodes.set (z37_0 c x).node.toNat (z37_7 c x).fst) c.asks c.terms (c.net.eraseIdx x.n.toNat ++ (z37_7 c x).snd.fst) (c.clock + (1 : Int)), (0 : Int)) = stepP c x)) ∧ ((¬(z37_0 c x).kind = (1 : Int) ∨ ¬(z37_0 c x).kind = (1 : Int)) ∧ ((z37_0 c x).kind = (1 : Int) ∨ ¬(z37_0 c x).kind = (3 : Int)) → ((0 : Int) ≤ (z37_0 c x).op ∧ (z37_0 c x).op < (↑c.asks.length : Int)) ∧ (z37_0 c x).op.toNat < c.asks.length ∧ (z37_0 c x).op.toNat < c.asks.length ∧ True ∧ (z37_0 c x).op.toNat < c.asks.length ∧ (z37_0 c x).op.toNat < (c.asks.set (z37_0 c x).op.toNat (z37_3 c x).fst).length ∧ (z37_9 c x) ∧ (z37_9 c x) ∧ (z37_9 c x) ∧ ((z37_2 c x).phase = (3 : Int) → (z37_0 c x).op.toNat < (c.asks.set (z37_0 c x).op.toNat (z37_3 c x).fst).length) ∧ (z37_9 c x) ∧ (z37_9 c x) ∧ (z37_9 c x) ∧ ((z37_2 c x).phase = (3 : Int) ∧ ¬(gd z37_1 c.asks (z37_0 c x).op.toNat).phase = (z37_2 c x).phase → ((0 : Int) ≤ (z37_0 c x).op ∧ (z37_0 c x).op < (↑c.terms.length : Int)) ∧ (z37_0 c x).op.toNat < c.terms.length ∧ ((c.net.eraseIdx x.n.toNat).length + (z37_3 c x).snd.fst.length) * (56 : Nat) ≤ (140737488355328 : Nat) ∧ ((200 : Int) < (↑(c.net.eraseIdx x.n.toNat ++ (z37_3 c x).snd.fst).length : Int) → z37_5 = stepP c x) ∧ ((↑(c.net.eraseIdx x.n.toNat ++ (z37_3 c x).snd.fst).length : Int) ≤ (200 : Int) → (Cluster.mk c.voters c.nodes (c.asks.set (z37_0 c x).op.toNat (z37_3 c x).fst) (c.terms.set (z37_0 c x).op.toNat (Term.mk (gd (Term.mk (0 : Int) (0 : Int)) c.terms (z37_0 c x).op.toNat).begin (c.clock + (1 : Int)))) (c.net.eraseIdx x.n.toNat ++ (z37_3 c x).snd.fst) (c.clock + (1 : Int)), (0 : Int)) = stepP c x)) ∧ (¬(z37_2 c x).phase = (3 : Int) ∨ (gd z37_1 c.asks (z37_0 c x).op.toNat).phase = (z37_2 c x).phase → ((c.net.eraseIdx x.n.toNat).length + (z37_3 c x).snd.fst.length) * (56 : Nat) ≤ (140737488355328 : Nat) ∧ ((200 : Int) < (↑(c.net.eraseIdx x.n.toNat ++ (z37_3 c x).snd.fst).length : Int) → z37_5 = stepP c x) ∧ ((↑(c.net.eraseIdx x.n.toNat ++ (z37_3 c x).snd.fst).length : Int) ≤ (200 : Int) → (Cluster.mk c.voters c.nodes (c.asks.set (z37_0 c x).op.toNat (z37_3 c x).fst) c.terms (c.net.eraseIdx x.n.toNat ++ (z37_3 c x).snd.fst) (c.clock + (1 : Int)), (0 : Int)) = stepP c x))))))))))) := by
  delta z37_9 z37_8 z37_7 z37_6 z37_5 z37_4 z37_3 z37_2 z37_1 z37_0
  have hl := check_len hp
  have hcl := check_ok hp
  have hm : 0 ≤ x.n → x.n < c.net.length → (gd Msg.nil c.net x.n.toNat).checkE = 0 ∧ (gd Msg.nil c.net x.n.toNat).node < c.nodes.length ∧ (gd Msg.nil c.net x.n.toNat).op < c.asks.length ∧ 0 ≤ (gd Msg.nil c.net x.n.toNat).node ∧ 0 ≤ (gd Msg.nil c.net x.n.toNat).op := fun h1 h2 => by
    have h3 := check_net hp (m := gd Msg.nil c.net x.n.toNat) (gd_mem (by omega))
    have h4 := msg_in h3.1
    omega
  have hb1 := beginA_len c.voters c.asks.length 1 ⟨#[]⟩
  have hb2 := beginA_len c.voters c.asks.length 2 x.data
  have hh := hearA_len c.voters
  have hs := serveA_len
  (repeat' (first | apply And.intro | intro _)) <;> first | assumption | trivial | omega | (grind [I64]) | (simp only [stepP, beginC, sendC, passC, *]; grind [Cluster.zero, gd_set]) | (unfold stepP beginC sendC passC; grind [Cluster.zero, gd_set]) | trace_state
def l_37 : PD Tc.dn k_37.ps → List (IL Tc Tc.dn) := fun x => (fun (c : Cluster) (x : Step) => ([⟨52, .fn F52 (fun _ => none)⟩, ⟨61, .fn F61 (fun _ => none)⟩, ⟨94, .fn F94 (fun _ => none)⟩, ⟨95, .fn F95 (fun _ => none)⟩, ⟨97, .fn F97 (fun _ => none)⟩, ⟨96, .del .cMsg 56 [.v (.int .i64 0), .v (.int .i64 0), .v (.int .i64 0), .v (.int .i64 0), .v (.int .i64 0), .v (.string ⟨#[]⟩)]⟩])) x.1 x.2.1
theorem l_37_ok : ∀ x, ILs Tryd.prog tD (l_37 x) := fun _ => ⟨⟨F52_ok, F52_call⟩, ⟨F61_ok, F61_call⟩, ⟨F94_ok, F94_call⟩, ⟨F95_ok, F95_call⟩, ⟨F97_ok, F97_call⟩, ⟨F96_ok, F96_call, rfl⟩, trivial⟩
theorem k_37_ok : k_37.Ok Tryd.prog tD := con_ok tD_ok (Δ := [k_36, k_119, k_120, k_121]) ⟨k_36_ok, k_119_ok, k_120_ok, k_121_ok, trivial⟩ (Ω := [o_72, o_73, o_74, o_75]) ⟨o_72_ok, o_73_ok, o_74_ok, o_75_ok, trivial⟩ k_37 F37_ok F37_call (l_37) (l_37_ok) 5 (fun x => (fun (c : Cluster) (x : Step) => (fun _ => none)) x.1 x.2.1) fun x hp => Eq.mp (by kernel_rfl) (k_37_v x.1 x.2.1 hp)
theorem copGo_iff : ∀ {l : List Copy}, copGo l = 0 ↔ ∀ c, c ∈ l → c.checkE = 0
  | [] => by simp [copGo]
  | c :: r => by
    unfold copGo
    by_cases h : c.checkE = 0
    · rw [if_neg (by omega), copGo_iff (l := r)]; simp [h]
    · rw [if_pos h]; simp [h]
theorem netGo_iff {n a : Int} : ∀ {l : List Msg}, netGo n a l = 0 ↔ ∀ m, m ∈ l → m.checkE = 0 ∧ m.node < n ∧ m.op < a
  | [] => by simp [netGo]
  | m :: r => by
    unfold netGo
    by_cases h : m.checkE = 0
    · rw [if_neg (by omega)]
      by_cases h2 : m.node ≥ n ∨ m.op ≥ a
      · rw [if_pos h2]; simp; intro _ h3; omega
      · rw [if_neg h2, netGo_iff (l := r)]; simp [h]; intro _; omega
    · rw [if_pos h]; simp [h]
theorem asksGo_iff {v : Vtr} {ts : List Term} {k : Int} : ∀ {l : List Ask} {i : Int}, 0 ≤ i → (asksGo v ts k l i = 0 ↔ ∀ (j : Nat) a, l[j]? = some a → a.op = i + j ∧ a.checkE v.weights v.need = 0 ∧ termB (gd ⟨0, 0⟩ ts (i.toNat + j)) a k = true)
  | [], i, _ => by simp [asksGo]
  | a :: r, i, hi => by
    unfold asksGo
    have ih := asksGo_iff (v := v) (ts := ts) (k := k) (l := r) (i := i + 1) (by omega)
    by_cases h1 : a.op = i
    · rw [if_neg (by omega)]
      by_cases h2 : a.checkE v.weights v.need = 0
      · rw [if_neg (by omega)]
        by_cases h3 : termB (gd ⟨0, 0⟩ ts i.toNat) a k = true
        · rw [if_neg (by simp [h3]), ih]
          constructor
          · intro h j b hb
            cases j with
            | zero => simp at hb; subst hb; exact ⟨by omega, h2, h3⟩
            | succ j =>
              obtain ⟨q1, q2, q3⟩ := h j b (by simpa using hb)
              refine ⟨by rw [q1]; omega, q2, ?_⟩
              rw [show i.toNat + (j + 1) = (i + 1).toNat + j by omega]; exact q3
          · intro h j b hb
            obtain ⟨q1, q2, q3⟩ := h (j + 1) b (by simpa using hb)
            refine ⟨by rw [q1]; omega, q2, ?_⟩
            rw [show (i + 1).toNat + j = i.toNat + (j + 1) by omega]; exact q3
        · rw [if_pos (by simpa using h3)]
          constructor
          · intro h; simp at h
          · intro h; exact absurd (h 0 a rfl).2.2 h3
      · rw [if_pos h2]
        constructor
        · intro h; exact absurd h h2
        · intro h; exact absurd (h 0 a rfl).2.1 h2
    · rw [if_pos h1]
      constructor
      · intro h; simp at h
      · intro h; have := (h 0 a rfl).1; omega
structure Cluster.Ok (c : Cluster) : Prop where
  q : qcheckP c.voters.weights c.voters.need = 0
  nl : c.nodes.length = c.voters.weights.length
  cop : ∀ x, x ∈ c.nodes → x.checkE = 0
  al : c.asks.length ≤ 31
  tl : c.terms.length = c.asks.length
  ask : ∀ (j : Nat) a, c.asks[j]? = some a → a.op = j ∧ a.checkE c.voters.weights c.voters.need = 0
  tm : ∀ (j : Nat) a t, c.asks[j]? = some a → c.terms[j]? = some t → termB t a c.clock = true
  ml : c.net.length ≤ 200
  net : ∀ m, m ∈ c.net → m.checkE = 0 ∧ m.node < c.nodes.length ∧ m.op < c.asks.length
  clk : 0 ≤ c.clock ∧ c.clock ≤ 1000000
theorem Cluster.ok_iff {c : Cluster} : c.checkE = 0 ↔ c.Ok := by
  constructor
  · intro h
    obtain ⟨h1, h2, h3, h4, h5, h6⟩ := check_ok h
    obtain ⟨l1, l2, l3, l4, l5⟩ := check_len h
    have ha : asksGo c.voters c.terms c.clock c.asks 0 = 0 := by
      unfold asksE at h4; rw [if_neg (by omega), if_neg (by omega)] at h4; exact h4
    have hn : netGo c.nodes.length c.asks.length c.net = 0 := by
      unfold netE at h5; rw [if_neg (by omega)] at h5; exact h5
    have ha' := (asksGo_iff (by omega)).1 ha
    refine ⟨h1, h2, copGo_iff.1 h3, l1, l2.symm, fun j a hj => ?_, fun j a t hj ht => ?_, l3, netGo_iff.1 hn, h6⟩
    · have := ha' j a hj; exact ⟨by rw [this.1]; omega, this.2.1⟩
    · have := (ha' j a hj).2.2
      unfold gd at this
      rw [show (0 : Int).toNat + j = j by omega, ht] at this; exact this
  · intro h
    have ha : asksE c = 0 := by
      unfold asksE; rw [if_neg (by have := h.al; omega), if_neg (by have := h.tl; omega)]
      refine (asksGo_iff (by omega)).2 fun j a hj => ⟨by rw [(h.ask j a hj).1]; omega, (h.ask j a hj).2, ?_⟩
      have hjl := (List.getElem?_eq_some_iff.1 hj).1
      have ht := gd_get (d := (⟨0, 0⟩ : Term)) (xs := c.terms) (i := j) (by rw [h.tl]; exact hjl)
      rw [show (0 : Int).toNat + j = j by omega]
      exact h.tm j a _ hj ht
    have hn : netE c = 0 := by
      unfold netE; rw [if_neg (by have := h.ml; omega)]; exact netGo_iff.2 h.net
    unfold Cluster.checkE
    rw [if_neg (by have := h.q; omega), if_neg (by have := h.nl; omega), if_neg (by have := copGo_iff.2 h.cop; omega), if_neg (by omega), if_neg (by omega), if_neg (by have := h.clk; omega)]
theorem raw_ok {a b : Copy} (ha : a.checkE = 0) (hb : b.checkE = 0) : (a.raw b).checkE = 0 := by unfold Copy.raw; split <;> assumption
theorem msg_copy {m : Msg} (h : m.checkE = 0) : m.copy.checkE = 0 := (msg_node h).2
theorem msg_mk {k op n : Int} {c : Copy} (hk : 1 ≤ k ∧ k ≤ 4) (ho : 0 ≤ op ∧ op ≤ 30) (hn : 0 ≤ n ∧ n ≤ 11) (hc : c.checkE = 0) (hf : (k = 2 ∨ k = 3) ∨ c = ⟨⟨0, 0⟩, ⟨#[]⟩⟩) : (⟨k, op, n, c⟩ : Msg).checkE = 0 := by
  unfold Msg.checkE
  rw [if_neg (by simp only; omega), if_neg (by simp only; omega), if_neg (by simp only; omega), if_neg]
  rintro ⟨h1, h2⟩
  rcases hf with hf | hf
  · exact h1 hf
  · subst hf; exact h2 ⟨rfl, rfl, rfl⟩
theorem serve_ok {c : Copy} {m : Msg} (hc : c.checkE = 0) (hm : m.checkE = 0) : (serveA c m).1.checkE = 0 ∧ ∀ q, q ∈ (serveA c m).2.1 → q.checkE = 0 ∧ q.node = m.node ∧ q.op = m.op := by
  have hi := msg_in hm
  unfold serveA
  rw [if_neg (by omega), if_neg (by omega)]
  split
  · exact ⟨hc, fun q hq => by simp at hq; subst hq; exact ⟨msg_mk (by omega) (by omega) (by omega) hc (.inl (by omega)), rfl, rfl⟩⟩
  · split
    · exact ⟨raw_ok hc (msg_copy hm), fun q hq => by simp at hq; subst hq; exact ⟨msg_mk (by omega) (by omega) (by omega) (by decide) (.inr rfl), rfl, rfl⟩⟩
    · exact ⟨hc, fun q hq => by simp at hq⟩
theorem bitU_n {k : Int} (h : 0 ≤ k ∧ k < 64) : (bitU k).n = 2 ^ k.toNat := by
  unfold bitU
  have h1 : (uN (Int.toNat 1)).n = 1 := rfl
  have h2 : min k.toNat 64 = k.toNat := by omega
  have h3 : 2 ^ k.toNat < 18446744073709551616 := by
    have := Nat.pow_lt_pow_right (a := 2) (by decide) (show k.toNat < 64 by omega); simpa using this
  rw [h1, h2, Nat.one_mul, uN_n h3]
theorem or_len {a : U64} {k : Int} {n : Nat} (h : 0 ≤ k ∧ k < n ∧ n ≤ 12) (ha : a.n < 2 ^ n) : (opU .or a (bitU k)).n < 2 ^ n := by
  rw [opU_n, bitU_n (by omega)]
  exact opN_lt .or ha (Nat.pow_lt_pow_right (by decide) (by omega))
theorem ask_iff {a : Ask} {ws : List Int} {need : Int} : a.checkE ws need = 0 ↔ qcheckP ws need = 0 ∧ (0 ≤ a.op ∧ a.op ≤ 30) ∧ (1 ≤ a.kind ∧ a.kind ≤ 2) ∧ (1 ≤ a.phase ∧ a.phase ≤ 3) ∧ a.data.size ≤ 64 ∧ (a.kind = 1 → a.data.size = 0) ∧ a.best.checkE = 0 ∧ a.heard.n < 2 ^ ws.length := by
  refine ⟨ask_ok, fun ⟨h1, h2, h3, h4, h5, h6, h7, h8⟩ => ?_⟩
  unfold Ask.checkE
  have h9 : ¬ (len64 a.heard.n : Int) > ws.length := fun hh => by have := len64_gt.1 (show ws.length < len64 a.heard.n by omega); omega
  rw [if_neg (by omega), if_neg (by omega), if_neg (by omega), if_neg (by omega), if_neg (fun hh => hh.2 (h6 hh.1)), if_neg (by omega), if_neg h9]
theorem next_ok {s : Stp} {who : Int} (h : (nextL [s] who).2 = 0) : (nextL [s] who).1.okS := by
  unfold nextL at h ⊢
  split at h
  · rename_i h1; exact absurd h h1
  · rename_i h1
    split at h
    · simp at h
    · rename_i h2
      rw [if_neg h1, if_neg h2]
      have := maxP_ok (l := [s]) (by omega)
      unfold Stp.okS at this ⊢
      simp only
      omega
theorem copy_ok {c : Copy} : c.checkE = 0 ↔ c.at_.okS ∧ c.data.size ≤ 64 := by
  unfold Copy.checkE
  by_cases h : c.at_.okS
  · rw [if_pos h]
    by_cases h2 : c.data.size > 64
    · rw [if_pos h2]; simp; intro _; omega
    · rw [if_neg h2]; simp [h]; omega
  · rw [if_neg h]; simp [h]
theorem toAll_ok {n : Nat} {k op : Int} {c : Copy} (hk : 1 ≤ k ∧ k ≤ 4) (ho : 0 ≤ op ∧ op ≤ 30) (hn : n ≤ 12) (hc : c.checkE = 0) (hf : (k = 2 ∨ k = 3) ∨ c = ⟨⟨0, 0⟩, ⟨#[]⟩⟩) : ∀ q, q ∈ toAllM n ⟨k, op, 0, c⟩ → q.checkE = 0 ∧ 0 ≤ q.node ∧ q.node < n ∧ q.op = op ∧ q.kind = k ∧ q.copy = c := by
  intro q hq
  unfold toAllM at hq
  rw [List.mem_map] at hq
  obtain ⟨i, hi, rfl⟩ := hq
  rw [List.mem_range] at hi
  exact ⟨msg_mk hk ho (by omega) hc hf, by simp only; omega, by simp only; omega, rfl, rfl, rfl⟩
theorem hear_cases {v : Vtr} {a : Ask} {m : Msg} (ha : a.checkE v.weights v.need = 0) (hm : m.checkE = 0) : hearA v a m = (a, [], 0) ∨
    (m.op = a.op ∧ m.kind = wantsA a.phase ∧ m.node < v.weights.length ∧
      (hearA v a m = (heardA a m, [], 0) ∨
      ((enoughP v.weights v.need (heardA a m).heard.n).1 = true ∧ a.phase = 2 ∧ hearA v a m = (⟨a.op, a.kind, 3, a.data, (heardA a m).best, (heardA a m).heard⟩, [], 0)) ∨
      ((enoughP v.weights v.need (heardA a m).heard.n).1 = true ∧ a.phase = 1 ∧ a.kind = 1 ∧ hearA v a m = (⟨a.op, a.kind, 2, a.data, (heardA a m).best, uN (Int.toNat 0)⟩, toAllM v.weights.length ⟨3, a.op, 0, (heardA a m).best⟩, 0)) ∨
      ((enoughP v.weights v.need (heardA a m).heard.n).1 = true ∧ a.phase = 1 ∧ a.kind = 2 ∧ (nextL [(heardA a m).best.at_] a.op).2 = 0 ∧
        hearA v a m = (⟨a.op, a.kind, 2, a.data, ⟨(nextL [(heardA a m).best.at_] a.op).1, a.data⟩, uN (Int.toNat 0)⟩, toAllM v.weights.length ⟨3, a.op, 0, ⟨(nextL [(heardA a m).best.at_] a.op).1, a.data⟩⟩, 0)))) := by
  obtain ⟨h1, h2, h3, h4, h5, h6, h7, h8⟩ := ask_ok ha
  have hi := msg_in hm
  have hw : m.kind = wantsA a.phase → a.phase = 1 ∨ a.phase = 2 := by unfold wantsA; intro h; split at h <;> first | omega | (split at h <;> omega)
  unfold hearA
  rw [if_neg (by omega), if_neg (by omega)]
  unfold hearT
  split
  · exact .inl rfl
  · rename_i c1
    have c1' : m.op = a.op ∧ m.kind = wantsA a.phase ∧ m.node < v.weights.length := by omega
    have hp := hw c1'.2.1
    split
    · exact .inr ⟨c1'.1, c1'.2.1, c1'.2.2, .inl rfl⟩
    · rename_i c2
      have c2' : (enoughP v.weights v.need (heardA a m).heard.n).1 = true := by simpa using c2
      split
      · rename_i c3; exact .inr ⟨c1'.1, c1'.2.1, c1'.2.2, .inr (.inl ⟨c2', c3, rfl⟩)⟩
      · rename_i c3
        split
        · rename_i c4; exact .inr ⟨c1'.1, c1'.2.1, c1'.2.2, .inr (.inr (.inl ⟨c2', by omega, c4, rfl⟩))⟩
        · rename_i c4
          split
          · rename_i c5; exact .inr ⟨c1'.1, c1'.2.1, c1'.2.2, .inr (.inr (.inr ⟨c2', by omega, by omega, c5, rfl⟩))⟩
          · exact .inl rfl
theorem heard_ok {v : Vtr} {a : Ask} {m : Msg} (ha : a.checkE v.weights v.need = 0) (hm : m.checkE = 0) (hn : m.node < v.weights.length) : (heardA a m).checkE v.weights v.need = 0 := by
  have h := ask_ok ha
  have hi := msg_in hm
  have hl := qc_len h.1
  refine ask_iff.2 ⟨h.1, h.2.1, h.2.2.1, h.2.2.2.1, h.2.2.2.2.1, h.2.2.2.2.2.1, ?_, or_len ⟨hi.2.2.1, hn, hl⟩ h.2.2.2.2.2.2.2⟩
  show (if a.phase = 1 then a.best.raw m.copy else a.best).checkE = 0
  split
  · exact raw_ok h.2.2.2.2.2.2.1 (msg_copy hm)
  · exact h.2.2.2.2.2.2.1
theorem hear_ok {v : Vtr} {a : Ask} {m : Msg} (ha : a.checkE v.weights v.need = 0) (hm : m.checkE = 0) : (hearA v a m).1.checkE v.weights v.need = 0 ∧ (hearA v a m).1.op = a.op ∧ (∀ q, q ∈ (hearA v a m).2.1 → q.checkE = 0 ∧ 0 ≤ q.node ∧ q.node < v.weights.length ∧ q.op = a.op) := by
  have h := ask_ok ha
  have hl := qc_len h.1
  have z0 : (uN (Int.toNat 0)).n = 0 := rfl
  have zp : (uN (Int.toNat 0)).n < 2 ^ v.weights.length := by rw [z0]; exact Nat.two_pow_pos _
  rcases hear_cases ha hm with e | ⟨h1, h2, h3, e | ⟨_, h5, e⟩ | ⟨_, h5, h6, e⟩ | ⟨_, h5, h6, h7, e⟩⟩ <;> rw [e]
  · exact ⟨ha, rfl, fun q hq => by simp at hq⟩
  · exact ⟨heard_ok ha hm h3, rfl, fun q hq => by simp at hq⟩
  · have hh := ask_ok (heard_ok ha hm h3)
    exact ⟨ask_iff.2 ⟨h.1, h.2.1, h.2.2.1, by simp only; omega, h.2.2.2.2.1, h.2.2.2.2.2.1, hh.2.2.2.2.2.2.1, hh.2.2.2.2.2.2.2⟩, rfl, fun q hq => by simp at hq⟩
  · have hh := ask_ok (heard_ok ha hm h3)
    refine ⟨ask_iff.2 ⟨h.1, h.2.1, h.2.2.1, by simp only; omega, h.2.2.2.2.1, h.2.2.2.2.2.1, hh.2.2.2.2.2.2.1, zp⟩, rfl, fun q hq => ?_⟩
    obtain ⟨q1, q2, q3, q4, _⟩ := toAll_ok (by omega) h.2.1 hl hh.2.2.2.2.2.2.1 (.inl (.inr rfl)) q hq
    exact ⟨q1, q2, q3, q4⟩
  · have hc : (⟨(nextL [(heardA a m).best.at_] a.op).1, a.data⟩ : Copy).checkE = 0 := copy_ok.2 ⟨next_ok h7, h.2.2.2.2.1⟩
    refine ⟨ask_iff.2 ⟨h.1, h.2.1, h.2.2.1, by simp only; omega, h.2.2.2.2.1, h.2.2.2.2.2.1, hc, zp⟩, rfl, fun q hq => ?_⟩
    obtain ⟨q1, q2, q3, q4, _⟩ := toAll_ok (by omega) h.2.1 hl hc (.inl (.inr rfl)) q hq
    exact ⟨q1, q2, q3, q4⟩
theorem begin_ok {v : Vtr} {op kind : Int} {data : ByteArray} (h : (beginA v op kind data).2.2 = 0) : beginA v op kind data = (Ask.new op kind data, toAllM v.weights.length ⟨1, op, 0, ⟨⟨0, 0⟩, ⟨#[]⟩⟩⟩, 0) ∧ (Ask.new op kind data).checkE v.weights v.need = 0 := by
  unfold beginA at h ⊢
  split at h
  · rename_i h1; exact absurd h h1
  · rename_i h1; rw [if_neg h1]; exact ⟨rfl, by omega⟩
theorem term_up {t : Term} {a : Ask} {k : Int} (h : termB t a k = true) : termB t a (k + 1) = true := by
  unfold termB at h ⊢
  simp only [decide_eq_true_eq] at h ⊢
  split at h
  · rename_i hp; rw [if_pos hp]; omega
  · rename_i hp; rw [if_neg hp]; omega
theorem mem_erase {α : Type} {l : List α} {n : Nat} {x : α} (h : x ∈ l.eraseIdx n) : x ∈ l := List.mem_of_mem_eraseIdx h
theorem get_set {α : Type} {l : List α} {i j : Nat} {x y : α} (h : (l.set i x)[j]? = some y) : (i = j ∧ y = x ∧ i < l.length) ∨ (i ≠ j ∧ l[j]? = some y) := by
  rw [List.getElem?_set] at h
  by_cases hij : i = j
  · rw [if_pos hij] at h
    split at h
    · simp at h; exact .inl ⟨hij, h.symm, by omega⟩
    · simp at h
  · rw [if_neg hij] at h; exact .inr ⟨hij, h⟩
theorem send_ok {c : Cluster} (h : (sendC c).2 = 0) : sendC c = (c, 0) ∧ c.net.length ≤ 200 := by
  unfold sendC at h ⊢
  split at h
  · simp at h
  · rename_i h1; rw [if_neg h1]; exact ⟨rfl, by omega⟩
theorem hear_done {v : Vtr} {a : Ask} {m : Msg} (ha : a.checkE v.weights v.need = 0) (hm : m.checkE = 0) (hp : a.phase = 3) : hearA v a m = (a, [], 0) := by
  rcases hear_cases ha hm with e | ⟨h1, h2, _⟩
  · exact e
  · have := msg_in hm
    unfold wantsA at h2; rw [hp] at h2; simp at h2; omega
theorem term_ph {t : Term} {a b : Ask} {k : Int} (h : termB t a k = true) (hp : b.phase = 3 ↔ a.phase = 3) : termB t b k = true := by
  unfold termB at h ⊢
  simp only [decide_eq_true_eq] at h ⊢
  by_cases h1 : a.phase = 3
  · rw [if_pos h1] at h; rw [if_pos (hp.2 h1)]; exact h
  · rw [if_neg h1] at h; rw [if_neg (fun hh => h1 (hp.1 hh))]; exact h
theorem step_cases {c : Cluster} {x : Step} (hc : c.checkE = 0) (h : (stepP c x).2 = 0) : c.clock < 1000000 ∧
    ((∃ kind data, ((x.kind = 1 ∧ kind = 1 ∧ data = ⟨#[]⟩) ∨ (x.kind = 2 ∧ kind = 2 ∧ data = x.data)) ∧ c.asks.length < 31 ∧ (beginA c.voters c.asks.length kind data).2.2 = 0 ∧
        stepP c x = (⟨c.voters, c.nodes, c.asks ++ [(beginA c.voters c.asks.length kind data).1], c.terms ++ [⟨c.clock + 1, 0⟩], c.net ++ (beginA c.voters c.asks.length kind data).2.1, c.clock + 1⟩, 0) ∧ (stepP c x).1.net.length ≤ 200) ∨
      (∃ m, 0 ≤ x.n ∧ x.n < c.net.length ∧ m = gd Msg.nil c.net x.n.toNat ∧ m ∈ c.net ∧
        ((x.kind = 5 ∧ stepP c x = (⟨c.voters, c.nodes, c.asks, c.terms, c.net ++ [m], c.clock + 1⟩, 0) ∧ (stepP c x).1.net.length ≤ 200) ∨
         (x.kind = 4 ∧ stepP c x = (⟨c.voters, c.nodes, c.asks, c.terms, c.net.eraseIdx x.n.toNat, c.clock + 1⟩, 0)) ∨
         (x.kind = 3 ∧ stepP c x = (passC ⟨c.voters, c.nodes, c.asks, c.terms, c.net.eraseIdx x.n.toNat, c.clock + 1⟩ m, 0) ∧ (stepP c x).1.net.length ≤ 200)))) := by
  have hl := check_len hc
  have hk := (check_ok hc).2.2.2.2.2
  have bg : ∀ (c' : Cluster) kind data, c'.asks.length ≤ 31 → (beginC c' kind data).2 = 0 → c'.asks.length < 31 ∧ (beginA c'.voters c'.asks.length kind data).2.2 = 0 ∧ beginC c' kind data = (⟨c'.voters, c'.nodes, c'.asks ++ [(beginA c'.voters c'.asks.length kind data).1], c'.terms ++ [⟨c'.clock, 0⟩], c'.net ++ (beginA c'.voters c'.asks.length kind data).2.1, c'.clock⟩, 0) ∧ (beginC c' kind data).1.net.length ≤ 200 := by
    intro c' kind data hle hb
    unfold beginC at hb ⊢
    split at hb
    · simp at hb
    · rename_i h1
      split at hb
      · rename_i h2; exact absurd hb h2
      · rename_i h2
        rw [if_neg h1, if_neg h2]
        obtain ⟨e1, e2⟩ := send_ok hb
        exact ⟨by omega, by omega, e1, by rw [e1]; exact e2⟩
  unfold stepP at h ⊢
  split at h
  · simp at h
  rename_i g1; rw [if_neg g1]
  split at h
  · simp at h
  rename_i g2; rw [if_neg g2]
  split at h
  · simp at h
  rename_i g3; rw [if_neg g3]
  refine ⟨by omega, ?_⟩
  split at h
  · rename_i g4; rw [if_pos g4]
    obtain ⟨q1, q2, q3, q4⟩ := bg _ _ _ (by simpa using hl.1) h
    exact .inl ⟨1, ⟨#[]⟩, .inl ⟨g4, rfl, rfl⟩, q1, q2, q3, q4⟩
  rename_i g4; rw [if_neg g4]
  split at h
  · rename_i g5; rw [if_pos g5]
    obtain ⟨q1, q2, q3, q4⟩ := bg _ _ _ (by simpa using hl.1) h
    exact .inl ⟨2, x.data, .inr ⟨g5, rfl, rfl⟩, q1, q2, q3, q4⟩
  rename_i g5; rw [if_neg g5]
  split at h
  · simp at h
  rename_i g6; rw [if_neg g6]
  refine .inr ⟨_, by omega, by omega, rfl, gd_mem (by omega), ?_⟩
  split at h
  · rename_i g7; rw [if_pos g7]
    obtain ⟨e1, e2⟩ := send_ok h
    exact .inl ⟨g7, e1, by rw [e1]; exact e2⟩
  rename_i g7; rw [if_neg g7]
  split at h
  · rename_i g8; rw [if_pos g8]; exact .inr (.inl ⟨g8, rfl⟩)
  rename_i g8; rw [if_neg g8]
  obtain ⟨e1, e2⟩ := send_ok h
  exact .inr (.inr ⟨by omega, e1, by rw [e1]; exact e2⟩)
theorem step_ok {c : Cluster} {x : Step} (hc : c.checkE = 0) (h : (stepP c x).2 = 0) : (stepP c x).1.checkE = 0 := by
  have ok := Cluster.ok_iff.1 hc
  have hl := qc_len ok.q
  have hnl := ok.nl
  have htl := ok.tl
  have hclk := ok.clk
  refine Cluster.ok_iff.2 ?_
  obtain ⟨hk, ⟨kind, data, hkd, hal, hb, e, hn⟩ | ⟨m, h0, h1, hm, hmem, ⟨_, e, hn⟩ | ⟨_, e⟩ | ⟨_, e, hn⟩⟩⟩ := step_cases hc h
  · rw [e] at hn ⊢
    obtain ⟨b1, b2⟩ := begin_ok hb
    rw [b1] at hn ⊢
    have bo := ask_ok b2
    refine ⟨ok.q, ok.nl, ok.cop, by simp; omega, by simp; omega, fun j a hj => ?_, fun j a t hj ht => ?_, hn, fun q hq => ?_, by simp only; omega⟩
    · simp only at hj
      rcases Nat.lt_or_ge j c.asks.length with hlt | hge
      · rw [List.getElem?_append_left hlt] at hj; exact ok.ask j a hj
      · rw [List.getElem?_append_right hge] at hj
        have hj0 : j - c.asks.length = 0 := by
          rcases Nat.eq_zero_or_pos (j - c.asks.length) with h | h
          · exact h
          · rw [List.getElem?_eq_none (by simp; omega)] at hj; simp at hj
        rw [hj0] at hj; simp at hj; subst hj
        refine ⟨?_, b2⟩
        show (c.asks.length : Int) = j
        omega
    · simp only at hj ht
      rcases Nat.lt_or_ge j c.asks.length with hlt | hge
      · rw [List.getElem?_append_left hlt] at hj
        rw [List.getElem?_append_left (by omega)] at ht
        exact term_up (ok.tm j a t hj ht)
      · rw [List.getElem?_append_right hge] at hj
        rw [List.getElem?_append_right (by omega)] at ht
        have hj0 : j - c.asks.length = 0 := by
          rcases Nat.eq_zero_or_pos (j - c.asks.length) with h | h
          · exact h
          · rw [List.getElem?_eq_none (by simp; omega)] at hj; simp at hj
        rw [hj0] at hj; rw [show j - c.terms.length = 0 by omega] at ht
        simp at hj ht; subst hj; subst ht
        unfold termB Ask.new
        simp; omega
    · simp only [List.mem_append] at hq
      rcases hq with hq | hq
      · have := ok.net q hq; simp; omega
      · obtain ⟨q1, q2, q3, q4, _⟩ := toAll_ok (by omega) bo.2.1 hl (by decide) (.inr rfl) q hq
        refine ⟨q1, by simp only; omega, ?_⟩
        rw [q4]; simp; show (c.asks.length : Int) < _; omega
  · rw [e] at hn ⊢
    refine ⟨ok.q, ok.nl, ok.cop, ok.al, ok.tl, ok.ask, fun j a t hj ht => term_up (ok.tm j a t hj ht), hn, fun q hq => ?_, by simp only; omega⟩
    simp only [List.mem_append, List.mem_singleton] at hq
    rcases hq with hq | rfl
    · exact ok.net q hq
    · exact ok.net q hmem
  · rw [e]
    refine ⟨ok.q, ok.nl, ok.cop, ok.al, ok.tl, ok.ask, fun j a t hj ht => term_up (ok.tm j a t hj ht), ?_, fun q hq => ok.net q (mem_erase hq), by simp only; omega⟩
    have := ok.ml
    simp only [List.length_eraseIdx]; split <;> omega
  · rw [e] at hn ⊢
    have om := ok.net m hmem
    have hi := msg_in om.1
    unfold passC at hn ⊢
    split at hn
    · rename_i hp
      rw [if_pos hp]
      have hget := gd_get (d := Copy.nil) (xs := c.nodes) (i := m.node.toNat) (by omega)
      have hcn := ok.cop _ (List.mem_of_getElem? hget)
      have hs := serve_ok hcn om.1
      refine ⟨ok.q, by simp only [List.length_set]; exact ok.nl, fun y hy => ?_, ok.al, ok.tl, ok.ask, fun j a t hj ht => term_up (ok.tm j a t hj ht), hn, fun q hq => ?_, by simp only; omega⟩
      · rcases List.mem_or_eq_of_mem_set hy with hy | rfl
        · exact ok.cop y hy
        · exact hs.1
      · simp only [List.mem_append] at hq
        simp only [List.length_set]
        rcases hq with hq | hq
        · exact ok.net q (mem_erase hq)
        · have := hs.2 q hq; omega
    · rename_i hp
      rw [if_neg hp]
      have hget := gd_get (d := Ask.nil) (xs := c.asks) (i := m.op.toNat) (by omega)
      have hca := ok.ask _ _ hget
      have hh := hear_ok hca.2 om.1
      refine ⟨ok.q, ok.nl, ok.cop, by simp only [List.length_set]; exact ok.al, ?_, fun j a hj => ?_, fun j a t hj ht => ?_, hn, fun q hq => ?_, by simp only; omega⟩
      · simp only [List.length_set]
        split
        · rw [List.length_set]; exact ok.tl
        · exact ok.tl
      · rcases get_set hj with ⟨rfl, rfl, _⟩ | ⟨_, hj⟩
        · exact ⟨hh.2.1.trans hca.1, hh.1⟩
        · exact ok.ask j a hj
      · simp only at hj ht
        rcases get_set hj with ⟨rfl, rfl, hlt⟩ | ⟨hne, hj⟩
        · have hgt := gd_get (d := (⟨0, 0⟩ : Term)) (xs := c.terms) (i := m.op.toNat) (by omega)
          have h0 := ok.tm _ _ _ hget hgt
          split at ht
          · rename_i hph
            rw [List.getElem?_set_self (by omega)] at ht
            simp only [Option.some.injEq] at ht; subst ht
            unfold termB at h0 ⊢
            simp only [decide_eq_true_eq] at h0 ⊢
            rw [if_pos hph.1]
            rw [if_neg hph.2] at h0
            omega
          · rename_i hph
            rw [hgt] at ht
            simp only [Option.some.injEq] at ht; subst ht
            refine term_up (term_ph h0 ⟨fun h3 => ?_, fun h3 => ?_⟩)
            · by_cases h4 : (gd Ask.nil c.asks m.op.toNat).phase = 3
              · exact h4
              · exact absurd ⟨h3, h4⟩ hph
            · rw [hear_done hca.2 om.1 h3]; exact h3
        · split at ht
          · rw [List.getElem?_set_ne hne] at ht; exact term_up (ok.tm j a t hj ht)
          · exact term_up (ok.tm j a t hj ht)
      · simp only [List.mem_append] at hq
        simp only [List.length_set]
        rcases hq with hq | hq
        · exact ok.net q (mem_erase hq)
        · have := hh.2.2 q hq
          have h8 := hca.1
          omega
open Go.RowKit
def doP (c : Cluster) (x : Step) : Cluster × Int := if c.checkE ≠ 0 then (Cluster.zero, c.checkE) else stepP c x
def runGo : List Step → Cluster → Int → Cluster × Int
  | [], c, n => (c, n)
  | x :: r, c, n => if (stepP c x).2 = 0 then runGo r (stepP c x).1 (n + 1) else runGo r c n
def runP (c : Cluster) (l : List Step) : Cluster × Int × Int := if c.checkE ≠ 0 then (Cluster.zero, 0, c.checkE) else if l.length > 200 then (Cluster.zero, 0, 2) else ((runGo l c 0).1, (runGo l c 0).2, 0)
theorem small_of {c : Cluster} (h : c.checkE = 0) : Clu.small c := by
  have := check_len h
  unfold Clu.small; omega
def k_13 : Con Tc Tc.dn := ⟨13, [.ty .cCluster, .ty .cStep], fun x => (fun (c : Cluster) (x : Step) => True) x.1 x.2.1, [.cCluster, .cInt], fun x => (fun (c : Cluster) (x : Step) => doP c x) x.1 x.2.1⟩
theorem k_13_v (c : Cluster) (x : Step) : True ∧ (¬c.checkE = (0 : Int) → (Cluster.mk (Vtr.mk [] (0 : Int)) [] [] [] [] (0 : Int), c.checkE) = doP c x) ∧ (c.checkE = (0 : Int) → c.checkE = (0 : Int) ∧ stepP c x = doP c x) := by
  (repeat' (first | apply And.intro | intro _)) <;> first | assumption | trivial | omega | (grind [doP, Cluster.zero]) | trace_state
theorem k_13_ok : k_13.Ok Tryd.prog tD := con_ok tD_ok (Δ := [k_18, k_37]) ⟨k_18_ok, k_37_ok, trivial⟩ (Ω := []) trivial k_13 F13_ok F13_call (fun _ => []) (fun _ => trivial) 0 (fun x => (fun (c : Cluster) (x : Step) => (fun _ => none)) x.1 x.2.1) fun x hp => Eq.mp (by kernel_rfl) (k_13_v x.1 x.2.1)
def i_20_0 (c : Cluster) (l : (List Step)) (i : Int) (n : Int) (d : Cluster) : Prop := 0 ≤ i ∧ i ≤ l.length ∧ l.length ≤ 200 ∧ 0 ≤ n ∧ n ≤ i ∧ d.checkE = 0 ∧ c.checkE = 0 ∧ runGo (l.drop i.toNat) d n = runGo l c 0
def k_20 : Con Tc Tc.dn := ⟨20, [.ty .cCluster, .ty .lStep], fun x => (fun (c : Cluster) (l : (List Step)) => True) x.1 x.2.1, [.cCluster, .cInt, .cInt], fun x => (fun (c : Cluster) (l : (List Step)) => runP c l) x.1 x.2.1⟩
theorem k_20_v (c : Cluster) (l : (List Step)) : True ∧ (c.checkE = (0 : Int) → c.checkE = (0 : Int)) ∧ (c.checkE = (0 : Int) → c.checkE = (0 : Int)) ∧ (c.checkE = (0 : Int) → c.checkE = (0 : Int)) ∧ (c.checkE = (0 : Int) ∧ (200 : Int) < (↑l.length : Int) → (Cluster.mk (Vtr.mk [] (0 : Int)) [] [] [] [] (0 : Int), (0 : Int), (2 : Int)) = runP c l) ∧ (¬c.checkE = (0 : Int) ∨ (↑l.length : Int) ≤ (200 : Int) → (¬c.checkE = (0 : Int) → (Cluster.mk (Vtr.mk [] (0 : Int)) [] [] [] [] (0 : Int), (0 : Int), c.checkE) = runP c l) ∧ (c.checkE = (0 : Int) → Clu.small c ∧ i_20_0 c l (0 : Int) (0 : Int) c ∧ ∀ (x x_1 : Int) (x_2 : Cluster), i_20_0 c l x x_1 x_2 → (x < (↑l.length : Int) → ((0 : Int) ≤ x ∧ x < (↑l.length : Int)) ∧ x_2.checkE = (0 : Int) ∧ ((stepP x_2 (gd (Step.mk (0 : Int) (0 : Int) ByteArray.empty) l x.toNat)).snd = (0 : Int) → I64 (x_1 + (1 : Int)) ∧ I64 (x + (1 : Int)) ∧ i_20_0 c l (x + (1 : Int)) (x_1 + (1 : Int)) (stepP x_2 (gd (Step.mk (0 : Int) (0 : Int) ByteArray.empty) l x.toNat)).fst ∧ ((↑l.length : Int) - (x + (1 : Int))).toNat < ((↑l.length : Int) - x).toNat) ∧ (¬(stepP x_2 (gd (Step.mk (0 : Int) (0 : Int) ByteArray.empty) l x.toNat)).snd = (0 : Int) → I64 (x + (1 : Int)) ∧ i_20_0 c l (x + (1 : Int)) x_1 x_2 ∧ ((↑l.length : Int) - (x + (1 : Int))).toNat < ((↑l.length : Int) - x).toNat)) ∧ ((↑l.length : Int) ≤ x → (x_2, x_1, (0 : Int)) = runP c l))) := by
  have hso := @step_ok
  have hcl := @check_len c
  (repeat' (first | apply And.intro | intro _)) <;> first | assumption | trivial | omega | (grind [runP, runGo, i_20_0, I64, drop_gd, drop_end, Cluster.zero, small_of]) | trace_state
theorem k_20_ok : k_20.Ok Tryd.prog tD := con_ok tD_ok (Δ := [k_18, k_52, k_37]) ⟨k_18_ok, k_52_ok, k_37_ok, trivial⟩ (Ω := []) trivial k_20 F20_ok F20_call (fun _ => []) (fun _ => trivial) 0 (fun x => (fun (c : Cluster) (l : (List Step)) => (fun k => bif Nat.beq k 0 then some (.inv [.sl 30 .cInt, .sl 8 .cInt, .ce 0 .cCluster] (fun zv => (fun (i : Int) (n : Int) (d : Cluster) => i_20_0 c l i n d) zv.1 zv.2.1 zv.2.2.1) (fun zv => (fun (i : Int) (n : Int) (d : Cluster) => ((l.length : Int) - i).toNat) zv.1 zv.2.1 zv.2.2.1)) else none)) x.1 x.2.1) fun x hp => Eq.mp (by kernel_rfl) (k_20_v x.1 x.2.1)
open Go.RowKit
def passS : Step := ⟨3, 0, ⟨#[]⟩⟩
def satC (v : Vtr) (l : List Step) : Cluster × Bool := if (newC v).2 ≠ 0 then ((newC v).1, false) else ((runP (newC v).1 l).1, decide ((runP (newC v).1 l).2.2 = 0))
theorem rep_succ {i : Int} (h : 0 ≤ i) (x : Step) : List.replicate (i + 1).toNat x = List.replicate i.toNat x ++ [x] := by
  rw [show (i + 1).toNat = i.toNat + 1 by omega, List.replicate_succ']
def k_42 : Con Tc Tc.dn := ⟨42, [], fun _ => True, [.cVoters], fun _ => ⟨[1, 1, 1], 2⟩⟩
theorem k_42_v  : Vtr.mk [(1 : Int), (1 : Int), (1 : Int)] (2 : Int) = Vtr.mk [(1 : Int), (1 : Int), (1 : Int)] (2 : Int) := by
  rfl
theorem k_42_ok : k_42.Ok Tryd.prog tD := con_ok tD_ok (Δ := []) trivial (Ω := []) trivial k_42 F42_ok F42_call (fun _ => []) (fun _ => trivial) 0 (fun _ => fun _ => none) fun x hp => Eq.mp (by kernel_rfl) (k_42_v )
def k_30 : Con Tc Tc.dn := ⟨30, [.ty .cInt, .ty .cInt], fun x => (fun (t : Int) (w : Int) => True) x.1 x.2.1, [.cStamp], fun x => (fun (t : Int) (w : Int) => ⟨t, w⟩) x.1 x.2.1⟩
theorem k_30_v (t : Int) (w : Int) : Stp.mk t w = Stp.mk t w := by
  rfl
theorem k_30_ok : k_30.Ok Tryd.prog tD := con_ok tD_ok (Δ := []) trivial (Ω := []) trivial k_30 F30_ok F30_call (fun _ => []) (fun _ => trivial) 0 (fun x => (fun (t : Int) (w : Int) => (fun _ => none)) x.1 x.2.1) fun x hp => Eq.mp (by kernel_rfl) (k_30_v x.1 x.2.1)
def k_29 : Con Tc Tc.dn := ⟨29, [.ty .cInt, .ty .cInt, .ty .cStr], fun x => (fun (t : Int) (w : Int) (s : ByteArray) => True) x.1 x.2.1 x.2.2.1, [.cCopy], fun x => (fun (t : Int) (w : Int) (s : ByteArray) => ⟨⟨t, w⟩, s⟩) x.1 x.2.1 x.2.2.1⟩
theorem k_29_v (t : Int) (w : Int) (s : ByteArray) : True ∧ Copy.mk (Stp.mk t w) s = Copy.mk (Stp.mk t w) s := by
  (repeat' (first | apply And.intro | intro _)) <;> first | assumption | trivial | omega | (grind []) | trace_state
theorem k_29_ok : k_29.Ok Tryd.prog tD := con_ok tD_ok (Δ := [k_30]) ⟨k_30_ok, trivial⟩ (Ω := []) trivial k_29 F29_ok F29_call (fun _ => []) (fun _ => trivial) 0 (fun x => (fun (t : Int) (w : Int) (s : ByteArray) => (fun _ => none)) x.1 x.2.1 x.2.2.1) fun x hp => Eq.mp (by kernel_rfl) (k_29_v x.1 x.2.1 x.2.2.1)
def i_43_0 (n : Int) (out : (List Step)) (i : Int) : Prop := 0 ≤ i ∧ i ≤ n ∧ n ≤ 1000 ∧ out = List.replicate i.toNat passS
def k_43 : Con Tc Tc.dn := ⟨43, [.ty .cInt], fun x => (fun (n : Int) => 0 ≤ n ∧ n ≤ 1000) x.1, [.lStep], fun x => (fun (n : Int) => List.replicate n.toNat passS) x.1⟩
theorem k_43_v (n : Int) (hp : 0 ≤ n ∧ n ≤ 1000) : i_43_0 n [] (0 : Int) ∧ ∀ (x : List Step) (x_1 : Int), i_43_0 n x x_1 → (x_1 < n → (x.length + (1 : Nat)) * (32 : Nat) ≤ (140737488355328 : Nat) ∧ I64 (x_1 + (1 : Int)) ∧ i_43_0 n (x ++ [Step.mk (3 : Int) (0 : Int) (ByteArray.mk #[])]) (x_1 + (1 : Int)) ∧ (n - (x_1 + (1 : Int))).toNat < (n - x_1).toNat) ∧ (n ≤ x_1 → x = List.replicate n.toNat passS) := by
  (repeat' (first | apply And.intro | intro _)) <;> first | assumption | trivial | omega | (grind [i_43_0, rep_succ, passS, I64, List.length_replicate]) | trace_state
theorem k_43_ok : k_43.Ok Tryd.prog tD := con_ok tD_ok (Δ := []) trivial (Ω := []) trivial k_43 F43_ok F43_call (fun _ => []) (fun _ => trivial) 0 (fun x => (fun (n : Int) => (fun k => bif Nat.beq k 0 then some (.inv [.ow 3 .cStep, .sl 4 .cInt] (fun zv => (fun (out : (List Step)) (i : Int) => i_43_0 n out i) zv.1 zv.2.1) (fun zv => (fun (out : (List Step)) (i : Int) => (n - i).toNat) zv.1 zv.2.1)) else none)) x.1) fun x hp => Eq.mp (by kernel_rfl) (k_43_v x.1 hp)
def k_22 : Con Tc Tc.dn := ⟨22, [.ty .cVoters, .ty .lStep], fun x => (fun (v : Vtr) (l : (List Step)) => True) x.1 x.2.1, [.cCluster, .cBool], fun x => (fun (v : Vtr) (l : (List Step)) => satC v l) x.1 x.2.1⟩
theorem k_22_v (v : Vtr) (l : (List Step)) : True ∧ (¬(newC v).snd = (0 : Int) → ((newC v).fst, false) = satC v l) ∧ ((newC v).snd = (0 : Int) → True ∧ ((runP (newC v).fst l).fst, (runP (newC v).fst l).snd.snd == (0 : Int)) = satC v l) := by
  (repeat' (first | apply And.intro | intro _)) <;> first | assumption | trivial | omega | (grind [satC]) | trace_state
theorem k_22_ok : k_22.Ok Tryd.prog tD := con_ok tD_ok (Δ := [k_12, k_20]) ⟨k_12_ok, k_20_ok, trivial⟩ (Ω := []) trivial k_22 F22_ok F22_call (fun _ => []) (fun _ => trivial) 0 (fun x => (fun (v : Vtr) (l : (List Step)) => (fun _ => none)) x.1 x.2.1) fun x hp => Eq.mp (by kernel_rfl) (k_22_v x.1 x.2.1)
def k_16 : Con Tc Tc.dn := ⟨16, [], fun _ => True, [.cBool], fun _ => true⟩
abbrev z16_1 := (Ask.mk (0 : Int) (0 : Int) (0 : Int) ByteArray.empty (Copy.mk (Stp.mk (0 : Int) (0 : Int)) ByteArray.empty) (U64.mk (0 : Nat) LY.u64._proof_1))
abbrev z16_6 := (newC (Vtr.mk [(1 : Int), (1 : Int), (1 : Int)] (2 : Int)))
abbrev z16_0 := (runP z16_6.fst ([Step.mk (2 : Int) (0 : Int) (ByteArray.mk #[(97 : UInt8)])] ++ List.replicate (Int.toNat (12 : Int)) passS ++ [Step.mk (1 : Int) (0 : Int) (ByteArray.mk #[])] ++ List.replicate (Int.toNat (12 : Int)) passS))
abbrev z16_3 := ((z16_6.snd = (0 : Int) ∧ z16_0.snd.snd = (0 : Int)) ∧ z16_0.snd.fst = (26 : Int))
abbrev z16_2 := (((z16_3 ∧ (↑z16_0.fst.asks.length : Int) = (2 : Int)) ∧ (gd z16_1 z16_0.fst.asks (Int.toNat (0 : Int))).phase = (3 : Int)) ∧ (gd z16_1 z16_0.fst.asks (Int.toNat (1 : Int))).best.at_.time = (1 : Int) ∧ (gd z16_1 z16_0.fst.asks (Int.toNat (1 : Int))).best.at_.who = (0 : Int) ∧ (gd z16_1 z16_0.fst.asks (Int.toNat (1 : Int))).best.data = ByteArray.mk #[(97 : UInt8)])
abbrev z16_4 := (((z16_3 ∧ (↑z16_0.fst.asks.length : Int) = (2 : Int)) ∧ (gd z16_1 z16_0.fst.asks (Int.toNat (0 : Int))).phase = (3 : Int)) ∧ (gd z16_1 z16_0.fst.asks (Int.toNat (1 : Int))).best.at_.time = (1 : Int) ∧ (gd z16_1 z16_0.fst.asks (Int.toNat (1 : Int))).best.at_.who = (0 : Int) ∧ (gd z16_1 z16_0.fst.asks (Int.toNat (1 : Int))).best.data = ByteArray.mk #[(97 : UInt8)] → ((z16_3 ∧ (↑z16_0.fst.asks.length : Int) = (2 : Int)) ∧ (gd z16_1 z16_0.fst.asks (Int.toNat (0 : Int))).phase = (3 : Int)) ∧ (gd z16_1 z16_0.fst.asks (Int.toNat (1 : Int))).best.at_.time = (1 : Int) ∧ (gd z16_1 z16_0.fst.asks (Int.toNat (1 : Int))).best.at_.who = (0 : Int) ∧ (gd z16_1 z16_0.fst.asks (Int.toNat (1 : Int))).best.data = ByteArray.mk #[(97 : UInt8)])
abbrev z16_5 := ((z16_3 ∧ (↑z16_0.fst.asks.length : Int) = (2 : Int)) ∧ (gd z16_1 z16_0.fst.asks (Int.toNat (0 : Int))).phase = (3 : Int) → (z16_3 ∧ (↑z16_0.fst.asks.length : Int) = (2 : Int)) ∧ (gd z16_1 z16_0.fst.asks (Int.toNat (0 : Int))).phase = (3 : Int))
abbrev z16_7 := (gd (Term.mk (0 : Int) (0 : Int)) z16_0.fst.terms (Int.toNat (1 : Int)))
abbrev z16_8 := (((z16_2 ∧ (0 : Int) < z16_7.end_) ∧ (↑z16_0.fst.net.length : Int) = (0 : Int)) ∧ (doP z16_6.fst (Step.mk (3 : Int) (0 : Int) (ByteArray.mk #[]))).snd = (3 : Int) → ((z16_2 ∧ (0 : Int) < z16_7.end_) ∧ (↑z16_0.fst.net.length : Int) = (0 : Int)) ∧ (doP z16_6.fst (Step.mk (3 : Int) (0 : Int) (ByteArray.mk #[]))).snd = (3 : Int))
abbrev z16_9 := (z16_3 ∧ (↑z16_0.fst.asks.length : Int) = (2 : Int) → z16_3 ∧ (↑z16_0.fst.asks.length : Int) = (2 : Int))
abbrev z16_10 := ((z16_6.snd = (0 : Int) ∧ z16_0.snd.snd = (0 : Int)) ∧ z16_0.snd.fst = (26 : Int) → (z16_6.snd = (0 : Int) ∧ z16_0.snd.snd = (0 : Int)) ∧ z16_0.snd.fst = (26 : Int))
theorem k_16_v  : True ∧ True ∧ ((0 : Int) ≤ (12 : Int) ∧ (12 : Int) ≤ (1000 : Int)) ∧ ((1 : Nat) + (List.replicate (Int.toNat (12 : Int)) passS).length) * (32 : Nat) ≤ (140737488355328 : Nat) ∧ (([Step.mk (2 : Int) (0 : Int) (ByteArray.mk #[(97 : UInt8)])] ++ List.replicate (Int.toNat (12 : Int)) passS).length + (1 : Nat)) * (32 : Nat) ≤ (140737488355328 : Nat) ∧ ((0 : Int) ≤ (12 : Int) ∧ (12 : Int) ≤ (1000 : Int)) ∧ (([Step.mk (2 : Int) (0 : Int) (ByteArray.mk #[(97 : UInt8)])] ++ List.replicate (Int.toNat (12 : Int)) passS ++ [Step.mk (1 : Int) (0 : Int) (ByteArray.mk #[])]).length + (List.replicate (Int.toNat (12 : Int)) passS).length) * (32 : Nat) ≤ (140737488355328 : Nat) ∧ True ∧ True ∧ (z16_6.snd = (0 : Int) → z16_6.snd = (0 : Int)) ∧ (z16_6.snd = (0 : Int) → z16_6.snd = (0 : Int)) ∧ (z16_6.snd = (0 : Int) ∧ z16_0.snd.snd = (0 : Int) → z16_6.snd = (0 : Int) ∧ z16_0.snd.snd = (0 : Int)) ∧ (z16_6.snd = (0 : Int) ∧ z16_0.snd.snd = (0 : Int) → z16_6.snd = (0 : Int) ∧ z16_0.snd.snd = (0 : Int)) ∧ z16_10 ∧ z16_10 ∧ z16_10 ∧ z16_10 ∧ z16_9 ∧ z16_9 ∧ (z16_3 ∧ (↑z16_0.fst.asks.length : Int) = (2 : Int) → (0 : Int) ≤ (0 : Int) ∧ (0 : Int) < (↑z16_0.fst.asks.length : Int)) ∧ z16_9 ∧ z16_9 ∧ z16_9 ∧ z16_9 ∧ z16_5 ∧ z16_5 ∧ ((z16_3 ∧ (↑z16_0.fst.asks.length : Int) = (2 : Int)) ∧ (gd z16_1 z16_0.fst.asks (Int.toNat (0 : Int))).phase = (3 : Int) → (0 : Int) ≤ (1 : Int) ∧ (1 : Int) < (↑z16_0.fst.asks.length : Int)) ∧ z16_5 ∧ z16_5 ∧ ((z16_3 ∧ (↑z16_0.fst.asks.length : Int) = (2 : Int)) ∧ (gd z16_1 z16_0.fst.asks (Int.toNat (0 : Int))).phase = (3 : Int) → True) ∧ z16_5 ∧ z16_5 ∧ z16_5 ∧ z16_4 ∧ z16_4 ∧ (((z16_3 ∧ (↑z16_0.fst.asks.length : Int) = (2 : Int)) ∧ (gd z16_1 z16_0.fst.asks (Int.toNat (0 : Int))).phase = (3 : Int)) ∧ (gd z16_1 z16_0.fst.asks (Int.toNat (1 : Int))).best.at_.time = (1 : Int) ∧ (gd z16_1 z16_0.fst.asks (Int.toNat (1 : Int))).best.at_.who = (0 : Int) ∧ (gd z16_1 z16_0.fst.asks (Int.toNat (1 : Int))).best.data = ByteArray.mk #[(97 : UInt8)] → (0 : Int) ≤ (1 : Int) ∧ (1 : Int) < (↑z16_0.fst.terms.length : Int)) ∧ z16_4 ∧ z16_4 ∧ z16_4 ∧ z16_4 ∧ (z16_2 ∧ (0 : Int) < z16_7.end_ → z16_2 ∧ (0 : Int) < z16_7.end_) ∧ (z16_2 ∧ (0 : Int) < z16_7.end_ → z16_2 ∧ (0 : Int) < z16_7.end_) ∧ (z16_2 ∧ (0 : Int) < z16_7.end_ → z16_2 ∧ (0 : Int) < z16_7.end_) ∧ (z16_2 ∧ (0 : Int) < z16_7.end_ → z16_2 ∧ (0 : Int) < z16_7.end_) ∧ ((z16_2 ∧ (0 : Int) < z16_7.end_) ∧ (↑z16_0.fst.net.length : Int) = (0 : Int) → (z16_2 ∧ (0 : Int) < z16_7.end_) ∧ (↑z16_0.fst.net.length : Int) = (0 : Int)) ∧ ((z16_2 ∧ (0 : Int) < z16_7.end_) ∧ (↑z16_0.fst.net.length : Int) = (0 : Int) → (z16_2 ∧ (0 : Int) < z16_7.end_) ∧ (↑z16_0.fst.net.length : Int) = (0 : Int)) ∧ z16_8 ∧ (((z16_2 ∧ (0 : Int) < z16_7.end_) ∧ (↑z16_0.fst.net.length : Int) = (0 : Int)) ∧ (doP z16_6.fst (Step.mk (3 : Int) (0 : Int) (ByteArray.mk #[]))).snd = (3 : Int) → True) ∧ z16_8 ∧ z16_8 ∧ (z16_6.snd == (0 : Int) && z16_0.snd.snd == (0 : Int) && z16_0.snd.fst == (26 : Int) && (↑z16_0.fst.asks.length : Int) == (2 : Int) && (gd z16_1 z16_0.fst.asks (Int.toNat (0 : Int))).phase == (3 : Int) && ((gd z16_1 z16_0.fst.asks (Int.toNat (1 : Int))).best.at_.time == (1 : Int) && ((gd z16_1 z16_0.fst.asks (Int.toNat (1 : Int))).best.at_.who == (0 : Int) && strEq (gd z16_1 z16_0.fst.asks (Int.toNat (1 : Int))).best.data (ByteArray.mk #[(97 : UInt8)]))) && decide ((0 : Int) < z16_7.end_) && (↑z16_0.fst.net.length : Int) == (0 : Int) && (doP z16_6.fst (Step.mk (3 : Int) (0 : Int) (ByteArray.mk #[]))).snd == (3 : Int) && z16_6.fst.checkE == (0 : Int)) = true := by
  delta z16_10 z16_9 z16_8 z16_7 z16_6 z16_5 z16_4 z16_3 z16_2 z16_1 z16_0
  (repeat' (first | apply And.intro | intro _)) <;> first | assumption | trivial | (decide +kernel) | trace_state
theorem k_16_ok : k_16.Ok Tryd.prog tD := con_ok tD_ok (Δ := [k_42, k_29, k_43, k_12, k_20, k_13, k_18]) ⟨k_42_ok, k_29_ok, k_43_ok, k_12_ok, k_20_ok, k_13_ok, k_18_ok, trivial⟩ (Ω := []) trivial k_16 F16_ok F16_call (fun _ => []) (fun _ => trivial) 0 (fun _ => fun _ => none) fun x hp => Eq.mp (by kernel_rfl) (k_16_v )
inductive NxtC : Cluster → Cluster → Prop
  | moves {s t : Cluster} (hw : t.voters = s.voters) (hn : t.nodes = s.nodes) (ha : t.asks = s.asks) (ht : t.terms = s.terms) (hc : t.clock = s.clock + 1) (hv : ∀ q, q ∈ t.net → q ∈ s.net) : NxtC s t
  | begins {s t : Cluster} {kind : Int} {data : ByteArray} (hk : kind = 1 ∨ kind = 2) (hw : t.voters = s.voters) (hn : t.nodes = s.nodes) (ha : t.asks = s.asks ++ [Ask.new s.asks.length kind data]) (ht : t.terms = s.terms ++ [⟨t.clock, 0⟩]) (hc : t.clock = s.clock + 1) (hv : ∀ q, q ∈ t.net → q ∈ s.net ∨ (q.kind = 1 ∧ q.op = s.asks.length)) : NxtC s t
  | serves {s t : Cluster} {m : Msg} {nd : Copy} (hm : m ∈ s.net) (hk : m.kind = 1 ∨ m.kind = 3) (hnd : s.nodes[m.node.toNat]? = some nd) (hw : t.voters = s.voters) (hn : t.nodes = s.nodes.set m.node.toNat (serveA nd m).1) (ha : t.asks = s.asks) (ht : t.terms = s.terms) (hc : t.clock = s.clock + 1) (hv : ∀ q, q ∈ t.net → q ∈ s.net ∨ q ∈ (serveA nd m).2.1) : NxtC s t
  | hears {s t : Cluster} {m : Msg} {a : Ask} {u : Term} (hm : m ∈ s.net) (hk : m.kind = 2 ∨ m.kind = 4) (ha0 : s.asks[m.op.toNat]? = some a) (hu : s.terms[m.op.toNat]? = some u) (hw : t.voters = s.voters) (hn : t.nodes = s.nodes) (ha : t.asks = s.asks.set m.op.toNat (hearA s.voters a m).1)
      (ht : t.terms = if (hearA s.voters a m).1.phase = 3 ∧ ¬ a.phase = 3 then s.terms.set m.op.toNat ⟨u.begin, t.clock⟩ else s.terms) (hc : t.clock = s.clock + 1) (hv : ∀ q, q ∈ t.net → q ∈ s.net ∨ q ∈ (hearA s.voters a m).2.1) : NxtC s t
theorem nxt_of {c : Cluster} {x : Step} (hc : c.checkE = 0) (h : (stepP c x).2 = 0) : NxtC c (stepP c x).1 := by
  have ok := Cluster.ok_iff.1 hc
  obtain ⟨hk, ⟨kind, data, hkd, hal, hb, e, hn⟩ | ⟨m, h0, h1, hm, hmem, ⟨_, e, hn⟩ | ⟨_, e⟩ | ⟨_, e, hn⟩⟩⟩ := step_cases hc h
  · obtain ⟨b1, b2⟩ := begin_ok hb
    have bo := ask_ok b2
    rw [e, b1]
    refine .begins (kind := kind) (data := data) (by omega) rfl rfl rfl rfl rfl fun q hq => ?_
    simp only [List.mem_append] at hq
    rcases hq with hq | hq
    · exact .inl hq
    · obtain ⟨_, _, _, q4, q5, _⟩ := toAll_ok (by omega) bo.2.1 (qc_len ok.q) (by decide) (.inr rfl) q hq
      exact .inr ⟨q5, q4⟩
  · rw [e]
    refine .moves rfl rfl rfl rfl rfl fun q hq => ?_
    simp only [List.mem_append, List.mem_singleton] at hq
    rcases hq with hq | rfl
    · exact hq
    · exact hmem
  · rw [e]; exact .moves rfl rfl rfl rfl rfl fun q hq => mem_erase hq
  · rw [e]
    have om := ok.net m hmem
    have hi := msg_in om.1
    have tl := ok.tl
    unfold passC
    split
    · rename_i hp
      refine .serves hmem hp (gd_get (d := Copy.nil) (by omega)) rfl rfl rfl rfl rfl fun q hq => ?_
      simp only [List.mem_append] at hq
      exact hq.imp mem_erase id
    · rename_i hp
      refine .hears hmem (by omega) (gd_get (d := Ask.nil) (by omega)) (gd_get (d := (⟨0, 0⟩ : Term)) (by omega)) rfl rfl rfl rfl rfl fun q hq => ?_
      simp only [List.mem_append] at hq
      exact hq.imp mem_erase id
theorem run_ind (P : Cluster → Prop) (step : ∀ c t, c.checkE = 0 → P c → NxtC c t → t.checkE = 0 → P t) : ∀ (l : List Step) (c : Cluster) (n : Int), c.checkE = 0 → P c → (runGo l c n).1.checkE = 0 ∧ P (runGo l c n).1
  | [], c, n, hc, hp => ⟨hc, hp⟩
  | x :: r, c, n, hc, hp => by
    unfold runGo
    split
    · rename_i h
      have h2 := step_ok hc h
      exact run_ind P step r _ _ h2 (step c _ hc hp (nxt_of hc h) h2)
    · exact run_ind P step r _ _ hc hp
def Cluster.new (v : Vtr) : Cluster := ⟨v, List.replicate v.weights.length Copy.zero, [], [], [], 0⟩
theorem new_check {v : Vtr} (h : qcheckP v.weights v.need = 0) : (Cluster.new v).checkE = 0 := by
  refine Cluster.ok_iff.2 ⟨h, by simp [Cluster.new], fun x hx => ?_, by simp [Cluster.new], by simp [Cluster.new], fun j a hj => by simp [Cluster.new] at hj, fun j a t hj => by simp [Cluster.new] at hj, by simp [Cluster.new], fun m hm => by simp [Cluster.new] at hm, by simp [Cluster.new]⟩
  simp only [Cluster.new] at hx
  rw [List.eq_of_mem_replicate hx]; decide
theorem sat_new {v : Vtr} {l : List Step} (h : (satC v l).2 = true) : qcheckP v.weights v.need = 0 ∧ (satC v l).1 = (runGo l (Cluster.new v) 0).1 := by
  unfold satC newC at h ⊢
  by_cases hq : qcheckP v.weights v.need ≠ 0
  · rw [if_pos hq] at h; simp only [ne_eq, hq, not_false_eq_true, if_true] at h; simp at h
  · rw [if_neg hq] at h ⊢
    have hq' : qcheckP v.weights v.need = 0 := by omega
    rw [if_neg (by simp)] at h ⊢
    refine ⟨hq', ?_⟩
    unfold runP at h ⊢
    have hn := new_check hq'
    have hn' : ¬ (⟨v, List.replicate v.weights.length Copy.zero, [], [], [], 0⟩ : Cluster).checkE ≠ 0 := fun hh => hh hn
    simp only at h ⊢
    rw [if_neg hn'] at h ⊢
    split at h
    · simp at h
    · rename_i h3; rw [if_neg h3]; rfl
theorem sat_ind (P : Cluster → Prop) (new : ∀ v, qcheckP v.weights v.need = 0 → P (Cluster.new v)) (step : ∀ c t, c.checkE = 0 → P c → NxtC c t → t.checkE = 0 → P t) {v : Vtr} {l : List Step} (h : (satC v l).2 = true) : (satC v l).1.checkE = 0 ∧ P (satC v l).1 := by
  obtain ⟨h1, h2⟩ := sat_new h
  rw [h2]
  exact run_ind P step l _ 0 (new_check h1) (new v h1)
theorem maxP_1 {s : Stp} (h : (maxP [s]).2 = 0) : (maxP [s]).1 = s ∧ s.okS := by
  have hs : s.okS := by
    unfold maxP at h
    by_cases hh : s.okS
    · exact hh
    · exfalso
      rw [if_neg (by simp)] at h
      have : chkL [s] = 3 := by unfold chkL Stp.checkE; rw [if_neg hh]; rfl
      rw [this] at h; simp at h
  refine ⟨?_, hs⟩
  have hc : chkL [s] = 0 := by unfold chkL Stp.checkE; rw [if_pos hs]; rfl
  unfold maxP
  rw [if_neg (by simp), if_neg (by omega)]
  show (if s.cmp ⟨0, 0⟩ > 0 then s else ⟨0, 0⟩) = s
  unfold Stp.okS at hs
  split
  · rfl
  · rename_i h1
    unfold Stp.cmp cmpP at h1
    obtain ⟨t, w⟩ := s
    simp only at hs h1 ⊢
    rw [Stp.mk.injEq]
    repeat' split at h1
    all_goals omega
theorem next_1 {s : Stp} {who : Int} (h : (nextL [s] who).2 = 0) : (nextL [s] who).1 = ⟨s.time + 1, who⟩ := by
  unfold nextL at h ⊢
  split at h
  · rename_i h1; exact absurd h h1
  · rename_i h1
    split at h
    · simp at h
    · rename_i h2; rw [if_neg h1, if_neg h2, (maxP_1 (by omega)).1]
theorem heard_best (a : Ask) (m : Msg) : (heardA a m).best = if a.phase = 1 then a.best.raw m.copy else a.best := rfl
theorem wants_cases {a : Ask} {m : Msg} (hm : m.checkE = 0) (h : m.kind = wantsA a.phase) : (a.phase = 1 ∧ m.kind = 2) ∨ (a.phase = 2 ∧ m.kind = 4) := by
  have := msg_in hm
  unfold wantsA at h
  repeat' split at h
  all_goals omega
def From (asks : List Ask) (x : Copy) : Prop := (x.at_ = ⟨0, 0⟩ ∧ x.data = ⟨#[]⟩) ∨ ∃ a : Ask, asks[x.at_.who.toNat]? = some a ∧ 0 ≤ x.at_.who ∧ 1 ≤ x.at_.time ∧ a.kind = 2 ∧ a.data = x.data ∧ 2 ≤ a.phase ∧ a.best = x
structure InvV (c : Cluster) : Prop where
  nodes : ∀ x, x ∈ c.nodes → From c.asks x
  asks : ∀ a, a ∈ c.asks → From c.asks a.best
  net : ∀ m, m ∈ c.net → From c.asks m.copy
theorem from_zero (asks : List Ask) : From asks ⟨⟨0, 0⟩, ⟨#[]⟩⟩ := .inl ⟨rfl, rfl⟩
theorem from_raw {asks : List Ask} {a b : Copy} (ha : From asks a) (hb : From asks b) : From asks (a.raw b) := by unfold Copy.raw; split <;> assumption
theorem from_app {asks : List Ask} {x : Copy} (h : From asks x) (b : Ask) : From (asks ++ [b]) x := by
  rcases h with h | ⟨a, h1, h2⟩
  · exact .inl h
  · exact .inr ⟨a, by rw [List.getElem?_append_left (List.getElem?_eq_some_iff.1 h1).1]; exact h1, h2⟩
theorem from_serve {asks : List Ask} {c : Copy} {m : Msg} (hc : From asks c) (hm : From asks m.copy) : From asks (serveA c m).1 ∧ ∀ q, q ∈ (serveA c m).2.1 → From asks q.copy := by
  unfold serveA
  repeat' split
  all_goals first
    | exact ⟨from_zero _, fun q hq => by simp at hq⟩
    | exact ⟨hc, fun q hq => by simp at hq; subst hq; exact hc⟩
    | exact ⟨from_raw hc hm, fun q hq => by simp at hq; subst hq; exact from_zero _⟩
    | exact ⟨hc, fun q hq => by simp at hq⟩
theorem msg_zero {m : Msg} (h : m.checkE = 0) (hk : m.kind = 1) : m.copy.at_ = ⟨0, 0⟩ ∧ m.copy.data = ⟨#[]⟩ := by
  unfold Msg.checkE at h
  split at h
  · omega
  split at h
  · omega
  split at h
  · omega
  split at h
  · omega
  rename_i h4
  have h5 := Classical.not_not.1 (fun hh => h4 ⟨by omega, hh⟩)
  obtain ⟨h6, h7, h8⟩ := h5
  refine ⟨?_, ?_⟩
  · cases hs : m.copy.at_; rw [hs] at h6 h7; simp only at h6 h7; rw [h6, h7]
  · apply ByteArray.ext; apply Array.eq_empty_of_size_eq_zero; simpa using h8
theorem invV_step {c t : Cluster} (hc : c.checkE = 0) (I : InvV c) (hn : NxtC c t) (htc : t.checkE = 0) : InvV t := by
  have ok := Cluster.ok_iff.1 hc
  cases hn with
  | moves hw hn ha ht hk hv => exact ⟨by rw [hn, ha]; exact I.nodes, by rw [ha]; exact I.asks, fun m hm => by rw [ha]; exact I.net m (hv m hm)⟩
  | @begins kind data hk hw hn ha ht hc' hv =>
    refine ⟨fun x hx => ?_, fun a h => ?_, fun m hm => ?_⟩
    · rw [hn] at hx; rw [ha]; exact from_app (I.nodes x hx) _
    · rw [ha] at h ⊢
      rcases List.mem_append.1 h with h | h
      · exact from_app (I.asks a h) _
      · simp at h; subst h; exact from_zero _
    · rw [ha]
      rcases hv m hm with h | ⟨h1, h2⟩
      · exact from_app (I.net m h) _
      · exact .inl (msg_zero ((Cluster.ok_iff.1 htc).net m hm).1 h1)
  | @serves m nd hm hk hnd hw hn ha ht hc' hv =>
    have hs := from_serve (I.nodes nd (List.mem_of_getElem? hnd)) (I.net m hm)
    refine ⟨fun x hx => ?_, by rw [ha]; exact I.asks, fun q hq => ?_⟩
    · rw [hn] at hx; rw [ha]
      rcases List.mem_or_eq_of_mem_set hx with hx | rfl
      · exact I.nodes x hx
      · exact hs.1
    · rw [ha]
      exact (hv q hq).elim (I.net q) (hs.2 q)
  | @hears m a u hm hk ha0 hu hw hn ha ht hc' hv =>
    have om := ok.net m hm
    have hca := ok.ask _ _ ha0
    have hao := ask_ok hca.2
    have hmem := List.mem_of_getElem? ha0
    have hba := I.asks a hmem
    have hH : From c.asks (heardA a m).best := by
      rw [heard_best]; split
      · exact from_raw hba (I.net m hm)
      · exact hba
    have hlt := (List.getElem?_eq_some_iff.1 ha0).1
    -- what was chosen stays
    have keep : ∀ a' : Ask, (2 ≤ a.phase → a'.kind = a.kind ∧ a'.data = a.data ∧ 2 ≤ a'.phase ∧ a'.best = a.best) → ∀ x, From c.asks x → From (c.asks.set m.op.toNat a') x := fun a' hk x hx => by
      rcases hx with hx | ⟨b, h1, h2, h3, h4, h5, h6, h7⟩
      · exact .inl hx
      · by_cases he : m.op.toNat = x.at_.who.toNat
        · rw [← he, ha0] at h1; simp only [Option.some.injEq] at h1; subst h1
          obtain ⟨k1, k2, k3, k4⟩ := hk h6
          exact .inr ⟨a', by rw [← he, List.getElem?_set_self hlt], h2, h3, by rw [k1]; exact h4, by rw [k2]; exact h5, k3, by rw [k4]; exact h7⟩
        · exact .inr ⟨b, by rw [List.getElem?_set_ne he]; exact h1, h2, h3, h4, h5, h6, h7⟩
    have build : ∀ (a' : Ask) (out : List Msg), hearA c.voters a m = (a', out, 0) → (2 ≤ a.phase → a'.kind = a.kind ∧ a'.data = a.data ∧ 2 ≤ a'.phase ∧ a'.best = a.best) → From (c.asks.set m.op.toNat a') a'.best → (∀ q, q ∈ out → q.copy = a'.best) → InvV t := fun a' out e hk hb ho => by
      rw [e] at ha hv
      simp only at ha hv
      refine ⟨fun x hx => ?_, fun b hb' => ?_, fun q hq => ?_⟩
      · rw [hn] at hx; rw [ha]; exact keep a' hk x (I.nodes x hx)
      · rw [ha] at hb' ⊢
        rcases List.mem_or_eq_of_mem_set hb' with h | rfl
        · exact keep a' hk _ (I.asks b h)
        · exact hb
      · rw [ha]
        rcases hv q hq with h | h
        · exact keep a' hk _ (I.net q h)
        · rw [ho q h]; exact hb
    rcases hear_cases hca.2 om.1 with e | ⟨g1, g2, g3, hh⟩
    · exact build a [] e (fun h => ⟨rfl, rfl, h, rfl⟩) (keep a (fun h => ⟨rfl, rfl, h, rfl⟩) _ hba) (fun q hq => by simp at hq)
    have hwc := wants_cases om.1 g2
    have hHo := ask_ok (heard_ok hca.2 om.1 g3)
    have hb2 : 2 ≤ a.phase → (heardA a m).best = a.best := fun h => by rw [heard_best, if_neg (by omega)]
    rcases hh with e | ⟨en, hp, e⟩ | ⟨en, hp, hkd, e⟩ | ⟨en, hp, hkd, hnx, e⟩
    · have hk : 2 ≤ a.phase → (heardA a m).kind = a.kind ∧ (heardA a m).data = a.data ∧ 2 ≤ (heardA a m).phase ∧ (heardA a m).best = a.best := fun h => ⟨rfl, rfl, h, hb2 h⟩
      exact build _ _ e hk (keep _ hk _ hH) (fun q hq => by simp at hq)
    · have hk : 2 ≤ a.phase → a.kind = a.kind ∧ a.data = a.data ∧ (2 : Int) ≤ 3 ∧ (heardA a m).best = a.best := fun h => ⟨rfl, rfl, by decide, hb2 h⟩
      exact build _ _ e hk (keep _ hk _ hH) (fun q hq => by simp at hq)
    · refine build _ _ e (fun h => by omega) (keep _ (fun h => by omega) _ hH) (fun q hq => ?_)
      obtain ⟨_, _, _, _, _, q6⟩ := toAll_ok (by omega) hao.2.1 (qc_len hao.1) hHo.2.2.2.2.2.2.1 (.inl (.inr rfl)) q hq
      exact q6
    · have hcp : (⟨(nextL [(heardA a m).best.at_] a.op).1, a.data⟩ : Copy).checkE = 0 := copy_ok.2 ⟨next_ok hnx, hao.2.2.2.2.1⟩
      have ht0 := (copy_ok.1 hHo.2.2.2.2.2.2.1).1
      unfold Stp.okS at ht0
      refine build _ _ e (fun h => by omega) (.inr ⟨⟨a.op, a.kind, 2, a.data, ⟨(nextL [(heardA a m).best.at_] a.op).1, a.data⟩, uN (Int.toNat 0)⟩, ?_, ?_, ?_, hkd, rfl, Int.le_refl 2, rfl⟩) (fun q hq => ?_)
      · simp only [next_1 hnx]
        rw [hca.1, show ((m.op.toNat : Nat) : Int).toNat = m.op.toNat by omega, List.getElem?_set_self hlt]
      · simp only [next_1 hnx]; omega
      · simp only [next_1 hnx]; omega
      · obtain ⟨_, _, _, _, _, q6⟩ := toAll_ok (by omega) hao.2.1 (qc_len hao.1) hcp (.inl (.inr rfl)) q hq
        exact q6
theorem sat_from {v : Vtr} {l : List Step} (h : (satC v l).2 = true) : (satC v l).1.checkE = 0 ∧ InvV (satC v l).1 :=
  sat_ind InvV (fun v _ => ⟨fun x hx => by simp only [Cluster.new] at hx; rw [List.eq_of_mem_replicate hx]; exact from_zero _, fun a h => by simp [Cluster.new] at h, fun m h => by simp [Cluster.new] at h⟩) (fun c t hc hp hn ht => invV_step hc hp hn ht) h
open Go.RowKit
theorem val_take {c : Cluster} {k : Int} (h0 : 0 ≤ k) (h1 : k < c.asks.length) : c.nodes ++ (c.asks.take k.toNat).map Ask.best ++ [(gd Ask.nil c.asks k.toNat).best] = c.nodes ++ (c.asks.take (k + 1).toNat).map Ask.best := by
  have e : (k + 1).toNat = k.toNat + 1 := by omega
  rw [e, List.take_add_one, gd_get (d := Ask.nil) (by omega : k.toNat < c.asks.length)]
  simp
theorem val_from {v : Vtr} {l : List Step} (h : (satC v l).2 = true) {k : Int} {all : List Copy} (ha : all = (satC v l).1.nodes ++ ((satC v l).1.asks.take k.toNat).map Ask.best) {i : Nat} (hi : i < all.length) : From (satC v l).1.asks (gd Copy.nil all i) := by
  have I := (sat_from h).2
  have hm : gd Copy.nil all i ∈ all := by
    have := gd_get (d := Copy.nil) hi
    exact List.mem_of_getElem? this
  generalize gd Copy.nil all i = x at hm ⊢
  subst ha
  rcases List.mem_append.1 hm with hm | hm
  · exact I.nodes _ hm
  · obtain ⟨a, h1, h2⟩ := List.mem_map.1 hm
    rw [← h2]
    exact I.asks a (List.mem_of_mem_take h1)
theorem val_zero {v : Vtr} {l : List Step} (h : (satC v l).2 = true) {k : Int} {all : List Copy} (ha : all = (satC v l).1.nodes ++ ((satC v l).1.asks.take k.toNat).map Ask.best) {i : Nat} (hi : i < all.length) (hz : (gd Copy.nil all i).at_.time = 0) : strEq (gd Copy.nil all i).data ⟨#[]⟩ = true := by
  rw [strEq_iff]
  rcases val_from h ha hi with h1 | ⟨a, h1, h2, h3, _⟩
  · exact h1.2
  · omega
theorem val_who {v : Vtr} {l : List Step} (h : (satC v l).2 = true) {k : Int} {all : List Copy} (ha : all = (satC v l).1.nodes ++ ((satC v l).1.asks.take k.toNat).map Ask.best) {i : Nat} (hi : i < all.length) (hz : ¬(gd Copy.nil all i).at_.time = 0 ∨ ¬(gd Copy.nil all i).at_.who = 0) : 0 ≤ (gd Copy.nil all i).at_.who ∧ (gd Copy.nil all i).at_.who < (satC v l).1.asks.length ∧ (gd Ask.nil (satC v l).1.asks (gd Copy.nil all i).at_.who.toNat).kind = 2 ∧ (gd Ask.nil (satC v l).1.asks (gd Copy.nil all i).at_.who.toNat).data = (gd Copy.nil all i).data ∧ 1 < (gd Ask.nil (satC v l).1.asks (gd Copy.nil all i).at_.who.toNat).phase ∧ (gd Ask.nil (satC v l).1.asks (gd Copy.nil all i).at_.who.toNat).best = gd Copy.nil all i := by
  rcases val_from h ha hi with h1 | ⟨a, h1, h2, h3, h4, h5, h6, h7⟩
  · rw [h1.1] at hz; simp at hz
  · have hlt := (List.getElem?_eq_some_iff.1 h1).1
    have hg : gd Ask.nil (satC v l).1.asks (gd Copy.nil all i).at_.who.toNat = a := by
      have := gd_get (d := Ask.nil) hlt; rw [h1] at this; exact (Option.some.inj this).symm
    rw [hg]
    exact ⟨h2, by omega, h4, h5, by omega, h7⟩
theorem val_all {v : Vtr} {l : List Step} (h : (satC v l).2 = true) {k : Int} {all : List Copy} (ha : all = (satC v l).1.nodes ++ ((satC v l).1.asks.take k.toNat).map Ask.best) {i : Nat} (hi : i < all.length) (hz : ¬(gd Copy.nil all i).at_.time = 0 ∨ ¬(gd Copy.nil all i).at_.who = 0) : (decide ((gd Copy.nil all i).at_.who < (↑(satC v l).1.asks.length : Int)) && (gd Ask.nil (satC v l).1.asks (gd Copy.nil all i).at_.who.toNat).kind == (2 : Int) && strEq (gd Ask.nil (satC v l).1.asks (gd Copy.nil all i).at_.who.toNat).data (gd Copy.nil all i).data && decide ((1 : Int) < (gd Ask.nil (satC v l).1.asks (gd Copy.nil all i).at_.who.toNat).phase) && ((gd Ask.nil (satC v l).1.asks (gd Copy.nil all i).at_.who.toNat).best.at_.time == (gd Copy.nil all i).at_.time && ((gd Ask.nil (satC v l).1.asks (gd Copy.nil all i).at_.who.toNat).best.at_.who == (gd Copy.nil all i).at_.who && strEq (gd Ask.nil (satC v l).1.asks (gd Copy.nil all i).at_.who.toNat).best.data (gd Copy.nil all i).data))) = true := by
  obtain ⟨h1, h2, h3, h4, h5, h6⟩ := val_who h ha hi hz
  rw [h6]
  simp only [Bool.and_eq_true, decide_eq_true_eq, beq_iff_eq, strEq_iff]
  exact ⟨⟨⟨⟨h2, h3⟩, h4⟩, h5⟩, trivial, trivial, trivial⟩
def i_6_0 (v : Vtr) (l : (List Step)) (i : Int) (all : (List Copy)) (k : Int) : Prop := (satC v l).2 = true ∧ 0 ≤ k ∧ k ≤ (satC v l).1.asks.length ∧ (satC v l).1.asks.length ≤ 31 ∧ (satC v l).1.nodes.length ≤ 12 ∧ all = (satC v l).1.nodes ++ ((satC v l).1.asks.take k.toNat).map Ask.best
def k_6 : Con Tc Tc.dn := ⟨6, [.ty .cVoters, .ty .lStep, .ty .cInt], fun x => (fun (v : Vtr) (l : (List Step)) (i : Int) => True) x.1 x.2.1 x.2.2.1, [.cBool], fun x => (fun (v : Vtr) (l : (List Step)) (i : Int) => true) x.1 x.2.1 x.2.2.1⟩
abbrev z6_0 := (Copy.mk (Stp.mk (0 : Int) (0 : Int)) ByteArray.empty)
abbrev z6_1 := (Ask.mk (0 : Int) (0 : Int) (0 : Int) ByteArray.empty z6_0 (U64.mk (0 : Nat) LY.u64._proof_1))
theorem k_6_v (v : Vtr) (l : (List Step)) (i : Int) : True ∧ True ∧ (true = !true → false = true) ∧ (true = !false → ((satC v l).snd = !true → true = true) ∧ ((satC v l).snd = !false → ((0 : Nat) + (satC v l).fst.nodes.length) * (32 : Nat) ≤ (140737488355328 : Nat) ∧ i_6_0 v l i ([] ++ (satC v l).fst.nodes) (0 : Int) ∧ ∀ (x : List Copy) (x_1 : Int), i_6_0 v l i x x_1 → (x_1 < (↑(satC v l).fst.asks.length : Int) → ((0 : Int) ≤ x_1 ∧ x_1 < (↑(satC v l).fst.asks.length : Int)) ∧ (x.length + (1 : Nat)) * (32 : Nat) ≤ (140737488355328 : Nat) ∧ I64 (x_1 + (1 : Int)) ∧ i_6_0 v l i (x ++ [(gd z6_1 (satC v l).fst.asks x_1.toNat).best]) (x_1 + (1 : Int)) ∧ ((↑(satC v l).fst.asks.length : Int) - (x_1 + (1 : Int))).toNat < ((↑(satC v l).fst.asks.length : Int) - x_1).toNat) ∧ ((↑(satC v l).fst.asks.length : Int) ≤ x_1 → ((0 : Int) ≤ i → (0 : Int) ≤ i) ∧ ((0 : Int) ≤ i → (0 : Int) ≤ i) ∧ ((0 : Int) ≤ i → (0 : Int) ≤ i) ∧ ((0 : Int) ≤ i → (0 : Int) ≤ i) ∧ (i < (0 : Int) ∨ (↑x.length : Int) ≤ i → true = true) ∧ ((0 : Int) ≤ i ∧ i < (↑x.length : Int) → ((0 : Int) ≤ i ∧ i < (↑x.length : Int)) ∧ i.toNat < x.length ∧ ((gd z6_0 x i.toNat).at_.time = (0 : Int) ∧ (gd z6_0 x i.toNat).at_.who = (0 : Int) → strEq (gd z6_0 x i.toNat).data (ByteArray.mk #[]) = true) ∧ (¬(gd z6_0 x i.toNat).at_.time = (0 : Int) ∨ ¬(gd z6_0 x i.toNat).at_.who = (0 : Int) → ((gd z6_0 x i.toNat).at_.who < (↑(satC v l).fst.asks.length : Int) → (gd z6_0 x i.toNat).at_.who < (↑(satC v l).fst.asks.length : Int)) ∧ ((gd z6_0 x i.toNat).at_.who < (↑(satC v l).fst.asks.length : Int) → (gd z6_0 x i.toNat).at_.who < (↑(satC v l).fst.asks.length : Int)) ∧ ((gd z6_0 x i.toNat).at_.who < (↑(satC v l).fst.asks.length : Int) → (gd z6_0 x i.toNat).at_.who < (↑(satC v l).fst.asks.length : Int)) ∧ ((gd z6_0 x i.toNat).at_.who < (↑(satC v l).fst.asks.length : Int) → (0 : Int) ≤ (gd z6_0 x i.toNat).at_.who ∧ (gd z6_0 x i.toNat).at_.who < (↑(satC v l).fst.asks.length : Int)) ∧ ((gd z6_0 x i.toNat).at_.who < (↑(satC v l).fst.asks.length : Int) → (gd z6_0 x i.toNat).at_.who < (↑(satC v l).fst.asks.length : Int)) ∧ ((gd z6_0 x i.toNat).at_.who < (↑(satC v l).fst.asks.length : Int) → (gd z6_0 x i.toNat).at_.who < (↑(satC v l).fst.asks.length : Int)) ∧ ((gd z6_0 x i.toNat).at_.who < (↑(satC v l).fst.asks.length : Int) → (gd z6_0 x i.toNat).at_.who < (↑(satC v l).fst.asks.length : Int)) ∧ ((gd z6_0 x i.toNat).at_.who < (↑(satC v l).fst.asks.length : Int) → (gd z6_0 x i.toNat).at_.who < (↑(satC v l).fst.asks.length : Int)) ∧ ((gd z6_0 x i.toNat).at_.who < (↑(satC v l).fst.asks.length : Int) ∧ (gd z6_1 (satC v l).fst.asks (gd z6_0 x i.toNat).at_.who.toNat).kind = (2 : Int) → (gd z6_0 x i.toNat).at_.who < (↑(satC v l).fst.asks.length : Int) ∧ (gd z6_1 (satC v l).fst.asks (gd z6_0 x i.toNat).at_.who.toNat).kind = (2 : Int)) ∧ ((gd z6_0 x i.toNat).at_.who < (↑(satC v l).fst.asks.length : Int) ∧ (gd z6_1 (satC v l).fst.asks (gd z6_0 x i.toNat).at_.who.toNat).kind = (2 : Int) → (gd z6_0 x i.toNat).at_.who < (↑(satC v l).fst.asks.length : Int) ∧ (gd z6_1 (satC v l).fst.asks (gd z6_0 x i.toNat).at_.who.toNat).kind = (2 : Int)) ∧ ((gd z6_0 x i.toNat).at_.who < (↑(satC v l).fst.asks.length : Int) ∧ (gd z6_1 (satC v l).fst.asks (gd z6_0 x i.toNat).at_.who.toNat).kind = (2 : Int) → (gd z6_0 x i.toNat).at_.who < (↑(satC v l).fst.asks.length : Int) ∧ (gd z6_1 (satC v l).fst.asks (gd z6_0 x i.toNat).at_.who.toNat).kind = (2 : Int)) ∧ ((gd z6_0 x i.toNat).at_.who < (↑(satC v l).fst.asks.length : Int) ∧ (gd z6_1 (satC v l).fst.asks (gd z6_0 x i.toNat).at_.who.toNat).kind = (2 : Int) → (0 : Int) ≤ (gd z6_0 x i.toNat).at_.who ∧ (gd z6_0 x i.toNat).at_.who < (↑(satC v l).fst.asks.length : Int)) ∧ ((gd z6_0 x i.toNat).at_.who < (↑(satC v l).fst.asks.length : Int) ∧ (gd z6_1 (satC v l).fst.asks (gd z6_0 x i.toNat).at_.who.toNat).kind = (2 : Int) → (gd z6_0 x i.toNat).at_.who < (↑(satC v l).fst.asks.length : Int) ∧ (gd z6_1 (satC v l).fst.asks (gd z6_0 x i.toNat).at_.who.toNat).kind = (2 : Int)) ∧ ((gd z6_0 x i.toNat).at_.who < (↑(satC v l).fst.asks.length : Int) ∧ (gd z6_1 (satC v l).fst.asks (gd z6_0 x i.toNat).at_.who.toNat).kind = (2 : Int) → (gd z6_0 x i.toNat).at_.who < (↑(satC v l).fst.asks.length : Int) ∧ (gd z6_1 (satC v l).fst.asks (gd z6_0 x i.toNat).at_.who.toNat).kind = (2 : Int)) ∧ ((gd z6_0 x i.toNat).at_.who < (↑(satC v l).fst.asks.length : Int) ∧ (gd z6_1 (satC v l).fst.asks (gd z6_0 x i.toNat).at_.who.toNat).kind = (2 : Int) → (gd z6_0 x i.toNat).at_.who < (↑(satC v l).fst.asks.length : Int) ∧ (gd z6_1 (satC v l).fst.asks (gd z6_0 x i.toNat).at_.who.toNat).kind = (2 : Int)) ∧ ((gd z6_0 x i.toNat).at_.who < (↑(satC v l).fst.asks.length : Int) ∧ (gd z6_1 (satC v l).fst.asks (gd z6_0 x i.toNat).at_.who.toNat).kind = (2 : Int) → (gd z6_0 x i.toNat).at_.who < (↑(satC v l).fst.asks.length : Int) ∧ (gd z6_1 (satC v l).fst.asks (gd z6_0 x i.toNat).at_.who.toNat).kind = (2 : Int)) ∧ ((gd z6_0 x i.toNat).at_.who < (↑(satC v l).fst.asks.length : Int) ∧ (gd z6_1 (satC v l).fst.asks (gd z6_0 x i.toNat).at_.who.toNat).kind = (2 : Int) → (gd z6_0 x i.toNat).at_.who < (↑(satC v l).fst.asks.length : Int) ∧ (gd z6_1 (satC v l).fst.asks (gd z6_0 x i.toNat).at_.who.toNat).kind = (2 : Int)) ∧ ((gd z6_0 x i.toNat).at_.who < (↑(satC v l).fst.asks.length : Int) ∧ (gd z6_1 (satC v l).fst.asks (gd z6_0 x i.toNat).at_.who.toNat).kind = (2 : Int) → (gd z6_0 x i.toNat).at_.who < (↑(satC v l).fst.asks.length : Int) ∧ (gd z6_1 (satC v l).fst.asks (gd z6_0 x i.toNat).at_.who.toNat).kind = (2 : Int)) ∧ (((gd z6_0 x i.toNat).at_.who < (↑(satC v l).fst.asks.length : Int) ∧ (gd z6_1 (satC v l).fst.asks (gd z6_0 x i.toNat).at_.who.toNat).kind = (2 : Int)) ∧ (gd z6_1 (satC v l).fst.asks (gd z6_0 x i.toNat).at_.who.toNat).data = (gd z6_0 x i.toNat).data → ((gd z6_0 x i.toNat).at_.who < (↑(satC v l).fst.asks.length : Int) ∧ (gd z6_1 (satC v l).fst.asks (gd z6_0 x i.toNat).at_.who.toNat).kind = (2 : Int)) ∧ (gd z6_1 (satC v l).fst.asks (gd z6_0 x i.toNat).at_.who.toNat).data = (gd z6_0 x i.toNat).data) ∧ (((gd z6_0 x i.toNat).at_.who < (↑(satC v l).fst.asks.length : Int) ∧ (gd z6_1 (satC v l).fst.asks (gd z6_0 x i.toNat).at_.who.toNat).kind = (2 : Int)) ∧ (gd z6_1 (satC v l).fst.asks (gd z6_0 x i.toNat).at_.who.toNat).data = (gd z6_0 x i.toNat).data → ((gd z6_0 x i.toNat).at_.who < (↑(satC v l).fst.asks.length : Int) ∧ (gd z6_1 (satC v l).fst.asks (gd z6_0 x i.toNat).at_.who.toNat).kind = (2 : Int)) ∧ (gd z6_1 (satC v l).fst.asks (gd z6_0 x i.toNat).at_.who.toNat).data = (gd z6_0 x i.toNat).data) ∧ (((gd z6_0 x i.toNat).at_.who < (↑(satC v l).fst.asks.length : Int) ∧ (gd z6_1 (satC v l).fst.asks (gd z6_0 x i.toNat).at_.who.toNat).kind = (2 : Int)) ∧ (gd z6_1 (satC v l).fst.asks (gd z6_0 x i.toNat).at_.who.toNat).data = (gd z6_0 x i.toNat).data → ((gd z6_0 x i.toNat).at_.who < (↑(satC v l).fst.asks.length : Int) ∧ (gd z6_1 (satC v l).fst.asks (gd z6_0 x i.toNat).at_.who.toNat).kind = (2 : Int)) ∧ (gd z6_1 (satC v l).fst.asks (gd z6_0 x i.toNat).at_.who.toNat).data = (gd z6_0 x i.toNat).data) ∧ (((gd z6_0 x i.toNat).at_.who < (↑(satC v l).fst.asks.length : Int) ∧ (gd z6_1 (satC v l).fst.asks (gd z6_0 x i.toNat).at_.who.toNat).kind = (2 : Int)) ∧ (gd z6_1 (satC v l).fst.asks (gd z6_0 x i.toNat).at_.who.toNat).data = (gd z6_0 x i.toNat).data → (0 : Int) ≤ (gd z6_0 x i.toNat).at_.who ∧ (gd z6_0 x i.toNat).at_.who < (↑(satC v l).fst.asks.length : Int)) ∧ (((gd z6_0 x i.toNat).at_.who < (↑(satC v l).fst.asks.length : Int) ∧ (gd z6_1 (satC v l).fst.asks (gd z6_0 x i.toNat).at_.who.toNat).kind = (2 : Int)) ∧ (gd z6_1 (satC v l).fst.asks (gd z6_0 x i.toNat).at_.who.toNat).data = (gd z6_0 x i.toNat).data → ((gd z6_0 x i.toNat).at_.who < (↑(satC v l).fst.asks.length : Int) ∧ (gd z6_1 (satC v l).fst.asks (gd z6_0 x i.toNat).at_.who.toNat).kind = (2 : Int)) ∧ (gd z6_1 (satC v l).fst.asks (gd z6_0 x i.toNat).at_.who.toNat).data = (gd z6_0 x i.toNat).data) ∧ (((gd z6_0 x i.toNat).at_.who < (↑(satC v l).fst.asks.length : Int) ∧ (gd z6_1 (satC v l).fst.asks (gd z6_0 x i.toNat).at_.who.toNat).kind = (2 : Int)) ∧ (gd z6_1 (satC v l).fst.asks (gd z6_0 x i.toNat).at_.who.toNat).data = (gd z6_0 x i.toNat).data → ((gd z6_0 x i.toNat).at_.who < (↑(satC v l).fst.asks.length : Int) ∧ (gd z6_1 (satC v l).fst.asks (gd z6_0 x i.toNat).at_.who.toNat).kind = (2 : Int)) ∧ (gd z6_1 (satC v l).fst.asks (gd z6_0 x i.toNat).at_.who.toNat).data = (gd z6_0 x i.toNat).data) ∧ (((gd z6_0 x i.toNat).at_.who < (↑(satC v l).fst.asks.length : Int) ∧ (gd z6_1 (satC v l).fst.asks (gd z6_0 x i.toNat).at_.who.toNat).kind = (2 : Int)) ∧ (gd z6_1 (satC v l).fst.asks (gd z6_0 x i.toNat).at_.who.toNat).data = (gd z6_0 x i.toNat).data → ((gd z6_0 x i.toNat).at_.who < (↑(satC v l).fst.asks.length : Int) ∧ (gd z6_1 (satC v l).fst.asks (gd z6_0 x i.toNat).at_.who.toNat).kind = (2 : Int)) ∧ (gd z6_1 (satC v l).fst.asks (gd z6_0 x i.toNat).at_.who.toNat).data = (gd z6_0 x i.toNat).data) ∧ (((gd z6_0 x i.toNat).at_.who < (↑(satC v l).fst.asks.length : Int) ∧ (gd z6_1 (satC v l).fst.asks (gd z6_0 x i.toNat).at_.who.toNat).kind = (2 : Int)) ∧ (gd z6_1 (satC v l).fst.asks (gd z6_0 x i.toNat).at_.who.toNat).data = (gd z6_0 x i.toNat).data → ((gd z6_0 x i.toNat).at_.who < (↑(satC v l).fst.asks.length : Int) ∧ (gd z6_1 (satC v l).fst.asks (gd z6_0 x i.toNat).at_.who.toNat).kind = (2 : Int)) ∧ (gd z6_1 (satC v l).fst.asks (gd z6_0 x i.toNat).at_.who.toNat).data = (gd z6_0 x i.toNat).data) ∧ ((((gd z6_0 x i.toNat).at_.who < (↑(satC v l).fst.asks.length : Int) ∧ (gd z6_1 (satC v l).fst.asks (gd z6_0 x i.toNat).at_.who.toNat).kind = (2 : Int)) ∧ (gd z6_1 (satC v l).fst.asks (gd z6_0 x i.toNat).at_.who.toNat).data = (gd z6_0 x i.toNat).data) ∧ (1 : Int) < (gd z6_1 (satC v l).fst.asks (gd z6_0 x i.toNat).at_.who.toNat).phase → (((gd z6_0 x i.toNat).at_.who < (↑(satC v l).fst.asks.length : Int) ∧ (gd z6_1 (satC v l).fst.asks (gd z6_0 x i.toNat).at_.who.toNat).kind = (2 : Int)) ∧ (gd z6_1 (satC v l).fst.asks (gd z6_0 x i.toNat).at_.who.toNat).data = (gd z6_0 x i.toNat).data) ∧ (1 : Int) < (gd z6_1 (satC v l).fst.asks (gd z6_0 x i.toNat).at_.who.toNat).phase) ∧ ((((gd z6_0 x i.toNat).at_.who < (↑(satC v l).fst.asks.length : Int) ∧ (gd z6_1 (satC v l).fst.asks (gd z6_0 x i.toNat).at_.who.toNat).kind = (2 : Int)) ∧ (gd z6_1 (satC v l).fst.asks (gd z6_0 x i.toNat).at_.who.toNat).data = (gd z6_0 x i.toNat).data) ∧ (1 : Int) < (gd z6_1 (satC v l).fst.asks (gd z6_0 x i.toNat).at_.who.toNat).phase → (((gd z6_0 x i.toNat).at_.who < (↑(satC v l).fst.asks.length : Int) ∧ (gd z6_1 (satC v l).fst.asks (gd z6_0 x i.toNat).at_.who.toNat).kind = (2 : Int)) ∧ (gd z6_1 (satC v l).fst.asks (gd z6_0 x i.toNat).at_.who.toNat).data = (gd z6_0 x i.toNat).data) ∧ (1 : Int) < (gd z6_1 (satC v l).fst.asks (gd z6_0 x i.toNat).at_.who.toNat).phase) ∧ ((((gd z6_0 x i.toNat).at_.who < (↑(satC v l).fst.asks.length : Int) ∧ (gd z6_1 (satC v l).fst.asks (gd z6_0 x i.toNat).at_.who.toNat).kind = (2 : Int)) ∧ (gd z6_1 (satC v l).fst.asks (gd z6_0 x i.toNat).at_.who.toNat).data = (gd z6_0 x i.toNat).data) ∧ (1 : Int) < (gd z6_1 (satC v l).fst.asks (gd z6_0 x i.toNat).at_.who.toNat).phase → (((gd z6_0 x i.toNat).at_.who < (↑(satC v l).fst.asks.length : Int) ∧ (gd z6_1 (satC v l).fst.asks (gd z6_0 x i.toNat).at_.who.toNat).kind = (2 : Int)) ∧ (gd z6_1 (satC v l).fst.asks (gd z6_0 x i.toNat).at_.who.toNat).data = (gd z6_0 x i.toNat).data) ∧ (1 : Int) < (gd z6_1 (satC v l).fst.asks (gd z6_0 x i.toNat).at_.who.toNat).phase) ∧ ((((gd z6_0 x i.toNat).at_.who < (↑(satC v l).fst.asks.length : Int) ∧ (gd z6_1 (satC v l).fst.asks (gd z6_0 x i.toNat).at_.who.toNat).kind = (2 : Int)) ∧ (gd z6_1 (satC v l).fst.asks (gd z6_0 x i.toNat).at_.who.toNat).data = (gd z6_0 x i.toNat).data) ∧ (1 : Int) < (gd z6_1 (satC v l).fst.asks (gd z6_0 x i.toNat).at_.who.toNat).phase → (0 : Int) ≤ (gd z6_0 x i.toNat).at_.who ∧ (gd z6_0 x i.toNat).at_.who < (↑(satC v l).fst.asks.length : Int)) ∧ ((((gd z6_0 x i.toNat).at_.who < (↑(satC v l).fst.asks.length : Int) ∧ (gd z6_1 (satC v l).fst.asks (gd z6_0 x i.toNat).at_.who.toNat).kind = (2 : Int)) ∧ (gd z6_1 (satC v l).fst.asks (gd z6_0 x i.toNat).at_.who.toNat).data = (gd z6_0 x i.toNat).data) ∧ (1 : Int) < (gd z6_1 (satC v l).fst.asks (gd z6_0 x i.toNat).at_.who.toNat).phase → (((gd z6_0 x i.toNat).at_.who < (↑(satC v l).fst.asks.length : Int) ∧ (gd z6_1 (satC v l).fst.asks (gd z6_0 x i.toNat).at_.who.toNat).kind = (2 : Int)) ∧ (gd z6_1 (satC v l).fst.asks (gd z6_0 x i.toNat).at_.who.toNat).data = (gd z6_0 x i.toNat).data) ∧ (1 : Int) < (gd z6_1 (satC v l).fst.asks (gd z6_0 x i.toNat).at_.who.toNat).phase) ∧ ((((gd z6_0 x i.toNat).at_.who < (↑(satC v l).fst.asks.length : Int) ∧ (gd z6_1 (satC v l).fst.asks (gd z6_0 x i.toNat).at_.who.toNat).kind = (2 : Int)) ∧ (gd z6_1 (satC v l).fst.asks (gd z6_0 x i.toNat).at_.who.toNat).data = (gd z6_0 x i.toNat).data) ∧ (1 : Int) < (gd z6_1 (satC v l).fst.asks (gd z6_0 x i.toNat).at_.who.toNat).phase → (((gd z6_0 x i.toNat).at_.who < (↑(satC v l).fst.asks.length : Int) ∧ (gd z6_1 (satC v l).fst.asks (gd z6_0 x i.toNat).at_.who.toNat).kind = (2 : Int)) ∧ (gd z6_1 (satC v l).fst.asks (gd z6_0 x i.toNat).at_.who.toNat).data = (gd z6_0 x i.toNat).data) ∧ (1 : Int) < (gd z6_1 (satC v l).fst.asks (gd z6_0 x i.toNat).at_.who.toNat).phase) ∧ ((((gd z6_0 x i.toNat).at_.who < (↑(satC v l).fst.asks.length : Int) ∧ (gd z6_1 (satC v l).fst.asks (gd z6_0 x i.toNat).at_.who.toNat).kind = (2 : Int)) ∧ (gd z6_1 (satC v l).fst.asks (gd z6_0 x i.toNat).at_.who.toNat).data = (gd z6_0 x i.toNat).data) ∧ (1 : Int) < (gd z6_1 (satC v l).fst.asks (gd z6_0 x i.toNat).at_.who.toNat).phase → (((gd z6_0 x i.toNat).at_.who < (↑(satC v l).fst.asks.length : Int) ∧ (gd z6_1 (satC v l).fst.asks (gd z6_0 x i.toNat).at_.who.toNat).kind = (2 : Int)) ∧ (gd z6_1 (satC v l).fst.asks (gd z6_0 x i.toNat).at_.who.toNat).data = (gd z6_0 x i.toNat).data) ∧ (1 : Int) < (gd z6_1 (satC v l).fst.asks (gd z6_0 x i.toNat).at_.who.toNat).phase) ∧ ((((gd z6_0 x i.toNat).at_.who < (↑(satC v l).fst.asks.length : Int) ∧ (gd z6_1 (satC v l).fst.asks (gd z6_0 x i.toNat).at_.who.toNat).kind = (2 : Int)) ∧ (gd z6_1 (satC v l).fst.asks (gd z6_0 x i.toNat).at_.who.toNat).data = (gd z6_0 x i.toNat).data) ∧ (1 : Int) < (gd z6_1 (satC v l).fst.asks (gd z6_0 x i.toNat).at_.who.toNat).phase → (((gd z6_0 x i.toNat).at_.who < (↑(satC v l).fst.asks.length : Int) ∧ (gd z6_1 (satC v l).fst.asks (gd z6_0 x i.toNat).at_.who.toNat).kind = (2 : Int)) ∧ (gd z6_1 (satC v l).fst.asks (gd z6_0 x i.toNat).at_.who.toNat).data = (gd z6_0 x i.toNat).data) ∧ (1 : Int) < (gd z6_1 (satC v l).fst.asks (gd z6_0 x i.toNat).at_.who.toNat).phase) ∧ ((((gd z6_0 x i.toNat).at_.who < (↑(satC v l).fst.asks.length : Int) ∧ (gd z6_1 (satC v l).fst.asks (gd z6_0 x i.toNat).at_.who.toNat).kind = (2 : Int)) ∧ (gd z6_1 (satC v l).fst.asks (gd z6_0 x i.toNat).at_.who.toNat).data = (gd z6_0 x i.toNat).data) ∧ (1 : Int) < (gd z6_1 (satC v l).fst.asks (gd z6_0 x i.toNat).at_.who.toNat).phase → (((gd z6_0 x i.toNat).at_.who < (↑(satC v l).fst.asks.length : Int) ∧ (gd z6_1 (satC v l).fst.asks (gd z6_0 x i.toNat).at_.who.toNat).kind = (2 : Int)) ∧ (gd z6_1 (satC v l).fst.asks (gd z6_0 x i.toNat).at_.who.toNat).data = (gd z6_0 x i.toNat).data) ∧ (1 : Int) < (gd z6_1 (satC v l).fst.asks (gd z6_0 x i.toNat).at_.who.toNat).phase) ∧ (decide ((gd z6_0 x i.toNat).at_.who < (↑(satC v l).fst.asks.length : Int)) && (gd z6_1 (satC v l).fst.asks (gd z6_0 x i.toNat).at_.who.toNat).kind == (2 : Int) && strEq (gd z6_1 (satC v l).fst.asks (gd z6_0 x i.toNat).at_.who.toNat).data (gd z6_0 x i.toNat).data && decide ((1 : Int) < (gd z6_1 (satC v l).fst.asks (gd z6_0 x i.toNat).at_.who.toNat).phase) && ((gd z6_1 (satC v l).fst.asks (gd z6_0 x i.toNat).at_.who.toNat).best.at_.time == (gd z6_0 x i.toNat).at_.time && ((gd z6_1 (satC v l).fst.asks (gd z6_0 x i.toNat).at_.who.toNat).best.at_.who == (gd z6_0 x i.toNat).at_.who && strEq (gd z6_1 (satC v l).fst.asks (gd z6_0 x i.toNat).at_.who.toNat).best.data (gd z6_0 x i.toNat).data))) = true))))) := by
  delta z6_1 z6_0
  have hl : (satC v l).2 = true → (satC v l).1.nodes.length ≤ 12 ∧ (satC v l).1.asks.length ≤ 31 := fun h => by
    have ok := Cluster.ok_iff.1 (sat_from h).1
    exact ⟨by rw [ok.nl]; exact qc_len ok.q, ok.al⟩
  have h0 := @val_take (satC v l).1
  have h1 := @val_zero v l
  have h2 := @val_who v l
  simp only [Ask.nil, Copy.nil] at h0 h1 h2
  (repeat' (first | apply And.intro | intro _)) <;> first | assumption | trivial | omega | exact val_all ‹_› (‹i_6_0 v l i _ _›).2.2.2.2.2 (by omega) ‹_› | grind [i_6_0, I64] | trace_state
theorem k_6_ok : k_6.Ok Tryd.prog tD := con_ok tD_ok (Δ := [k_22, k_16]) ⟨k_22_ok, k_16_ok, trivial⟩ (Ω := []) trivial k_6 F6_ok F6_call (fun _ => []) (fun _ => trivial) 0 (fun x => (fun (v : Vtr) (l : (List Step)) (i : Int) => (fun k => bif Nat.beq k 0 then some (.inv [.ow 9 .cCopy, .sl 10 .cInt] (fun zv => (fun (all : (List Copy)) (k : Int) => i_6_0 v l i all k) zv.1 zv.2.1) (fun zv => (fun (all : (List Copy)) (k : Int) => (((satC v l).1.asks.length : Int) - k).toNat) zv.1 zv.2.1)) else none)) x.1 x.2.1 x.2.2.1) fun x hp => Eq.mp (by kernel_rfl) (k_6_v x.1 x.2.1 x.2.2.1)
theorem ClusterValues_walk {w : World} (hG : GlE (E0 w fun b => b < w.heap.size)) (v : Vtr) (csv : List Value) (rv : GoT.rep w w.heap.size csv v) (l : (List Step)) (Al : Option Addr) (nl cl : Nat) (rl : GoT.rep w w.heap.size [.slice Al nl cl] l) (i : Int) (wi : (Lit.int .i64 i).wf = true) : Calls Tryd.prog 6 #[.agg csv.toArray, .slice Al nl cl, I i] w fun e w' => e = .returned (.bool true) ∧ Below w.heap.size w w' := by
  have ri : GoT.rep w w.heap.size [I i] i := ⟨rfl, i64_bd wi⟩
  have hf : Fn Tryd.prog 6 [(tD.en .cVoters v).av tD.toTE N0, (tD.en .lStep l).av tD.toTE N0, (tD.en .cInt i).av tD.toTE N0] (.v (.bool true)) := k_6_ok.2 (v, l, i, ()) N0 trivial
  exact fn_law (vs := [.agg csv.toArray, .slice Al nl cl, I i]) hf hG (.cons (arg_ag tD_ok (t := .cVoters) rfl (lgVoters.av rv)) (.cons (arg_one tD_ok (t := .lStep) rfl ((LG.list lgStep).av rl)) (.cons (arg_one tD_ok (t := .cInt) rfl (LG.i64.av ri)) .nil)))
end Go.Proofs.YtpagdlhlfmenmaaDoor
