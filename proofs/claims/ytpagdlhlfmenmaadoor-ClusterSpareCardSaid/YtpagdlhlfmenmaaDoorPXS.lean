/- What functions answer (contracts). No condition. -/
import Derived.Test.YtpagdlhlfmenmaaDoorPSG
import Derived.Test.YtpagdlhlfmenmaaDoorPQuorM
import Derived.Test.YtpagdlhlfmenmaaDoorPSxY
set_option linter.unusedSimpArgs false
set_option linter.unusedVariables false
set_option maxHeartbeats 4000000
set_option maxRecDepth 100000
namespace Go.Proofs.YtpagdlhlfmenmaaDoor
open Go.RowKit
def Cluster.zero : Cluster := ⟨⟨[], 0⟩, [], [], [], [], 0⟩
def Copy.zero : Copy := ⟨⟨0, 0⟩, ⟨#[]⟩⟩
def newC (v : Vtr) : Cluster × Int := if qcheckP v.weights v.need ≠ 0 then (Cluster.zero, qcheckP v.weights v.need) else (⟨v, List.replicate v.weights.length Copy.zero, [], [], [], 0⟩, 0)
def asksGo (v : Vtr) (ts : List Term) (k : Int) : List Ask → Int → Int
  | [], _ => 0
  | a :: r, i => if a.op ≠ i then 1 else if a.checkE v.weights v.need ≠ 0 then a.checkE v.weights v.need else if termB (gd ⟨0, 0⟩ ts i.toNat) a k = false then 4 else asksGo v ts k r (i + 1)
def asksE (c : Cluster) : Int := if c.asks.length > 31 then 2 else if c.asks.length ≠ c.terms.length then 1 else asksGo c.voters c.terms c.clock c.asks 0
def netGo (n a : Int) : List Msg → Int
  | [] => 0
  | m :: r => if m.checkE ≠ 0 then m.checkE else if m.node ≥ n ∨ m.op ≥ a then 3 else netGo n a r
def netE (c : Cluster) : Int := if c.net.length > 200 then 2 else netGo c.nodes.length c.asks.length c.net
def copGo : List Copy → Int
  | [] => 0
  | c :: r => if c.checkE ≠ 0 then c.checkE else copGo r
def Cluster.checkE (c : Cluster) : Int :=
  if qcheckP c.voters.weights c.voters.need ≠ 0 then qcheckP c.voters.weights c.voters.need else if c.nodes.length ≠ c.voters.weights.length then 1 else if copGo c.nodes ≠ 0 then copGo c.nodes
  else if asksE c ≠ 0 then asksE c else if netE c ≠ 0 then netE c else if c.clock < 0 ∨ c.clock > 1000000 then 3 else 0
def k_12 : Con Tc Tc.dn := ⟨12, [.ty .cVoters], fun x => (fun (v : Vtr) => True) x.1, [.cCluster, .cInt], fun x => (fun (v : Vtr) => newC v) x.1⟩
theorem k_12_v (v : Vtr) : True ∧ (¬qcheckP v.weights v.need = (0 : Int) → (Cluster.mk (Vtr.mk [] (0 : Int)) [] [] [] [] (0 : Int), qcheckP v.weights v.need) = newC v) ∧ (qcheckP v.weights v.need = (0 : Int) → (↑v.weights.length : Int) * (8 : Int) ≤ (140737488355328 : Int) ∧ ((0 : Int) ≤ (↑v.weights.length : Int) ∧ (↑v.weights.length : Int) ≤ (↑v.weights.length : Int) ∧ (↑v.weights.length : Int) * (↑(32 : Nat) : Int) ≤ (140737488355328 : Int)) ∧ (Cluster.mk v (List.replicate (↑v.weights.length : Int).toNat (Copy.mk (Stp.mk (0 : Int) (0 : Int)) (ByteArray.mk #[]))) [] [] [] (0 : Int), (0 : Int)) = newC v) := by
  (repeat' (first | apply And.intro | intro _)) <;> first | assumption | trivial | omega | (grind [newC, Cluster.zero, Copy.zero, qc_len, Int.toNat_natCast]) | trace_state
theorem k_12_ok : k_12.Ok Tryd.prog tD := con_ok tD_ok (Δ := [k_35, k_36]) ⟨k_35_ok, k_36_ok, trivial⟩ (Ω := []) trivial k_12 F12_ok F12_call (fun _ => []) (fun _ => trivial) 0 (fun x => (fun (v : Vtr) => (fun _ => none)) x.1) fun x hp => Eq.mp (by kernel_rfl) (k_12_v x.1)
def i_47_0 (c : Cluster) (i : Int) : Prop := 0 ≤ i ∧ i ≤ c.asks.length ∧ c.asks.length ≤ 31 ∧ c.asks.length = c.terms.length ∧ asksGo c.voters c.terms c.clock (c.asks.drop i.toNat) i = asksE c
def k_47 : Con Tc Tc.dn := ⟨47, [.ty .cCluster], fun x => (fun (c : Cluster) => True) x.1, [.cInt], fun x => (fun (c : Cluster) => asksE c) x.1⟩
theorem k_47_v (c : Cluster) : ((31 : Int) < (↑c.asks.length : Int) → (2 : Int) = asksE c) ∧ ((↑c.asks.length : Int) ≤ (31 : Int) → (¬(↑c.asks.length : Int) = (↑c.terms.length : Int) → (1 : Int) = asksE c) ∧ ((↑c.asks.length : Int) = (↑c.terms.length : Int) → i_47_0 c (0 : Int) ∧ ∀ (x : Int), i_47_0 c x → (x < (↑c.asks.length : Int) → ((0 : Int) ≤ x ∧ x < (↑c.asks.length : Int)) ∧ (¬(gd (Ask.mk (0 : Int) (0 : Int) (0 : Int) ByteArray.empty (Copy.mk (Stp.mk (0 : Int) (0 : Int)) ByteArray.empty) (U64.mk (0 : Nat) LY.u64._proof_1)) c.asks x.toNat).op = x → (1 : Int) = asksE c) ∧ ((gd (Ask.mk (0 : Int) (0 : Int) (0 : Int) ByteArray.empty (Copy.mk (Stp.mk (0 : Int) (0 : Int)) ByteArray.empty) (U64.mk (0 : Nat) LY.u64._proof_1)) c.asks x.toNat).op = x → True ∧ (¬(gd (Ask.mk (0 : Int) (0 : Int) (0 : Int) ByteArray.empty (Copy.mk (Stp.mk (0 : Int) (0 : Int)) ByteArray.empty) (U64.mk (0 : Nat) LY.u64._proof_1)) c.asks x.toNat).checkE c.voters.weights c.voters.need = (0 : Int) → (gd (Ask.mk (0 : Int) (0 : Int) (0 : Int) ByteArray.empty (Copy.mk (Stp.mk (0 : Int) (0 : Int)) ByteArray.empty) (U64.mk (0 : Nat) LY.u64._proof_1)) c.asks x.toNat).checkE c.voters.weights c.voters.need = asksE c) ∧ ((gd (Ask.mk (0 : Int) (0 : Int) (0 : Int) ByteArray.empty (Copy.mk (Stp.mk (0 : Int) (0 : Int)) ByteArray.empty) (U64.mk (0 : Nat) LY.u64._proof_1)) c.asks x.toNat).checkE c.voters.weights c.voters.need = (0 : Int) → ((0 : Int) ≤ x ∧ x < (↑c.terms.length : Int)) ∧ True ∧ (termB (gd (Term.mk (0 : Int) (0 : Int)) c.terms x.toNat) (gd (Ask.mk (0 : Int) (0 : Int) (0 : Int) ByteArray.empty (Copy.mk (Stp.mk (0 : Int) (0 : Int)) ByteArray.empty) (U64.mk (0 : Nat) LY.u64._proof_1)) c.asks x.toNat) c.clock = !true → (4 : Int) = asksE c) ∧ (termB (gd (Term.mk (0 : Int) (0 : Int)) c.terms x.toNat) (gd (Ask.mk (0 : Int) (0 : Int) (0 : Int) ByteArray.empty (Copy.mk (Stp.mk (0 : Int) (0 : Int)) ByteArray.empty) (U64.mk (0 : Nat) LY.u64._proof_1)) c.asks x.toNat) c.clock = !false → I64 (x + (1 : Int)) ∧ i_47_0 c (x + (1 : Int)) ∧ ((↑c.asks.length : Int) - (x + (1 : Int))).toNat < ((↑c.asks.length : Int) - x).toNat)))) ∧ ((↑c.asks.length : Int) ≤ x → (0 : Int) = asksE c))) := by
  (repeat' (first | apply And.intro | intro _)) <;> first | assumption | trivial | omega | (grind [asksE, asksGo, i_47_0, I64, drop_gd, drop_end]) | trace_state
theorem k_47_ok : k_47.Ok Tryd.prog tD := con_ok tD_ok (Δ := [k_67, k_68]) ⟨k_67_ok, k_68_ok, trivial⟩ (Ω := []) trivial k_47 F47_ok F47_call (fun _ => []) (fun _ => trivial) 0 (fun x => (fun (c : Cluster) => (fun k => bif Nat.beq k 0 then some (.inv [.sl 22 .cInt] (fun zv => (fun (i : Int) => i_47_0 c i) zv.1) (fun zv => (fun (i : Int) => ((c.asks.length : Int) - i).toNat) zv.1)) else none)) x.1) fun x hp => Eq.mp (by kernel_rfl) (k_47_v x.1)
def i_48_0 (c : Cluster) (i : Int) : Prop := 0 ≤ i ∧ i ≤ c.net.length ∧ c.net.length ≤ 200 ∧ netGo c.nodes.length c.asks.length (c.net.drop i.toNat) = netE c
def k_48 : Con Tc Tc.dn := ⟨48, [.ty .cCluster], fun x => (fun (c : Cluster) => True) x.1, [.cInt], fun x => (fun (c : Cluster) => netE c) x.1⟩
theorem k_48_v (c : Cluster) : ((200 : Int) < (↑c.net.length : Int) → (2 : Int) = netE c) ∧ ((↑c.net.length : Int) ≤ (200 : Int) → i_48_0 c (0 : Int) ∧ ∀ (x : Int), i_48_0 c x → (x < (↑c.net.length : Int) → ((0 : Int) ≤ x ∧ x < (↑c.net.length : Int)) ∧ True ∧ (¬(gd (Msg.mk (0 : Int) (0 : Int) (0 : Int) (Copy.mk (Stp.mk (0 : Int) (0 : Int)) ByteArray.empty)) c.net x.toNat).checkE = (0 : Int) → (gd (Msg.mk (0 : Int) (0 : Int) (0 : Int) (Copy.mk (Stp.mk (0 : Int) (0 : Int)) ByteArray.empty)) c.net x.toNat).checkE = netE c) ∧ ((gd (Msg.mk (0 : Int) (0 : Int) (0 : Int) (Copy.mk (Stp.mk (0 : Int) (0 : Int)) ByteArray.empty)) c.net x.toNat).checkE = (0 : Int) → ((gd (Msg.mk (0 : Int) (0 : Int) (0 : Int) (Copy.mk (Stp.mk (0 : Int) (0 : Int)) ByteArray.empty)) c.net x.toNat).node < (↑c.nodes.length : Int) → (gd (Msg.mk (0 : Int) (0 : Int) (0 : Int) (Copy.mk (Stp.mk (0 : Int) (0 : Int)) ByteArray.empty)) c.net x.toNat).node < (↑c.nodes.length : Int)) ∧ ((gd (Msg.mk (0 : Int) (0 : Int) (0 : Int) (Copy.mk (Stp.mk (0 : Int) (0 : Int)) ByteArray.empty)) c.net x.toNat).node < (↑c.nodes.length : Int) → (gd (Msg.mk (0 : Int) (0 : Int) (0 : Int) (Copy.mk (Stp.mk (0 : Int) (0 : Int)) ByteArray.empty)) c.net x.toNat).node < (↑c.nodes.length : Int)) ∧ ((gd (Msg.mk (0 : Int) (0 : Int) (0 : Int) (Copy.mk (Stp.mk (0 : Int) (0 : Int)) ByteArray.empty)) c.net x.toNat).node < (↑c.nodes.length : Int) → (gd (Msg.mk (0 : Int) (0 : Int) (0 : Int) (Copy.mk (Stp.mk (0 : Int) (0 : Int)) ByteArray.empty)) c.net x.toNat).node < (↑c.nodes.length : Int)) ∧ ((gd (Msg.mk (0 : Int) (0 : Int) (0 : Int) (Copy.mk (Stp.mk (0 : Int) (0 : Int)) ByteArray.empty)) c.net x.toNat).node < (↑c.nodes.length : Int) → (gd (Msg.mk (0 : Int) (0 : Int) (0 : Int) (Copy.mk (Stp.mk (0 : Int) (0 : Int)) ByteArray.empty)) c.net x.toNat).node < (↑c.nodes.length : Int)) ∧ ((gd (Msg.mk (0 : Int) (0 : Int) (0 : Int) (Copy.mk (Stp.mk (0 : Int) (0 : Int)) ByteArray.empty)) c.net x.toNat).node < (↑c.nodes.length : Int) → (gd (Msg.mk (0 : Int) (0 : Int) (0 : Int) (Copy.mk (Stp.mk (0 : Int) (0 : Int)) ByteArray.empty)) c.net x.toNat).node < (↑c.nodes.length : Int)) ∧ ((gd (Msg.mk (0 : Int) (0 : Int) (0 : Int) (Copy.mk (Stp.mk (0 : Int) (0 : Int)) ByteArray.empty)) c.net x.toNat).node < (↑c.nodes.length : Int) → (gd (Msg.mk (0 : Int) (0 : Int) (0 : Int) (Copy.mk (Stp.mk (0 : Int) (0 : Int)) ByteArray.empty)) c.net x.toNat).node < (↑c.nodes.length : Int)) ∧ ((↑c.nodes.length : Int) ≤ (gd (Msg.mk (0 : Int) (0 : Int) (0 : Int) (Copy.mk (Stp.mk (0 : Int) (0 : Int)) ByteArray.empty)) c.net x.toNat).node ∨ (↑c.asks.length : Int) ≤ (gd (Msg.mk (0 : Int) (0 : Int) (0 : Int) (Copy.mk (Stp.mk (0 : Int) (0 : Int)) ByteArray.empty)) c.net x.toNat).op → (3 : Int) = netE c) ∧ ((gd (Msg.mk (0 : Int) (0 : Int) (0 : Int) (Copy.mk (Stp.mk (0 : Int) (0 : Int)) ByteArray.empty)) c.net x.toNat).node < (↑c.nodes.length : Int) ∧ (gd (Msg.mk (0 : Int) (0 : Int) (0 : Int) (Copy.mk (Stp.mk (0 : Int) (0 : Int)) ByteArray.empty)) c.net x.toNat).op < (↑c.asks.length : Int) → I64 (x + (1 : Int)) ∧ i_48_0 c (x + (1 : Int)) ∧ ((↑c.net.length : Int) - (x + (1 : Int))).toNat < ((↑c.net.length : Int) - x).toNat))) ∧ ((↑c.net.length : Int) ≤ x → (0 : Int) = netE c)) := by
  (repeat' (first | apply And.intro | intro _)) <;> first | assumption | trivial | omega | (grind [netE, netGo, i_48_0, I64, drop_gd, drop_end]) | trace_state
theorem k_48_ok : k_48.Ok Tryd.prog tD := con_ok tD_ok (Δ := [k_69]) ⟨k_69_ok, trivial⟩ (Ω := []) trivial k_48 F48_ok F48_call (fun _ => []) (fun _ => trivial) 0 (fun x => (fun (c : Cluster) => (fun k => bif Nat.beq k 0 then some (.inv [.sl 13 .cInt] (fun zv => (fun (i : Int) => i_48_0 c i) zv.1) (fun zv => (fun (i : Int) => ((c.net.length : Int) - i).toNat) zv.1)) else none)) x.1) fun x hp => Eq.mp (by kernel_rfl) (k_48_v x.1)
def i_18_0 (c : Cluster) (i : Int) : Prop := 0 ≤ i ∧ i ≤ c.nodes.length ∧ c.nodes.length ≤ 12 ∧ c.nodes.length = c.voters.weights.length ∧ qcheckP c.voters.weights c.voters.need = 0 ∧ copGo (c.nodes.drop i.toNat) = copGo c.nodes
def k_18 : Con Tc Tc.dn := ⟨18, [.ty .cCluster], fun x => (fun (c : Cluster) => True) x.1, [.cInt], fun x => (fun (c : Cluster) => c.checkE) x.1⟩
theorem k_18_v (c : Cluster) : True ∧ (¬qcheckP c.voters.weights c.voters.need = (0 : Int) → qcheckP c.voters.weights c.voters.need = c.checkE) ∧ (qcheckP c.voters.weights c.voters.need = (0 : Int) → (¬(↑c.nodes.length : Int) = (↑c.voters.weights.length : Int) → (1 : Int) = c.checkE) ∧ ((↑c.nodes.length : Int) = (↑c.voters.weights.length : Int) → i_18_0 c (0 : Int) ∧ ∀ (x : Int), i_18_0 c x → (x < (↑c.nodes.length : Int) → ((0 : Int) ≤ x ∧ x < (↑c.nodes.length : Int)) ∧ True ∧ (¬(gd (Copy.mk (Stp.mk (0 : Int) (0 : Int)) ByteArray.empty) c.nodes x.toNat).checkE = (0 : Int) → (gd (Copy.mk (Stp.mk (0 : Int) (0 : Int)) ByteArray.empty) c.nodes x.toNat).checkE = c.checkE) ∧ ((gd (Copy.mk (Stp.mk (0 : Int) (0 : Int)) ByteArray.empty) c.nodes x.toNat).checkE = (0 : Int) → I64 (x + (1 : Int)) ∧ i_18_0 c (x + (1 : Int)) ∧ ((↑c.nodes.length : Int) - (x + (1 : Int))).toNat < ((↑c.nodes.length : Int) - x).toNat)) ∧ ((↑c.nodes.length : Int) ≤ x → True ∧ (¬asksE c = (0 : Int) → asksE c = c.checkE) ∧ (asksE c = (0 : Int) → True ∧ (¬netE c = (0 : Int) → netE c = c.checkE) ∧ (netE c = (0 : Int) → ((0 : Int) ≤ c.clock → (0 : Int) ≤ c.clock) ∧ ((0 : Int) ≤ c.clock → (0 : Int) ≤ c.clock) ∧ ((0 : Int) ≤ c.clock → (0 : Int) ≤ c.clock) ∧ (c.clock < (0 : Int) ∨ (1000000 : Int) < c.clock → (3 : Int) = c.checkE) ∧ ((0 : Int) ≤ c.clock ∧ c.clock ≤ (1000000 : Int) → (0 : Int) = c.checkE)))))) := by
  (repeat' (first | apply And.intro | intro _)) <;> first | assumption | trivial | omega | (grind [Cluster.checkE, copGo, i_18_0, I64, drop_gd, drop_end, qc_len]) | trace_state
theorem k_18_ok : k_18.Ok Tryd.prog tD := con_ok tD_ok (Δ := [k_35, k_46, k_47, k_48]) ⟨k_35_ok, k_46_ok, k_47_ok, k_48_ok, trivial⟩ (Ω := []) trivial k_18 F18_ok F18_call (fun _ => []) (fun _ => trivial) 0 (fun x => (fun (c : Cluster) => (fun k => bif Nat.beq k 0 then some (.inv [.sl 31 .cInt] (fun zv => (fun (i : Int) => i_18_0 c i) zv.1) (fun zv => (fun (i : Int) => ((c.nodes.length : Int) - i).toNat) zv.1)) else bif Nat.beq k 1 then some (.unr 3) else none)) x.1) fun x hp => Eq.mp (by kernel_rfl) (k_18_v x.1)
open Go.RowKit
def sendC (c : Cluster) : Cluster × Int := if c.net.length > 200 then (Cluster.zero, 2) else (c, 0)
def beginC (c : Cluster) (kind : Int) (data : ByteArray) : Cluster × Int :=
  if c.asks.length = 31 then (Cluster.zero, 2) else if (beginA c.voters c.asks.length kind data).2.2 ≠ 0 then (Cluster.zero, (beginA c.voters c.asks.length kind data).2.2)
  else sendC ⟨c.voters, c.nodes, c.asks ++ [(beginA c.voters c.asks.length kind data).1], c.terms ++ [⟨c.clock, 0⟩], c.net ++ (beginA c.voters c.asks.length kind data).2.1, c.clock⟩
abbrev Ask.nil : Ask := ⟨0, 0, 0, ByteArray.empty, ⟨⟨0, 0⟩, ByteArray.empty⟩, ⟨0, LY.u64._proof_1⟩⟩
abbrev Copy.nil : Copy := ⟨⟨0, 0⟩, ByteArray.empty⟩
abbrev Msg.nil : Msg := ⟨0, 0, 0, Copy.nil⟩
def passC (c : Cluster) (m : Msg) : Cluster :=
  if m.kind = 1 ∨ m.kind = 3 then ⟨c.voters, c.nodes.set m.node.toNat (serveA (gd Copy.nil c.nodes m.node.toNat) m).1, c.asks, c.terms, c.net ++ (serveA (gd Copy.nil c.nodes m.node.toNat) m).2.1, c.clock⟩
  else ⟨c.voters, c.nodes, c.asks.set m.op.toNat (hearA c.voters (gd Ask.nil c.asks m.op.toNat) m).1, if (hearA c.voters (gd Ask.nil c.asks m.op.toNat) m).1.phase = 3 ∧ (gd Ask.nil c.asks m.op.toNat).phase ≠ 3 then c.terms.set m.op.toNat ⟨(gd ⟨0, 0⟩ c.terms m.op.toNat).begin, c.clock⟩ else c.terms, c.net ++ (hearA c.voters (gd Ask.nil c.asks m.op.toNat) m).2.1, c.clock⟩
def stepP (c : Cluster) (x : Step) : Cluster × Int :=
  if c.clock = 1000000 then (Cluster.zero, 2) else if x.kind < 1 ∨ x.kind > 5 then (Cluster.zero, 7) else if (x.data ≠ ⟨#[]⟩ ∧ x.kind ≠ 2) ∨ ((x.kind = 1 ∨ x.kind = 2) ∧ x.n ≠ 0) then (Cluster.zero, 1)
  else if x.kind = 1 then beginC ⟨c.voters, c.nodes, c.asks, c.terms, c.net, c.clock + 1⟩ 1 ⟨#[]⟩ else if x.kind = 2 then beginC ⟨c.voters, c.nodes, c.asks, c.terms, c.net, c.clock + 1⟩ 2 x.data
  else if x.n < 0 ∨ x.n ≥ c.net.length then (Cluster.zero, 3)
  else if x.kind = 5 then sendC ⟨c.voters, c.nodes, c.asks, c.terms, c.net ++ [gd Msg.nil c.net x.n.toNat], c.clock + 1⟩
  else if x.kind = 4 then (⟨c.voters, c.nodes, c.asks, c.terms, c.net.eraseIdx x.n.toNat, c.clock + 1⟩, 0)
  else sendC (passC ⟨c.voters, c.nodes, c.asks, c.terms, c.net.eraseIdx x.n.toNat, c.clock + 1⟩ (gd Msg.nil c.net x.n.toNat))
theorem netGo_ok {n a : Int} : ∀ {l : List Msg}, netGo n a l = 0 → ∀ m, m ∈ l → m.checkE = 0 ∧ m.node < n ∧ m.op < a
  | [], _, m, hm => by simp at hm
  | q :: r, h, m, hm => by
    unfold netGo at h
    split at h
    · rename_i h1; exact absurd h h1
    · split at h
      · simp at h
      · rcases List.mem_cons.1 hm with rfl | hm
        · omega
        · exact netGo_ok h m hm
theorem check_ok {c : Cluster} (h : c.checkE = 0) : qcheckP c.voters.weights c.voters.need = 0 ∧ c.nodes.length = c.voters.weights.length ∧ copGo c.nodes = 0 ∧ asksE c = 0 ∧ netE c = 0 ∧ 0 ≤ c.clock ∧ c.clock ≤ 1000000 := by
  unfold Cluster.checkE at h
  repeat' split at h
  all_goals first | omega | (exfalso; contradiction) | (exfalso; simp at h; done)
theorem check_len {c : Cluster} (h : c.checkE = 0) : c.asks.length ≤ 31 ∧ c.asks.length = c.terms.length ∧ c.net.length ≤ 200 ∧ c.nodes.length ≤ 12 ∧ c.voters.weights.length ≤ 12 := by
  obtain ⟨h1, h2, h3, h4, h5, h6⟩ := check_ok h
  have := qc_len h1
  unfold asksE at h4
  unfold netE at h5
  repeat' split at h4
  all_goals repeat' split at h5
  all_goals first | omega | (exfalso; simp at h4; done) | (exfalso; simp at h5; done)
theorem check_net {c : Cluster} (h : c.checkE = 0) {m : Msg} (hm : m ∈ c.net) : m.checkE = 0 ∧ m.node < c.nodes.length ∧ m.op < c.asks.length := by
  have h5 := (check_ok h).2.2.2.2.1
  unfold netE at h5
  split at h5
  · simp at h5
  · exact netGo_ok h5 m hm
theorem gd_set {α : Type} {d z : α} {xs : List α} {i : Nat} (h : i < xs.length) : gd d (xs.set i z) i = z := by
  unfold gd; rw [List.getElem?_set_self h]; rfl
theorem beginA_len (v : Vtr) (op kind : Int) (data : ByteArray) : (beginA v op kind data).2.1.length ≤ 12 := by
  unfold beginA
  split
  · simp
  · rename_i h
    have := ask_len (a := Ask.new op kind data) (ws := v.weights) (need := v.need) (by omega)
    simp only [toAllM_len]; omega
theorem hearA_len (v : Vtr) (a : Ask) (m : Msg) : (hearA v a m).2.1.length ≤ 12 := by
  unfold hearA
  split
  · simp
  · rename_i h
    have := ask_len (a := a) (ws := v.weights) (need := v.need) (by omega)
    split
    · simp
    · unfold hearT
      repeat' split
      all_goals first | (simp; done) | (simp only [toAllM_len]; omega)
theorem serveA_len (c : Copy) (m : Msg) : (serveA c m).2.1.length ≤ 1 := by
  unfold serveA
  repeat' split
  all_goals simp
def k_37 : Con Tc Tc.dn := ⟨37, [.ty .cCluster, .ty .cStep], fun x => (fun (c : Cluster) (x : Step) => c.checkE = 0) x.1 x.2.1, [.cCluster, .cInt], fun x => (fun (c : Cluster) (x : Step) => stepP c x) x.1 x.2.1⟩
abbrev z37_0 (c : Cluster) (x : Step) := (gd (Msg.mk (0 : Int) (0 : Int) (0 : Int) (Copy.mk (Stp.mk (0 : Int) (0 : Int)) ByteArray.empty)) c.net x.n.toNat)
abbrev z37_1 := (Ask.mk (0 : Int) (0 : Int) (0 : Int) ByteArray.empty (Copy.mk (Stp.mk (0 : Int) (0 : Int)) ByteArray.empty) (U64.mk (0 : Nat) LY.u64._proof_1))
abbrev z37_3 (c : Cluster) (x : Step) := (hearA c.voters (gd z37_1 c.asks (z37_0 c x).op.toNat) (z37_0 c x))
abbrev z37_2 (c : Cluster) (x : Step) := (gd z37_1 (c.asks.set (z37_0 c x).op.toNat (z37_3 c x).fst) (z37_0 c x).op.toNat)
abbrev z37_4 (c : Cluster) := (beginA c.voters (↑c.asks.length : Int) (1 : Int) (ByteArray.mk #[]))
abbrev z37_5 := (Cluster.mk (Vtr.mk [] (0 : Int)) [] [] [] [] (0 : Int), (2 : Int))
abbrev z37_6 (c : Cluster) (x : Step) := (beginA c.voters (↑c.asks.length : Int) (2 : Int) x.data)
abbrev z37_7 (c : Cluster) (x : Step) := (serveA (gd (Copy.mk (Stp.mk (0 : Int) (0 : Int)) ByteArray.empty) c.nodes (z37_0 c x).node.toNat) (z37_0 c x))
abbrev z37_8 (x : Step) := (x.data = ByteArray.mk #[] ∨ x.kind = (2 : Int) → x.kind = (1 : Int) ∨ x.kind = (2 : Int) → x.kind = (1 : Int) ∨ x.kind = (2 : Int))
abbrev z37_9 (c : Cluster) (x : Step) := ((z37_2 c x).phase = (3 : Int) → (z37_2 c x).phase = (3 : Int))
theorem k_37_v (c : Cluster) (x : Step) (hp : c.checkE = 0) : (c.clock = (1000000 : Int) → z37_5 = stepP c x) ∧ (¬c.clock = (1000000 : Int) → (↑c.voters.weights.length : Int) * (8 : Int) ≤ (140737488355328 : Int) ∧ (↑c.nodes.length : Int) * (32 : Int) ≤ (140737488355328 : Int) ∧ (↑c.asks.length : Int) * (80 : Int) ≤ (140737488355328 : Int) ∧ (↑c.terms.length : Int) * (16 : Int) ≤ (140737488355328 : Int) ∧ (↑c.net.length : Int) * (56 : Int) ≤ (140737488355328 : Int) ∧ I64 (c.clock + (1 : Int)) ∧ (¬x.kind = (1 : Int) → ¬x.kind = (1 : Int)) ∧ (¬x.kind = (1 : Int) → ¬x.kind = (1 : Int)) ∧ (¬x.kind = (1 : Int) → ¬x.kind = (1 : Int)) ∧ ((1 : Int) ≤ x.kind → (1 : Int) ≤ x.kind) ∧ ((1 : Int) ≤ x.kind → (1 : Int) ≤ x.kind) ∧ ((1 : Int) ≤ x.kind → (1 : Int) ≤ x.kind) ∧ (x.kind < (1 : Int) ∨ (5 : Int) < x.kind → (Cluster.mk (Vtr.mk [] (0 : Int)) [] [] [] [] (0 : Int), (7 : Int)) = stepP c x) ∧ ((1 : Int) ≤ x.kind ∧ x.kind ≤ (5 : Int) → (¬x.data = ByteArray.mk #[] → ¬x.data = ByteArray.mk #[]) ∧ (¬x.data = ByteArray.mk #[] → ¬x.data = ByteArray.mk #[]) ∧ (¬x.data = ByteArray.mk #[] → ¬x.data = ByteArray.mk #[]) ∧ (z37_8 x) ∧ (z37_8 x) ∧ (z37_8 x) ∧ ((¬x.data = ByteArray.mk #[] ∧ ¬x.kind = (2 : Int)) ∧ ¬x.data = ByteArray.mk #[] ∧ ¬x.kind = (2 : Int) ∨ (x.data = ByteArray.mk #[] ∨ x.kind = (2 : Int)) ∧ (x.kind = (1 : Int) ∨ x.kind = (2 : Int)) ∧ ¬x.n = (0 : Int) → (Cluster.mk (Vtr.mk [] (0 : Int)) [] [] [] [] (0 : Int), (1 : Int)) = stepP c x) ∧ (((x.data = ByteArray.mk #[] ∨ x.kind = (2 : Int)) ∨ x.data = ByteArray.mk #[] ∨ x.kind = (2 : Int)) ∧ (¬x.data = ByteArray.mk #[] ∧ ¬x.kind = (2 : Int) ∨ ¬x.kind = (1 : Int) ∧ ¬x.kind = (2 : Int) ∨ x.n = (0 : Int)) → (x.kind = (1 : Int) → ((↑c.asks.length : Int) = (31 : Int) → z37_5 = stepP c x) ∧ (¬(↑c.asks.length : Int) = (31 : Int) → True ∧ (¬(z37_4 c).snd.snd = (0 : Int) → (¬(z37_4 c).snd.snd = (0 : Int) → (Cluster.mk (Vtr.mk [] (0 : Int)) [] [] [] [] (0 : Int), (z37_4 c).snd.snd) = stepP c x) ∧ ((z37_4 c).snd.snd = (0 : Int) → (Cluster.mk c.voters c.nodes c.asks c.terms c.net (c.clock + (1 : Int)), (0 : Int)) = stepP c x)) ∧ ((z37_4 c).snd.snd = (0 : Int) → (c.asks.length + (1 : Nat)) * (80 : Nat) ≤ (140737488355328 : Nat) ∧ (c.terms.length + (1 : Nat)) * (16 : Nat) ≤ (140737488355328 : Nat) ∧ (c.net.length + (z37_4 c).snd.fst.length) * (56 : Nat) ≤ (140737488355328 : Nat) ∧ ((200 : Int) < (↑(c.net ++ (z37_4 c).snd.fst).length : Int) → z37_5 = stepP c x) ∧ ((↑(c.net ++ (z37_4 c).snd.fst).length : Int) ≤ (200 : Int) → (Cluster.mk c.voters c.nodes (c.asks ++ [(z37_4 c).fst]) (c.terms ++ [Term.mk (c.clock + (1 : Int)) (0 : Int)]) (c.net ++ (z37_4 c).snd.fst) (c.clock + (1 : Int)), (0 : Int)) = stepP c x)))) ∧ (¬x.kind = (1 : Int) → (x.kind = (2 : Int) → ((↑c.asks.length : Int) = (31 : Int) → z37_5 = stepP c x) ∧ (¬(↑c.asks.length : Int) = (31 : Int) → True ∧ (¬(z37_6 c x).snd.snd = (0 : Int) → (¬(z37_6 c x).snd.snd = (0 : Int) → (Cluster.mk (Vtr.mk [] (0 : Int)) [] [] [] [] (0 : Int), (z37_6 c x).snd.snd) = stepP c x) ∧ ((z37_6 c x).snd.snd = (0 : Int) → (Cluster.mk c.voters c.nodes c.asks c.terms c.net (c.clock + (1 : Int)), (0 : Int)) = stepP c x)) ∧ ((z37_6 c x).snd.snd = (0 : Int) → (c.asks.length + (1 : Nat)) * (80 : Nat) ≤ (140737488355328 : Nat) ∧ (c.terms.length + (1 : Nat)) * (16 : Nat) ≤ (140737488355328 : Nat) ∧ (c.net.length + (z37_6 c x).snd.fst.length) * (56 : Nat) ≤ (140737488355328 : Nat) ∧ ((200 : Int) < (↑(c.net ++ (z37_6 c x).snd.fst).length : Int) → z37_5 = stepP c x) ∧ ((↑(c.net ++ (z37_6 c x).snd.fst).length : Int) ≤ (200 : Int) → (Cluster.mk c.voters c.nodes (c.asks ++ [(z37_6 c x).fst]) (c.terms ++ [Term.mk (c.clock + (1 : Int)) (0 : Int)]) (c.net ++ (z37_6 c x).snd.fst) (c.clock + (1 : Int)), (0 : Int)) = stepP c x)))) ∧ (¬x.kind = (2 : Int) → ((0 : Int) ≤ x.n → (0 : Int) ≤ x.n) ∧ ((0 : Int) ≤ x.n → (0 : Int) ≤ x.n) ∧ ((0 : Int) ≤ x.n → (0 : Int) ≤ x.n) ∧ ((0 : Int) ≤ x.n → (0 : Int) ≤ x.n) ∧ ((0 : Int) ≤ x.n → (0 : Int) ≤ x.n) ∧ ((0 : Int) ≤ x.n → (0 : Int) ≤ x.n) ∧ ((0 : Int) ≤ x.n → (0 : Int) ≤ x.n) ∧ ((0 : Int) ≤ x.n → (0 : Int) ≤ x.n) ∧ ((0 : Int) ≤ x.n → (0 : Int) ≤ x.n) ∧ (x.n < (0 : Int) ∨ (↑c.net.length : Int) ≤ x.n → (Cluster.mk (Vtr.mk [] (0 : Int)) [] [] [] [] (0 : Int), (3 : Int)) = stepP c x) ∧ ((0 : Int) ≤ x.n ∧ x.n < (↑c.net.length : Int) → ((0 : Int) ≤ x.n ∧ x.n < (↑c.net.length : Int)) ∧ x.n.toNat < c.net.length ∧ (x.kind = (5 : Int) → (c.net.length + (1 : Nat)) * (56 : Nat) ≤ (140737488355328 : Nat) ∧ ((200 : Int) < (↑(c.net ++ [gd (Msg.mk (0 : Int) (0 : Int) (0 : Int) (Copy.mk (Stp.mk (0 : Int) (0 : Int)) ByteArray.empty)) c.net x.n.toNat]).length : Int) → z37_5 = stepP c x) ∧ ((↑(c.net ++ [gd (Msg.mk (0 : Int) (0 : Int) (0 : Int) (Copy.mk (Stp.mk (0 : Int) (0 : Int)) ByteArray.empty)) c.net x.n.toNat]).length : Int) ≤ (200 : Int) → (Cluster.mk c.voters c.nodes c.asks c.terms (c.net ++ [gd (Msg.mk (0 : Int) (0 : Int) (0 : Int) (Copy.mk (Stp.mk (0 : Int) (0 : Int)) ByteArray.empty)) c.net x.n.toNat]) (c.clock + (1 : Int)), (0 : Int)) = stepP c x)) ∧ (¬x.kind = (5 : Int) → I64 (x.n + (1 : Int)) ∧ (0 : Int) ≤ x.n ∧ x.n < (↑c.net.length : Int) ∧ x.n + (1 : Int) = x.n + (1 : Int) ∧ c.net.length ≤ (1000000 : Nat) ∧ (x.kind = (4 : Int) → (Cluster.mk c.voters c.nodes c.asks c.terms (c.net.eraseIdx x.n.toNat) (c.clock + (1 : Int)), (0 : Int)) = stepP c x) ∧ (¬x.kind = (4 : Int) → ((z37_0 c x).kind = (1 : Int) ∧ (z37_0 c x).kind = (1 : Int) ∨ ¬(z37_0 c x).kind = (1 : Int) ∧ (z37_0 c x).kind = (3 : Int) → ((0 : Int) ≤ (z37_0 c x).node ∧ (z37_0 c x).node < (↑c.nodes.length : Int)) ∧ (z37_0 c x).node.toNat < c.nodes.length ∧ True ∧ ((0 : Int) ≤ (z37_0 c x).node ∧ (z37_0 c x).node < (↑c.nodes.length : Int)) ∧ (z37_0 c x).node.toNat < c.nodes.length ∧ ((c.net.eraseIdx x.n.toNat).length + (z37_7 c x).snd.fst.length) * (56 : Nat) ≤ (140737488355328 : Nat) ∧ ((200 : Int) < (↑(c.net.eraseIdx x.n.toNat ++ (z37_7 c x).snd.fst).length : Int) → z37_5 = stepP c x) ∧ ((↑(c.net.eraseIdx x.n.toNat ++ (z37_7 c x).snd.fst).length : Int) ≤ (200 : Int) → (Cluster.mk c.voters (c.nodes.set (z37_0 c x).node.toNat (z37_7 c x).fst) c.asks c.terms (c.net.eraseIdx x.n.toNat ++ (z37_7 c x).snd.fst) (c.clock + (1 : Int)), (0 : Int)) = stepP c x)) ∧ ((¬(z37_0 c x).kind = (1 : Int) ∨ ¬(z37_0 c x).kind = (1 : Int)) ∧ ((z37_0 c x).kind = (1 : Int) ∨ ¬(z37_0 c x).kind = (3 : Int)) → ((0 : Int) ≤ (z37_0 c x).op ∧ (z37_0 c x).op < (↑c.asks.length : Int)) ∧ (z37_0 c x).op.toNat < c.asks.length ∧ (z37_0 c x).op.toNat < c.asks.length ∧ True ∧ (z37_0 c x).op.toNat < c.asks.length ∧ (z37_0 c x).op.toNat < (c.asks.set (z37_0 c x).op.toNat (z37_3 c x).fst).length ∧ (z37_9 c x) ∧ (z37_9 c x) ∧ (z37_9 c x) ∧ ((z37_2 c x).phase = (3 : Int) → (z37_0 c x).op.toNat < (c.asks.set (z37_0 c x).op.toNat (z37_3 c x).fst).length) ∧ (z37_9 c x) ∧ (z37_9 c x) ∧ (z37_9 c x) ∧ ((z37_2 c x).phase = (3 : Int) ∧ ¬(gd z37_1 c.asks (z37_0 c x).op.toNat).phase = (z37_2 c x).phase → ((0 : Int) ≤ (z37_0 c x).op ∧ (z37_0 c x).op < (↑c.terms.length : Int)) ∧ (z37_0 c x).op.toNat < c.terms.length ∧ ((c.net.eraseIdx x.n.toNat).length + (z37_3 c x).snd.fst.length) * (56 : Nat) ≤ (140737488355328 : Nat) ∧ ((200 : Int) < (↑(c.net.eraseIdx x.n.toNat ++ (z37_3 c x).snd.fst).length : Int) → z37_5 = stepP c x) ∧ ((↑(c.net.eraseIdx x.n.toNat ++ (z37_3 c x).snd.fst).length : Int) ≤ (200 : Int) → (Cluster.mk c.voters c.nodes (c.asks.set (z37_0 c x).op.toNat (z37_3 c x).fst) (c.terms.set (z37_0 c x).op.toNat (Term.mk (gd (Term.mk (0 : Int) (0 : Int)) c.terms (z37_0 c x).op.toNat).begin (c.clock + (1 : Int)))) (c.net.eraseIdx x.n.toNat ++ (z37_3 c x).snd.fst) (c.clock + (1 : Int)), (0 : Int)) = stepP c x)) ∧ (¬(z37_2 c x).phase = (3 : Int) ∨ (gd z37_1 c.asks (z37_0 c x).op.toNat).phase = (z37_2 c x).phase → ((c.net.eraseIdx x.n.toNat).length + (z37_3 c x).snd.fst.length) * (56 : Nat) ≤ (140737488355328 : Nat) ∧ ((200 : Int) < (↑(c.net.eraseIdx x.n.toNat ++ (z37_3 c x).snd.fst).length : Int) → z37_5 = stepP c x) ∧ ((↑(c.net.eraseIdx x.n.toNat ++ (z37_3 c x).snd.fst).length : Int) ≤ (200 : Int) → (Cluster.mk c.voters c.nodes (c.asks.set (z37_0 c x).op.toNat (z37_3 c x).fst) c.terms (c.net.eraseIdx x.n.toNat ++ (z37_3 c x).snd.fst) (c.clock + (1 : Int)), (0 : Int)) = stepP c x))))))))))) := by
  delta z37_9 z37_8 z37_7 z37_6 z37_5 z37_4 z37_3 z37_2 z37_1 z37_0
  have hl := check_len hp
  have hcl := check_ok hp
  have hm : 0 ≤ x.n → x.n < c.net.length → (gd Msg.nil c.net x.n.toNat).checkE = 0 ∧ (gd Msg.nil c.net x.n.toNat).node < c.nodes.length ∧ (gd Msg.nil c.net x.n.toNat).op < c.asks.length ∧ 0 ≤ (gd Msg.nil c.net x.n.toNat).node ∧ 0 ≤ (gd Msg.nil c.net x.n.toNat).op := fun h1 h2 => by
    have h3 := check_net hp (m := gd Msg.nil c.net x.n.toNat) (gd_mem (by omega))
    have h4 := msg_in h3.1
    omega
  have hb1 := beginA_len c.voters c.asks.length 1 ⟨#[]⟩
  have hb2 := beginA_len c.voters c.asks.length 2 x.data
  have hh := hearA_len c.voters
  have hs := serveA_len
  (repeat' (first | apply And.intro | intro _)) <;> first | assumption | trivial | omega | (grind [I64]) | (simp only [stepP, beginC, sendC, passC, *]; grind [Cluster.zero, gd_set]) | (unfold stepP beginC sendC passC; grind [Cluster.zero, gd_set]) | trace_state
def l_37 : PD Tc.dn k_37.ps → List (IL Tc Tc.dn) := fun x => (fun (c : Cluster) (x : Step) => ([⟨52, .fn F52 (fun _ => none)⟩, ⟨61, .fn F61 (fun _ => none)⟩, ⟨94, .fn F94 (fun _ => none)⟩, ⟨95, .fn F95 (fun _ => none)⟩, ⟨97, .fn F97 (fun _ => none)⟩, ⟨96, .del .cMsg 56 [.v (.int .i64 0), .v (.int .i64 0), .v (.int .i64 0), .v (.int .i64 0), .v (.int .i64 0), .v (.string ⟨#[]⟩)]⟩])) x.1 x.2.1
theorem l_37_ok : ∀ x, ILs Tryd.prog tD (l_37 x) := fun _ => ⟨⟨F52_ok, F52_call⟩, ⟨F61_ok, F61_call⟩, ⟨F94_ok, F94_call⟩, ⟨F95_ok, F95_call⟩, ⟨F97_ok, F97_call⟩, ⟨F96_ok, F96_call, rfl⟩, trivial⟩
theorem k_37_ok : k_37.Ok Tryd.prog tD := con_ok tD_ok (Δ := [k_36, k_119, k_120, k_121]) ⟨k_36_ok, k_119_ok, k_120_ok, k_121_ok, trivial⟩ (Ω := [o_72, o_73, o_74, o_75]) ⟨o_72_ok, o_73_ok, o_74_ok, o_75_ok, trivial⟩ k_37 F37_ok F37_call (l_37) (l_37_ok) 5 (fun x => (fun (c : Cluster) (x : Step) => (fun _ => none)) x.1 x.2.1) fun x hp => Eq.mp (by kernel_rfl) (k_37_v x.1 x.2.1 hp)
theorem copGo_iff : ∀ {l : List Copy}, copGo l = 0 ↔ ∀ c, c ∈ l → c.checkE = 0
  | [] => by simp [copGo]
  | c :: r => by
    unfold copGo
    by_cases h : c.checkE = 0
    · rw [if_neg (by omega), copGo_iff (l := r)]; simp [h]
    · rw [if_pos h]; simp [h]
theorem netGo_iff {n a : Int} : ∀ {l : List Msg}, netGo n a l = 0 ↔ ∀ m, m ∈ l → m.checkE = 0 ∧ m.node < n ∧ m.op < a
  | [] => by simp [netGo]
  | m :: r => by
    unfold netGo
    by_cases h : m.checkE = 0
    · rw [if_neg (by omega)]
      by_cases h2 : m.node ≥ n ∨ m.op ≥ a
      · rw [if_pos h2]; simp; intro _ h3; omega
      · rw [if_neg h2, netGo_iff (l := r)]; simp [h]; intro _; omega
    · rw [if_pos h]; simp [h]
theorem asksGo_iff {v : Vtr} {ts : List Term} {k : Int} : ∀ {l : List Ask} {i : Int}, 0 ≤ i → (asksGo v ts k l i = 0 ↔ ∀ (j : Nat) a, l[j]? = some a → a.op = i + j ∧ a.checkE v.weights v.need = 0 ∧ termB (gd ⟨0, 0⟩ ts (i.toNat + j)) a k = true)
  | [], i, _ => by simp [asksGo]
  | a :: r, i, hi => by
    unfold asksGo
    have ih := asksGo_iff (v := v) (ts := ts) (k := k) (l := r) (i := i + 1) (by omega)
    by_cases h1 : a.op = i
    · rw [if_neg (by omega)]
      by_cases h2 : a.checkE v.weights v.need = 0
      · rw [if_neg (by omega)]
        by_cases h3 : termB (gd ⟨0, 0⟩ ts i.toNat) a k = true
        · rw [if_neg (by simp [h3]), ih]
          constructor
          · intro h j b hb
            cases j with
            | zero => simp at hb; subst hb; exact ⟨by omega, h2, h3⟩
            | succ j =>
              obtain ⟨q1, q2, q3⟩ := h j b (by simpa using hb)
              refine ⟨by rw [q1]; omega, q2, ?_⟩
              rw [show i.toNat + (j + 1) = (i + 1).toNat + j by omega]; exact q3
          · intro h j b hb
            obtain ⟨q1, q2, q3⟩ := h (j + 1) b (by simpa using hb)
            refine ⟨by rw [q1]; omega, q2, ?_⟩
            rw [show (i + 1).toNat + j = i.toNat + (j + 1) by omega]; exact q3
        · rw [if_pos (by simpa using h3)]
          constructor
          · intro h; simp at h
          · intro h; exact absurd (h 0 a rfl).2.2 h3
      · rw [if_pos h2]
        constructor
        · intro h; exact absurd h h2
        · intro h; exact absurd (h 0 a rfl).2.1 h2
    · rw [if_pos h1]
      constructor
      · intro h; simp at h
      · intro h; have := (h 0 a rfl).1; omega
structure Cluster.Ok (c : Cluster) : Prop where
  q : qcheckP c.voters.weights c.voters.need = 0
  nl : c.nodes.length = c.voters.weights.length
  cop : ∀ x, x ∈ c.nodes → x.checkE = 0
  al : c.asks.length ≤ 31
  tl : c.terms.length = c.asks.length
  ask : ∀ (j : Nat) a, c.asks[j]? = some a → a.op = j ∧ a.checkE c.voters.weights c.voters.need = 0
  tm : ∀ (j : Nat) a t, c.asks[j]? = some a → c.terms[j]? = some t → termB t a c.clock = true
  ml : c.net.length ≤ 200
  net : ∀ m, m ∈ c.net → m.checkE = 0 ∧ m.node < c.nodes.length ∧ m.op < c.asks.length
  clk : 0 ≤ c.clock ∧ c.clock ≤ 1000000
theorem Cluster.ok_iff {c : Cluster} : c.checkE = 0 ↔ c.Ok := by
  constructor
  · intro h
    obtain ⟨h1, h2, h3, h4, h5, h6⟩ := check_ok h
    obtain ⟨l1, l2, l3, l4, l5⟩ := check_len h
    have ha : asksGo c.voters c.terms c.clock c.asks 0 = 0 := by
      unfold asksE at h4; rw [if_neg (by omega), if_neg (by omega)] at h4; exact h4
    have hn : netGo c.nodes.length c.asks.length c.net = 0 := by
      unfold netE at h5; rw [if_neg (by omega)] at h5; exact h5
    have ha' := (asksGo_iff (by omega)).1 ha
    refine ⟨h1, h2, copGo_iff.1 h3, l1, l2.symm, fun j a hj => ?_, fun j a t hj ht => ?_, l3, netGo_iff.1 hn, h6⟩
    · have := ha' j a hj; exact ⟨by rw [this.1]; omega, this.2.1⟩
    · have := (ha' j a hj).2.2
      unfold gd at this
      rw [show (0 : Int).toNat + j = j by omega, ht] at this; exact this
  · intro h
    have ha : asksE c = 0 := by
      unfold asksE; rw [if_neg (by have := h.al; omega), if_neg (by have := h.tl; omega)]
      refine (asksGo_iff (by omega)).2 fun j a hj => ⟨by rw [(h.ask j a hj).1]; omega, (h.ask j a hj).2, ?_⟩
      have hjl := (List.getElem?_eq_some_iff.1 hj).1
      have ht := gd_get (d := (⟨0, 0⟩ : Term)) (xs := c.terms) (i := j) (by rw [h.tl]; exact hjl)
      rw [show (0 : Int).toNat + j = j by omega]
      exact h.tm j a _ hj ht
    have hn : netE c = 0 := by
      unfold netE; rw [if_neg (by have := h.ml; omega)]; exact netGo_iff.2 h.net
    unfold Cluster.checkE
    rw [if_neg (by have := h.q; omega), if_neg (by have := h.nl; omega), if_neg (by have := copGo_iff.2 h.cop; omega), if_neg (by omega), if_neg (by omega), if_neg (by have := h.clk; omega)]
theorem raw_ok {a b : Copy} (ha : a.checkE = 0) (hb : b.checkE = 0) : (a.raw b).checkE = 0 := by unfold Copy.raw; split <;> assumption
theorem msg_copy {m : Msg} (h : m.checkE = 0) : m.copy.checkE = 0 := (msg_node h).2
theorem msg_mk {k op n : Int} {c : Copy} (hk : 1 ≤ k ∧ k ≤ 4) (ho : 0 ≤ op ∧ op ≤ 30) (hn : 0 ≤ n ∧ n ≤ 11) (hc : c.checkE = 0) (hf : (k = 2 ∨ k = 3) ∨ c = ⟨⟨0, 0⟩, ⟨#[]⟩⟩) : (⟨k, op, n, c⟩ : Msg).checkE = 0 := by
  unfold Msg.checkE
  rw [if_neg (by simp only; omega), if_neg (by simp only; omega), if_neg (by simp only; omega), if_neg]
  rintro ⟨h1, h2⟩
  rcases hf with hf | hf
  · exact h1 hf
  · subst hf; exact h2 ⟨rfl, rfl, rfl⟩
theorem serve_ok {c : Copy} {m : Msg} (hc : c.checkE = 0) (hm : m.checkE = 0) : (serveA c m).1.checkE = 0 ∧ ∀ q, q ∈ (serveA c m).2.1 → q.checkE = 0 ∧ q.node = m.node ∧ q.op = m.op := by
  have hi := msg_in hm
  unfold serveA
  rw [if_neg (by omega), if_neg (by omega)]
  split
  · exact ⟨hc, fun q hq => by simp at hq; subst hq; exact ⟨msg_mk (by omega) (by omega) (by omega) hc (.inl (by omega)), rfl, rfl⟩⟩
  · split
    · exact ⟨raw_ok hc (msg_copy hm), fun q hq => by simp at hq; subst hq; exact ⟨msg_mk (by omega) (by omega) (by omega) (by decide) (.inr rfl), rfl, rfl⟩⟩
    · exact ⟨hc, fun q hq => by simp at hq⟩
theorem bitU_n {k : Int} (h : 0 ≤ k ∧ k < 64) : (bitU k).n = 2 ^ k.toNat := by
  unfold bitU
  have h1 : (uN (Int.toNat 1)).n = 1 := rfl
  have h2 : min k.toNat 64 = k.toNat := by omega
  have h3 : 2 ^ k.toNat < 18446744073709551616 := by
    have := Nat.pow_lt_pow_right (a := 2) (by decide) (show k.toNat < 64 by omega); simpa using this
  rw [h1, h2, Nat.one_mul, uN_n h3]
theorem or_len {a : U64} {k : Int} {n : Nat} (h : 0 ≤ k ∧ k < n ∧ n ≤ 12) (ha : a.n < 2 ^ n) : (opU .or a (bitU k)).n < 2 ^ n := by
  rw [opU_n, bitU_n (by omega)]
  exact opN_lt .or ha (Nat.pow_lt_pow_right (by decide) (by omega))
theorem ask_iff {a : Ask} {ws : List Int} {need : Int} : a.checkE ws need = 0 ↔ qcheckP ws need = 0 ∧ (0 ≤ a.op ∧ a.op ≤ 30) ∧ (1 ≤ a.kind ∧ a.kind ≤ 2) ∧ (1 ≤ a.phase ∧ a.phase ≤ 3) ∧ a.data.size ≤ 64 ∧ (a.kind = 1 → a.data.size = 0) ∧ a.best.checkE = 0 ∧ a.heard.n < 2 ^ ws.length := by
  refine ⟨ask_ok, fun ⟨h1, h2, h3, h4, h5, h6, h7, h8⟩ => ?_⟩
  unfold Ask.checkE
  have h9 : ¬ (len64 a.heard.n : Int) > ws.length := fun hh => by have := len64_gt.1 (show ws.length < len64 a.heard.n by omega); omega
  rw [if_neg (by omega), if_neg (by omega), if_neg (by omega), if_neg (by omega), if_neg (fun hh => hh.2 (h6 hh.1)), if_neg (by omega), if_neg h9]
theorem next_ok {s : Stp} {who : Int} (h : (nextL [s] who).2 = 0) : (nextL [s] who).1.okS := by
  unfold nextL at h ⊢
  split at h
  · rename_i h1; exact absurd h h1
  · rename_i h1
    split at h
    · simp at h
    · rename_i h2
      rw [if_neg h1, if_neg h2]
      have := maxP_ok (l := [s]) (by omega)
      unfold Stp.okS at this ⊢
      simp only
      omega
theorem copy_ok {c : Copy} : c.checkE = 0 ↔ c.at_.okS ∧ c.data.size ≤ 64 := by
  unfold Copy.checkE
  by_cases h : c.at_.okS
  · rw [if_pos h]
    by_cases h2 : c.data.size > 64
    · rw [if_pos h2]; simp; intro _; omega
    · rw [if_neg h2]; simp [h]; omega
  · rw [if_neg h]; simp [h]
theorem toAll_ok {n : Nat} {k op : Int} {c : Copy} (hk : 1 ≤ k ∧ k ≤ 4) (ho : 0 ≤ op ∧ op ≤ 30) (hn : n ≤ 12) (hc : c.checkE = 0) (hf : (k = 2 ∨ k = 3) ∨ c = ⟨⟨0, 0⟩, ⟨#[]⟩⟩) : ∀ q, q ∈ toAllM n ⟨k, op, 0, c⟩ → q.checkE = 0 ∧ 0 ≤ q.node ∧ q.node < n ∧ q.op = op ∧ q.kind = k ∧ q.copy = c := by
  intro q hq
  unfold toAllM at hq
  rw [List.mem_map] at hq
  obtain ⟨i, hi, rfl⟩ := hq
  rw [List.mem_range] at hi
  exact ⟨msg_mk hk ho (by omega) hc hf, by simp only; omega, by simp only; omega, rfl, rfl, rfl⟩
theorem hear_cases {v : Vtr} {a : Ask} {m : Msg} (ha : a.checkE v.weights v.need = 0) (hm : m.checkE = 0) : hearA v a m = (a, [], 0) ∨
    (m.op = a.op ∧ m.kind = wantsA a.phase ∧ m.node < v.weights.length ∧
      (hearA v a m = (heardA a m, [], 0) ∨
      ((enoughP v.weights v.need (heardA a m).heard.n).1 = true ∧ a.phase = 2 ∧ hearA v a m = (⟨a.op, a.kind, 3, a.data, (heardA a m).best, (heardA a m).heard⟩, [], 0)) ∨
      ((enoughP v.weights v.need (heardA a m).heard.n).1 = true ∧ a.phase = 1 ∧ a.kind = 1 ∧ hearA v a m = (⟨a.op, a.kind, 2, a.data, (heardA a m).best, uN (Int.toNat 0)⟩, toAllM v.weights.length ⟨3, a.op, 0, (heardA a m).best⟩, 0)) ∨
      ((enoughP v.weights v.need (heardA a m).heard.n).1 = true ∧ a.phase = 1 ∧ a.kind = 2 ∧ (nextL [(heardA a m).best.at_] a.op).2 = 0 ∧
        hearA v a m = (⟨a.op, a.kind, 2, a.data, ⟨(nextL [(heardA a m).best.at_] a.op).1, a.data⟩, uN (Int.toNat 0)⟩, toAllM v.weights.length ⟨3, a.op, 0, ⟨(nextL [(heardA a m).best.at_] a.op).1, a.data⟩⟩, 0)))) := by
  obtain ⟨h1, h2, h3, h4, h5, h6, h7, h8⟩ := ask_ok ha
  have hi := msg_in hm
  have hw : m.kind = wantsA a.phase → a.phase = 1 ∨ a.phase = 2 := by unfold wantsA; intro h; split at h <;> first | omega | (split at h <;> omega)
  unfold hearA
  rw [if_neg (by omega), if_neg (by omega)]
  unfold hearT
  split
  · exact .inl rfl
  · rename_i c1
    have c1' : m.op = a.op ∧ m.kind = wantsA a.phase ∧ m.node < v.weights.length := by omega
    have hp := hw c1'.2.1
    split
    · exact .inr ⟨c1'.1, c1'.2.1, c1'.2.2, .inl rfl⟩
    · rename_i c2
      have c2' : (enoughP v.weights v.need (heardA a m).heard.n).1 = true := by simpa using c2
      split
      · rename_i c3; exact .inr ⟨c1'.1, c1'.2.1, c1'.2.2, .inr (.inl ⟨c2', c3, rfl⟩)⟩
      · rename_i c3
        split
        · rename_i c4; exact .inr ⟨c1'.1, c1'.2.1, c1'.2.2, .inr (.inr (.inl ⟨c2', by omega, c4, rfl⟩))⟩
        · rename_i c4
          split
          · rename_i c5; exact .inr ⟨c1'.1, c1'.2.1, c1'.2.2, .inr (.inr (.inr ⟨c2', by omega, by omega, c5, rfl⟩))⟩
          · exact .inl rfl
theorem heard_ok {v : Vtr} {a : Ask} {m : Msg} (ha : a.checkE v.weights v.need = 0) (hm : m.checkE = 0) (hn : m.node < v.weights.length) : (heardA a m).checkE v.weights v.need = 0 := by
  have h := ask_ok ha
  have hi := msg_in hm
  have hl := qc_len h.1
  refine ask_iff.2 ⟨h.1, h.2.1, h.2.2.1, h.2.2.2.1, h.2.2.2.2.1, h.2.2.2.2.2.1, ?_, or_len ⟨hi.2.2.1, hn, hl⟩ h.2.2.2.2.2.2.2⟩
  show (if a.phase = 1 then a.best.raw m.copy else a.best).checkE = 0
  split
  · exact raw_ok h.2.2.2.2.2.2.1 (msg_copy hm)
  · exact h.2.2.2.2.2.2.1
theorem hear_ok {v : Vtr} {a : Ask} {m : Msg} (ha : a.checkE v.weights v.need = 0) (hm : m.checkE = 0) : (hearA v a m).1.checkE v.weights v.need = 0 ∧ (hearA v a m).1.op = a.op ∧ (∀ q, q ∈ (hearA v a m).2.1 → q.checkE = 0 ∧ 0 ≤ q.node ∧ q.node < v.weights.length ∧ q.op = a.op) := by
  have h := ask_ok ha
  have hl := qc_len h.1
  have z0 : (uN (Int.toNat 0)).n = 0 := rfl
  have zp : (uN (Int.toNat 0)).n < 2 ^ v.weights.length := by rw [z0]; exact Nat.two_pow_pos _
  rcases hear_cases ha hm with e | ⟨h1, h2, h3, e | ⟨_, h5, e⟩ | ⟨_, h5, h6, e⟩ | ⟨_, h5, h6, h7, e⟩⟩ <;> rw [e]
  · exact ⟨ha, rfl, fun q hq => by simp at hq⟩
  · exact ⟨heard_ok ha hm h3, rfl, fun q hq => by simp at hq⟩
  · have hh := ask_ok (heard_ok ha hm h3)
    exact ⟨ask_iff.2 ⟨h.1, h.2.1, h.2.2.1, by simp only; omega, h.2.2.2.2.1, h.2.2.2.2.2.1, hh.2.2.2.2.2.2.1, hh.2.2.2.2.2.2.2⟩, rfl, fun q hq => by simp at hq⟩
  · have hh := ask_ok (heard_ok ha hm h3)
    refine ⟨ask_iff.2 ⟨h.1, h.2.1, h.2.2.1, by simp only; omega, h.2.2.2.2.1, h.2.2.2.2.2.1, hh.2.2.2.2.2.2.1, zp⟩, rfl, fun q hq => ?_⟩
    obtain ⟨q1, q2, q3, q4, _⟩ := toAll_ok (by omega) h.2.1 hl hh.2.2.2.2.2.2.1 (.inl (.inr rfl)) q hq
    exact ⟨q1, q2, q3, q4⟩
  · have hc : (⟨(nextL [(heardA a m).best.at_] a.op).1, a.data⟩ : Copy).checkE = 0 := copy_ok.2 ⟨next_ok h7, h.2.2.2.2.1⟩
    refine ⟨ask_iff.2 ⟨h.1, h.2.1, h.2.2.1, by simp only; omega, h.2.2.2.2.1, h.2.2.2.2.2.1, hc, zp⟩, rfl, fun q hq => ?_⟩
    obtain ⟨q1, q2, q3, q4, _⟩ := toAll_ok (by omega) h.2.1 hl hc (.inl (.inr rfl)) q hq
    exact ⟨q1, q2, q3, q4⟩
theorem begin_ok {v : Vtr} {op kind : Int} {data : ByteArray} (h : (beginA v op kind data).2.2 = 0) : beginA v op kind data = (Ask.new op kind data, toAllM v.weights.length ⟨1, op, 0, ⟨⟨0, 0⟩, ⟨#[]⟩⟩⟩, 0) ∧ (Ask.new op kind data).checkE v.weights v.need = 0 := by
  unfold beginA at h ⊢
  split at h
  · rename_i h1; exact absurd h h1
  · rename_i h1; rw [if_neg h1]; exact ⟨rfl, by omega⟩
theorem term_up {t : Term} {a : Ask} {k : Int} (h : termB t a k = true) : termB t a (k + 1) = true := by
  unfold termB at h ⊢
  simp only [decide_eq_true_eq] at h ⊢
  split at h
  · rename_i hp; rw [if_pos hp]; omega
  · rename_i hp; rw [if_neg hp]; omega
theorem mem_erase {α : Type} {l : List α} {n : Nat} {x : α} (h : x ∈ l.eraseIdx n) : x ∈ l := List.mem_of_mem_eraseIdx h
theorem get_set {α : Type} {l : List α} {i j : Nat} {x y : α} (h : (l.set i x)[j]? = some y) : (i = j ∧ y = x ∧ i < l.length) ∨ (i ≠ j ∧ l[j]? = some y) := by
  rw [List.getElem?_set] at h
  by_cases hij : i = j
  · rw [if_pos hij] at h
    split at h
    · simp at h; exact .inl ⟨hij, h.symm, by omega⟩
    · simp at h
  · rw [if_neg hij] at h; exact .inr ⟨hij, h⟩
theorem send_ok {c : Cluster} (h : (sendC c).2 = 0) : sendC c = (c, 0) ∧ c.net.length ≤ 200 := by
  unfold sendC at h ⊢
  split at h
  · simp at h
  · rename_i h1; rw [if_neg h1]; exact ⟨rfl, by omega⟩
theorem hear_done {v : Vtr} {a : Ask} {m : Msg} (ha : a.checkE v.weights v.need = 0) (hm : m.checkE = 0) (hp : a.phase = 3) : hearA v a m = (a, [], 0) := by
  rcases hear_cases ha hm with e | ⟨h1, h2, _⟩
  · exact e
  · have := msg_in hm
    unfold wantsA at h2; rw [hp] at h2; simp at h2; omega
theorem term_ph {t : Term} {a b : Ask} {k : Int} (h : termB t a k = true) (hp : b.phase = 3 ↔ a.phase = 3) : termB t b k = true := by
  unfold termB at h ⊢
  simp only [decide_eq_true_eq] at h ⊢
  by_cases h1 : a.phase = 3
  · rw [if_pos h1] at h; rw [if_pos (hp.2 h1)]; exact h
  · rw [if_neg h1] at h; rw [if_neg (fun hh => h1 (hp.1 hh))]; exact h
theorem step_cases {c : Cluster} {x : Step} (hc : c.checkE = 0) (h : (stepP c x).2 = 0) : c.clock < 1000000 ∧
    ((∃ kind data, ((x.kind = 1 ∧ kind = 1 ∧ data = ⟨#[]⟩) ∨ (x.kind = 2 ∧ kind = 2 ∧ data = x.data)) ∧ c.asks.length < 31 ∧ (beginA c.voters c.asks.length kind data).2.2 = 0 ∧
        stepP c x = (⟨c.voters, c.nodes, c.asks ++ [(beginA c.voters c.asks.length kind data).1], c.terms ++ [⟨c.clock + 1, 0⟩], c.net ++ (beginA c.voters c.asks.length kind data).2.1, c.clock + 1⟩, 0) ∧ (stepP c x).1.net.length ≤ 200) ∨
      (∃ m, 0 ≤ x.n ∧ x.n < c.net.length ∧ m = gd Msg.nil c.net x.n.toNat ∧ m ∈ c.net ∧
        ((x.kind = 5 ∧ stepP c x = (⟨c.voters, c.nodes, c.asks, c.terms, c.net ++ [m], c.clock + 1⟩, 0) ∧ (stepP c x).1.net.length ≤ 200) ∨
         (x.kind = 4 ∧ stepP c x = (⟨c.voters, c.nodes, c.asks, c.terms, c.net.eraseIdx x.n.toNat, c.clock + 1⟩, 0)) ∨
         (x.kind = 3 ∧ stepP c x = (passC ⟨c.voters, c.nodes, c.asks, c.terms, c.net.eraseIdx x.n.toNat, c.clock + 1⟩ m, 0) ∧ (stepP c x).1.net.length ≤ 200)))) := by
  have hl := check_len hc
  have hk := (check_ok hc).2.2.2.2.2
  have bg : ∀ (c' : Cluster) kind data, c'.asks.length ≤ 31 → (beginC c' kind data).2 = 0 → c'.asks.length < 31 ∧ (beginA c'.voters c'.asks.length kind data).2.2 = 0 ∧ beginC c' kind data = (⟨c'.voters, c'.nodes, c'.asks ++ [(beginA c'.voters c'.asks.length kind data).1], c'.terms ++ [⟨c'.clock, 0⟩], c'.net ++ (beginA c'.voters c'.asks.length kind data).2.1, c'.clock⟩, 0) ∧ (beginC c' kind data).1.net.length ≤ 200 := by
    intro c' kind data hle hb
    unfold beginC at hb ⊢
    split at hb
    · simp at hb
    · rename_i h1
      split at hb
      · rename_i h2; exact absurd hb h2
      · rename_i h2
        rw [if_neg h1, if_neg h2]
        obtain ⟨e1, e2⟩ := send_ok hb
        exact ⟨by omega, by omega, e1, by rw [e1]; exact e2⟩
  unfold stepP at h ⊢
  split at h
  · simp at h
  rename_i g1; rw [if_neg g1]
  split at h
  · simp at h
  rename_i g2; rw [if_neg g2]
  split at h
  · simp at h
  rename_i g3; rw [if_neg g3]
  refine ⟨by omega, ?_⟩
  split at h
  · rename_i g4; rw [if_pos g4]
    obtain ⟨q1, q2, q3, q4⟩ := bg _ _ _ (by simpa using hl.1) h
    exact .inl ⟨1, ⟨#[]⟩, .inl ⟨g4, rfl, rfl⟩, q1, q2, q3, q4⟩
  rename_i g4; rw [if_neg g4]
  split at h
  · rename_i g5; rw [if_pos g5]
    obtain ⟨q1, q2, q3, q4⟩ := bg _ _ _ (by simpa using hl.1) h
    exact .inl ⟨2, x.data, .inr ⟨g5, rfl, rfl⟩, q1, q2, q3, q4⟩
  rename_i g5; rw [if_neg g5]
  split at h
  · simp at h
  rename_i g6; rw [if_neg g6]
  refine .inr ⟨_, by omega, by omega, rfl, gd_mem (by omega), ?_⟩
  split at h
  · rename_i g7; rw [if_pos g7]
    obtain ⟨e1, e2⟩ := send_ok h
    exact .inl ⟨g7, e1, by rw [e1]; exact e2⟩
  rename_i g7; rw [if_neg g7]
  split at h
  · rename_i g8; rw [if_pos g8]; exact .inr (.inl ⟨g8, rfl⟩)
  rename_i g8; rw [if_neg g8]
  obtain ⟨e1, e2⟩ := send_ok h
  exact .inr (.inr ⟨by omega, e1, by rw [e1]; exact e2⟩)
theorem step_ok {c : Cluster} {x : Step} (hc : c.checkE = 0) (h : (stepP c x).2 = 0) : (stepP c x).1.checkE = 0 := by
  have ok := Cluster.ok_iff.1 hc
  have hl := qc_len ok.q
  have hnl := ok.nl
  have htl := ok.tl
  have hclk := ok.clk
  refine Cluster.ok_iff.2 ?_
  obtain ⟨hk, ⟨kind, data, hkd, hal, hb, e, hn⟩ | ⟨m, h0, h1, hm, hmem, ⟨_, e, hn⟩ | ⟨_, e⟩ | ⟨_, e, hn⟩⟩⟩ := step_cases hc h
  · rw [e] at hn ⊢
    obtain ⟨b1, b2⟩ := begin_ok hb
    rw [b1] at hn ⊢
    have bo := ask_ok b2
    refine ⟨ok.q, ok.nl, ok.cop, by simp; omega, by simp; omega, fun j a hj => ?_, fun j a t hj ht => ?_, hn, fun q hq => ?_, by simp only; omega⟩
    · simp only at hj
      rcases Nat.lt_or_ge j c.asks.length with hlt | hge
      · rw [List.getElem?_append_left hlt] at hj; exact ok.ask j a hj
      · rw [List.getElem?_append_right hge] at hj
        have hj0 : j - c.asks.length = 0 := by
          rcases Nat.eq_zero_or_pos (j - c.asks.length) with h | h
          · exact h
          · rw [List.getElem?_eq_none (by simp; omega)] at hj; simp at hj
        rw [hj0] at hj; simp at hj; subst hj
        refine ⟨?_, b2⟩
        show (c.asks.length : Int) = j
        omega
    · simp only at hj ht
      rcases Nat.lt_or_ge j c.asks.length with hlt | hge
      · rw [List.getElem?_append_left hlt] at hj
        rw [List.getElem?_append_left (by omega)] at ht
        exact term_up (ok.tm j a t hj ht)
      · rw [List.getElem?_append_right hge] at hj
        rw [List.getElem?_append_right (by omega)] at ht
        have hj0 : j - c.asks.length = 0 := by
          rcases Nat.eq_zero_or_pos (j - c.asks.length) with h | h
          · exact h
          · rw [List.getElem?_eq_none (by simp; omega)] at hj; simp at hj
        rw [hj0] at hj; rw [show j - c.terms.length = 0 by omega] at ht
        simp at hj ht; subst hj; subst ht
        unfold termB Ask.new
        simp; omega
    · simp only [List.mem_append] at hq
      rcases hq with hq | hq
      · have := ok.net q hq; simp; omega
      · obtain ⟨q1, q2, q3, q4, _⟩ := toAll_ok (by omega) bo.2.1 hl (by decide) (.inr rfl) q hq
        refine ⟨q1, by simp only; omega, ?_⟩
        rw [q4]; simp; show (c.asks.length : Int) < _; omega
  · rw [e] at hn ⊢
    refine ⟨ok.q, ok.nl, ok.cop, ok.al, ok.tl, ok.ask, fun j a t hj ht => term_up (ok.tm j a t hj ht), hn, fun q hq => ?_, by simp only; omega⟩
    simp only [List.mem_append, List.mem_singleton] at hq
    rcases hq with hq | rfl
    · exact ok.net q hq
    · exact ok.net q hmem
  · rw [e]
    refine ⟨ok.q, ok.nl, ok.cop, ok.al, ok.tl, ok.ask, fun j a t hj ht => term_up (ok.tm j a t hj ht), ?_, fun q hq => ok.net q (mem_erase hq), by simp only; omega⟩
    have := ok.ml
    simp only [List.length_eraseIdx]; split <;> omega
  · rw [e] at hn ⊢
    have om := ok.net m hmem
    have hi := msg_in om.1
    unfold passC at hn ⊢
    split at hn
    · rename_i hp
      rw [if_pos hp]
      have hget := gd_get (d := Copy.nil) (xs := c.nodes) (i := m.node.toNat) (by omega)
      have hcn := ok.cop _ (List.mem_of_getElem? hget)
      have hs := serve_ok hcn om.1
      refine ⟨ok.q, by simp only [List.length_set]; exact ok.nl, fun y hy => ?_, ok.al, ok.tl, ok.ask, fun j a t hj ht => term_up (ok.tm j a t hj ht), hn, fun q hq => ?_, by simp only; omega⟩
      · rcases List.mem_or_eq_of_mem_set hy with hy | rfl
        · exact ok.cop y hy
        · exact hs.1
      · simp only [List.mem_append] at hq
        simp only [List.length_set]
        rcases hq with hq | hq
        · exact ok.net q (mem_erase hq)
        · have := hs.2 q hq; omega
    · rename_i hp
      rw [if_neg hp]
      have hget := gd_get (d := Ask.nil) (xs := c.asks) (i := m.op.toNat) (by omega)
      have hca := ok.ask _ _ hget
      have hh := hear_ok hca.2 om.1
      refine ⟨ok.q, ok.nl, ok.cop, by simp only [List.length_set]; exact ok.al, ?_, fun j a hj => ?_, fun j a t hj ht => ?_, hn, fun q hq => ?_, by simp only; omega⟩
      · simp only [List.length_set]
        split
        · rw [List.length_set]; exact ok.tl
        · exact ok.tl
      · rcases get_set hj with ⟨rfl, rfl, _⟩ | ⟨_, hj⟩
        · exact ⟨hh.2.1.trans hca.1, hh.1⟩
        · exact ok.ask j a hj
      · simp only at hj ht
        rcases get_set hj with ⟨rfl, rfl, hlt⟩ | ⟨hne, hj⟩
        · have hgt := gd_get (d := (⟨0, 0⟩ : Term)) (xs := c.terms) (i := m.op.toNat) (by omega)
          have h0 := ok.tm _ _ _ hget hgt
          split at ht
          · rename_i hph
            rw [List.getElem?_set_self (by omega)] at ht
            simp only [Option.some.injEq] at ht; subst ht
            unfold termB at h0 ⊢
            simp only [decide_eq_true_eq] at h0 ⊢
            rw [if_pos hph.1]
            rw [if_neg hph.2] at h0
            omega
          · rename_i hph
            rw [hgt] at ht
            simp only [Option.some.injEq] at ht; subst ht
            refine term_up (term_ph h0 ⟨fun h3 => ?_, fun h3 => ?_⟩)
            · by_cases h4 : (gd Ask.nil c.asks m.op.toNat).phase = 3
              · exact h4
              · exact absurd ⟨h3, h4⟩ hph
            · rw [hear_done hca.2 om.1 h3]; exact h3
        · split at ht
          · rw [List.getElem?_set_ne hne] at ht; exact term_up (ok.tm j a t hj ht)
          · exact term_up (ok.tm j a t hj ht)
      · simp only [List.mem_append] at hq
        simp only [List.length_set]
        rcases hq with hq | hq
        · exact ok.net q (mem_erase hq)
        · have := hh.2.2 q hq
          have h8 := hca.1
          omega
open Go.RowKit
def doP (c : Cluster) (x : Step) : Cluster × Int := if c.checkE ≠ 0 then (Cluster.zero, c.checkE) else stepP c x
def runGo : List Step → Cluster → Int → Cluster × Int
  | [], c, n => (c, n)
  | x :: r, c, n => if (stepP c x).2 = 0 then runGo r (stepP c x).1 (n + 1) else runGo r c n
def runP (c : Cluster) (l : List Step) : Cluster × Int × Int := if c.checkE ≠ 0 then (Cluster.zero, 0, c.checkE) else if l.length > 200 then (Cluster.zero, 0, 2) else ((runGo l c 0).1, (runGo l c 0).2, 0)
theorem small_of {c : Cluster} (h : c.checkE = 0) : Clu.small c := by
  have := check_len h
  unfold Clu.small; omega
def k_13 : Con Tc Tc.dn := ⟨13, [.ty .cCluster, .ty .cStep], fun x => (fun (c : Cluster) (x : Step) => True) x.1 x.2.1, [.cCluster, .cInt], fun x => (fun (c : Cluster) (x : Step) => doP c x) x.1 x.2.1⟩
theorem k_13_v (c : Cluster) (x : Step) : True ∧ (¬c.checkE = (0 : Int) → (Cluster.mk (Vtr.mk [] (0 : Int)) [] [] [] [] (0 : Int), c.checkE) = doP c x) ∧ (c.checkE = (0 : Int) → c.checkE = (0 : Int) ∧ stepP c x = doP c x) := by
  (repeat' (first | apply And.intro | intro _)) <;> first | assumption | trivial | omega | (grind [doP, Cluster.zero]) | trace_state
theorem k_13_ok : k_13.Ok Tryd.prog tD := con_ok tD_ok (Δ := [k_18, k_37]) ⟨k_18_ok, k_37_ok, trivial⟩ (Ω := []) trivial k_13 F13_ok F13_call (fun _ => []) (fun _ => trivial) 0 (fun x => (fun (c : Cluster) (x : Step) => (fun _ => none)) x.1 x.2.1) fun x hp => Eq.mp (by kernel_rfl) (k_13_v x.1 x.2.1)
def i_20_0 (c : Cluster) (l : (List Step)) (i : Int) (n : Int) (d : Cluster) : Prop := 0 ≤ i ∧ i ≤ l.length ∧ l.length ≤ 200 ∧ 0 ≤ n ∧ n ≤ i ∧ d.checkE = 0 ∧ c.checkE = 0 ∧ runGo (l.drop i.toNat) d n = runGo l c 0
def k_20 : Con Tc Tc.dn := ⟨20, [.ty .cCluster, .ty .lStep], fun x => (fun (c : Cluster) (l : (List Step)) => True) x.1 x.2.1, [.cCluster, .cInt, .cInt], fun x => (fun (c : Cluster) (l : (List Step)) => runP c l) x.1 x.2.1⟩
theorem k_20_v (c : Cluster) (l : (List Step)) : True ∧ (c.checkE = (0 : Int) → c.checkE = (0 : Int)) ∧ (c.checkE = (0 : Int) → c.checkE = (0 : Int)) ∧ (c.checkE = (0 : Int) → c.checkE = (0 : Int)) ∧ (c.checkE = (0 : Int) ∧ (200 : Int) < (↑l.length : Int) → (Cluster.mk (Vtr.mk [] (0 : Int)) [] [] [] [] (0 : Int), (0 : Int), (2 : Int)) = runP c l) ∧ (¬c.checkE = (0 : Int) ∨ (↑l.length : Int) ≤ (200 : Int) → (¬c.checkE = (0 : Int) → (Cluster.mk (Vtr.mk [] (0 : Int)) [] [] [] [] (0 : Int), (0 : Int), c.checkE) = runP c l) ∧ (c.checkE = (0 : Int) → Clu.small c ∧ i_20_0 c l (0 : Int) (0 : Int) c ∧ ∀ (x x_1 : Int) (x_2 : Cluster), i_20_0 c l x x_1 x_2 → (x < (↑l.length : Int) → ((0 : Int) ≤ x ∧ x < (↑l.length : Int)) ∧ x_2.checkE = (0 : Int) ∧ ((stepP x_2 (gd (Step.mk (0 : Int) (0 : Int) ByteArray.empty) l x.toNat)).snd = (0 : Int) → I64 (x_1 + (1 : Int)) ∧ I64 (x + (1 : Int)) ∧ i_20_0 c l (x + (1 : Int)) (x_1 + (1 : Int)) (stepP x_2 (gd (Step.mk (0 : Int) (0 : Int) ByteArray.empty) l x.toNat)).fst ∧ ((↑l.length : Int) - (x + (1 : Int))).toNat < ((↑l.length : Int) - x).toNat) ∧ (¬(stepP x_2 (gd (Step.mk (0 : Int) (0 : Int) ByteArray.empty) l x.toNat)).snd = (0 : Int) → I64 (x + (1 : Int)) ∧ i_20_0 c l (x + (1 : Int)) x_1 x_2 ∧ ((↑l.length : Int) - (x + (1 : Int))).toNat < ((↑l.length : Int) - x).toNat)) ∧ ((↑l.length : Int) ≤ x → (x_2, x_1, (0 : Int)) = runP c l))) := by
  have hso := @step_ok
  have hcl := @check_len c
  (repeat' (first | apply And.intro | intro _)) <;> first | assumption | trivial | omega | (grind [runP, runGo, i_20_0, I64, drop_gd, drop_end, Cluster.zero, small_of]) | trace_state
theorem k_20_ok : k_20.Ok Tryd.prog tD := con_ok tD_ok (Δ := [k_18, k_52, k_37]) ⟨k_18_ok, k_52_ok, k_37_ok, trivial⟩ (Ω := []) trivial k_20 F20_ok F20_call (fun _ => []) (fun _ => trivial) 0 (fun x => (fun (c : Cluster) (l : (List Step)) => (fun k => bif Nat.beq k 0 then some (.inv [.sl 30 .cInt, .sl 8 .cInt, .ce 0 .cCluster] (fun zv => (fun (i : Int) (n : Int) (d : Cluster) => i_20_0 c l i n d) zv.1 zv.2.1 zv.2.2.1) (fun zv => (fun (i : Int) (n : Int) (d : Cluster) => ((l.length : Int) - i).toNat) zv.1 zv.2.1 zv.2.2.1)) else none)) x.1 x.2.1) fun x hp => Eq.mp (by kernel_rfl) (k_20_v x.1 x.2.1)
open Go.RowKit
def passS : Step := ⟨3, 0, ⟨#[]⟩⟩
theorem rep_succ {i : Int} (h : 0 ≤ i) (x : Step) : List.replicate (i + 1).toNat x = List.replicate i.toNat x ++ [x] := by
  rw [show (i + 1).toNat = i.toNat + 1 by omega, List.replicate_succ']
def k_42 : Con Tc Tc.dn := ⟨42, [], fun _ => True, [.cVoters], fun _ => ⟨[1, 1, 1], 2⟩⟩
theorem k_42_v  : Vtr.mk [(1 : Int), (1 : Int), (1 : Int)] (2 : Int) = Vtr.mk [(1 : Int), (1 : Int), (1 : Int)] (2 : Int) := by
  rfl
theorem k_42_ok : k_42.Ok Tryd.prog tD := con_ok tD_ok (Δ := []) trivial (Ω := []) trivial k_42 F42_ok F42_call (fun _ => []) (fun _ => trivial) 0 (fun _ => fun _ => none) fun x hp => Eq.mp (by kernel_rfl) (k_42_v )
def k_30 : Con Tc Tc.dn := ⟨30, [.ty .cInt, .ty .cInt], fun x => (fun (t : Int) (w : Int) => True) x.1 x.2.1, [.cStamp], fun x => (fun (t : Int) (w : Int) => ⟨t, w⟩) x.1 x.2.1⟩
theorem k_30_v (t : Int) (w : Int) : Stp.mk t w = Stp.mk t w := by
  rfl
theorem k_30_ok : k_30.Ok Tryd.prog tD := con_ok tD_ok (Δ := []) trivial (Ω := []) trivial k_30 F30_ok F30_call (fun _ => []) (fun _ => trivial) 0 (fun x => (fun (t : Int) (w : Int) => (fun _ => none)) x.1 x.2.1) fun x hp => Eq.mp (by kernel_rfl) (k_30_v x.1 x.2.1)
def k_29 : Con Tc Tc.dn := ⟨29, [.ty .cInt, .ty .cInt, .ty .cStr], fun x => (fun (t : Int) (w : Int) (s : ByteArray) => True) x.1 x.2.1 x.2.2.1, [.cCopy], fun x => (fun (t : Int) (w : Int) (s : ByteArray) => ⟨⟨t, w⟩, s⟩) x.1 x.2.1 x.2.2.1⟩
theorem k_29_v (t : Int) (w : Int) (s : ByteArray) : True ∧ Copy.mk (Stp.mk t w) s = Copy.mk (Stp.mk t w) s := by
  (repeat' (first | apply And.intro | intro _)) <;> first | assumption | trivial | omega | (grind []) | trace_state
theorem k_29_ok : k_29.Ok Tryd.prog tD := con_ok tD_ok (Δ := [k_30]) ⟨k_30_ok, trivial⟩ (Ω := []) trivial k_29 F29_ok F29_call (fun _ => []) (fun _ => trivial) 0 (fun x => (fun (t : Int) (w : Int) (s : ByteArray) => (fun _ => none)) x.1 x.2.1 x.2.2.1) fun x hp => Eq.mp (by kernel_rfl) (k_29_v x.1 x.2.1 x.2.2.1)
def i_43_0 (n : Int) (out : (List Step)) (i : Int) : Prop := 0 ≤ i ∧ i ≤ n ∧ n ≤ 1000 ∧ out = List.replicate i.toNat passS
def k_43 : Con Tc Tc.dn := ⟨43, [.ty .cInt], fun x => (fun (n : Int) => 0 ≤ n ∧ n ≤ 1000) x.1, [.lStep], fun x => (fun (n : Int) => List.replicate n.toNat passS) x.1⟩
theorem k_43_v (n : Int) (hp : 0 ≤ n ∧ n ≤ 1000) : i_43_0 n [] (0 : Int) ∧ ∀ (x : List Step) (x_1 : Int), i_43_0 n x x_1 → (x_1 < n → (x.length + (1 : Nat)) * (32 : Nat) ≤ (140737488355328 : Nat) ∧ I64 (x_1 + (1 : Int)) ∧ i_43_0 n (x ++ [Step.mk (3 : Int) (0 : Int) (ByteArray.mk #[])]) (x_1 + (1 : Int)) ∧ (n - (x_1 + (1 : Int))).toNat < (n - x_1).toNat) ∧ (n ≤ x_1 → x = List.replicate n.toNat passS) := by
  (repeat' (first | apply And.intro | intro _)) <;> first | assumption | trivial | omega | (grind [i_43_0, rep_succ, passS, I64, List.length_replicate]) | trace_state
theorem k_43_ok : k_43.Ok Tryd.prog tD := con_ok tD_ok (Δ := []) trivial (Ω := []) trivial k_43 F43_ok F43_call (fun _ => []) (fun _ => trivial) 0 (fun x => (fun (n : Int) => (fun k => bif Nat.beq k 0 then some (.inv [.ow 3 .cStep, .sl 4 .cInt] (fun zv => (fun (out : (List Step)) (i : Int) => i_43_0 n out i) zv.1 zv.2.1) (fun zv => (fun (out : (List Step)) (i : Int) => (n - i).toNat) zv.1 zv.2.1)) else none)) x.1) fun x hp => Eq.mp (by kernel_rfl) (k_43_v x.1 hp)
def k_16 : Con Tc Tc.dn := ⟨16, [], fun _ => True, [.cBool], fun _ => true⟩
abbrev z16_1 := (Ask.mk (0 : Int) (0 : Int) (0 : Int) ByteArray.empty (Copy.mk (Stp.mk (0 : Int) (0 : Int)) ByteArray.empty) (U64.mk (0 : Nat) LY.u64._proof_1))
abbrev z16_6 := (newC (Vtr.mk [(1 : Int), (1 : Int), (1 : Int)] (2 : Int)))
abbrev z16_0 := (runP z16_6.fst ([Step.mk (2 : Int) (0 : Int) (ByteArray.mk #[(97 : UInt8)])] ++ List.replicate (Int.toNat (12 : Int)) passS ++ [Step.mk (1 : Int) (0 : Int) (ByteArray.mk #[])] ++ List.replicate (Int.toNat (12 : Int)) passS))
abbrev z16_3 := ((z16_6.snd = (0 : Int) ∧ z16_0.snd.snd = (0 : Int)) ∧ z16_0.snd.fst = (26 : Int))
abbrev z16_2 := (((z16_3 ∧ (↑z16_0.fst.asks.length : Int) = (2 : Int)) ∧ (gd z16_1 z16_0.fst.asks (Int.toNat (0 : Int))).phase = (3 : Int)) ∧ (gd z16_1 z16_0.fst.asks (Int.toNat (1 : Int))).best.at_.time = (1 : Int) ∧ (gd z16_1 z16_0.fst.asks (Int.toNat (1 : Int))).best.at_.who = (0 : Int) ∧ (gd z16_1 z16_0.fst.asks (Int.toNat (1 : Int))).best.data = ByteArray.mk #[(97 : UInt8)])
abbrev z16_4 := (((z16_3 ∧ (↑z16_0.fst.asks.length : Int) = (2 : Int)) ∧ (gd z16_1 z16_0.fst.asks (Int.toNat (0 : Int))).phase = (3 : Int)) ∧ (gd z16_1 z16_0.fst.asks (Int.toNat (1 : Int))).best.at_.time = (1 : Int) ∧ (gd z16_1 z16_0.fst.asks (Int.toNat (1 : Int))).best.at_.who = (0 : Int) ∧ (gd z16_1 z16_0.fst.asks (Int.toNat (1 : Int))).best.data = ByteArray.mk #[(97 : UInt8)] → ((z16_3 ∧ (↑z16_0.fst.asks.length : Int) = (2 : Int)) ∧ (gd z16_1 z16_0.fst.asks (Int.toNat (0 : Int))).phase = (3 : Int)) ∧ (gd z16_1 z16_0.fst.asks (Int.toNat (1 : Int))).best.at_.time = (1 : Int) ∧ (gd z16_1 z16_0.fst.asks (Int.toNat (1 : Int))).best.at_.who = (0 : Int) ∧ (gd z16_1 z16_0.fst.asks (Int.toNat (1 : Int))).best.data = ByteArray.mk #[(97 : UInt8)])
abbrev z16_5 := ((z16_3 ∧ (↑z16_0.fst.asks.length : Int) = (2 : Int)) ∧ (gd z16_1 z16_0.fst.asks (Int.toNat (0 : Int))).phase = (3 : Int) → (z16_3 ∧ (↑z16_0.fst.asks.length : Int) = (2 : Int)) ∧ (gd z16_1 z16_0.fst.asks (Int.toNat (0 : Int))).phase = (3 : Int))
abbrev z16_7 := (gd (Term.mk (0 : Int) (0 : Int)) z16_0.fst.terms (Int.toNat (1 : Int)))
abbrev z16_8 := (((z16_2 ∧ (0 : Int) < z16_7.end_) ∧ (↑z16_0.fst.net.length : Int) = (0 : Int)) ∧ (doP z16_6.fst (Step.mk (3 : Int) (0 : Int) (ByteArray.mk #[]))).snd = (3 : Int) → ((z16_2 ∧ (0 : Int) < z16_7.end_) ∧ (↑z16_0.fst.net.length : Int) = (0 : Int)) ∧ (doP z16_6.fst (Step.mk (3 : Int) (0 : Int) (ByteArray.mk #[]))).snd = (3 : Int))
abbrev z16_9 := (z16_3 ∧ (↑z16_0.fst.asks.length : Int) = (2 : Int) → z16_3 ∧ (↑z16_0.fst.asks.length : Int) = (2 : Int))
abbrev z16_10 := ((z16_6.snd = (0 : Int) ∧ z16_0.snd.snd = (0 : Int)) ∧ z16_0.snd.fst = (26 : Int) → (z16_6.snd = (0 : Int) ∧ z16_0.snd.snd = (0 : Int)) ∧ z16_0.snd.fst = (26 : Int))
theorem k_16_v  : True ∧ True ∧ ((0 : Int) ≤ (12 : Int) ∧ (12 : Int) ≤ (1000 : Int)) ∧ ((1 : Nat) + (List.replicate (Int.toNat (12 : Int)) passS).length) * (32 : Nat) ≤ (140737488355328 : Nat) ∧ (([Step.mk (2 : Int) (0 : Int) (ByteArray.mk #[(97 : UInt8)])] ++ List.replicate (Int.toNat (12 : Int)) passS).length + (1 : Nat)) * (32 : Nat) ≤ (140737488355328 : Nat) ∧ ((0 : Int) ≤ (12 : Int) ∧ (12 : Int) ≤ (1000 : Int)) ∧ (([Step.mk (2 : Int) (0 : Int) (ByteArray.mk #[(97 : UInt8)])] ++ List.replicate (Int.toNat (12 : Int)) passS ++ [Step.mk (1 : Int) (0 : Int) (ByteArray.mk #[])]).length + (List.replicate (Int.toNat (12 : Int)) passS).length) * (32 : Nat) ≤ (140737488355328 : Nat) ∧ True ∧ True ∧ (z16_6.snd = (0 : Int) → z16_6.snd = (0 : Int)) ∧ (z16_6.snd = (0 : Int) → z16_6.snd = (0 : Int)) ∧ (z16_6.snd = (0 : Int) ∧ z16_0.snd.snd = (0 : Int) → z16_6.snd = (0 : Int) ∧ z16_0.snd.snd = (0 : Int)) ∧ (z16_6.snd = (0 : Int) ∧ z16_0.snd.snd = (0 : Int) → z16_6.snd = (0 : Int) ∧ z16_0.snd.snd = (0 : Int)) ∧ z16_10 ∧ z16_10 ∧ z16_10 ∧ z16_10 ∧ z16_9 ∧ z16_9 ∧ (z16_3 ∧ (↑z16_0.fst.asks.length : Int) = (2 : Int) → (0 : Int) ≤ (0 : Int) ∧ (0 : Int) < (↑z16_0.fst.asks.length : Int)) ∧ z16_9 ∧ z16_9 ∧ z16_9 ∧ z16_9 ∧ z16_5 ∧ z16_5 ∧ ((z16_3 ∧ (↑z16_0.fst.asks.length : Int) = (2 : Int)) ∧ (gd z16_1 z16_0.fst.asks (Int.toNat (0 : Int))).phase = (3 : Int) → (0 : Int) ≤ (1 : Int) ∧ (1 : Int) < (↑z16_0.fst.asks.length : Int)) ∧ z16_5 ∧ z16_5 ∧ ((z16_3 ∧ (↑z16_0.fst.asks.length : Int) = (2 : Int)) ∧ (gd z16_1 z16_0.fst.asks (Int.toNat (0 : Int))).phase = (3 : Int) → True) ∧ z16_5 ∧ z16_5 ∧ z16_5 ∧ z16_4 ∧ z16_4 ∧ (((z16_3 ∧ (↑z16_0.fst.asks.length : Int) = (2 : Int)) ∧ (gd z16_1 z16_0.fst.asks (Int.toNat (0 : Int))).phase = (3 : Int)) ∧ (gd z16_1 z16_0.fst.asks (Int.toNat (1 : Int))).best.at_.time = (1 : Int) ∧ (gd z16_1 z16_0.fst.asks (Int.toNat (1 : Int))).best.at_.who = (0 : Int) ∧ (gd z16_1 z16_0.fst.asks (Int.toNat (1 : Int))).best.data = ByteArray.mk #[(97 : UInt8)] → (0 : Int) ≤ (1 : Int) ∧ (1 : Int) < (↑z16_0.fst.terms.length : Int)) ∧ z16_4 ∧ z16_4 ∧ z16_4 ∧ z16_4 ∧ (z16_2 ∧ (0 : Int) < z16_7.end_ → z16_2 ∧ (0 : Int) < z16_7.end_) ∧ (z16_2 ∧ (0 : Int) < z16_7.end_ → z16_2 ∧ (0 : Int) < z16_7.end_) ∧ (z16_2 ∧ (0 : Int) < z16_7.end_ → z16_2 ∧ (0 : Int) < z16_7.end_) ∧ (z16_2 ∧ (0 : Int) < z16_7.end_ → z16_2 ∧ (0 : Int) < z16_7.end_) ∧ ((z16_2 ∧ (0 : Int) < z16_7.end_) ∧ (↑z16_0.fst.net.length : Int) = (0 : Int) → (z16_2 ∧ (0 : Int) < z16_7.end_) ∧ (↑z16_0.fst.net.length : Int) = (0 : Int)) ∧ ((z16_2 ∧ (0 : Int) < z16_7.end_) ∧ (↑z16_0.fst.net.length : Int) = (0 : Int) → (z16_2 ∧ (0 : Int) < z16_7.end_) ∧ (↑z16_0.fst.net.length : Int) = (0 : Int)) ∧ z16_8 ∧ (((z16_2 ∧ (0 : Int) < z16_7.end_) ∧ (↑z16_0.fst.net.length : Int) = (0 : Int)) ∧ (doP z16_6.fst (Step.mk (3 : Int) (0 : Int) (ByteArray.mk #[]))).snd = (3 : Int) → True) ∧ z16_8 ∧ z16_8 ∧ (z16_6.snd == (0 : Int) && z16_0.snd.snd == (0 : Int) && z16_0.snd.fst == (26 : Int) && (↑z16_0.fst.asks.length : Int) == (2 : Int) && (gd z16_1 z16_0.fst.asks (Int.toNat (0 : Int))).phase == (3 : Int) && ((gd z16_1 z16_0.fst.asks (Int.toNat (1 : Int))).best.at_.time == (1 : Int) && ((gd z16_1 z16_0.fst.asks (Int.toNat (1 : Int))).best.at_.who == (0 : Int) && strEq (gd z16_1 z16_0.fst.asks (Int.toNat (1 : Int))).best.data (ByteArray.mk #[(97 : UInt8)]))) && decide ((0 : Int) < z16_7.end_) && (↑z16_0.fst.net.length : Int) == (0 : Int) && (doP z16_6.fst (Step.mk (3 : Int) (0 : Int) (ByteArray.mk #[]))).snd == (3 : Int) && z16_6.fst.checkE == (0 : Int)) = true := by
  delta z16_10 z16_9 z16_8 z16_7 z16_6 z16_5 z16_4 z16_3 z16_2 z16_1 z16_0
  (repeat' (first | apply And.intro | intro _)) <;> first | assumption | trivial | (decide +kernel) | trace_state
theorem k_16_ok : k_16.Ok Tryd.prog tD := con_ok tD_ok (Δ := [k_42, k_29, k_43, k_12, k_20, k_13, k_18]) ⟨k_42_ok, k_29_ok, k_43_ok, k_12_ok, k_20_ok, k_13_ok, k_18_ok, trivial⟩ (Ω := []) trivial k_16 F16_ok F16_call (fun _ => []) (fun _ => trivial) 0 (fun _ => fun _ => none) fun x hp => Eq.mp (by kernel_rfl) (k_16_v )
def Cluster.new (v : Vtr) : Cluster := ⟨v, List.replicate v.weights.length Copy.zero, [], [], [], 0⟩
theorem new_check {v : Vtr} (h : qcheckP v.weights v.need = 0) : (Cluster.new v).checkE = 0 := by
  refine Cluster.ok_iff.2 ⟨h, by simp [Cluster.new], fun x hx => ?_, by simp [Cluster.new], by simp [Cluster.new], fun j a hj => by simp [Cluster.new] at hj, fun j a t hj => by simp [Cluster.new] at hj, by simp [Cluster.new], fun m hm => by simp [Cluster.new] at hm, by simp [Cluster.new]⟩
  simp only [Cluster.new] at hx
  rw [List.eq_of_mem_replicate hx]; decide
theorem nodesGo_sum : ∀ (ws : List Int) (a : Int), (nodesGo ws a).2 = 0 → (nodesGo ws a).1 = a + lsum ws
  | [], a, _ => by simp [nodesGo, lsum]
  | w :: r, a, h => by
    unfold nodesGo at h ⊢
    by_cases hw : 0 ≤ w ∧ w ≤ 100
    · rw [if_pos hw] at h ⊢; rw [nodesGo_sum r _ h]; simp only [lsum]; omega
    · rw [if_neg hw] at h; simp at h
theorem nodes_sum {ws : List Int} (h : (nodesP ws).2 = 0) : (nodesP ws).1 = lsum ws := by
  unfold nodesP at h ⊢
  by_cases h1 : ws.length = 0
  · rw [if_pos h1] at h; simp at h
  · by_cases h2 : ws.length > 12
    · rw [if_neg h1, if_pos h2] at h; simp at h
    · rw [if_neg h1, if_neg h2] at h ⊢; rw [nodesGo_sum ws 0 h]; omega
theorem qc_need {ws : List Int} {need : Int} (h : qcheckP ws need = 0) : 1 ≤ need ∧ need ≤ lsum ws ∧ lsum ws < 2 * need ∧ lsum ws ≤ 1200 := by
  have hn := qc_nodes h
  have hb := nodes_bd hn
  have hs := nodes_sum hn
  unfold qcheckP at h
  rw [if_neg (fun hh => hh hn)] at h
  by_cases h1 : need < 1 ∨ need > (nodesP ws).1
  · rw [if_pos h1] at h; simp at h
  · rw [if_neg h1] at h
    by_cases h2 : 2 * need ≤ (nodesP ws).1
    · rw [if_pos h2] at h; simp at h
    · omega
def inS (x k : Nat) : Bool := x / 2 ^ k % 2 == 1
theorem or_two' (a b i k : Nat) (hi : i < 2) (hk : k < 2) : (2 * a + i) ||| (2 * b + k) = 2 * (a ||| b) + (i ||| k) := by
  have hik : i ||| k < 2 := by
    have : i = 0 ∨ i = 1 := by omega
    have : k = 0 ∨ k = 1 := by omega
    rcases ‹i = 0 ∨ i = 1› with rfl | rfl <;> rcases ‹k = 0 ∨ k = 1› with rfl | rfl <;> decide
  apply Nat.eq_of_testBit_eq
  intro j
  cases j with
  | zero =>
    rw [Nat.testBit_or, Nat.testBit_zero, Nat.testBit_zero, Nat.testBit_zero]
    have : i = 0 ∨ i = 1 := by omega
    have : k = 0 ∨ k = 1 := by omega
    rcases ‹i = 0 ∨ i = 1› with rfl | rfl <;> rcases ‹k = 0 ∨ k = 1› with rfl | rfl <;> simp <;> omega
  | succ j =>
    rw [Nat.testBit_or, Nat.testBit_succ, Nat.testBit_succ, Nat.testBit_succ, show (2 * a + i) / 2 = a by omega, show (2 * b + k) / 2 = b by omega, show (2 * (a ||| b) + (i ||| k)) / 2 = (a ||| b) by omega, Nat.testBit_or]
theorem bit_parts (a b : Nat) : (a ||| b) / 2 = a / 2 ||| b / 2 ∧ (a &&& b) / 2 = a / 2 &&& b / 2 ∧ (a ||| b) % 2 + (a &&& b) % 2 = a % 2 + b % 2 ∧ (a ||| b) % 2 ≥ a % 2 ∧ (a &&& b) % 2 ≤ a % 2 := by
  have ea : a = 2 * (a / 2) + a % 2 := by omega
  have eb : b = 2 * (b / 2) + b % 2 := by omega
  have ho : a ||| b = 2 * (a / 2 ||| b / 2) + (a % 2 ||| b % 2) := by
    conv => lhs; rw [ea, eb]
    exact or_two' _ _ _ _ (by omega) (by omega)
  have hn : a &&& b = 2 * (a / 2 &&& b / 2) + (a % 2 &&& b % 2) := by
    conv => lhs; rw [ea, eb]
    exact land_two _ _ _ _ (by omega) (by omega)
  have h1 : a % 2 = 0 ∨ a % 2 = 1 := by omega
  have h2 : b % 2 = 0 ∨ b % 2 = 1 := by omega
  rcases h1 with h1 | h1 <;> rcases h2 with h2 | h2 <;> rw [h1, h2] at ho hn <;> simp at ho hn <;> omega
theorem bsum_both : ∀ (ws : List Int) (a b : Nat), bsum ws (a ||| b) + bsum ws (a &&& b) = bsum ws a + bsum ws b
  | [], _, _ => rfl
  | w :: ws, a, b => by
    obtain ⟨h1, h2, h3, _, _⟩ := bit_parts a b
    have ih := bsum_both ws (a / 2) (b / 2)
    simp only [bsum, h1, h2]
    have q1 : a % 2 = 0 ∨ a % 2 = 1 := by omega
    have q2 : b % 2 = 0 ∨ b % 2 = 1 := by omega
    have q3 : (a ||| b) % 2 = 0 ∨ (a ||| b) % 2 = 1 := by omega
    have q4 : (a &&& b) % 2 = 0 ∨ (a &&& b) % 2 = 1 := by omega
    rcases q1 with q1 | q1 <;> rcases q2 with q2 | q2 <;> rcases q3 with q3 | q3 <;> rcases q4 with q4 | q4 <;> rw [q1, q2, q3, q4] at h3 ⊢ <;> first | (simp; omega) | omega
theorem qc_nn {ws : List Int} {need : Int} (h : qcheckP ws need = 0) : ∀ w, w ∈ ws → 0 ≤ w := fun w hw => ((nodes_bd (qc_nodes h)).2.2.2.2 w hw).1
theorem inS_bit {x n : Nat} : inS x n = x.testBit n := by
  rw [Nat.testBit_eq_decide_div_mod_eq]; unfold inS; rw [Bool.eq_iff_iff]; simp
theorem bsum_full : ∀ (ws : List Int) (x : Nat), (∀ j, j < ws.length → inS x j = true) → bsum ws x = lsum ws
  | [], x, _ => rfl
  | w :: ws, x, h => by
    have h0 := h 0 (by simp)
    have h1 : x % 2 = 1 := by simpa [inS] using h0
    have ih := bsum_full ws (x / 2) fun j hj => by
      have := h (j + 1) (by simp; omega)
      rw [inS_bit] at this ⊢
      rw [Nat.testBit_succ] at this; exact this
    simp only [bsum, if_pos h1, lsum, ih]
theorem bit_mem {x : U64} {k : Int} {n : Nat} (hk : 0 ≤ k ∧ k < 64) : inS (opU .or x (bitU k)).n n = true ↔ inS x.n n = true ∨ n = k.toNat := by
  rw [opU_n, bitU_n hk]
  show inS (x.n ||| 2 ^ k.toNat) n = true ↔ _
  rw [inS_bit, inS_bit, Nat.testBit_or, Nat.testBit_two_pow]
  simp
  constructor <;> rintro (h | h) <;> first | exact .inl h | exact .inr h.symm
theorem enough_iff {ws : List Int} {need : Int} {x : Nat} (hq : qcheckP ws need = 0) (hx : x < 2 ^ ws.length) : (enoughP ws need x).1 = true ↔ need ≤ bsum ws x := by
  unfold enoughP
  rw [if_neg (fun hh => hh hq), sumP_0 (qc_nodes hq) hx]
  simp
theorem maxP_1 {s : Stp} (h : (maxP [s]).2 = 0) : (maxP [s]).1 = s ∧ s.okS := by
  have hs : s.okS := by
    unfold maxP at h
    by_cases hh : s.okS
    · exact hh
    · exfalso
      rw [if_neg (by simp)] at h
      have : chkL [s] = 3 := by unfold chkL Stp.checkE; rw [if_neg hh]; rfl
      rw [this] at h; simp at h
  refine ⟨?_, hs⟩
  have hc : chkL [s] = 0 := by unfold chkL Stp.checkE; rw [if_pos hs]; rfl
  unfold maxP
  rw [if_neg (by simp), if_neg (by omega)]
  show (if s.cmp ⟨0, 0⟩ > 0 then s else ⟨0, 0⟩) = s
  unfold Stp.okS at hs
  split
  · rfl
  · rename_i h1
    unfold Stp.cmp cmpP at h1
    obtain ⟨t, w⟩ := s
    simp only at hs h1 ⊢
    rw [Stp.mk.injEq]
    repeat' split at h1
    all_goals omega
theorem next_1 {s : Stp} {who : Int} (h : (nextL [s] who).2 = 0) : (nextL [s] who).1 = ⟨s.time + 1, who⟩ := by
  unfold nextL at h ⊢
  split at h
  · rename_i h1; exact absurd h h1
  · rename_i h1
    split at h
    · simp at h
    · rename_i h2; rw [if_neg h1, if_neg h2, (maxP_1 (by omega)).1]
theorem heard_best (a : Ask) (m : Msg) : (heardA a m).best = if a.phase = 1 then a.best.raw m.copy else a.best := rfl
theorem get_app {α : Type} {l : List α} {x y : α} {j : Nat} (h : (l ++ [x])[j]? = some y) : (j < l.length ∧ l[j]? = some y) ∨ (j = l.length ∧ y = x) := by
  rcases Nat.lt_or_ge j l.length with hlt | hge
  · rw [List.getElem?_append_left hlt] at h; exact .inl ⟨hlt, h⟩
  · rw [List.getElem?_append_right hge, List.getElem?_singleton] at h
    split at h
    · simp at h; exact .inr ⟨by omega, h.symm⟩
    · simp at h
def From (asks : List Ask) (x : Copy) : Prop := (x.at_ = ⟨0, 0⟩ ∧ x.data = ⟨#[]⟩) ∨ ∃ a : Ask, asks[x.at_.who.toNat]? = some a ∧ 0 ≤ x.at_.who ∧ 1 ≤ x.at_.time ∧ a.kind = 2 ∧ a.data = x.data ∧ 2 ≤ a.phase ∧ a.best = x
theorem bsum_0 : ∀ ws : List Int, bsum ws 0 = 0
  | [] => rfl
  | w :: ws => by simp only [bsum]; rw [if_neg (by decide), Int.zero_add]; exact (bsum_0 ws)
theorem mem_erase_or {α : Type} {l : List α} {i : Nat} {d x : α} (h : x ∈ l) : x ∈ l.eraseIdx i ∨ x = gd d l i := by
  obtain ⟨j, h1, h2⟩ := List.getElem_of_mem h
  by_cases hj : j = i
  · subst hj
    right
    have := gd_get (d := d) h1
    rw [List.getElem?_eq_getElem h1, h2] at this
    exact Option.some.inj this
  · exact .inl (List.mem_eraseIdx_iff_getElem?.2 ⟨j, hj, by rw [List.getElem?_eq_getElem h1, h2]⟩)
theorem and_bit {x : U64} {k : Int} (h : 0 ≤ k ∧ k < 64) : ((opU .and x (bitU k)).n : Int) = 0 ↔ inS x.n k.toNat = false := by
  rw [opU_n, bitU_n h]
  show ((x.n &&& 2 ^ k.toNat : Nat) : Int) = 0 ↔ _
  rw [inS_bit]
  constructor
  · intro h0
    have h1 : x.n &&& 2 ^ k.toNat = 0 := by omega
    have h2 : (x.n &&& 2 ^ k.toNat).testBit k.toNat = false := by rw [h1]; simp
    rw [Nat.testBit_and, Nat.testBit_two_pow] at h2
    simpa using h2
  · intro h0
    have h1 : x.n &&& 2 ^ k.toNat = 0 := Nat.eq_of_testBit_eq fun i => by
      rw [Nat.testBit_and, Nat.testBit_two_pow]
      by_cases hi : k.toNat = i
      · subst hi; simp [h0]
      · simp [hi]
    omega
theorem next_fine {s : Stp} {who : Int} (hs : s.okS) (hw : 0 ≤ who ∧ who ≤ 31) (ht : s.time < 1000000) : (nextL [s] who).2 = 0 := by
  have hc : chkL [s] = 0 := by unfold chkL Stp.checkE; rw [if_pos hs]; rfl
  have hm : (maxP [s]).2 = 0 := by unfold maxP; rw [if_neg (by simp), if_neg (by omega)]
  have h1 := maxP_1 hm
  unfold nextL
  rw [if_neg (by omega), h1.1, if_neg (by omega)]
structure InvL (c : Cluster) : Prop where
  tn : ∀ x, x ∈ c.nodes → x.at_.time ≤ c.clock
  ta : ∀ a, a ∈ c.asks → a.best.at_.time ≤ c.clock
  tm : ∀ m, m ∈ c.net → m.copy.at_.time ≤ c.clock
  few : ∀ (k : Nat) a, c.asks[k]? = some a → a.phase ≠ 3 → ¬ c.voters.need ≤ bsum c.voters.weights a.heard.n
  go : ∀ (k : Nat) a, c.asks[k]? = some a → a.phase ≠ 3 → ∀ n, n < c.voters.weights.length → inS a.heard.n n = false → ∃ m : Msg, m ∈ c.net ∧ m.op = k ∧ m.node = n ∧ (m.kind = wantsA a.phase ∨ m.kind = wantsA a.phase - 1)
theorem toAll_mem {n : Nat} {m : Msg} {j : Nat} (h : j < n) : (⟨m.kind, m.op, (j : Int), m.copy⟩ : Msg) ∈ toAllM n m := by
  unfold toAllM
  exact List.mem_map.2 ⟨j, List.mem_range.2 h, rfl⟩
theorem raw_time {a b : Copy} {t : Int} (ha : a.at_.time ≤ t) (hb : b.at_.time ≤ t) : (a.raw b).at_.time ≤ t := by unfold Copy.raw; split <;> assumption
theorem invL_new {v : Vtr} : InvL (Cluster.new v) := by
  refine ⟨fun x hx => ?_, fun a ha => by simp [Cluster.new] at ha, fun m hm => by simp [Cluster.new] at hm, fun k a ha => by simp [Cluster.new] at ha, fun k a ha => by simp [Cluster.new] at ha⟩
  simp only [Cluster.new] at hx ⊢
  rw [List.eq_of_mem_replicate hx]; decide
theorem shr_n {n : Nat} {d : Int} (h : 0 ≤ d ∧ n < 18446744073709551616) : ((n : Int)).fdiv (2 ^ (min (Int.toNat d) IntKind.u64.bits)) = ((n / 2 ^ Int.toNat d : Nat) : Int) := by
  have hb : IntKind.u64.bits = 64 := rfl
  rw [hb, Int.fdiv_eq_ediv_of_nonneg _ (Int.le_of_lt (Int.pow_pos (by decide)))]
  by_cases h2 : Int.toNat d ≤ 64
  · rw [Nat.min_eq_left h2, show ((2 : Int) ^ (Int.toNat d)) = ((2 ^ (Int.toNat d) : Nat) : Int) by push_cast; rfl]; rfl
  · have hp : 2 ^ 64 ≤ 2 ^ Int.toNat d := Nat.pow_le_pow_right (by decide) (by omega)
    rw [Nat.min_eq_right (by omega), Nat.div_eq_of_lt (Nat.lt_of_lt_of_le h.2 (by simpa using hp))]
    show (n : Int) / 18446744073709551616 = 0
    omega
theorem inset_b {x k : Nat} : ((((x / 2 ^ k : Nat) : Int) % 2 == 1) : Bool) = (x / 2 ^ k % 2 == 1) := by
  generalize x / 2 ^ k = q
  rw [Bool.eq_iff_iff]; simp; omega
section
variable (k : Int) (x : U64)
abbrev isaq0 : LS := [(6, VI k), (5, .v (.int .u64 (x.n : Int))), (0, .v (.int .u64 (x.n : Int))), (1, VI k)]
abbrev isaq1 : LS := (7, .v (.int .u64 ((x.n / 2 ^ Int.toNat k : Nat) : Int))) :: (isaq0 k x)
end
theorem inset_fn (x : U64) (k : Int) (hk0 : 0 ≤ k) : Fn Tryd.prog 34 [.v (.int .u64 (x.n : Int)), VI k] (.v (.bool (x.n / 2 ^ Int.toNat k % 2 == 1))) := by
 refine fnw F34_ok ?_
 refine srl 1 [0, 1] ⟨[(0, .v (.int .u64 (x.n : Int))), (1, VI k)], []⟩ ?_
 refine srr 2 ⟨(isaq0 k x), []⟩ ?_
 refine ow2 ⟨(7, .v (.int .u64 (((x.n : Int)).fdiv (2 ^ (min (Int.toNat k) IntKind.u64.bits))))) :: (isaq0 k x), []⟩ (opE_shr (.s 5) (.s 6) .u64 .i64 (x.n : Int) k (by kernel_rfl) (by kernel_rfl) (by kernel_rfl) (by kernel_rfl) (by omega)) ?_
 have e1 : ((x.n : Int)).fdiv (2 ^ (min (Int.toNat k) IntKind.u64.bits)) = ((x.n / 2 ^ Int.toNat k : Nat) : Int) := shr_n (by exact ⟨hk0, x.lt⟩)
 rw [e1]
 refine owr 3 ⟨(4, .v (.bool (((((x.n / 2 ^ Int.toNat k : Nat) : Int)).tmod 2) == 1))) :: (9, .v (.bool (((((x.n / 2 ^ Int.toNat k : Nat) : Int)).tmod 2) == 1))) :: (8, .v (.int .u64 ((((x.n / 2 ^ Int.toNat k : Nat) : Int)).tmod 2))) :: (isaq1 k x), []⟩ ?_
 have e2 : (((x.n / 2 ^ Int.toNat k : Nat) : Int)).tmod 2 = ((x.n / 2 ^ Int.toNat k : Nat) : Int) % 2 := rem64 (by generalize x.n / 2 ^ Int.toNat k = q; omega)
 rw [e2]
 refine owl 0 [4] ⟨[(4, .v (.bool ((((x.n / 2 ^ Int.toNat k : Nat) : Int) % 2) == 1)))], []⟩ ?_
 refine EL.ret ?_
 refine rqe (.v (.bool ((((x.n / 2 ^ Int.toNat k : Nat) : Int) % 2) == 1))) ?_
 focus (exact congrArg (fun b => AV.v (Value.bool b)) inset_b)
open Go.RowKit
def k_34 : Con Tc Tc.dn := ⟨34, [.ty .cU64, .ty .cInt], fun x => 0 ≤ x.2.1, [.cBool], fun x => inS x.1.n x.2.1.toNat⟩
theorem k_34_ok : k_34.Ok Tryd.prog tD := ⟨F34_call, fun x N h => inset_fn x.1 x.2.1 h⟩
section
variable (a : Int) (a5 : Int) (k : Nat) (ws : List Int)
abbrev qsq0 : LS := [(7, .lst 1 (ws.map cI)), (2, VI 0), (0, .lst 1 (ws.map cI))]
abbrev qsq1 : LS := [(11, .lst 1 (ws.map cI)), (6, .v (.bool false)), (2, VI 0), (0, .lst 1 (ws.map cI))]
abbrev qsq2 : LS := [(14, .lst 1 (ws.map cI)), (10, .v (.bool false)), (2, VI 0), (0, .lst 1 (ws.map cI))]
abbrev qsq3 : LS := [(16, VI 0), (15, VI (List.length ws : Int)), (14, .lst 1 (ws.map cI)), (2, VI 0)]
abbrev qsq4 : LS := [(2, VI a), (14, .lst 1 (ws.map cI)), (15, VI (List.length ws : Int)), (16, VI (k : Int))]
abbrev qsq5 : LS := (18, .pim [VI a5] 0) :: (17, .v (.bool true)) :: (qsq4 a k ws)
abbrev qsq6 : LS := [(27, VI a5), (26, VI a), (25, .v (.bool false)), (5, VI a5), (14, .lst 1 (ws.map cI)), (15, VI (List.length ws : Int)), (16, VI (k : Int))]
abbrev qsq7 : LS := [(2, VI (a + a5)), (28, VI (a + a5)), (27, VI a5), (26, VI a), (25, .v (.bool false)), (5, VI a5), (14, .lst 1 (ws.map cI)), (15, VI (List.length ws : Int))]
abbrev qsq8 : LS := (16, VI ((k : Int) + 1)) :: (29, VI ((k : Int) + 1)) :: (qsq7 a a5 ws)
end
theorem nodes_fn (ws : List Int) (hx : ws.length ≤ 9223372036854775807) : Fn Tryd.prog 59 [.lst 1 (ws.map cI)] (.tup [VI ((nodesP ws).1), VI ((nodesP ws).2)]) := by
 refine fnw F59_ok ?_
 refine srl 2 [0, 2] ⟨[(2, VI 0), (0, .lst 1 (ws.map cI))], []⟩ ?_
 refine EL.seq ?_
 refine EL.block ?_
 refine srr 1 ⟨(qsq0 ws), []⟩ ?_
 refine ow2 ⟨(8, VI (List.length ws : Int)) :: (qsq0 ws), []⟩ (oln cI ws (.s 7) 1) ?_
 refine owl 2 [0, 2, 6] ⟨[(6, .v (.bool ((List.length ws : Int) == 0))), (2, VI 0), (0, .lst 1 (ws.map cI))], []⟩ ?_
 cases h1 : ((List.length ws : Int) == 0)
 have g1 := bqF h1
 have n1 : ¬ ((List.length ws) = 0) := by omega
 refine cnF ?_
 refine srr 1 ⟨(qsq1 ws), []⟩ ?_
 refine ow2 ⟨(12, VI (List.length ws : Int)) :: (qsq1 ws), []⟩ (oln cI ws (.s 11) 1) ?_
 refine owl 2 [0, 2, 10] ⟨[(10, .v (.bool (decide ((List.length ws : Int) > 12)))), (2, VI 0), (0, .lst 1 (ws.map cI))], []⟩ ?_
 cases h2 : (decide ((List.length ws : Int) > 12))
 have g2 := of_decide_eq_false h2
 have n2 : ¬ ((List.length ws) > 12) := by omega
 refine cnF ?_
 refine EL.skip ?_
 refine iN ?_
 refine tN ?_
 refine EL.seq ?_
 refine srr 1 ⟨(qsq2 ws), []⟩ ?_
 refine ow2 ⟨(15, VI (List.length ws : Int)) :: (qsq2 ws), []⟩ (oln cI ws (.s 14) 1) ?_
 refine owl 1 [2, 14, 15, 16] ⟨(qsq3 ws), []⟩ ?_
 refine EL.block ?_
 refine EL.loopN (fun mM xX => ∃ (k : Nat) (a : Int), mM = ws.length - k ∧ (k ≤ ws.length ∧ 1 ≤ ws.length ∧ ws.length ≤ 12 ∧ 0 ≤ a ∧ a ≤ 100 * k ∧ nodesGo ws 0 = nodesGo (ws.drop k) a) ∧ xX = ⟨(qsq4 a k ws), []⟩) (y := (fun (k : Nat) (a : Int) => (⟨(qsq4 a k ws), []⟩ : L3)) 0 0) [2, 14, 15, 16] [] [] (by kernel_rfl) trivial ⟨0, 0, rfl, by simp; omega, rfl⟩ ?_
 rintro _ _ ⟨k, a, rfl, hI3, rfl⟩
 obtain ⟨hk, hl1, hl2, ha0, ha1, hs⟩ := hI3
 refine srl 1 [2, 14, 15, 16, 17] ⟨(17, .v (.bool (decide ((k : Int) < (List.length ws : Int))))) :: (qsq4 a k ws), []⟩ ?_
 refine EL.seq ?_
 cases h4 : (decide ((k : Int) < (List.length ws : Int)))
 have g4 := of_decide_eq_false h4
 have n4 : ¬ ((k) < (List.length ws)) := by omega
 refine cnF ?_
 refine EL.exit ?_
 refine tX ?_
 refine tX ?_
 refine iH ?_
 refine tN ?_
 refine srl 3 [2, 3] ⟨[(3, VI 0), (2, VI a)], []⟩ ?_
 refine EL.ret ?_
 refine rqe (.tup [VI a, VI 0]) ?_
 rotate_left
 have g4 := of_decide_eq_true h4
 have n4 : ((k) < (List.length ws)) := by omega
 refine cnT ?_
 refine skn ?_
 refine EL.seq ?_
 refine EL.block ?_
 refine EL.sreg ?_
 obtain ⟨a5, ha5⟩ : ∃ y, ws[((k : Int) : Int).toNat]? = some y := idx_ex ⟨by omega, by omega⟩
 have iha5 : ws[k]? = some a5 := by simpa using ha5
 have dha5 := drop_get iha5
 refine ow2 ⟨(qsq5 a a5 k ws), []⟩ (oid cI ws (.s 14) (.s 16) 1 .i64 (k : Int) a5 (by omega) ha5) ?_
 refine owl 2 [2, 5, 14, 15, 16] ⟨(5, VI a5) :: (qsq4 a k ws), []⟩ ?_
 refine EL.seq ?_
 refine srr 3 ⟨(22, .v (.bool (decide (a5 < 0)))) :: (21, .v (.bool (decide (a5 < 0)))) :: (20, VI a5) :: (5, VI a5) :: (qsq4 a k ws), []⟩ ?_
 cases h6 : (decide (a5 < 0))
 have g6 := of_decide_eq_false h6
 refine owl 3 [2, 5, 14, 15, 16, 25] ⟨(25, .v (.bool (decide (a5 > 100)))) :: (5, VI a5) :: (qsq4 a k ws), []⟩ ?_
 cases h7 : (decide (a5 > 100))
 have g7 := of_decide_eq_false h7
 refine cnF ?_
 refine skn ?_
 refine EL.reg0 ?_
 refine owr 4 ⟨(2, VI (IntKind.i64.wrap (a + a5))) :: (28, VI (IntKind.i64.wrap (a + a5))) :: (qsq6 a a5 k ws), []⟩ ?_
 have e8 := wr64 (n := a + a5) (by omega)
 rw [e8]
 refine owe 0 ⟨(2, VI (a + a5)) :: (28, VI (a + a5)) :: (qsq6 a a5 k ws), []⟩ ?_
 refine iN ?_
 refine tN ?_
 refine EL.reg0 ?_
 refine owr 2 ⟨(16, VI (IntKind.i64.wrap ((k : Int) + 1))) :: (29, VI (IntKind.i64.wrap ((k : Int) + 1))) :: (qsq7 a a5 ws), []⟩ ?_
 have e9 := wr64 (n := (k : Int) + 1) (by omega)
 rw [e9]
 refine owe 0 ⟨(qsq8 a a5 k ws), []⟩ ?_
 refine tN ?_
 refine rE (live := [2, 14, 15, 16]) (src := []) (es := []) (y := (fun (k : Nat) (a : Int) => (⟨(qsq4 a k ws), []⟩ : L3)) (k + 1) (a + a5)) ?_ trivial ?_ ⟨(k + 1), (a + a5), rfl, ?_, rfl⟩
 kernel_rfl
 omega
 focus (refine ⟨by omega, hl1, hl2, by omega, by omega, ?_⟩; rw [hs, ‹ws.drop k = _›, nodesGo, if_pos (by omega)])
 have g7 := of_decide_eq_true h7
 refine cnT ?_
 refine srl 2 [2, 3] ⟨[(3, VI 3), (2, VI 0)], []⟩ ?_
 refine rtr ?_
 refine iR ?_
 refine tR ?_
 refine tR ?_
 refine iR ?_
 refine tR ?_
 refine rqe (.tup [VI 0, VI 3]) ?_
 rotate_left
 have g6 := of_decide_eq_true h6
 refine owl 3 [2, 5, 14, 15, 16, 25] ⟨(25, .v (.bool true)) :: (5, VI a5) :: (qsq4 a k ws), []⟩ ?_
 refine cnT ?_
 refine srl 2 [2, 3] ⟨[(3, VI 3), (2, VI 0)], []⟩ ?_
 refine rtr ?_
 refine iR ?_
 refine tR ?_
 refine tR ?_
 refine iR ?_
 refine tR ?_
 refine rqe (.tup [VI 0, VI 3]) ?_
 rotate_left
 have g2 := of_decide_eq_true h2
 have n2 : ((List.length ws) > 12) := by omega
 refine cnT ?_
 refine srl 2 [2, 3] ⟨[(3, VI 2), (2, VI 0)], []⟩ ?_
 refine EL.ret ?_
 refine iR ?_
 refine tR ?_
 refine rqe (.tup [VI 0, VI 2]) ?_
 rotate_left
 have g1 := bqT h1
 have n1 : ((List.length ws) = 0) := by omega
 refine cnT ?_
 refine srl 2 [2, 3] ⟨[(3, VI 8), (2, VI 0)], []⟩ ?_
 refine EL.ret ?_
 refine iR ?_
 refine tR ?_
 refine rqe (.tup [VI 0, VI 8]) ?_
 rotate_left
 all_goals (first | (rw [nodesP, if_pos (by omega)]; done) | (rw [nodesP, if_neg (by omega), if_pos (by omega)]; done) | (rw [nodesP, if_neg (by omega), if_neg (by omega), hs]; first | (rw [List.drop_eq_nil_of_le (by omega)]; rfl) | (rw [‹ws.drop k = _›, nodesGo, if_neg (by omega)]; done)) | trace_state)
section
variable (need : Int) (ws : List Int)
abbrev qsq9 : LS := [(8, .lst 1 (ws.map cI)), (0, .lst 1 (ws.map cI)), (1, VI need)]
abbrev qsq10 : LS := (9, .tup [VI ((nodesP ws).1), VI ((nodesP ws).2)]) :: (qsq9 need ws)
abbrev qsq11 : LS := [(6, VI ((nodesP ws).2)), (5, VI ((nodesP ws).1)), (1, VI need)]
abbrev qsq12 : LS := [(16, .v (.bool true)), (5, VI ((nodesP ws).1)), (1, VI need)]
abbrev qsq13 : LS := [(25, VI need), (16, .v (.bool false)), (5, VI ((nodesP ws).1)), (1, VI need)]
end
theorem qcheck_fn (ws : List Int) (need : Int) (hx : ws.length ≤ 9223372036854775807) : Fn Tryd.prog 35 [.lst 1 (ws.map cI), VI need] (VI (qcheckP ws need)) := by
 refine fnw F35_ok ?_
 refine srl 1 [0, 1] ⟨[(0, .lst 1 (ws.map cI)), (1, VI need)], []⟩ ?_
 refine srr 1 ⟨(qsq9 need ws), []⟩ ?_
 refine owg [.lst 1 (ws.map cI)] ⟨(qsq10 need ws), []⟩ (nodes_fn ws (by first | omega | (simp; omega))) ?_
 refine owl 5 [1, 5, 6] ⟨(qsq11 need ws), []⟩ ?_
 refine EL.seq ?_
 refine EL.block ?_
 refine srl 3 [1, 5, 6, 12] ⟨(12, .v (.bool (((nodesP ws).2) != 0))) :: (qsq11 need ws), []⟩ ?_
 cases h1 : (((nodesP ws).2) != 0)
 have g1 := bnF h1
 refine cnF ?_
 refine srr 3 ⟨(19, .v (.bool (decide (need < 1)))) :: (18, .v (.bool (decide (need < 1)))) :: (17, VI need) :: (12, .v (.bool false)) :: (qsq11 need ws), []⟩ ?_
 cases h2 : (decide (need < 1))
 have g2 := of_decide_eq_false h2
 refine owl 5 [1, 5, 16] ⟨[(16, .v (.bool (decide (need > (nodesP ws).1)))), (5, VI ((nodesP ws).1)), (1, VI need)], []⟩ ?_
 cases h3 : (decide (need > (nodesP ws).1))
 have g3 := of_decide_eq_false h3
 refine cnF ?_
 refine srr 5 ⟨(24, .v (.bool (decide ((IntKind.i64.wrap (2 * need)) ≤ (nodesP ws).1)))) :: (28, .v (.bool (decide ((IntKind.i64.wrap (2 * need)) ≤ (nodesP ws).1)))) :: (27, VI ((nodesP ws).1)) :: (26, VI (IntKind.i64.wrap (2 * need))) :: (qsq13 need ws), []⟩ ?_
 have e4 := wr64 (n := 2 * need) (by have hb := nodes_bd (ws := ws) (by assumption); omega)
 rw [e4]
 refine owl 0 [24] ⟨[(24, .v (.bool (decide ((2 * need) ≤ (nodesP ws).1))))], []⟩ ?_
 cases h5 : (decide ((2 * need) ≤ (nodesP ws).1))
 have g5 := of_decide_eq_false h5
 refine cnF ?_
 refine EL.skip ?_
 refine iN ?_
 refine tN ?_
 refine srl 1 [4] ⟨[(4, VI 0)], []⟩ ?_
 refine EL.ret ?_
 refine rqe (VI 0) ?_
 rotate_left
 have g5 := of_decide_eq_true h5
 refine cnT ?_
 refine srl 1 [4] ⟨[(4, VI 4)], []⟩ ?_
 refine EL.ret ?_
 refine iR ?_
 refine tR ?_
 refine rqe (VI 4) ?_
 rotate_left
 have g3 := of_decide_eq_true h3
 refine cnT ?_
 refine srl 1 [4] ⟨[(4, VI 3)], []⟩ ?_
 refine EL.ret ?_
 refine iR ?_
 refine tR ?_
 refine rqe (VI 3) ?_
 rotate_left
 have g2 := of_decide_eq_true h2
 refine owl 5 [1, 5, 16] ⟨(qsq12 need ws), []⟩ ?_
 refine cnT ?_
 refine srl 1 [4] ⟨[(4, VI 3)], []⟩ ?_
 refine EL.ret ?_
 refine iR ?_
 refine tR ?_
 refine rqe (VI 3) ?_
 rotate_left
 have g1 := bnT h1
 refine cnT ?_
 refine srl 2 [4] ⟨[(4, VI ((nodesP ws).2))], []⟩ ?_
 refine EL.ret ?_
 refine iR ?_
 refine tR ?_
 refine rqe (VI ((nodesP ws).2)) ?_
 rotate_left
 all_goals ((refine congrArg (fun n => VI n) ?_; simp only [qcheckP]; (repeat' split) <;> first | rfl | omega | (exfalso; omega) | contradiction | trace_state))
theorem wru64 {a : Int} (h : 0 ≤ a ∧ a < 18446744073709551616) : IntKind.u64.wrap a = a := by rw [IntKind.wrap_u64]; omega
def InsI (xs : List Int) (i : Nat) (zs : List Int) (j : Nat) : Prop :=
  ∃ p q x, zs = p.reverse ++ x :: (q.reverse ++ xs.drop (i + 1)) ∧ p.length = j ∧ j + q.length = i ∧ insR x (srtGo [] (xs.take i)) = q ++ insR x p ∧ xs[i]? = some x
theorem srtGo_len (ws acc : List Int) : (srtGo acc ws).length = acc.length + ws.length := by rw [(srtGo_perm ws acc).length_eq, List.length_append]
theorem srtGo_snoc : ∀ (l acc : List Int) (x : Int), srtGo acc (l ++ [x]) = insR x (srtGo acc l)
  | [], _, _ => rfl
  | a :: l, acc, x => by simp only [List.cons_append, srtGo, srtGo_snoc l]
theorem InsI.start {xs : List Int} {i : Nat} (h : i < xs.length) : InsI xs i ((srtGo [] (xs.take i)).reverse ++ xs.drop i) i := by
  refine ⟨srtGo [] (xs.take i), [], xs[i], ?_, ?_, by simp, by simp, by simp [h]⟩
  · rw [List.drop_eq_getElem_cons h]; rfl
  · rw [srtGo_len]; simp; omega
theorem InsI.len {xs zs : List Int} {i j : Nat} (h : InsI xs i zs j) : zs.length = xs.length ∧ j ≤ i ∧ i < xs.length := by
  obtain ⟨p, q, x, rfl, h1, h2, h3, h4⟩ := h
  have := (List.getElem?_eq_some_iff.1 h4).1
  simp; omega
theorem InsI.swap {xs zs : List Int} {i j : Nat} (h : InsI xs i zs j) (hj : 0 < j) {a b : Int} (ha : zs[j]? = some a) (hb : zs[j - 1]? = some b) (hl : b < a) : InsI xs i ((zs.set j b).set (j - 1) a) (j - 1) := by
  obtain ⟨p, q, x, rfl, h1, h2, h3, h4⟩ := h
  cases p with
  | nil => simp at h1; omega
  | cons y p =>
    simp only [List.length_cons] at h1
    have hpl : p.reverse.length = j - 1 := by simp; omega
    have e : (y :: p).reverse ++ x :: (q.reverse ++ xs.drop (i + 1)) = p.reverse ++ (y :: x :: (q.reverse ++ xs.drop (i + 1))) := by simp
    rw [e] at ha hb ⊢
    rw [List.getElem?_append_right (by omega), hpl, show j - (j - 1) = 1 by omega] at ha
    rw [List.getElem?_append_right (by omega), hpl, show j - 1 - (j - 1) = 0 by omega] at hb
    simp only [List.getElem?_cons_succ, List.getElem?_cons_zero, Option.some.injEq] at ha hb
    subst ha; subst hb
    rw [List.set_append_right _ _ (by omega), hpl, show j - (j - 1) = 1 by omega, List.set_append_right _ _ (by omega), hpl, show j - 1 - (j - 1) = 0 by omega]
    refine ⟨p, q ++ [y], x, by simp, by omega, by simp; omega, ?_, h4⟩
    rw [h3]; simp only [insR, if_pos hl, List.append_assoc, List.cons_append, List.nil_append]
theorem InsI.done {xs zs : List Int} {i j : Nat} (h : InsI xs i zs j) (hd : j = 0 ∨ ∃ a b, zs[j]? = some a ∧ zs[j - 1]? = some b ∧ ¬ b < a) : zs = (srtGo [] (xs.take (i + 1))).reverse ++ xs.drop (i + 1) := by
  obtain ⟨p, q, x, hz, h1, h2, h3, h4⟩ := h
  have ht : xs.take (i + 1) = xs.take i ++ [x] := by
    obtain ⟨hi, rfl⟩ := List.getElem?_eq_some_iff.1 h4
    exact (List.take_append_getElem hi).symm
  rw [ht, srtGo_snoc, h3, hz]
  have hp : insR x p = x :: p := by
    cases p with
    | nil => rfl
    | cons y p =>
      rcases hd with hd | ⟨a, b, ha, hb, hl⟩
      · subst hd; simp at h1
      · simp only [List.length_cons] at h1
        have hpl : p.reverse.length = j - 1 := by simp; omega
        have e : (y :: p).reverse ++ x :: (q.reverse ++ xs.drop (i + 1)) = p.reverse ++ (y :: x :: (q.reverse ++ xs.drop (i + 1))) := by simp
        rw [hz, e] at ha hb
        rw [List.getElem?_append_right (by omega), hpl, show j - (j - 1) = 1 by omega] at ha
        rw [List.getElem?_append_right (by omega), hpl, show j - 1 - (j - 1) = 0 by omega] at hb
        simp only [List.getElem?_cons_succ, List.getElem?_cons_zero, Option.some.injEq] at ha hb
        subst ha; subst hb
        simp only [insR, if_neg hl]
  rw [hp]; simp
theorem mem_set2 {zs : List Int} {j k : Nat} {a b : Int} (h : ∀ w, w ∈ zs → 0 ≤ w ∧ w ≤ 100) (ha : 0 ≤ a ∧ a ≤ 100) (hb : 0 ≤ b ∧ b ≤ 100) : ∀ w, w ∈ (zs.set j b).set k a → 0 ≤ w ∧ w ≤ 100 := by
  intro w hw
  rcases List.mem_or_eq_of_mem_set hw with hw | rfl
  · rcases List.mem_or_eq_of_mem_set hw with hw | rfl
    · exact h w hw
    · exact hb
  · exact ha
theorem hcmp_fn (a : Int) (b : Int) (hab : (0 ≤ a ∧ a ≤ 100) ∧ 0 ≤ b ∧ b ≤ 100) : Fn Tryd.prog 93 [VI a, VI b] (VI (b - a)) := by
 refine fnw F93_ok ?_
 refine srl 1 [0, 1] ⟨[(0, VI a), (1, VI b)], []⟩ ?_
 refine srr 4 ⟨[(4, VI (IntKind.i64.wrap (b - a))), (7, VI (IntKind.i64.wrap (b - a))), (6, VI a), (5, VI b), (0, VI a), (1, VI b)], []⟩ ?_
 have e1 := wr64 (n := b - a) (by omega)
 rw [e1]
 refine owl 0 [4] ⟨[(4, VI (b - a))], []⟩ ?_
 refine EL.ret ?_
 refine rqe (VI (b - a)) ?_
 focus (rfl)
section
variable (a6 : Int) (a9 : Int) (i : Nat) (j : Int) (xs : List Int) (zs : List Int)
abbrev qsq14 : LS := [(8, VI 1), (0, .own 0 1 0 (List.length xs)), (1, VI 0), (2, VI (List.length xs : Int)), (3, .fn 93 [])]
abbrev qsq15 : LS := [(0, .own 0 1 0 (List.length xs)), (1, VI 0), (2, VI (List.length xs : Int)), (3, .fn 93 []), (8, VI (i : Int))]
abbrev qsq16 : LS := [(0, .own 0 1 0 (List.length xs)), (1, VI 0), (2, VI (List.length xs : Int)), (3, .fn 93 []), (8, VI (i : Int)), (9, VI j)]
abbrev qsq17 : LS := (24, VI j) :: (23, .own 0 1 0 (List.length xs)) :: (22, .fn 93 []) :: (21, .v (.bool true)) :: (20, .v (.bool true)) :: (19, VI 0) :: (18, VI j) :: (qsq16 i j xs)
abbrev qsq18 : LS := (26, VI a6) :: (25, .ref 0 1 (0 + Int.toNat j) 0) :: (qsq17 i j xs)
abbrev qsq19 : LS := (28, VI j) :: (27, .own 0 1 0 (List.length xs)) :: (qsq18 a6 i j xs)
abbrev qsq20 : LS := (30, .ref 0 1 (0 + Int.toNat (j - 1)) 0) :: (29, VI (j - 1)) :: (qsq19 a6 i j xs)
abbrev qsq21 : LS := (40, VI j) :: (39, .own 0 1 0 (List.length xs)) :: (38, VI j) :: (37, .own 0 1 0 (List.length xs)) :: (34, .v (.bool true)) :: (qsq16 i j xs)
abbrev qsq22 : LS := (45, .ref 0 1 (0 + Int.toNat (j - 1)) 0) :: (44, VI (j - 1)) :: (43, VI j) :: (42, .own 0 1 0 (List.length xs)) :: (41, VI (j - 1)) :: (qsq21 i j xs)
abbrev qsq23 : LS := (48, VI j) :: (47, .own 0 1 0 (List.length xs)) :: (46, VI a9) :: (qsq22 i j xs)
abbrev qsq24 : LS := (50, VI a6) :: (49, .ref 0 1 (0 + Int.toNat j) 0) :: (qsq23 a9 i j xs)
abbrev qsq25 : OB := some ⟨1, ((List.set zs (0 + Int.toNat j) a9).map cI)⟩
abbrev qsq26 : LS := (52, .ref 0 1 (0 + Int.toNat (j - 1)) 0) :: (51, .ref 0 1 (0 + Int.toNat j) 0) :: (qsq24 a6 a9 i j xs)
abbrev qsq27 : OB := some ⟨1, ((List.set (List.set zs (0 + Int.toNat j) a9) (0 + Int.toNat (j - 1)) a6).map cI)⟩
abbrev qsq28 : LS := (35, VI j) :: (52, .ref 0 1 (0 + Int.toNat (j - 1)) 0) :: (51, .ref 0 1 (0 + Int.toNat j) 0) :: (50, VI a6) :: (49, .ref 0 1 (0 + Int.toNat j) 0) :: (48, VI j) :: (47, .own 0 1 0 (List.length xs)) :: (46, VI a9) :: (45, .ref 0 1 (0 + Int.toNat (j - 1)) 0) :: (44, VI (j - 1)) :: (43, VI j) :: (42, .own 0 1 0 (List.length xs)) :: (41, VI (j - 1)) :: (40, VI j) :: (39, .own 0 1 0 (List.length xs)) :: (38, VI j) :: (37, .own 0 1 0 (List.length xs)) :: (34, .v (.bool true)) :: (qsq15 i xs)
abbrev qsq29 : LS := [(15, VI (i : Int)), (34, .v (.bool false)), (0, .own 0 1 0 (List.length xs)), (1, VI 0), (2, VI (List.length xs : Int)), (3, .fn 93 []), (9, VI j)]
abbrev qsq30 : LS := (8, VI ((i : Int) + 1)) :: (16, VI ((i : Int) + 1)) :: (qsq29 i j xs)
end
theorem isort_fi (xs : List Int) (hx : xs.length ≤ 12 ∧ (∀ w, w ∈ xs → 0 ≤ w ∧ w ≤ 100)) : Fi Tryd.prog 128 [.own 0 1 0 (List.length xs), VI 0, VI (List.length xs : Int), .fn 93 []] (look [some ⟨1, (xs.map cI)⟩]) 1 (.tup []) (look [some ⟨1, ((srtD xs).map cI)⟩]) 1 := by
 refine fV (m := [some ⟨1, (xs.map cI)⟩]) (m' := [some ⟨1, ((srtD xs).map cI)⟩]) F128_ok (of_decide_eq_true (by kernel_rfl)) ?_
 refine srl 3 [0, 1, 2, 3, 8] ⟨(qsq14 xs), [some ⟨1, (xs.map cI)⟩]⟩ ?_
 refine EL.block ?_
 refine EL.loopN (fun mM xX => ∃ (i : Nat) (ys : List Int), mM = xs.length - i ∧ (1 ≤ i ∧ (i ≤ xs.length ∨ i = 1) ∧ ys = (srtGo [] (xs.take i)).reverse ++ xs.drop i ∧ ∀ w, w ∈ ys → 0 ≤ w ∧ w ≤ 100) ∧ xX = ⟨(qsq15 i xs), [some ⟨1, (ys.map cI)⟩]⟩) (y := (fun (i : Nat) (ys : List Int) => (⟨(qsq15 i xs), [some ⟨1, (ys.map cI)⟩]⟩ : L3)) 1 xs) [0, 1, 2, 3, 8] [ut 0] [] (by kernel_rfl) ⟨pucI xs (by kernel_rfl), trivial⟩ ⟨1, xs, rfl, by exact ⟨by omega, .inr rfl, by cases xs <;> simp [srtGo, insR], hx.2⟩, rfl⟩ ?_
 rintro _ _ ⟨i, ys, rfl, hI1, rfl⟩
 obtain ⟨hi1, hi2, hy, hz⟩ := hI1
 refine EL.seq ?_
 refine srl 3 [0, 1, 2, 3, 8, 14] ⟨(14, .v (.bool (decide ((i : Int) < (List.length xs : Int))))) :: (qsq15 i xs), [some ⟨1, (ys.map cI)⟩]⟩ ?_
 cases h2 : (decide ((i : Int) < (List.length xs : Int)))
 have g2 := of_decide_eq_false h2
 have n2 : ¬ ((i) < (List.length xs)) := by omega
 refine cnF ?_
 refine EL.exit ?_
 refine tX ?_
 refine tX ?_
 refine iH ?_
 (have he : srtD xs = ys := (by rw [hy, List.take_of_length_le (by omega), List.drop_eq_nil_of_le (by omega)]; simp [srtD])); rw [he]
 refine ⟨.inl rfl, ⟨[], [some ⟨1, (ys.map cI)⟩]⟩, norm_le (live := []) (src := [ut 0]) (es := []) (by kernel_rfl) ⟨pucI ys (by kernel_rfl), trivial⟩, by kernel_rfl, rfl⟩
 have g2 := of_decide_eq_true h2
 have n2 : ((i) < (List.length xs)) := by omega
 refine cnT ?_
 refine skn ?_
 refine EL.seq ?_
 refine EL.block ?_
 refine srl 2 [0, 1, 2, 3, 8, 9] ⟨(9, VI (i : Int)) :: (qsq15 i xs), [some ⟨1, (ys.map cI)⟩]⟩ ?_
 refine EL.block ?_
 refine EL.loopN (fun mM xX => ∃ (j : Int) (zs : List Int), mM = j.toNat + 1 ∧ (0 ≤ j ∧ InsI xs i zs j.toNat ∧ ∀ w, w ∈ zs → 0 ≤ w ∧ w ≤ 100) ∧ xX = ⟨(qsq16 i j xs), [some ⟨1, (zs.map cI)⟩]⟩) (y := (fun (j : Int) (zs : List Int) => (⟨(qsq16 i j xs), [some ⟨1, (zs.map cI)⟩]⟩ : L3)) (i : Int) ys) [0, 1, 2, 3, 8, 9] [ut 0] [] (by kernel_rfl) ⟨pucI ys (by kernel_rfl), trivial⟩ ⟨(i : Int), ys, rfl, by exact ⟨by omega, by rw [hy]; exact InsI.start (by omega), hz⟩, rfl⟩ ?_
 rintro _ _ ⟨j, zs, rfl, hI3, rfl⟩
 obtain ⟨hj0, hI, hz⟩ := hI3
 have hIl := hI.len
 refine EL.seq ?_
 refine sdr 4 ⟨(21, .v (.bool (decide (j > 0)))) :: (20, .v (.bool (decide (j > 0)))) :: (19, VI 0) :: (18, VI j) :: (qsq16 i j xs), [some ⟨1, (zs.map cI)⟩]⟩ ?_
 cases h4 : (decide (j > 0))
 have g4 := of_decide_eq_false h4
 refine dwl 13 [0, 1, 2, 3, 8, 9, 34] ⟨(34, .v (.bool false)) :: (qsq16 i j xs), [some ⟨1, (zs.map cI)⟩]⟩ ?_
 refine cnF ?_
 refine EL.exit ?_
 refine tX ?_
 refine tX ?_
 refine iH ?_
 refine iN ?_
 refine tN ?_
 refine EL.reg0 ?_
 refine owr 3 ⟨(8, VI (IntKind.i64.wrap ((i : Int) + 1))) :: (16, VI (IntKind.i64.wrap ((i : Int) + 1))) :: (qsq29 i j xs), [some ⟨1, (zs.map cI)⟩]⟩ ?_
 have e16 := wr64 (n := (i : Int) + 1) (by omega)
 rw [e16]
 refine owe 0 ⟨(qsq30 i j xs), [some ⟨1, (zs.map cI)⟩]⟩ ?_
 refine tN ?_
 refine rE (live := [0, 1, 2, 3, 8]) (src := [ut 0]) (es := []) (y := (fun (i : Nat) (ys : List Int) => (⟨(qsq15 i xs), [some ⟨1, (ys.map cI)⟩]⟩ : L3)) (i + 1) zs) ?_ ⟨pucI zs (by kernel_rfl), trivial⟩ ?_ ⟨(i + 1), zs, rfl, ?_, rfl⟩
 kernel_rfl
 omega
 rotate_left
 have g4 := of_decide_eq_true h4
 refine dwr 3 ⟨(qsq17 i j xs), [some ⟨1, (zs.map cI)⟩]⟩ ?_
 obtain ⟨a6, ha6⟩ : ∃ y, zs[(j : Int).toNat]? = some y := idx_ex ⟨by omega, by first | omega | (simp; omega)⟩
 refine dw2 ⟨(25, .ref 0 1 (0 + Int.toNat j) 0) :: (qsq17 i j xs), [some ⟨1, (zs.map cI)⟩]⟩ (opE_iado (.s 23) (.s 24) 1 0 0 (List.length xs) .i64 j ⟨1, (zs.map cI)⟩ (by kernel_rfl) (by kernel_rfl) rfl rfl ⟨by omega, by first | omega | (simp; omega)⟩ (by kernel_rfl)) ?_
 refine dw2 ⟨(qsq18 a6 i j xs), [some ⟨1, (zs.map cI)⟩]⟩ (opE_ldoS cI zs none (.s 25) 0 1 (0 + Int.toNat j) 0 a6 (VI a6) (by kernel_rfl) (by kernel_rfl) rfl (by kernel_rfl) (by simpa using ha6) (by kernel_rfl)) ?_
 refine dwr 3 ⟨(29, VI (IntKind.i64.wrap (j - 1))) :: (qsq19 a6 i j xs), [some ⟨1, (zs.map cI)⟩]⟩ ?_
 have e8 := wr64 (n := j - 1) (by omega)
 rw [e8]
 obtain ⟨a9, ha9⟩ : ∃ y, zs[((j - 1) : Int).toNat]? = some y := idx_ex ⟨by omega, by first | omega | (simp; omega)⟩
 refine dw2 ⟨(qsq20 a6 i j xs), [some ⟨1, (zs.map cI)⟩]⟩ (opE_iado (.s 27) (.s 29) 1 0 0 (List.length xs) .i64 (j - 1) ⟨1, (zs.map cI)⟩ (by kernel_rfl) (by kernel_rfl) rfl rfl ⟨by omega, by first | omega | (simp; omega)⟩ (by kernel_rfl)) ?_
 refine dw2 ⟨(31, VI a9) :: (qsq20 a6 i j xs), [some ⟨1, (zs.map cI)⟩]⟩ (opE_ldoS cI zs none (.s 30) 0 1 (0 + Int.toNat (j - 1)) 0 a9 (VI a9) (by kernel_rfl) (by kernel_rfl) rfl (by kernel_rfl) (by simpa using ha9) (by kernel_rfl)) ?_
 refine dwg [VI a6, VI a9] ⟨(32, VI (a9 - a6)) :: (31, VI a9) :: (qsq20 a6 i j xs), [some ⟨1, (zs.map cI)⟩]⟩ (hcmp_fn a6 a9 (by exact ⟨hz _ (List.mem_of_getElem? (by assumption)), hz _ (List.mem_of_getElem? (by assumption))⟩)) ?_
 refine dwl 2 [0, 1, 2, 3, 8, 9, 34] ⟨(34, .v (.bool (decide ((a9 - a6) < 0)))) :: (qsq16 i j xs), [some ⟨1, (zs.map cI)⟩]⟩ ?_
 cases h10 : (decide ((a9 - a6) < 0))
 have g10 := of_decide_eq_false h10
 refine cnF ?_
 refine EL.exit ?_
 refine tX ?_
 refine tX ?_
 refine iH ?_
 refine iN ?_
 refine tN ?_
 refine EL.reg0 ?_
 refine owr 3 ⟨(8, VI (IntKind.i64.wrap ((i : Int) + 1))) :: (16, VI (IntKind.i64.wrap ((i : Int) + 1))) :: (qsq29 i j xs), [some ⟨1, (zs.map cI)⟩]⟩ ?_
 have e15 := wr64 (n := (i : Int) + 1) (by omega)
 rw [e15]
 refine owe 0 ⟨(qsq30 i j xs), [some ⟨1, (zs.map cI)⟩]⟩ ?_
 refine tN ?_
 refine rE (live := [0, 1, 2, 3, 8]) (src := [ut 0]) (es := []) (y := (fun (i : Nat) (ys : List Int) => (⟨(qsq15 i xs), [some ⟨1, (ys.map cI)⟩]⟩ : L3)) (i + 1) zs) ?_ ⟨pucI zs (by kernel_rfl), trivial⟩ ?_ ⟨(i + 1), zs, rfl, ?_, rfl⟩
 kernel_rfl
 omega
 rotate_left
 have g10 := of_decide_eq_true h10
 refine cnT ?_
 refine skn ?_
 refine EL.seq ?_
 refine EL.block ?_
 refine EL.draw0 ?_
 refine dwr 8 ⟨(44, VI (IntKind.i64.wrap (j - 1))) :: (43, VI j) :: (42, .own 0 1 0 (List.length xs)) :: (41, VI (IntKind.i64.wrap (j - 1))) :: (qsq21 i j xs), [some ⟨1, (zs.map cI)⟩]⟩ ?_
 have e12 := wr64 (n := j - 1) (by omega)
 rw [e12]
 refine dw2 ⟨(qsq22 i j xs), [some ⟨1, (zs.map cI)⟩]⟩ (opE_iado (.s 42) (.s 44) 1 0 0 (List.length xs) .i64 (j - 1) ⟨1, (zs.map cI)⟩ (by kernel_rfl) (by kernel_rfl) rfl rfl ⟨by omega, by first | omega | (simp; omega)⟩ (by kernel_rfl)) ?_
 refine dw2 ⟨(46, VI a9) :: (qsq22 i j xs), [some ⟨1, (zs.map cI)⟩]⟩ (opE_ldoS cI zs none (.s 45) 0 1 (0 + Int.toNat (j - 1)) 0 a9 (VI a9) (by kernel_rfl) (by kernel_rfl) rfl (by kernel_rfl) (by simpa using ha9) (by kernel_rfl)) ?_
 refine dwr 2 ⟨(qsq23 a9 i j xs), [some ⟨1, (zs.map cI)⟩]⟩ ?_
 refine dw2 ⟨(49, .ref 0 1 (0 + Int.toNat j) 0) :: (qsq23 a9 i j xs), [some ⟨1, (zs.map cI)⟩]⟩ (opE_iado (.s 47) (.s 48) 1 0 0 (List.length xs) .i64 j ⟨1, (zs.map cI)⟩ (by kernel_rfl) (by kernel_rfl) rfl rfl ⟨by omega, by first | omega | (simp; omega)⟩ (by kernel_rfl)) ?_
 refine dw2 ⟨(qsq24 a6 a9 i j xs), [some ⟨1, (zs.map cI)⟩]⟩ (opE_ldoS cI zs none (.s 49) 0 1 (0 + Int.toNat j) 0 a6 (VI a6) (by kernel_rfl) (by kernel_rfl) rfl (by kernel_rfl) (by simpa using ha6) (by kernel_rfl)) ?_
 refine dw2 ⟨(51, .ref 0 1 (0 + Int.toNat j) 0) :: (qsq24 a6 a9 i j xs), [some ⟨1, (zs.map cI)⟩]⟩ (opE_iado (.s 37) (.s 38) 1 0 0 (List.length xs) .i64 j ⟨1, (zs.map cI)⟩ (by kernel_rfl) (by kernel_rfl) rfl rfl ⟨by omega, by first | omega | (simp; omega)⟩ (by kernel_rfl)) ?_
 refine dw2 ⟨(51, .ref 0 1 (0 + Int.toNat j) 0) :: (qsq24 a6 a9 i j xs), [(qsq25 a9 j zs)]⟩ (opE_stoS cI zs 1 (.s 51) (.s 46) 0 1 (0 + Int.toNat j) 0 a6 a9 (VI a9) (by kernel_rfl) (by kernel_rfl) rfl rfl (by kernel_rfl) (by simpa using ha6) (by kernel_rfl) (by kernel_rfl)) ?_
 obtain ⟨a13, ha13⟩ : ∃ y, (List.set zs (0 + Int.toNat j) a9)[((j - 1) : Int).toNat]? = some y := idx_ex ⟨by omega, by first | omega | (simp; omega)⟩
 refine dw2 ⟨(qsq26 a6 a9 i j xs), [(qsq25 a9 j zs)]⟩ (opE_iado (.s 39) (.s 41) 1 0 0 (List.length xs) .i64 (j - 1) ⟨1, ((List.set zs (0 + Int.toNat j) a9).map cI)⟩ (by kernel_rfl) (by kernel_rfl) rfl rfl ⟨by omega, by first | omega | (simp; omega)⟩ (by kernel_rfl)) ?_
 refine dw2 ⟨(qsq26 a6 a9 i j xs), [(qsq27 a6 a9 j zs)]⟩ (opE_stoS cI (List.set zs (0 + Int.toNat j) a9) 1 (.s 52) (.s 50) 0 1 (0 + Int.toNat (j - 1)) 0 a13 a6 (VI a6) (by kernel_rfl) (by kernel_rfl) rfl rfl (by kernel_rfl) (by simpa using ha13) (by kernel_rfl) (by kernel_rfl)) ?_
 refine dwe 0 ⟨(qsq26 a6 a9 i j xs), [(qsq27 a6 a9 j zs)]⟩ ?_
 refine iN ?_
 refine tN ?_
 refine EL.reg0 ?_
 refine owr 3 ⟨(9, VI (IntKind.i64.wrap (j - 1))) :: (36, VI (IntKind.i64.wrap (j - 1))) :: (qsq28 a6 a9 i j xs), [(qsq27 a6 a9 j zs)]⟩ ?_
 have e14 := wr64 (n := j - 1) (by omega)
 rw [e14]
 refine owe 0 ⟨(9, VI (j - 1)) :: (36, VI (j - 1)) :: (qsq28 a6 a9 i j xs), [(qsq27 a6 a9 j zs)]⟩ ?_
 refine tN ?_
 refine rE (live := [0, 1, 2, 3, 8, 9]) (src := [ut 0]) (es := []) (y := (fun (j : Int) (zs : List Int) => (⟨(qsq16 i j xs), [some ⟨1, (zs.map cI)⟩]⟩ : L3)) (j - 1) (List.set (List.set zs (0 + Int.toNat j) a9) (0 + Int.toNat (j - 1)) a6)) ?_ ⟨pucI (List.set (List.set zs (0 + Int.toNat j) a9) (0 + Int.toNat (j - 1)) a6) (by kernel_rfl), trivial⟩ ?_ ⟨(j - 1), (List.set (List.set zs (0 + Int.toNat j) a9) (0 + Int.toNat (j - 1)) a6), rfl, ?_, rfl⟩
 kernel_rfl
 omega
 focus ((simp only [Nat.zero_add] at *; have e9 : (j - 1).toNat = j.toNat - 1 := (by omega); rw [e9] at ha9 ⊢; exact ⟨by omega, hI.swap (by omega) ha6 ha9 (by omega), mem_set2 hz (hz _ (List.mem_of_getElem? ha6)) (hz _ (List.mem_of_getElem? ha9))⟩))
 all_goals ((refine ⟨by omega, .inl (by omega), hI.done ?_, hz⟩; first | (left; omega) | (right; exact ⟨_, _, ha6, by rw [← show (j - 1).toNat = j.toNat - 1 by omega]; exact ha9, by omega⟩)))
section
variable (lim : Int) (xs : List Int)
abbrev qsq31 : LS := [(10, .v (.bool true)), (0, .own 0 1 0 (List.length xs)), (1, VI 0), (2, VI (List.length xs : Int)), (3, VI lim), (4, .fn 93 [])]
abbrev qsq32 : LS := (22, VI 0) :: (21, VI (List.length xs : Int)) :: (11, .v (.bool true)) :: (qsq31 lim xs)
abbrev qsq33 : LS := (12, VI ((List.length xs : Int) - 0)) :: (11, .v (.bool true)) :: (qsq31 lim xs)
abbrev qsq34 : LS := (29, .fn 93 []) :: (28, VI (List.length xs : Int)) :: (27, VI 0) :: (26, .own 0 1 0 (List.length xs)) :: (25, .v (.bool true)) :: (qsq33 lim xs)
abbrev qsq35 : LB := [some ⟨1, ((srtD xs).map cI)⟩]
end
theorem pdq_fi (xs : List Int) (lim : Int) (hx : xs.length ≤ 12 ∧ (∀ w, w ∈ xs → 0 ≤ w ∧ w ≤ 100)) : Fi Tryd.prog 117 [.own 0 1 0 (List.length xs), VI 0, VI (List.length xs : Int), VI lim, .fn 93 []] (look [some ⟨1, (xs.map cI)⟩]) 1 (.tup []) (look [some ⟨1, ((srtD xs).map cI)⟩]) 1 := by
 have hle : decide (((List.length xs : Int) - 0) ≤ 12) = true := (by simp; omega)
 refine fV (m := [some ⟨1, (xs.map cI)⟩]) (m' := [some ⟨1, ((srtD xs).map cI)⟩]) F117_ok (of_decide_eq_true (by kernel_rfl)) ?_
 refine srl 1 [0, 1, 2, 3, 4, 10] ⟨(qsq31 lim xs), [some ⟨1, (xs.map cI)⟩]⟩ ?_
 refine srl 1 [0, 1, 2, 3, 4, 10, 11] ⟨(11, .v (.bool true)) :: (qsq31 lim xs), [some ⟨1, (xs.map cI)⟩]⟩ ?_
 refine EL.block ?_
 refine EL.unroll 1 ?_
 refine JU.step ?_
 refine EL.block ?_
 refine srr 4 ⟨(12, VI (IntKind.i64.wrap ((List.length xs : Int) - 0))) :: (23, VI (IntKind.i64.wrap ((List.length xs : Int) - 0))) :: (qsq32 lim xs), [some ⟨1, (xs.map cI)⟩]⟩ ?_
 have e1 := wr64 (n := (List.length xs : Int) - 0) (by omega)
 rw [e1]
 refine owl 0 [0, 1, 2, 3, 4, 10, 11, 12] ⟨(qsq33 lim xs), [some ⟨1, (xs.map cI)⟩]⟩ ?_
 refine EL.seq ?_
 refine srl 2 [0, 1, 2, 3, 4, 10, 11, 12, 25] ⟨(25, .v (.bool (decide (((List.length xs : Int) - 0) ≤ 12)))) :: (qsq33 lim xs), [some ⟨1, (xs.map cI)⟩]⟩ ?_
 rw [hle]
 refine cnT ?_
 refine srr 4 ⟨(qsq34 lim xs), [some ⟨1, (xs.map cI)⟩]⟩ ?_
 refine owj [.own 0 1 0 (List.length xs), VI 0, VI (List.length xs : Int), .fn 93 []] (.tup []) (qsq35 xs) ⟨(30, .tup []) :: (qsq34 lim xs), (qsq35 xs)⟩ (isort_fi xs hx) ?_
 refine owl 0 [] ⟨[], (qsq35 xs)⟩ ?_
 refine rtr ?_
 refine iR ?_
 refine tR ?_
 refine iR ?_
 exact fne [] [ut 0] ⟨[], (qsq35 xs)⟩ ⟨pucI (srtD xs) (by kernel_rfl), trivial⟩
section
variable (x : U64)
abbrev qsq36 : LS := [(7, VI (len64 x.n : Int)), (6, .v (.int .u64 (x.n : Int))), (0, .v (.int .u64 (x.n : Int)))]
end
theorem len_fn (x : U64) : Fn Tryd.prog 118 [.v (.int .u64 (x.n : Int))] (VI (len64 x.n : Int)) := by
 refine fnw F118_ok ?_
 refine srl 1 [0] ⟨[(0, .v (.int .u64 (x.n : Int)))], []⟩ ?_
 refine EL.seq ?_
 refine cnF ?_
 refine skn ?_
 refine srr 1 ⟨[(6, .v (.int .u64 (x.n : Int))), (0, .v (.int .u64 (x.n : Int)))], []⟩ ?_
 refine owg [.v (.int .u64 (x.n : Int))] ⟨(qsq36 x), []⟩ (len64_fn x) ?_
 refine owl 1 [2] ⟨[(2, VI (len64 x.n : Int))], []⟩ ?_
 refine EL.ret ?_
 refine rqe (VI (len64 x.n : Int)) ?_
 focus (rfl)
theorem lenW_fn (z : Nat) (h : z < 18446744073709551616) : Fn Tryd.prog 118 [.v (.int .u64 (z : Int))] (VI (len64 z : Int)) := len_fn ⟨z, h⟩
section
variable (xs : List Int)
abbrev qsq37 : LS := [(4, VI (List.length xs : Int)), (0, .own 0 1 0 (List.length xs)), (1, .fn 93 [])]
abbrev qsq38 : LS := (9, VI (List.length xs : Int)) :: (8, VI (List.length xs : Int)) :: (7, .own 0 1 0 (List.length xs)) :: (qsq37 xs)
abbrev qsq39 : LS := (11, VI (len64 (List.length xs) : Int)) :: (10, .v (.int .u64 (List.length xs : Int))) :: (qsq38 xs)
end
theorem sort_fi (xs : List Int) (hx : xs.length ≤ 12 ∧ (∀ w, w ∈ xs → 0 ≤ w ∧ w ≤ 100)) : Fi Tryd.prog 92 [.own 0 1 0 (List.length xs), .fn 93 []] (look [some ⟨1, (xs.map cI)⟩]) 1 (.tup []) (look [some ⟨1, ((srtD xs).map cI)⟩]) 1 := by
 refine fV (m := [some ⟨1, (xs.map cI)⟩]) (m' := [some ⟨1, ((srtD xs).map cI)⟩]) F92_ok (of_decide_eq_true (by kernel_rfl)) ?_
 refine srl 3 [0, 1, 4] ⟨(qsq37 xs), [some ⟨1, (xs.map cI)⟩]⟩ ?_
 refine EL.reg0 ?_
 refine owr 4 ⟨(10, .v (.int .u64 (IntKind.u64.wrap ((List.length xs : Int))))) :: (qsq38 xs), [some ⟨1, (xs.map cI)⟩]⟩ ?_
 have e1 : IntKind.u64.wrap ((List.length xs : Int)) = (List.length xs : Int) := wru64 (by omega)
 rw [e1]
 refine owg [.v (.int .u64 (List.length xs : Int))] ⟨(qsq39 xs), [some ⟨1, (xs.map cI)⟩]⟩ (lenW_fn (List.length xs) (by omega)) ?_
 refine owr 1 ⟨(12, .fn 93 []) :: (qsq39 xs), [some ⟨1, (xs.map cI)⟩]⟩ ?_
 refine owj [.own 0 1 0 (List.length xs), VI 0, VI (List.length xs : Int), VI (len64 (List.length xs) : Int), .fn 93 []] (.tup []) (qsq35 xs) ⟨(13, .tup []) :: (12, .fn 93 []) :: (qsq39 xs), (qsq35 xs)⟩ (pdq_fi xs (len64 (List.length xs) : Int) hx) ?_
 refine owe 0 ⟨(13, .tup []) :: (12, .fn 93 []) :: (qsq39 xs), (qsq35 xs)⟩ ?_
 refine ⟨.inl rfl, ⟨[], (qsq35 xs)⟩, norm_le (live := []) (src := [ut 0]) (es := []) (by kernel_rfl) ⟨pucI (srtD xs) (by kernel_rfl), trivial⟩, by kernel_rfl, rfl⟩
section
variable (xs : List Int)
abbrev qsq40 : LS := [(4, .anyb), (3, .lst 1 (xs.map cI)), (0, .lst 1 (xs.map cI))]
abbrev qsq41 : LS := [(4, .v (.bool false)), (3, .lst 1 (xs.map cI)), (0, .lst 1 (xs.map cI))]
abbrev qsq42 : LS := [(6, .lst 1 (xs.map cI)), (5, .own 0 1 0 0), (0, .lst 1 (xs.map cI))]
end
theorem clone_fos (xs : List Int) (hx : xs.length ≤ 1000000) : Fo Tryd.prog 36 [.lst 1 (xs.map cI)] 1 (xs.map cI) := by
 refine fo_of ?_
 rw [List.length_map]
 refine fV (m := []) (m' := [some ⟨1, (xs.map cI)⟩]) F36_ok (of_decide_eq_true (by kernel_rfl)) ?_
 refine srl 1 [0] ⟨[(0, .lst 1 (xs.map cI))], []⟩ ?_
 refine EL.seqG [0] (fun y => (y = ⟨[(0, .lst 1 (xs.map cI))], []⟩ ∧ ((List.isEmpty xs = true) ∨ (List.isEmpty xs = false)))) ?_ ?_
 intro IHJ1 HJ1
 refine srr 1 ⟨[(3, .lst 1 (xs.map cI)), (0, .lst 1 (xs.map cI))], []⟩ ?_
 cases h2 : (List.isEmpty xs)
 refine ow2 ⟨(qsq41 xs), []⟩ (opE_isn_ne cI xs (.s 3) 1 false (by kernel_rfl) (by kernel_rfl) (.inl rfl) h2) ?_
 refine owl 0 [0, 4] ⟨[(4, .v (.bool false)), (0, .lst 1 (xs.map cI))], []⟩ ?_
 refine cnF ?_
 refine EL.skip ?_
 exact tN (HJ1.get ⟨by kernel_rfl, (Or.inr (by first | exact g2 | exact h2 | simp_all | omega))⟩)
 refine ow2 ⟨(qsq40 xs), []⟩ (opE_isn_any cI xs (.s 3) 1 false (by kernel_rfl) (by kernel_rfl) (.inl rfl) h2) ?_
 refine owl 0 [0, 4] ⟨[(4, .anyb), (0, .lst 1 (xs.map cI))], []⟩ ?_
 refine EL.condAny (by kernel_rfl) ?_ ?_
 refine srl 1 [2] ⟨[(2, .emp)], []⟩ ?_
 refine rtr ?_
 refine ⟨.inr rfl, ⟨[(2, .own 0 1 0 (List.length xs))], [some ⟨1, (xs.map cI)⟩]⟩, norm_le (live := [2]) (src := [.new 1]) (es := [(2, 0)]) (by rw [List.isEmpty_iff.1 h2]; kernel_rfl) trivial, by kernel_rfl, rfl⟩
 refine EL.skip ?_
 exact tN (HJ1.get ⟨by kernel_rfl, (Or.inl (by first | exact g2 | exact h2 | simp_all | omega))⟩)
 rintro _ (⟨rfl, hD3⟩)
 refine srr 2 ⟨(qsq42 xs), [some ⟨1, []⟩]⟩ ?_
 refine ow2 ⟨(7, .own 1 1 0 (List.length xs)) :: (qsq42 xs), [none, some ⟨1, (xs.map cI)⟩]⟩ (oap cI ([] : List Int) xs (.s 5) (.s 6) 1 8 0 (.lst 1 (xs.map cI)) .lst (by simp; omega)) ?_
 refine owl 1 [2] ⟨[(2, .own 1 1 0 (List.length xs))], [none, some ⟨1, (xs.map cI)⟩]⟩ ?_
 refine EL.ret ?_
 exact fne [2] [ut 1] ⟨[(2, .own 0 1 0 (List.length xs))], [some ⟨1, (xs.map cI)⟩]⟩ ⟨pucI xs (by kernel_rfl), trivial⟩
theorem hvG_zero {l : List Int} {d : Int} (h : d ≤ 0) : hvG l d = 0 := by
  cases l with
  | nil => rfl
  | cons a r => simp only [hvG, if_pos h]
theorem lsum_drop {l : List Int} {k : Nat} (h : 0 < lsum (l.drop k)) : k < l.length := by
  by_cases hk : k < l.length
  · exact hk
  · rw [List.drop_eq_nil_of_le (by omega)] at h; simp [lsum] at h
section
variable (a4 : Int) (d : Int) (k : Nat) (need : Int) (ws : List Int)
abbrev qsq43 : LS := [(7, .lst 1 (ws.map cI)), (0, .lst 1 (ws.map cI)), (1, VI need)]
abbrev qsq44 : LS := [(9, .own 0 1 0 (List.length ws)), (5, .own 0 1 0 (List.length ws)), (1, VI need)]
abbrev qsq45 : LB := [some ⟨1, ((srtD ws).map cI)⟩]
abbrev qsq46 : LS := [(6, VI 0), (5, .own 0 1 0 (List.length ws)), (1, VI need)]
abbrev qsq47 : LS := [(1, VI d), (5, .own 0 1 0 (List.length ws)), (6, VI (k : Int))]
abbrev qsq48 : LS := (15, VI (k : Int)) :: (14, .own 0 1 0 (List.length ws)) :: (13, VI d) :: (12, .v (.bool true)) :: (qsq47 d k ws)
abbrev qsq49 : LS := (16, .ref 0 1 (0 + Int.toNat (k : Int)) 0) :: (qsq48 d k ws)
abbrev qsq50 : LS := [(17, VI a4), (16, .ref 0 1 (0 + Int.toNat (k : Int)) 0), (15, VI (k : Int)), (14, .own 0 1 0 (List.length ws)), (13, VI d), (12, .v (.bool true)), (5, .own 0 1 0 (List.length ws)), (6, VI (k : Int))]
abbrev qsq51 : LS := [(1, VI (d - a4)), (5, .own 0 1 0 (List.length ws)), (6, VI (k : Int))]
abbrev qsq52 : LS := [(19, VI (k : Int)), (1, VI (d - a4)), (5, .own 0 1 0 (List.length ws))]
abbrev qsq53 : LS := (6, VI ((k : Int) + 1)) :: (20, VI ((k : Int) + 1)) :: (qsq52 a4 d k ws)
end
theorem heaviest_fn (ws : List Int) (need : Int) (hw : (nodesP ws).2 = 0) (hn : 1 ≤ need ∧ need ≤ lsum ws) : Fn Tryd.prog 60 [.lst 1 (ws.map cI), VI need] (VI (heavyP ws need : Int)) := by
 have hnb := nodes_bd hw
 have hns := nodes_sum hw
 have hlen : ws.length ≤ 12 := hnb.2.2.2.1
 have hw : ∀ w, w ∈ ws → 0 ≤ w ∧ w ≤ 100 := hnb.2.2.2.2
 have hsl := srtD_len ws
 have hms : ∀ w, w ∈ srtD ws → 0 ≤ w ∧ w ≤ 100 := fun w h => hw w ((srtD_perm ws).mem_iff.1 h)
 refine fnw F60_ok ?_
 refine srl 1 [0, 1] ⟨[(0, .lst 1 (ws.map cI)), (1, VI need)], []⟩ ?_
 refine srr 1 ⟨(qsq43 need ws), []⟩ ?_
 refine OW.fo (ar := [.lst 1 (ws.map cI)]) (fe := cI) (xs := ws) (x' := ⟨(8, .own 0 1 0 (List.length ws)) :: (qsq43 need ws), [some ⟨1, (ws.map cI)⟩]⟩) (by kernel_rfl) (by kernel_rfl) F36_call (clone_fos ws (by omega)) (by intro y; kernel_rfl) (by kernel_rfl) (by kernel_rfl) ?_
 refine owl 1 [1, 5] ⟨[(5, .own 0 1 0 (List.length ws)), (1, VI need)], [some ⟨1, (ws.map cI)⟩]⟩ ?_
 refine srr 1 ⟨(qsq44 need ws), [some ⟨1, (ws.map cI)⟩]⟩ ?_
 refine owj [.own 0 1 0 (List.length ws), .fn 93 []] (.tup []) (qsq45 ws) ⟨(10, .tup []) :: (qsq44 need ws), (qsq45 ws)⟩ (sort_fi ws (by exact ⟨by omega, hw⟩)) ?_
 refine owl 0 [1, 5] ⟨[(5, .own 0 1 0 (List.length ws)), (1, VI need)], (qsq45 ws)⟩ ?_
 refine srl 1 [1, 5, 6] ⟨(qsq46 need ws), (qsq45 ws)⟩ ?_
 refine EL.seq ?_
 refine EL.block ?_
 refine EL.loopN (fun mM xX => ∃ (k : Nat) (d : Int), mM = ws.length - k ∧ (k ≤ ws.length ∧ hvG (srtD ws) need = k + hvG ((srtD ws).drop k) d ∧ d ≤ lsum ((srtD ws).drop k) ∧ -100 ≤ d ∧ d ≤ 1200) ∧ xX = ⟨(qsq47 d k ws), (qsq45 ws)⟩) (y := (fun (k : Nat) (d : Int) => (⟨(qsq47 d k ws), (qsq45 ws)⟩ : L3)) 0 need) [1, 5, 6] [ut 0] [] (by kernel_rfl) ⟨pucI (srtD ws) (by kernel_rfl), trivial⟩ ⟨0, need, rfl, by rw [List.drop_zero, lsum_perm (srtD_perm ws)]; exact ⟨by omega, by omega, by omega, by omega, by omega⟩, rfl⟩ ?_
 rintro _ _ ⟨k, d, rfl, hI1, rfl⟩
 obtain ⟨hk, hs, hd, hd1, hd2⟩ := hI1
 have hkl := lsum_drop (l := srtD ws) (k := k)
 refine EL.seq ?_
 refine srl 2 [1, 5, 6, 12] ⟨(12, .v (.bool (decide (d > 0)))) :: (qsq47 d k ws), (qsq45 ws)⟩ ?_
 cases h2 : (decide (d > 0))
 have g2 := of_decide_eq_false h2
 refine cnF ?_
 refine EL.exit ?_
 refine tX ?_
 refine tX ?_
 refine iH ?_
 refine tN ?_
 refine srl 2 [4] ⟨[(4, VI (k : Int))], (qsq45 ws)⟩ ?_
 refine EL.ret ?_
 refine rqe (VI (k : Int)) ?_
 focus ((refine congrArg (fun n => VI n) ?_; rw [hvG_zero (l := (srtD ws).drop k) (d := d) (by omega)] at hs; unfold heavyP; omega))
 have g2 := of_decide_eq_true h2
 refine cnT ?_
 refine skn ?_
 refine EL.block ?_
 refine srr 3 ⟨(qsq48 d k ws), (qsq45 ws)⟩ ?_
 obtain ⟨a4, ha4⟩ : ∃ y, (srtD ws)[((k : Int) : Int).toNat]? = some y := idx_ex ⟨by omega, by have := lsum_drop (l := srtD ws) (k := k) (by omega); omega⟩
 have iha4 : (srtD ws)[k]? = some a4 := by simpa using ha4
 have dha4 := drop_get iha4
 have ma4 := hms _ (List.mem_of_getElem? ha4)
 refine ow2 ⟨(qsq49 d k ws), (qsq45 ws)⟩ (opE_iado (.s 14) (.s 15) 1 0 0 (List.length ws) .i64 (k : Int) ⟨1, ((srtD ws).map cI)⟩ (by kernel_rfl) (by kernel_rfl) rfl rfl ⟨by omega, by have := lsum_drop (l := srtD ws) (k := k) (by omega); omega⟩ (by kernel_rfl)) ?_
 refine ow2 ⟨(17, VI a4) :: (qsq49 d k ws), (qsq45 ws)⟩ (opE_ldoS cI (srtD ws) none (.s 16) 0 1 (0 + Int.toNat (k : Int)) 0 a4 (VI a4) (by kernel_rfl) (by kernel_rfl) rfl (by kernel_rfl) (by simpa using ha4) (by kernel_rfl)) ?_
 refine owr 2 ⟨(1, VI (IntKind.i64.wrap (d - a4))) :: (18, VI (IntKind.i64.wrap (d - a4))) :: (qsq50 a4 d k ws), (qsq45 ws)⟩ ?_
 have e5 := wr64 (n := d - a4) (by omega)
 rw [e5]
 refine owl 0 [1, 5, 6] ⟨(qsq51 a4 d k ws), (qsq45 ws)⟩ ?_
 refine EL.reg0 ?_
 refine owr 3 ⟨(6, VI (IntKind.i64.wrap ((k : Int) + 1))) :: (20, VI (IntKind.i64.wrap ((k : Int) + 1))) :: (qsq52 a4 d k ws), (qsq45 ws)⟩ ?_
 have e6 := wr64 (n := (k : Int) + 1) (by omega)
 rw [e6]
 refine owe 0 ⟨(qsq53 a4 d k ws), (qsq45 ws)⟩ ?_
 refine iN ?_
 refine tN ?_
 refine rE (live := [1, 5, 6]) (src := [ut 0]) (es := []) (y := (fun (k : Nat) (d : Int) => (⟨(qsq47 d k ws), (qsq45 ws)⟩ : L3)) (k + 1) (d - a4)) ?_ ⟨pucI (srtD ws) (by kernel_rfl), trivial⟩ ?_ ⟨(k + 1), (d - a4), rfl, ?_, rfl⟩
 kernel_rfl
 omega
 focus ((have hk2 := hkl (by omega); rw [‹(srtD ws).drop k = _›, hvG, if_neg (by omega)] at hs; rw [‹(srtD ws).drop k = _›, lsum] at hd; exact ⟨by omega, by omega, by omega, by omega, by omega⟩))
def spareP (ws : List Int) (need : Int) : Int × Int := if qcheckP ws need ≠ 0 then (0, qcheckP ws need) else ((heavyP ws (lsum ws - need + 1) : Int) - 1, 0)
section
variable (need : Int) (ws : List Int)
abbrev qsq54 : LS := [(10, VI need), (9, .lst 1 (ws.map cI)), (0, .lst 1 (ws.map cI)), (1, VI need)]
abbrev qsq55 : LS := [(6, VI (qcheckP ws need)), (0, .lst 1 (ws.map cI)), (1, VI need)]
abbrev qsq56 : LS := (16, .lst 1 (ws.map cI)) :: (13, .v (.bool false)) :: (qsq55 need ws)
abbrev qsq57 : LS := (17, .tup [VI ((nodesP ws).1), VI ((nodesP ws).2)]) :: (qsq56 need ws)
abbrev qsq58 : LS := [(7, VI ((nodesP ws).1)), (0, .lst 1 (ws.map cI)), (1, VI need)]
abbrev qsq59 : LS := (22, VI need) :: (21, VI ((nodesP ws).1)) :: (20, .lst 1 (ws.map cI)) :: (qsq58 need ws)
abbrev qsq60 : LS := (25, VI (heavyP ws ((((nodesP ws).1) - need) + 1) : Int)) :: (24, VI ((((nodesP ws).1) - need) + 1)) :: (23, VI (((nodesP ws).1) - need)) :: (qsq59 need ws)
end
theorem spare_fn (ws : List Int) (need : Int) (hx : ws.length ≤ 9223372036854775807) : Fn Tryd.prog 32 [.lst 1 (ws.map cI), VI need] (.tup [VI ((spareP ws need).1), VI ((spareP ws need).2)]) := by
 refine fnw F32_ok ?_
 refine srl 2 [0, 1] ⟨[(0, .lst 1 (ws.map cI)), (1, VI need)], []⟩ ?_
 refine EL.seq ?_
 refine srr 2 ⟨(qsq54 need ws), []⟩ ?_
 refine owg [.lst 1 (ws.map cI), VI need] ⟨(11, VI (qcheckP ws need)) :: (qsq54 need ws), []⟩ (qcheck_fn ws need (by first | omega | (simp; omega))) ?_
 refine owl 1 [0, 1, 6] ⟨(qsq55 need ws), []⟩ ?_
 refine srl 2 [0, 1, 6, 13] ⟨(13, .v (.bool ((qcheckP ws need) != 0))) :: (qsq55 need ws), []⟩ ?_
 cases h1 : ((qcheckP ws need) != 0)
 have g1 := bnF h1
 refine cnF ?_
 refine skn ?_
 refine srr 1 ⟨(qsq56 need ws), []⟩ ?_
 refine owg [.lst 1 (ws.map cI)] ⟨(qsq57 need ws), []⟩ (nodes_fn ws (by first | omega | (simp; omega))) ?_
 refine owl 5 [0, 1, 7] ⟨(qsq58 need ws), []⟩ ?_
 refine srr 5 ⟨(24, VI (IntKind.i64.wrap ((IntKind.i64.wrap (((nodesP ws).1) - need)) + 1))) :: (23, VI (IntKind.i64.wrap (((nodesP ws).1) - need))) :: (qsq59 need ws), []⟩ ?_
 have e2 := wr64 (n := ((nodesP ws).1) - need) (by have h9 := qc_need (by assumption); have h8 := nodes_sum (qc_nodes (by assumption)); first | omega | (have h7 := hvG_le (srtD ws) (lsum ws - need + 1); have h6 := srtD_len ws; have h5 : heavyP ws (lsum ws - need + 1) = hvG (srtD ws) (lsum ws - need + 1) := rfl; rw [h8] at *; omega))
 rw [e2]
 have e3 := wr64 (n := (((nodesP ws).1) - need) + 1) (by have h9 := qc_need (by assumption); have h8 := nodes_sum (qc_nodes (by assumption)); first | omega | (have h7 := hvG_le (srtD ws) (lsum ws - need + 1); have h6 := srtD_len ws; have h5 : heavyP ws (lsum ws - need + 1) = hvG (srtD ws) (lsum ws - need + 1) := rfl; rw [h8] at *; omega))
 rw [e3]
 refine owg [.lst 1 (ws.map cI), VI ((((nodesP ws).1) - need) + 1)] ⟨(qsq60 need ws), []⟩ (heaviest_fn ws ((((nodesP ws).1) - need) + 1) (qc_nodes (by assumption)) (by have h9 := qc_need (by assumption); have h8 := nodes_sum (qc_nodes (by assumption)); omega)) ?_
 refine owr 3 ⟨(5, VI 0) :: (4, VI (IntKind.i64.wrap ((heavyP ws ((((nodesP ws).1) - need) + 1) : Int) - 1))) :: (26, VI (IntKind.i64.wrap ((heavyP ws ((((nodesP ws).1) - need) + 1) : Int) - 1))) :: (qsq60 need ws), []⟩ ?_
 have e4 := wr64 (n := (heavyP ws ((((nodesP ws).1) - need) + 1) : Int) - 1) (by have h9 := qc_need (by assumption); have h8 := nodes_sum (qc_nodes (by assumption)); first | omega | (have h7 := hvG_le (srtD ws) (lsum ws - need + 1); have h6 := srtD_len ws; have h5 : heavyP ws (lsum ws - need + 1) = hvG (srtD ws) (lsum ws - need + 1) := rfl; rw [h8] at *; omega))
 rw [e4]
 refine owl 0 [4, 5] ⟨[(5, VI 0), (4, VI ((heavyP ws ((((nodesP ws).1) - need) + 1) : Int) - 1))], []⟩ ?_
 refine EL.ret ?_
 refine rqe (.tup [VI ((heavyP ws ((((nodesP ws).1) - need) + 1) : Int) - 1), VI 0]) ?_
 rotate_left
 have g1 := bnT h1
 refine cnT ?_
 refine srl 3 [4, 5] ⟨[(5, VI (qcheckP ws need)), (4, VI 0)], []⟩ ?_
 refine rtr ?_
 refine rqe (.tup [VI 0, VI (qcheckP ws need)]) ?_
 rotate_left
 all_goals (first | (have hq : qcheckP ws need = 0 := (by assumption); have h9 := nodes_sum (qc_nodes hq); rw [spareP, if_neg (fun hh => hh hq), ← h9]; done) | (rw [spareP, if_pos (by assumption)]; done))
theorem hear_live2 {v : Vtr} {a : Ask} {m : Msg} (ha : a.checkE v.weights v.need = 0) (hm : m.checkE = 0) (hop : m.op = a.op) (hn : m.node < v.weights.length) (ht : (heardA a m).best.at_.time < 1000000) :
    (hearA v a m = (a, [], 0) ∧ (m.kind ≠ wantsA a.phase ∨ inS a.heard.n m.node.toNat = true)) ∨
    (m.kind = wantsA a.phase ∧
      ((hearA v a m = (heardA a m, [], 0) ∧ ¬ v.need ≤ bsum v.weights (heardA a m).heard.n) ∨
       (a.phase = 2 ∧ hearA v a m = (⟨a.op, a.kind, 3, a.data, (heardA a m).best, (heardA a m).heard⟩, [], 0)) ∨
       ∃ b : Copy, a.phase = 1 ∧ b.at_.time ≤ (heardA a m).best.at_.time + 1 ∧ hearA v a m = (⟨a.op, a.kind, 2, a.data, b, uN (Int.toNat 0)⟩, toAllM v.weights.length ⟨3, a.op, 0, b⟩, 0))) := by
  have h := ask_ok ha
  have hi := msg_in hm
  have hl := qc_len h.1
  have hh := heard_ok ha hm hn
  have hho := ask_ok hh
  have hw : m.kind = wantsA a.phase → a.phase = 1 ∨ a.phase = 2 := by unfold wantsA; intro h; split at h <;> first | omega | (split at h <;> omega)
  unfold hearA
  rw [if_neg (by omega), if_neg (by omega)]
  unfold hearT
  split
  · rename_i c1
    refine .inl ⟨rfl, ?_⟩
    by_cases h1 : m.kind = wantsA a.phase
    · right
      have h2 : ¬ ((opU .and a.heard (bitU m.node)).n : Int) = 0 := by
        rcases c1 with c | c | c | c
        · exact absurd hop c
        · exact absurd h1 c
        · omega
        · exact c
      rw [and_bit (by omega)] at h2
      simpa using h2
    · exact .inl h1
  · rename_i c1
    have c1' : m.kind = wantsA a.phase := by omega
    have hp := hw c1'
    refine .inr ⟨c1', ?_⟩
    split
    · rename_i c2
      refine .inl ⟨rfl, fun hc => c2 ((enough_iff h.1 hho.2.2.2.2.2.2.2).2 hc)⟩
    · right
      split
      · rename_i c3; exact .inl ⟨c3, rfl⟩
      · rename_i c3
        right
        split
        · exact ⟨_, by omega, by omega, rfl⟩
        · have hnx := next_fine (who := a.op) (copy_ok.1 hho.2.2.2.2.2.2.1).1 (by omega) ht
          rw [if_pos hnx]
          refine ⟨_, by omega, ?_, rfl⟩
          simp only [next_1 hnx]; omega
structure InvS (W : Nat → Prop) (c : Cluster) : Prop where
  tn : ∀ x, x ∈ c.nodes → x.at_.time ≤ c.clock
  ta : ∀ a, a ∈ c.asks → a.best.at_.time ≤ c.clock
  tm : ∀ m, m ∈ c.net → m.copy.at_.time ≤ c.clock
  few : ∀ (k : Nat) a, c.asks[k]? = some a → a.phase ≠ 3 → ¬ c.voters.need ≤ bsum c.voters.weights a.heard.n
  go : ∀ (k : Nat) a, c.asks[k]? = some a → a.phase ≠ 3 → ∀ n, W n → n < c.voters.weights.length → inS a.heard.n n = false → ∃ m : Msg, m ∈ c.net ∧ m.op = k ∧ m.node = n ∧ (m.kind = wantsA a.phase ∨ m.kind = wantsA a.phase - 1)
theorem invS_step {W : Nat → Prop} {c : Cluster} {x : Step} (hc : c.checkE = 0) (I : InvS W c) (h : (stepP c x).2 = 0) (hx : x.kind = 4 → ∀ n, W n → (gd Msg.nil c.net x.n.toNat).node ≠ n) : InvS W (stepP c x).1 := by
  have ok := Cluster.ok_iff.1 hc
  have hl := qc_len ok.q
  have hq := qc_need ok.q
  have hclk := ok.clk
  have hnl := ok.nl
  have htl := ok.tl
  obtain ⟨hk, ⟨kind, data, hkd, hal, hb, e, hn⟩ | ⟨m, h0, h1, hm, hmem, ⟨_, e, hn⟩ | ⟨h4, e⟩ | ⟨_, e, hn⟩⟩⟩ := step_cases hc h
  · obtain ⟨b1, b2⟩ := begin_ok hb
    have bo := ask_ok b2
    rw [e, b1]
    refine ⟨fun x hx => ?_, fun a ha => ?_, fun q hq => ?_, fun k a ha hp => ?_, fun k a ha hp n hwn hn hin => ?_⟩
    · have := I.tn x hx; simp only; omega
    · simp only at ha ⊢
      rcases List.mem_append.1 ha with ha | ha
      · have := I.ta a ha; omega
      · simp at ha; subst ha; simp only [Ask.new]; omega
    · simp only at hq ⊢
      rcases List.mem_append.1 hq with hq | hq
      · have := I.tm q hq; omega
      · obtain ⟨_, _, _, _, _, q6⟩ := toAll_ok (by omega) bo.2.1 (qc_len ok.q) (by decide) (.inr rfl) q hq
        rw [q6]; simp only; omega
    · rcases get_app ha with ⟨_, ha⟩ | ⟨_, rfl⟩
      · exact I.few k a ha hp
      · have : (Ask.new c.asks.length kind data).heard.n = 0 := rfl
        simp only; rw [this, bsum_0]; omega
    · rcases get_app ha with ⟨_, ha⟩ | ⟨hk, rfl⟩
      · obtain ⟨m, q1, q2⟩ := I.go k a ha hp n hwn hn hin
        exact ⟨m, List.mem_append_left _ q1, q2⟩
      · refine ⟨_, List.mem_append_right _ (toAll_mem (j := n) hn), by simp only; omega, rfl, ?_⟩
        right; rfl
  · rw [e]
    refine ⟨fun x hx => ?_, fun a ha => ?_, fun q hq => ?_, I.few, fun k a ha hp n hwn hn hin => ?_⟩
    · have := I.tn x hx; simp only; omega
    · have := I.ta a ha; simp only; omega
    · simp only at hq ⊢
      rcases List.mem_append.1 hq with hq | hq
      · have := I.tm q hq; omega
      · simp at hq; subst hq; have := I.tm q hmem; omega
    · obtain ⟨m, q1, q2⟩ := I.go k a ha hp n hwn hn hin
      exact ⟨m, List.mem_append_left _ q1, q2⟩
  · rw [e]
    have erase : ∀ q, q ∈ c.net → q ∈ c.net.eraseIdx x.n.toNat ∨ q = m := fun q hq => by rw [hm]; exact mem_erase_or hq
    refine ⟨fun x hx => ?_, fun a ha => ?_, fun q hq => ?_, I.few, fun k a ha hp n hwn hn hin => ?_⟩
    · have := I.tn x hx; simp only; omega
    · have := I.ta a ha; simp only; omega
    · have := I.tm q (mem_erase hq); simp only; omega
    · obtain ⟨q, q1, q2, q3, q4⟩ := I.go k a ha hp n hwn hn hin
      rcases erase q q1 with q5 | rfl
      · exact ⟨q, q5, q2, q3, q4⟩
      · exact absurd q3 (by rw [hm]; exact hx h4 n hwn)
  · rw [e]
    have om := ok.net m hmem
    have hi := msg_in om.1
    have tmm := I.tm m hmem
    have erase : ∀ q, q ∈ c.net → q ∈ c.net.eraseIdx x.n.toNat ∨ q = m := fun q hq => by rw [hm]; exact mem_erase_or hq
    unfold passC
    split
    · rename_i hp
      have hget := gd_get (d := Copy.nil) (xs := c.nodes) (i := m.node.toNat) (by omega)
      simp only
      generalize gd Copy.nil c.nodes m.node.toNat = nd at hget
      have hcn := ok.cop _ (List.mem_of_getElem? hget)
      have tnd := I.tn _ (List.mem_of_getElem? hget)
      have hs : (serveA nd m).1.at_.time ≤ c.clock ∧ (∀ q, q ∈ (serveA nd m).2.1 → q.copy.at_.time ≤ c.clock) ∧ ∃ q : Msg, q ∈ (serveA nd m).2.1 ∧ q.op = m.op ∧ q.node = m.node ∧ q.kind = m.kind + 1 := by
        unfold serveA
        rw [if_neg (by omega), if_neg (by omega)]
        split
        · rename_i hk1
          exact ⟨tnd, fun q hq => by simp at hq; subst hq; exact tnd, _, List.mem_singleton.2 rfl, rfl, rfl, by simp only; omega⟩
        · rw [if_pos (by omega)]
          exact ⟨raw_time tnd tmm, fun q hq => by simp at hq; subst hq; simp only; omega, _, List.mem_singleton.2 rfl, rfl, rfl, by simp only; omega⟩
      obtain ⟨s1, s2, q0, s3, s4, s5, s6⟩ := hs
      refine ⟨fun x hx => ?_, fun a ha => ?_, fun q hq => ?_, I.few, fun k a ha hp n hwn hn hin => ?_⟩
      · simp only at hx ⊢
        rcases List.mem_or_eq_of_mem_set hx with hx | rfl
        · have := I.tn x hx; omega
        · omega
      · have := I.ta a ha; simp only; omega
      · simp only at hq ⊢
        rcases List.mem_append.1 hq with hq | hq
        · have := I.tm q (mem_erase hq); omega
        · have := s2 q hq; omega
      · obtain ⟨q, q1, q2, q3, q4⟩ := I.go k a ha hp n hwn hn hin
        rcases erase q q1 with q5 | rfl
        · exact ⟨q, List.mem_append_left _ q5, q2, q3, q4⟩
        · refine ⟨q0, List.mem_append_right _ s3, by omega, by omega, .inl ?_⟩
          have : wantsA a.phase = 2 ∨ wantsA a.phase = 4 ∨ wantsA a.phase = 0 := by unfold wantsA; split <;> first | omega | (split <;> omega)
          omega
    · rename_i hp
      have hget := gd_get (d := Ask.nil) (xs := c.asks) (i := m.op.toNat) (by omega)
      simp only
      generalize gd Ask.nil c.asks m.op.toNat = a0 at hget
      have hca := ok.ask _ _ hget
      have hlt := (List.getElem?_eq_some_iff.1 hget).1
      have ta0 := I.ta _ (List.mem_of_getElem? hget)
      have tH : (heardA a0 m).best.at_.time ≤ c.clock := by
        rw [heard_best]; split
        · exact raw_time ta0 tmm
        · exact ta0
      have cases := hear_live2 hca.2 om.1 (by rw [hca.1]; omega) (by omega) (show (heardA a0 m).best.at_.time < 1000000 by omega)
      have other : ∀ {k : Nat} {a : Ask}, c.asks[k]? = some a → k ≠ m.op.toNat → a.phase ≠ 3 → ∀ out : List Msg, ∀ n, W n → n < c.voters.weights.length → inS a.heard.n n = false → ∃ q : Msg, q ∈ c.net.eraseIdx x.n.toNat ++ out ∧ q.op = k ∧ q.node = n ∧ (q.kind = wantsA a.phase ∨ q.kind = wantsA a.phase - 1) := fun {k a} ha hne hp out n hwn hn hin => by
        obtain ⟨q, q1, q2, q3, q4⟩ := I.go k a ha hp n hwn hn hin
        clear cases
        rcases erase q q1 with q5 | rfl
        · exact ⟨q, List.mem_append_left _ q5, q2, q3, q4⟩
        · omega
      have build : ∀ (a' : Ask) (out : List Msg), hearA c.voters a0 m = (a', out, 0) → a'.best.at_.time ≤ c.clock + 1 → (∀ q, q ∈ out → q.copy.at_.time ≤ c.clock + 1) → (a'.phase ≠ 3 → ¬ c.voters.need ≤ bsum c.voters.weights a'.heard.n) → (a'.phase ≠ 3 → ∀ n, W n → n < c.voters.weights.length → inS a'.heard.n n = false → ∃ q : Msg, q ∈ c.net.eraseIdx x.n.toNat ++ out ∧ q.op = m.op.toNat ∧ q.node = n ∧ (q.kind = wantsA a'.phase ∨ q.kind = wantsA a'.phase - 1)) →
          InvS W ⟨c.voters, c.nodes, c.asks.set m.op.toNat (hearA c.voters a0 m).1, if (hearA c.voters a0 m).1.phase = 3 ∧ a0.phase ≠ 3 then c.terms.set m.op.toNat ⟨(gd ⟨0, 0⟩ c.terms m.op.toNat).begin, c.clock + 1⟩ else c.terms, c.net.eraseIdx x.n.toNat ++ (hearA c.voters a0 m).2.1, c.clock + 1⟩ := fun a' out e b1 b2 b3 b4 => by
        rw [e]
        refine ⟨fun x hx => ?_, fun a ha => ?_, fun q hq => ?_, fun k a ha hp => ?_, fun k a ha hp n hwn hn hin => ?_⟩
        · have := I.tn x hx; simp only; omega
        · simp only at ha ⊢
          rcases List.mem_or_eq_of_mem_set ha with ha | rfl
          · have := I.ta a ha; omega
          · exact b1
        · simp only at hq ⊢
          rcases List.mem_append.1 hq with hq | hq
          · have := I.tm q (mem_erase hq); omega
          · exact b2 q hq
        · rcases get_set ha with ⟨rfl, rfl, _⟩ | ⟨hne, ha⟩
          · exact b3 hp
          · exact I.few k a ha hp
        · rcases get_set ha with ⟨rfl, rfl, _⟩ | ⟨hne, ha⟩
          · exact b4 hp n hwn hn hin
          · exact other ha (fun h => hne h.symm) hp out n hwn hn hin
      have keep : a0.phase ≠ 3 → ∀ n, W n → n < c.voters.weights.length → inS a0.heard.n n = false → (m.node = n → m.kind = wantsA a0.phase → False) → ∃ q : Msg, q ∈ c.net.eraseIdx x.n.toNat ++ [] ∧ q.op = m.op.toNat ∧ q.node = n ∧ (q.kind = wantsA a0.phase ∨ q.kind = wantsA a0.phase - 1) := fun hp3 n hwn hn hin hno => by
        obtain ⟨q, q1, q2, q3, q4⟩ := I.go _ a0 hget hp3 n hwn hn hin
        rcases erase q q1 with q5 | rfl
        · exact ⟨q, List.mem_append_left _ q5, q2, q3, q4⟩
        · have : wantsA a0.phase = 2 ∨ wantsA a0.phase = 4 ∨ wantsA a0.phase = 0 := by unfold wantsA; split <;> first | omega | (split <;> omega)
          rcases q4 with q4 | q4
          · exact (hno q3 q4).elim
          · omega
      rcases cases with ⟨e, why⟩ | ⟨hkw, ⟨e, nen⟩ | ⟨hp2, e⟩ | ⟨b, hp1, hbt, e⟩⟩
      · refine build a0 [] e (by omega) (fun q hq => by simp at hq) (I.few _ a0 hget) fun hp3 n hwn hn hin => keep hp3 n hwn hn hin fun g1 g2 => ?_
        rcases why with w | w
        · exact w g2
        · rw [show m.node.toNat = n by omega, hin] at w; simp at w
      · refine build _ [] e (by omega) (fun q hq => by simp at hq) (fun _ => nen) fun hp3 n hwn hn hin => ?_
        have hin' : ¬ inS (heardA a0 m).heard.n n = true := by simpa using hin
        have hor : ¬ (inS a0.heard.n n = true ∨ n = m.node.toNat) := fun hh => hin' ((bit_mem (by omega)).2 hh)
        exact keep hp3 n hwn hn (by simpa using fun hh => hor (.inl hh)) fun g1 g2 => hor (.inr (by omega))
      · exact build _ [] e (by simp only; omega) (fun q hq => by simp at hq) (fun h => absurd rfl h) fun h => absurd rfl h
      · have hao := ask_ok hca.2
        refine build _ _ e (by simp only; omega) (fun q hq => ?_) (fun _ => ?_) fun hp3 n hwn hn hin => ?_
        · unfold toAllM at hq
          obtain ⟨j, _, rfl⟩ := List.mem_map.1 hq
          simp only; omega
        · have z0 : (uN (Int.toNat 0)).n = 0 := rfl
          simp only; rw [z0, bsum_0]; omega
        · refine ⟨_, List.mem_append_right _ (toAll_mem (j := n) hn), by simp only; rw [hca.1], rfl, ?_⟩
          right; rfl
def wM (m : Msg) : Nat := if m.kind = 1 ∨ m.kind = 3 then 2 else 1
def potN : List Msg → Nat
  | [] => 0
  | m :: r => wM m + potN r
theorem potN_app : ∀ a b : List Msg, potN (a ++ b) = potN a + potN b
  | [], b => by simp [potN]
  | m :: a, b => by simp only [List.cons_append, potN, potN_app a b]; omega
theorem potN_len : ∀ a : List Msg, a.length ≤ potN a
  | [] => by simp [potN]
  | m :: a => by have := potN_len a; simp only [List.length_cons, potN, wM]; split <;> omega
theorem potN_le : ∀ a : List Msg, potN a ≤ 2 * a.length
  | [] => by simp [potN]
  | m :: a => by have := potN_le a; simp only [List.length_cons, potN, wM]; split <;> omega
def pot (c : Cluster) : Nat := potN c.net + if (gd Ask.nil c.asks 0).phase = 1 then 24 else 0
structure SpareI (v : Vtr) (y : Nat) (c : Cluster) : Prop where
  ok : c.checkE = 0
  vt : c.voters = v
  one : c.asks.length = 1
  inv : InvS (fun n => inS y n = false) c
theorem spare_step {v : Vtr} {y : Nat} {c : Cluster} (S : SpareI v y c) {i : Int} (hi : (pot c : Int) + i ≤ 48 ∧ c.clock ≤ i + 1 ∧ 0 ≤ i) (hn : 0 < c.net.length) :
    (inS y (gd Msg.nil c.net 0).node.toNat = true → (doP c ⟨4, 0, ⟨#[]⟩⟩).2 = 0 ∧ SpareI v y (doP c ⟨4, 0, ⟨#[]⟩⟩).1 ∧ (pot (doP c ⟨4, 0, ⟨#[]⟩⟩).1 : Int) + (i + 1) ≤ 48 ∧ (doP c ⟨4, 0, ⟨#[]⟩⟩).1.clock ≤ i + 2) ∧
    (inS y (gd Msg.nil c.net 0).node.toNat = false → (doP c ⟨3, 0, ⟨#[]⟩⟩).2 = 0 ∧ SpareI v y (doP c ⟨3, 0, ⟨#[]⟩⟩).1 ∧ (pot (doP c ⟨3, 0, ⟨#[]⟩⟩).1 : Int) + (i + 1) ≤ 48 ∧ (doP c ⟨3, 0, ⟨#[]⟩⟩).1.clock ≤ i + 2) := by
  obtain ⟨hc, hv, h1, I⟩ := S
  have ok := Cluster.ok_iff.1 hc
  have hnl := ok.nl
  have hl := qc_len ok.q
  obtain ⟨m, r, hnet⟩ : ∃ m r, c.net = m :: r := by
    cases hh : c.net with
    | nil => rw [hh] at hn; simp at hn
    | cons m r => exact ⟨m, r, rfl⟩
  have hg : gd Msg.nil c.net 0 = m := by rw [hnet]; rfl
  have hm : m ∈ c.net := by rw [hnet]; simp
  have om := ok.net m hm
  have hmi := msg_in om.1
  have hpl := potN_len c.net
  have hpot : potN c.net = wM m + potN r := by rw [hnet]; rfl
  have hpe : pot c = wM m + potN r + if (gd Ask.nil c.asks 0).phase = 1 then 24 else 0 := by unfold pot; rw [hpot]
  have hw1 : 1 ≤ wM m := by unfold wM; split <;> omega
  have hlen : c.net.length ≤ 48 := by unfold pot at hi; omega
  have hop : m.op.toNat = 0 := by omega
  rw [hg]
  have eds : ∀ x : Step, doP c x = stepP c x := fun x => by unfold doP; rw [if_neg (by omega)]
  refine ⟨fun hin => ?_, fun hin => ?_⟩
  · rw [eds]
    have e : stepP c ⟨4, 0, ⟨#[]⟩⟩ = (⟨c.voters, c.nodes, c.asks, c.terms, r, c.clock + 1⟩, 0) := by
      unfold stepP
      simp only
      rw [if_neg (by omega), if_neg (by decide), if_neg (by decide), if_neg (by decide), if_neg (by decide), if_neg (by omega), if_neg (by decide), if_pos (by trivial), hnet]; rfl
    have h0 : (stepP c ⟨4, 0, ⟨#[]⟩⟩).2 = 0 := by rw [e]
    have hI := invS_step hc I h0 fun _ n hwn => by
      show (gd Msg.nil c.net 0).node ≠ n
      rw [hg]; intro hh
      rw [show m.node.toNat = n by omega] at hin; rw [hin] at hwn; simp at hwn
    have hok := step_ok hc h0
    rw [e] at hI hok ⊢
    refine ⟨rfl, ⟨hok, hv, h1, hI⟩, ?_, by simp only; omega⟩
    have : pot ⟨c.voters, c.nodes, c.asks, c.terms, r, c.clock + 1⟩ = potN r + if (gd Ask.nil c.asks 0).phase = 1 then 24 else 0 := rfl
    rw [this]; omega
  · rw [eds]
    have e : stepP c ⟨3, 0, ⟨#[]⟩⟩ = sendC (passC ⟨c.voters, c.nodes, c.asks, c.terms, r, c.clock + 1⟩ m) := by
      unfold stepP
      simp only
      rw [if_neg (by omega), if_neg (by decide), if_neg (by decide), if_neg (by decide), if_neg (by decide), if_neg (by omega), if_neg (by decide), if_neg (by decide)]
      rw [show (0 : Int).toNat = 0 from rfl, hg, hnet]; rfl
    have hrl : r.length < c.net.length := by rw [hnet]; simp
    have hpas : (passC ⟨c.voters, c.nodes, c.asks, c.terms, r, c.clock + 1⟩ m).net.length ≤ 200 ∧ (pot (passC ⟨c.voters, c.nodes, c.asks, c.terms, r, c.clock + 1⟩ m) : Int) + (i + 1) ≤ 48 ∧ (passC ⟨c.voters, c.nodes, c.asks, c.terms, r, c.clock + 1⟩ m).clock = c.clock + 1 ∧ (passC ⟨c.voters, c.nodes, c.asks, c.terms, r, c.clock + 1⟩ m).voters = c.voters ∧ (passC ⟨c.voters, c.nodes, c.asks, c.terms, r, c.clock + 1⟩ m).asks.length = 1 := by
      unfold passC
      split
      · rename_i hk
        have hw : wM m = 2 := by unfold wM; rw [if_pos hk]
        have ho : potN (serveA (gd Copy.nil c.nodes m.node.toNat) m).2.1 ≤ 1 ∧ (serveA (gd Copy.nil c.nodes m.node.toNat) m).2.1.length ≤ 1 := by
          unfold serveA
          split
          · simp [potN]
          split
          · simp [potN]
          split
          · simp [potN, wM]
          split
          · simp [potN, wM]
          · simp [potN]
        refine ⟨by simp only [List.length_append]; omega, ?_, rfl, rfl, h1⟩
        unfold pot
        simp only [potN_app]
        rw [hpe] at hi
        split <;> rename_i hh <;> first | (rw [if_pos hh] at hi; omega) | (rw [if_neg hh] at hi; omega)
      · rename_i hk
        have hget := gd_get (d := Ask.nil) (xs := c.asks) (i := m.op.toNat) (by omega)
        rw [hop] at hget ⊢
        have hca := ok.ask _ _ hget
        have hset : ∀ z : Ask, gd Ask.nil (c.asks.set 0 z) 0 = z := fun z => gd_set (by omega)
        have hx := hear_cases hca.2 om.1
        have hln := hearA_len c.voters (gd Ask.nil c.asks 0) m
        refine ⟨by simp only [List.length_append]; omega, ?_, rfl, rfl, by simp only [List.length_set]; exact h1⟩
        unfold pot
        simp only [potN_app, hset]
        rw [hpe] at hi
        generalize gd Ask.nil c.asks 0 = a at *
        rcases hx with e | ⟨_, _, _, e | ⟨_, h5, e⟩ | ⟨_, h5, h6, e⟩ | ⟨_, h5, h6, h7, e⟩⟩ <;> rw [e] <;> rw [e] at hln <;> simp only [potN] at *
        · split <;> rename_i hh <;> first | (rw [if_pos hh] at hi; omega) | (rw [if_neg hh] at hi; omega)
        · have : (heardA a m).phase = a.phase := rfl
          rw [this]
          split <;> rename_i hh <;> first | (rw [if_pos hh] at hi; omega) | (rw [if_neg hh] at hi; omega)
        · rw [if_neg (by omega)] at hi; rw [if_neg (by decide)]; omega
        · have := potN_le (toAllM c.voters.weights.length ⟨3, a.op, 0, (heardA a m).best⟩)
          rw [if_pos h5] at hi; rw [if_neg (by decide)]; omega
        · have := potN_le (toAllM c.voters.weights.length ⟨3, a.op, 0, ⟨(nextL [(heardA a m).best.at_] a.op).1, a.data⟩⟩)
          rw [if_pos h5] at hi; rw [if_neg (by decide)]; omega
    obtain ⟨p1, p2, p3, p4, p5⟩ := hpas
    have e2 : stepP c ⟨3, 0, ⟨#[]⟩⟩ = (passC ⟨c.voters, c.nodes, c.asks, c.terms, r, c.clock + 1⟩ m, 0) := by rw [e]; unfold sendC; rw [if_neg (by omega)]
    have h0 : (stepP c ⟨3, 0, ⟨#[]⟩⟩).2 = 0 := by rw [e2]
    have hI := invS_step hc I h0 fun hh => absurd hh (by decide)
    have hok := step_ok hc h0
    rw [e2] at hI hok ⊢
    exact ⟨rfl, ⟨hok, p4.trans hv, p5, hI⟩, p2, by simp only; omega⟩
theorem bsize_lt : ∀ (L n x : Nat), x < 2 ^ L → L ≤ n → bsize n x = bsize L x
  | 0, n, x, h, _ => by
    have : x = 0 := by simpa using h
    subst this
    clear h
    induction n with
    | zero => rfl
    | succ n ih => simp only [bsize, Nat.zero_mod, Nat.zero_div, Nat.zero_add]; exact ih (by omega)
  | L + 1, n, x, h, hn => by
    obtain ⟨k, rfl⟩ : ∃ k, n = k + 1 := ⟨n - 1, by omega⟩
    simp only [bsize]
    rw [bsize_lt L k (x / 2) (by rw [Nat.pow_succ] at h; omega) (by omega)]
theorem spare_enough {ws : List Int} {need : Int} {y x : Nat} (hq : qcheckP ws need = 0) (hy : y < 2 ^ ws.length) (hs : (bsize 64 y : Int) ≤ (spareP ws need).1) (hx : ∀ n, n < ws.length → inS y n = false → inS x n = true) : need ≤ bsum ws x := by
  have hl := qc_len hq
  have h0 := qc_nn hq
  rw [bsize_lt ws.length 64 y hy (by omega)] at hs
  unfold spareP at hs
  rw [if_neg (by omega)] at hs
  have h1 : bsum ws y < lsum ws - need + 1 := by
    refine Classical.byContradiction fun hh => ?_
    have := heavy_min h0 (show lsum ws - need + 1 ≤ bsum ws y by omega)
    simp only at hs; omega
  have h2 := bsum_both ws x y
  rw [bsum_full ws (x ||| y) fun j hj => by
    rw [inS_bit, Nat.testBit_or, Bool.or_eq_true]
    cases hyj : inS y j with
    | true => right; rw [← inS_bit]; exact hyj
    | false => left; rw [← inS_bit]; exact hx j hj hyj] at h2
  have h3 : ∀ (ws : List Int), (∀ w, w ∈ ws → 0 ≤ w) → ∀ z, 0 ≤ bsum ws z := fun ws h z => by
    induction ws generalizing z with
    | nil => simp [bsum]
    | cons w ws ih =>
      have := ih (fun u hu => h u (List.mem_cons_of_mem _ hu)) (z / 2)
      have := h w (by simp)
      simp only [bsum]; split <;> omega
  have := h3 ws h0 (x &&& y)
  omega
theorem spare_end {v : Vtr} {y : Nat} {c : Cluster} (S : SpareI v y c) (hy : y < 2 ^ v.weights.length) (hs : (bsize 64 y : Int) ≤ (spareP v.weights v.need).1) (hn : c.net.length = 0) : (gd Ask.nil c.asks 0).phase = 3 := by
  obtain ⟨hc, hv, h1, I⟩ := S
  have ok := Cluster.ok_iff.1 hc
  have ha := gd_get (d := Ask.nil) (xs := c.asks) (i := 0) (by omega)
  refine Classical.byContradiction fun hp => I.few 0 _ ha hp ?_
  rw [hv]
  have hq := ok.q; rw [hv] at hq
  refine spare_enough hq hy hs fun n hn' hyn => ?_
  refine Classical.byContradiction fun hin => ?_
  obtain ⟨m, q1, _⟩ := I.go 0 _ ha hp n hyn (by rw [hv]; exact hn') (by simpa using hin)
  rw [List.eq_nil_of_length_eq_zero hn] at q1; simp at q1
theorem spare_start {v : Vtr} {y : Nat} {k : Int} {d : ByteArray} (h1 : (newC v).2 = 0) (hk : k ≤ 2) (h2 : (doP (newC v).1 ⟨k, 0, d⟩).2 = 0) : SpareI v y (doP (newC v).1 ⟨k, 0, d⟩).1 ∧ pot (doP (newC v).1 ⟨k, 0, d⟩).1 ≤ 48 ∧ (doP (newC v).1 ⟨k, 0, d⟩).1.clock ≤ 1 := by
  have hq : qcheckP v.weights v.need = 0 := by
    unfold newC at h1
    split at h1
    · exact absurd h1 (by assumption)
    · omega
  have hnc : (newC v).1 = Cluster.new v := by unfold newC; rw [if_neg (by omega)]; rfl
  have hl := qc_len hq
  rw [hnc] at h2 ⊢
  have hc := new_check hq
  have eds : doP (Cluster.new v) ⟨k, 0, d⟩ = stepP (Cluster.new v) ⟨k, 0, d⟩ := by unfold doP; rw [if_neg (by omega)]
  rw [eds] at h2 ⊢
  have I0 : InvS (fun n => inS y n = false) (Cluster.new v) := by
    have J := @invL_new v
    exact ⟨J.tn, J.ta, J.tm, J.few, fun k a ha hp n _ hn hin => J.go k a ha hp n hn hin⟩
  obtain ⟨_, ⟨kind, data, hkd, hal, hb, e, hn⟩ | ⟨m, h3, h4, _⟩⟩ := step_cases hc h2
  · have hI := invS_step hc I0 h2 fun hh => by simp only at hh; omega
    have hok := step_ok hc h2
    obtain ⟨b1, b2⟩ := begin_ok hb
    rw [e, b1] at hI hok ⊢
    refine ⟨⟨hok, rfl, rfl, hI⟩, ?_, by simp [Cluster.new]⟩
    unfold pot
    have hp := potN_le (toAllM v.weights.length ⟨1, ((Cluster.new v).asks.length : Int), 0, ⟨⟨0, 0⟩, ⟨#[]⟩⟩⟩)
    rw [toAllM_len] at hp
    simp only [potN_app]
    have h0 : potN (Cluster.new v).net = 0 := rfl
    have hv : (Cluster.new v).voters.weights.length = v.weights.length := rfl
    rw [h0, hv]
    split <;> omega
  · exfalso; have : (Cluster.new v).net.length = 0 := rfl
    omega
open Go.RowKit
def k_32 : Con Tc Tc.dn := ⟨32, [.ty .lInt, .ty .cInt], fun x => x.1.length ≤ 9223372036854775807, [.cInt, .cInt], fun x => spareP x.1 x.2.1⟩
theorem k_32_ok : k_32.Ok Tryd.prog tD := ⟨F32_call, fun x N h => spare_fn x.1 x.2.1 h⟩
def bsz (x : Nat) : Nat := bsize 64 x
theorem bsize_up {x : Nat} {i : Int} (h : 0 ≤ i ∧ i < 64) : bsize (64 - i).toNat (x / 2 ^ i.toNat) = (if inS x i.toNat = true then 1 else 0) + bsize (64 - (i + 1)).toNat (x / 2 ^ (i + 1).toNat) := by
  obtain ⟨k, hk⟩ : ∃ k : Nat, (64 - i).toNat = k + 1 := ⟨(64 - i).toNat - 1, by omega⟩
  have e2 : x / 2 ^ i.toNat / 2 = x / 2 ^ (i + 1).toNat := by rw [show (i + 1).toNat = i.toNat + 1 by omega, Nat.div_div_eq_div_mul, Nat.pow_succ]
  rw [hk, show (64 - (i + 1)).toNat = k by omega]
  simp only [bsize]
  rw [e2]
  unfold inS
  rcases Nat.mod_two_eq_zero_or_one (x / 2 ^ i.toNat) with h | h <;> rw [h] <;> simp
def awayU (v : Vtr) (away : U64) : U64 := opU .and away (uN ((uN ((uN (Int.toNat 1)).n * 2 ^ min (v.weights.length : Int).toNat 64)).n + 18446744073709551616 - (uN (Int.toNat 1)).n))
theorem away_lt {v : Vtr} {away : U64} (h : v.weights.length ≤ 12) : (awayU v away).n < 2 ^ v.weights.length := by
  unfold awayU
  have h1 : (uN ((uN (Int.toNat 1)).n * 2 ^ min (v.weights.length : Int).toNat 64)).n = 2 ^ v.weights.length := by
    have := bitU_n (k := (v.weights.length : Int)) (by omega)
    unfold bitU at this
    rw [this]; rfl
  have hp := Nat.two_pow_pos v.weights.length
  have hlt : 2 ^ v.weights.length < 18446744073709551616 := Nat.lt_of_le_of_lt (Nat.pow_le_pow_right (by decide) h) (by decide)
  have h2 : (uN ((uN ((uN (Int.toNat 1)).n * 2 ^ min (v.weights.length : Int).toNat 64)).n + 18446744073709551616 - (uN (Int.toNat 1)).n)).n = 2 ^ v.weights.length - 1 := by
    rw [h1]
    show (2 ^ v.weights.length + 18446744073709551616 - 1) % 18446744073709551616 = _
    omega
  rw [opU_n, h2]
  exact Nat.lt_of_le_of_lt Nat.and_le_right (by omega)
def i_33_0 (x : U64) (i : Int) (n : Int) : Prop := 0 ≤ i ∧ i ≤ 64 ∧ 0 ≤ n ∧ n ≤ i ∧ n + bsize (64 - i).toNat (x.n / 2 ^ i.toNat) = bsz x.n
def k_33 : Con Tc Tc.dn := ⟨33, [.ty .cU64], fun x => (fun (x : U64) => True) x.1, [.cInt], fun x => (fun (x : U64) => (bsz x.n : Int)) x.1⟩
theorem k_33_v (x : U64) : i_33_0 x (0 : Int) (0 : Int) ∧ ∀ (x_1 x_2 : Int), i_33_0 x x_1 x_2 → (x_1 < (64 : Int) → (0 : Pt.T Tc.dn (Pt.ty Tc.cInt)) ≤ x_1 ∧ (inS x.n x_1.toNat = true → I64 (x_2 + (1 : Int)) ∧ I64 (x_1 + (1 : Int)) ∧ i_33_0 x (x_1 + (1 : Int)) (x_2 + (1 : Int)) ∧ ((64 : Int) - (x_1 + (1 : Int))).toNat < ((64 : Int) - x_1).toNat) ∧ (inS x.n x_1.toNat = false → I64 (x_1 + (1 : Int)) ∧ i_33_0 x (x_1 + (1 : Int)) x_2 ∧ ((64 : Int) - (x_1 + (1 : Int))).toNat < ((64 : Int) - x_1).toNat)) ∧ ((64 : Int) ≤ x_1 → x_2 = (↑(bsz x.n) : Int)) := by
  have hz : x.n / 2 ^ (0 : Int).toNat = x.n := by simp
  have h0 : ∀ (i : Int) (y : Nat), 64 ≤ i → bsize (64 - i).toNat y = 0 := fun i y h => by rw [show (64 - i).toNat = 0 by omega]; rfl
  have hu := @bsize_up x.n
  have hs : bsize (64 - 0 : Int).toNat x.n = bsz x.n := rfl
  (repeat' (first | apply And.intro | intro _)) <;> first | omega | grind [i_33_0, I64] | trace_state
theorem k_33_ok : k_33.Ok Tryd.prog tD := con_ok tD_ok (Δ := [k_34]) ⟨k_34_ok, trivial⟩ (Ω := []) trivial k_33 F33_ok F33_call (fun _ => []) (fun _ => trivial) 0 (fun x => (fun (x : U64) => (fun k => bif Nat.beq k 0 then some (.inv [.sl 4 .cInt, .sl 3 .cInt] (fun zv => (fun (i : Int) (n : Int) => i_33_0 x i n) zv.1 zv.2.1) (fun zv => (fun (i : Int) (n : Int) => (64 - i).toNat) zv.1 zv.2.1)) else none)) x.1) fun x hp => Eq.mp (by kernel_rfl) (k_33_v x.1)
open Go.RowKit
def i_11_0 (v : Vtr) (kind : Int) (data : ByteArray) (away : U64) (i : Int) (c : Cluster) : Prop := (newC v).2 = 0 ∧ v.weights.length ≤ 12 ∧ (bsz (awayU v away).n : Int) ≤ (spareP v.weights v.need).1 ∧ 0 ≤ i ∧ SpareI v (awayU v away).n c ∧ (pot c : Int) + i ≤ 48 ∧ c.clock ≤ i + 1
def k_11 : Con Tc Tc.dn := ⟨11, [.ty .cVoters, .ty .cInt, .ty .cStr, .ty .cU64], fun x => (fun (v : Vtr) (kind : Int) (data : ByteArray) (away : U64) => v.weights.length ≤ 9223372036854775807) x.1 x.2.1 x.2.2.1 x.2.2.2.1, [.cBool], fun x => (fun (v : Vtr) (kind : Int) (data : ByteArray) (away : U64) => true) x.1 x.2.1 x.2.2.1 x.2.2.2.1⟩
abbrev z11_0 (v : Vtr) (away : U64) := (opU BinOp.and away (uN ((uN ((uN (Int.toNat (1 : Int))).n * (2 : Nat) ^ min (↑v.weights.length : Int).toNat (64 : Nat))).n + (18446744073709551616 : Nat) - (uN (Int.toNat (1 : Int))).n)))
abbrev z11_1 (v : Vtr) (kind : Int) := (doP (newC v).fst (Step.mk kind (0 : Int) (ByteArray.mk #[])))
abbrev z11_2 (v : Vtr) (kind : Int) (data : ByteArray) := (doP (newC v).fst (Step.mk kind (0 : Int) data))
abbrev z11_3 := (Msg.mk (0 : Int) (0 : Int) (0 : Int) (Copy.mk (Stp.mk (0 : Int) (0 : Int)) ByteArray.empty))
abbrev z11_4 (v : Vtr) (kind : Int) (data : ByteArray) := ((z11_2 v kind data).snd = (0 : Int) ∧ kind ≤ (2 : Int) → (z11_2 v kind data).snd = (0 : Int) ∧ kind ≤ (2 : Int))
abbrev z11_5 (v : Vtr) (kind : Int) := ((z11_1 v kind).snd = (0 : Int) ∧ kind ≤ (2 : Int) → (z11_1 v kind).snd = (0 : Int) ∧ kind ≤ (2 : Int))
theorem k_11_v (v : Vtr) (kind : Int) (data : ByteArray) (away : U64) (hp : v.weights.length ≤ 9223372036854775807) : True ∧ True ∧ (true = !true → false = true) ∧ (true = !false → v.weights.length ≤ (9223372036854775807 : Nat) ∧ ((newC v).snd = (0 : Int) → (newC v).snd = (0 : Int)) ∧ ((newC v).snd = (0 : Int) → (newC v).snd = (0 : Int)) ∧ (¬(newC v).snd = (0 : Int) ∨ ¬(spareP v.weights v.need).snd = (0 : Int) → ((newC v).snd == (spareP v.weights v.need).snd) = true) ∧ ((newC v).snd = (0 : Int) ∧ (spareP v.weights v.need).snd = (0 : Int) → (0 : Int) ≤ (↑v.weights.length : Int) ∧ (kind = (1 : Int) → True ∧ ((z11_1 v kind).snd = (0 : Int) → (z11_1 v kind).snd = (0 : Int)) ∧ ((z11_1 v kind).snd = (0 : Int) → (z11_1 v kind).snd = (0 : Int)) ∧ (z11_5 v kind) ∧ ((z11_1 v kind).snd = (0 : Int) ∧ kind ≤ (2 : Int) → True) ∧ (z11_5 v kind) ∧ (z11_5 v kind) ∧ (z11_5 v kind) ∧ ((¬(z11_1 v kind).snd = (0 : Int) ∨ (2 : Int) < kind) ∨ (spareP v.weights v.need).fst < (↑(bsz (z11_0 v away).n) : Int) → true = true) ∧ (((z11_1 v kind).snd = (0 : Int) ∧ kind ≤ (2 : Int)) ∧ (↑(bsz (z11_0 v away).n) : Int) ≤ (spareP v.weights v.need).fst → i_11_0 v kind data away (0 : Int) (z11_1 v kind).fst ∧ ∀ (x : Int) (x_1 : Cluster), i_11_0 v kind data away x x_1 → (x < (200 : Int) → x < (200 : Int)) ∧ (x < (200 : Int) → x < (200 : Int)) ∧ (x < (200 : Int) → x < (200 : Int)) ∧ (x < (200 : Int) → x < (200 : Int)) ∧ (x < (200 : Int) ∧ (0 : Int) < (↑x_1.net.length : Int) → ((0 : Int) ≤ (0 : Int) ∧ (0 : Int) < (↑x_1.net.length : Int)) ∧ (0 : Pt.T Tc.dn (Pt.ty Tc.cInt)) ≤ (gd z11_3 x_1.net (Int.toNat (0 : Int))).node ∧ (inS (z11_0 v away).n (gd z11_3 x_1.net (Int.toNat (0 : Int))).node.toNat = true → True ∧ (¬(doP x_1 (Step.mk (4 : Int) (0 : Int) (ByteArray.mk #[]))).snd = (0 : Int) → false = true) ∧ ((doP x_1 (Step.mk (4 : Int) (0 : Int) (ByteArray.mk #[]))).snd = (0 : Int) → I64 (x + (1 : Int)) ∧ i_11_0 v kind data away (x + (1 : Int)) (doP x_1 (Step.mk (4 : Int) (0 : Int) (ByteArray.mk #[]))).fst ∧ ((200 : Int) - (x + (1 : Int))).toNat < ((200 : Int) - x).toNat)) ∧ (inS (z11_0 v away).n (gd z11_3 x_1.net (Int.toNat (0 : Int))).node.toNat = false → True ∧ (¬(doP x_1 (Step.mk (3 : Int) (0 : Int) (ByteArray.mk #[]))).snd = (0 : Int) → false = true) ∧ ((doP x_1 (Step.mk (3 : Int) (0 : Int) (ByteArray.mk #[]))).snd = (0 : Int) → I64 (x + (1 : Int)) ∧ i_11_0 v kind data away (x + (1 : Int)) (doP x_1 (Step.mk (3 : Int) (0 : Int) (ByteArray.mk #[]))).fst ∧ ((200 : Int) - (x + (1 : Int))).toNat < ((200 : Int) - x).toNat))) ∧ ((200 : Int) ≤ x ∨ (↑x_1.net.length : Int) ≤ (0 : Int) → ((↑x_1.net.length : Int) = (0 : Int) → (↑x_1.net.length : Int) = (0 : Int)) ∧ ((↑x_1.net.length : Int) = (0 : Int) → (↑x_1.net.length : Int) = (0 : Int)) ∧ ((↑x_1.net.length : Int) = (0 : Int) → (0 : Int) ≤ (0 : Int) ∧ (0 : Int) < (↑x_1.asks.length : Int)) ∧ ((↑x_1.net.length : Int) = (0 : Int) → (↑x_1.net.length : Int) = (0 : Int)) ∧ ((↑x_1.net.length : Int) = (0 : Int) → (↑x_1.net.length : Int) = (0 : Int)) ∧ ((↑x_1.net.length : Int) = (0 : Int) → (↑x_1.net.length : Int) = (0 : Int)) ∧ ((↑x_1.net.length : Int) = (0 : Int) → (↑x_1.net.length : Int) = (0 : Int)) ∧ ((↑x_1.net.length : Int) == (0 : Int) && (gd (Ask.mk (0 : Int) (0 : Int) (0 : Int) ByteArray.empty (Copy.mk (Stp.mk (0 : Int) (0 : Int)) ByteArray.empty) (U64.mk (0 : Nat) LY.u64._proof_1)) x_1.asks (Int.toNat (0 : Int))).phase == (3 : Int)) = true))) ∧ (¬kind = (1 : Int) → True ∧ ((z11_2 v kind data).snd = (0 : Int) → (z11_2 v kind data).snd = (0 : Int)) ∧ ((z11_2 v kind data).snd = (0 : Int) → (z11_2 v kind data).snd = (0 : Int)) ∧ (z11_4 v kind data) ∧ ((z11_2 v kind data).snd = (0 : Int) ∧ kind ≤ (2 : Int) → True) ∧ (z11_4 v kind data) ∧ (z11_4 v kind data) ∧ (z11_4 v kind data) ∧ ((¬(z11_2 v kind data).snd = (0 : Int) ∨ (2 : Int) < kind) ∨ (spareP v.weights v.need).fst < (↑(bsz (z11_0 v away).n) : Int) → true = true) ∧ (((z11_2 v kind data).snd = (0 : Int) ∧ kind ≤ (2 : Int)) ∧ (↑(bsz (z11_0 v away).n) : Int) ≤ (spareP v.weights v.need).fst → i_11_0 v kind data away (0 : Int) (z11_2 v kind data).fst ∧ ∀ (x : Int) (x_1 : Cluster), i_11_0 v kind data away x x_1 → (x < (200 : Int) → x < (200 : Int)) ∧ (x < (200 : Int) → x < (200 : Int)) ∧ (x < (200 : Int) → x < (200 : Int)) ∧ (x < (200 : Int) → x < (200 : Int)) ∧ (x < (200 : Int) ∧ (0 : Int) < (↑x_1.net.length : Int) → ((0 : Int) ≤ (0 : Int) ∧ (0 : Int) < (↑x_1.net.length : Int)) ∧ (0 : Pt.T Tc.dn (Pt.ty Tc.cInt)) ≤ (gd z11_3 x_1.net (Int.toNat (0 : Int))).node ∧ (inS (z11_0 v away).n (gd z11_3 x_1.net (Int.toNat (0 : Int))).node.toNat = true → True ∧ (¬(doP x_1 (Step.mk (4 : Int) (0 : Int) (ByteArray.mk #[]))).snd = (0 : Int) → false = true) ∧ ((doP x_1 (Step.mk (4 : Int) (0 : Int) (ByteArray.mk #[]))).snd = (0 : Int) → I64 (x + (1 : Int)) ∧ i_11_0 v kind data away (x + (1 : Int)) (doP x_1 (Step.mk (4 : Int) (0 : Int) (ByteArray.mk #[]))).fst ∧ ((200 : Int) - (x + (1 : Int))).toNat < ((200 : Int) - x).toNat)) ∧ (inS (z11_0 v away).n (gd z11_3 x_1.net (Int.toNat (0 : Int))).node.toNat = false → True ∧ (¬(doP x_1 (Step.mk (3 : Int) (0 : Int) (ByteArray.mk #[]))).snd = (0 : Int) → false = true) ∧ ((doP x_1 (Step.mk (3 : Int) (0 : Int) (ByteArray.mk #[]))).snd = (0 : Int) → I64 (x + (1 : Int)) ∧ i_11_0 v kind data away (x + (1 : Int)) (doP x_1 (Step.mk (3 : Int) (0 : Int) (ByteArray.mk #[]))).fst ∧ ((200 : Int) - (x + (1 : Int))).toNat < ((200 : Int) - x).toNat))) ∧ ((200 : Int) ≤ x ∨ (↑x_1.net.length : Int) ≤ (0 : Int) → ((↑x_1.net.length : Int) = (0 : Int) → (↑x_1.net.length : Int) = (0 : Int)) ∧ ((↑x_1.net.length : Int) = (0 : Int) → (↑x_1.net.length : Int) = (0 : Int)) ∧ ((↑x_1.net.length : Int) = (0 : Int) → (0 : Int) ≤ (0 : Int) ∧ (0 : Int) < (↑x_1.asks.length : Int)) ∧ ((↑x_1.net.length : Int) = (0 : Int) → (↑x_1.net.length : Int) = (0 : Int)) ∧ ((↑x_1.net.length : Int) = (0 : Int) → (↑x_1.net.length : Int) = (0 : Int)) ∧ ((↑x_1.net.length : Int) = (0 : Int) → (↑x_1.net.length : Int) = (0 : Int)) ∧ ((↑x_1.net.length : Int) = (0 : Int) → (↑x_1.net.length : Int) = (0 : Int)) ∧ ((↑x_1.net.length : Int) == (0 : Int) && (gd (Ask.mk (0 : Int) (0 : Int) (0 : Int) ByteArray.empty (Copy.mk (Stp.mk (0 : Int) (0 : Int)) ByteArray.empty) (U64.mk (0 : Nat) LY.u64._proof_1)) x_1.asks (Int.toNat (0 : Int))).phase == (3 : Int)) = true))))) := by
  delta z11_5 z11_4 z11_3 z11_2 z11_1 z11_0
  have h0 := @spare_step v (awayU v away).n
  have h1 := @spare_end v (awayU v away).n
  have h2 := @spare_start v (awayU v away).n
  have h3 := @away_lt v away
  have h4 : (newC v).2 = (spareP v.weights v.need).2 := by unfold newC spareP; split <;> rfl
  have h5 : (newC v).2 = 0 → v.weights.length ≤ 12 := fun h => qc_len (need := v.need) (by unfold newC at h; split at h <;> omega)
  have hy : opU BinOp.and away (uN ((uN ((uN (Int.toNat 1)).n * 2 ^ min (v.weights.length : Int).toNat 64)).n + 18446744073709551616 - (uN (Int.toNat 1)).n)) = awayU v away := rfl
  have h6 : ∀ x, bsize 64 x = bsz x := fun _ => rfl
  simp only [h6] at h1
  simp only [hy]
  clear hy h6
  have h7 : ∀ {c : Cluster}, SpareI v (awayU v away).n c → 0 < c.net.length → 0 ≤ (gd Msg.nil c.net 0).node := fun S h => by
    have := (Cluster.ok_iff.1 S.ok).net _ (gd_mem (d := Msg.nil) (i := 0) h)
    have := msg_in this.1; omega
  have hf : ¬ (true = !true) := by decide
  (repeat' (first | apply And.intro | intro _)) <;> first
  | exact True.intro
  | omega
  | exact absurd ‹true = !true› hf
  | (rw [h4]; simp; done)
  | (have q := @h2 kind ⟨#[]⟩ (by omega) (by omega) (by omega); first | exact q.1 | omega)
  | (have q := @h2 kind data (by omega) (by omega) (by omega); first | exact q.1 | omega)
  | (obtain ⟨i1, i2, i3, i4, i5, i6, i7⟩ := ‹i_11_0 v kind data away _ _›
     have i8 := i5.one
     first
     | omega
     | exact h7 i5 (by omega)
     | (have q := h1 i5 (h3 i2) i3 (by omega); simp only [Bool.and_eq_true, beq_iff_eq]; exact ⟨by omega, q⟩)
     | (have q := h0 i5 ⟨i6, i7, i4⟩ (by omega)
        first
        | (have q1 := q.1 ‹_›; first | exact q1.2.1 | omega)
        | (have q1 := q.2 ‹_›; first | exact q1.2.1 | omega)))
  | trace_state
theorem k_11_ok : k_11.Ok Tryd.prog tD := con_ok tD_ok (Δ := [k_12, k_16, k_32, k_13, k_34, k_33]) ⟨k_12_ok, k_16_ok, k_32_ok, k_13_ok, k_34_ok, k_33_ok, trivial⟩ (Ω := []) trivial k_11 F11_ok F11_call (fun _ => []) (fun _ => trivial) 0 (fun x => (fun (v : Vtr) (kind : Int) (data : ByteArray) (away : U64) => (fun k => bif Nat.beq k 0 then some (.inv [.sl 13 .cInt, .ce 1 .cCluster] (fun zv => (fun (i : Int) (c : Cluster) => i_11_0 v kind data away i c) zv.1 zv.2.1) (fun zv => (fun (i : Int) (c : Cluster) => (200 - i).toNat) zv.1 zv.2.1)) else none)) x.1 x.2.1 x.2.2.1 x.2.2.2.1) fun x hp => Eq.mp (by kernel_rfl) (k_11_v x.1 x.2.1 x.2.2.1 x.2.2.2.1 hp)
theorem ClusterSpare_walk {w : World} (hG : GlE (E0 w fun b => b < w.heap.size)) (v : Vtr) (csv : List Value) (rv : GoT.rep w w.heap.size csv v) (kind : Int) (wkind : (Lit.int .i64 kind).wf = true) (data : ByteArray) (rdata0 : data.size ≤ 9223372036854775807) (away : U64) : Calls Tryd.prog 11 #[.agg csv.toArray, I kind, .string data, .int .u64 (away.n : Int)] w fun e w' => e = .returned (.bool true) ∧ Below w.heap.size w w' := by
  have rkind : GoT.rep w w.heap.size [I kind] kind := ⟨rfl, i64_bd wkind⟩
  have rdata : GoT.rep w w.heap.size [.string data] data := ⟨rfl, rdata0⟩
  have hf : Fn Tryd.prog 11 [(tD.en .cVoters v).av tD.toTE N0, (tD.en .cInt kind).av tD.toTE N0, (tD.en .cStr data).av tD.toTE N0, (tD.en .cU64 away).av tD.toTE N0] (.v (.bool true)) := k_11_ok.2 (v, kind, data, away, ()) N0 ((lgVoters.bg rv).1.1)
  exact fn_law (vs := [.agg csv.toArray, I kind, .string data, .int .u64 (away.n : Int)]) hf hG (.cons (arg_ag tD_ok (t := .cVoters) rfl (lgVoters.av rv)) (.cons (arg_one tD_ok (t := .cInt) rfl (LG.i64.av rkind)) (.cons (arg_one tD_ok (t := .cStr) rfl (LG.str.av rdata)) (.cons (arg_one tD_ok (t := .cU64) rfl (LG.u64.av (x := away) rfl)) .nil))))
end Go.Proofs.YtpagdlhlfmenmaaDoor
