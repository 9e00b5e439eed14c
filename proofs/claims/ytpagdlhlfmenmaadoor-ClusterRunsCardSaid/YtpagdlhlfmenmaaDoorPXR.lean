/- What functions answer (contracts). No condition. -/
import Derived.Test.YtpagdlhlfmenmaaDoorPRC
import Derived.Test.YtpagdlhlfmenmaaDoorPSF
set_option linter.unusedSimpArgs false
set_option linter.unusedVariables false
set_option maxHeartbeats 4000000
set_option maxRecDepth 100000
namespace Go.Proofs.YtpagdlhlfmenmaaDoor
open Go.RowKit
def i_21_0 (c : Cluster) (l : (List Step)) (i : Int) (n : Int) (d : Cluster) : Prop := 0 ≤ i ∧ i ≤ l.length ∧ l.length ≤ 200 ∧ 0 ≤ n ∧ n ≤ i ∧ d.checkE = 0 ∧ c.checkE = 0 ∧ runGo (l.drop i.toNat) d n = runGo l c 0
def k_21 : Con Tc Tc.dn := ⟨21, [.ty .cCluster, .ty .lStep], fun x => (fun (c : Cluster) (l : (List Step)) => True) x.1 x.2.1, [.cCluster, .cInt, .cInt], fun x => (fun (c : Cluster) (l : (List Step)) => runP c l) x.1 x.2.1⟩
theorem k_21_v (c : Cluster) (l : (List Step)) : True ∧ (c.checkE = (0 : Int) → c.checkE = (0 : Int)) ∧ (c.checkE = (0 : Int) → c.checkE = (0 : Int)) ∧ (c.checkE = (0 : Int) → c.checkE = (0 : Int)) ∧ (c.checkE = (0 : Int) ∧ (200 : Int) < (↑l.length : Int) → (Cluster.mk (Vtr.mk [] (0 : Int)) [] [] [] [] (0 : Int), (0 : Int), (2 : Int)) = runP c l) ∧ (¬c.checkE = (0 : Int) ∨ (↑l.length : Int) ≤ (200 : Int) → (¬c.checkE = (0 : Int) → (Cluster.mk (Vtr.mk [] (0 : Int)) [] [] [] [] (0 : Int), (0 : Int), c.checkE) = runP c l) ∧ (c.checkE = (0 : Int) → i_21_0 c l (0 : Int) (0 : Int) c ∧ ∀ (x x_1 : Int) (x_2 : Cluster), i_21_0 c l x x_1 x_2 → (x < (↑l.length : Int) → ((0 : Int) ≤ x ∧ x < (↑l.length : Int)) ∧ True ∧ ((doP x_2 (gd (Step.mk (0 : Int) (0 : Int) ByteArray.empty) l x.toNat)).snd = (0 : Int) → I64 (x_1 + (1 : Int)) ∧ I64 (x + (1 : Int)) ∧ i_21_0 c l (x + (1 : Int)) (x_1 + (1 : Int)) (doP x_2 (gd (Step.mk (0 : Int) (0 : Int) ByteArray.empty) l x.toNat)).fst ∧ ((↑l.length : Int) - (x + (1 : Int))).toNat < ((↑l.length : Int) - x).toNat) ∧ (¬(doP x_2 (gd (Step.mk (0 : Int) (0 : Int) ByteArray.empty) l x.toNat)).snd = (0 : Int) → I64 (x + (1 : Int)) ∧ i_21_0 c l (x + (1 : Int)) x_1 x_2 ∧ ((↑l.length : Int) - (x + (1 : Int))).toNat < ((↑l.length : Int) - x).toNat)) ∧ ((↑l.length : Int) ≤ x → (x_2, x_1, (0 : Int)) = runP c l))) := by
  have hso := @step_ok
  have hcl := @check_len c
  (repeat' (first | apply And.intro | intro _)) <;> first | assumption | trivial | omega | (grind [runP, runGo, doP, i_21_0, I64, drop_gd, drop_end, Cluster.zero]) | trace_state
theorem k_21_ok : k_21.Ok Tryd.prog tD := con_ok tD_ok (Δ := [k_19, k_15]) ⟨k_19_ok, k_15_ok, trivial⟩ (Ω := []) trivial k_21 F21_ok F21_call (fun _ => []) (fun _ => trivial) 0 (fun x => (fun (c : Cluster) (l : (List Step)) => (fun k => bif Nat.beq k 0 then some (.inv [.sl 9 .cInt, .sl 8 .cInt, .ce 0 .cCluster] (fun zv => (fun (i : Int) (n : Int) (d : Cluster) => i_21_0 c l i n d) zv.1 zv.2.1 zv.2.2.1) (fun zv => (fun (i : Int) (n : Int) (d : Cluster) => ((l.length : Int) - i).toNat) zv.1 zv.2.1 zv.2.2.1)) else none)) x.1 x.2.1) fun x hp => Eq.mp (by kernel_rfl) (k_21_v x.1 x.2.1)
def i_44_0 (a : (List Int)) (b : (List Int)) (i : Int) : Prop := 0 ≤ i ∧ a.length ≤ 100000
def k_44 : Con Tc Tc.dn := ⟨44, [.ty .lInt, .ty .lInt], fun x => (fun (a : (List Int)) (b : (List Int)) => a = b ∧ a.length ≤ 100000) x.1 x.2.1, [.cBool], fun x => (fun (a : (List Int)) (b : (List Int)) => true) x.1 x.2.1⟩
theorem k_44_v (a : (List Int)) (b : (List Int)) (hp : a = b ∧ a.length ≤ 100000) : (¬(↑a.length : Int) = (↑b.length : Int) → false = true) ∧ ((↑a.length : Int) = (↑b.length : Int) → i_44_0 a b (0 : Int) ∧ ∀ (x : Int), i_44_0 a b x → (x < (↑a.length : Int) → ((0 : Int) ≤ x ∧ x < (↑a.length : Int)) ∧ ((0 : Int) ≤ x ∧ x < (↑b.length : Int)) ∧ (¬gd (0 : Int) a x.toNat = gd (0 : Int) b x.toNat → false = true) ∧ (gd (0 : Int) a x.toNat = gd (0 : Int) b x.toNat → I64 (x + (1 : Int)) ∧ i_44_0 a b (x + (1 : Int)) ∧ ((↑a.length : Int) - (x + (1 : Int))).toNat < ((↑a.length : Int) - x).toNat)) ∧ ((↑a.length : Int) ≤ x → true = true)) := by
  obtain ⟨rfl, hq⟩ := hp
  (repeat' (first | apply And.intro | intro _)) <;> first | assumption | trivial | omega | (grind [i_44_0, I64, Clu.small]) | trace_state
theorem k_44_ok : k_44.Ok Tryd.prog tD := con_ok tD_ok (Δ := []) trivial (Ω := []) trivial k_44 F44_ok F44_call (fun _ => []) (fun _ => trivial) 0 (fun x => (fun (a : (List Int)) (b : (List Int)) => (fun k => bif Nat.beq k 0 then some (.inv [.sl 5 .cInt] (fun zv => (fun (i : Int) => i_44_0 a b i) zv.1) (fun zv => (fun (i : Int) => ((a.length : Int) - i).toNat) zv.1)) else none)) x.1 x.2.1) fun x hp => Eq.mp (by kernel_rfl) (k_44_v x.1 x.2.1 hp)
def i_45_0 (a : (List Msg)) (b : (List Msg)) (i : Int) : Prop := 0 ≤ i ∧ a.length ≤ 100000
def k_45 : Con Tc Tc.dn := ⟨45, [.ty .lMsg, .ty .lMsg], fun x => (fun (a : (List Msg)) (b : (List Msg)) => a = b ∧ a.length ≤ 100000) x.1 x.2.1, [.cBool], fun x => (fun (a : (List Msg)) (b : (List Msg)) => true) x.1 x.2.1⟩
abbrev z45_0 := (Msg.mk (0 : Int) (0 : Int) (0 : Int) (Copy.mk (Stp.mk (0 : Int) (0 : Int)) ByteArray.empty))
theorem k_45_v (a : (List Msg)) (b : (List Msg)) (hp : a = b ∧ a.length ≤ 100000) : (¬(↑a.length : Int) = (↑b.length : Int) → false = true) ∧ ((↑a.length : Int) = (↑b.length : Int) → i_45_0 a b (0 : Int) ∧ ∀ (x : Int), i_45_0 a b x → (x < (↑a.length : Int) → ((0 : Int) ≤ x ∧ x < (↑a.length : Int)) ∧ ((0 : Int) ≤ x ∧ x < (↑b.length : Int)) ∧ (¬(gd z45_0 a x.toNat).kind = (gd z45_0 b x.toNat).kind ∨ ¬(gd z45_0 a x.toNat).op = (gd z45_0 b x.toNat).op ∨ ¬(gd z45_0 a x.toNat).node = (gd z45_0 b x.toNat).node ∨ ¬(gd z45_0 a x.toNat).copy.at_.time = (gd z45_0 b x.toNat).copy.at_.time ∨ ¬(gd z45_0 a x.toNat).copy.at_.who = (gd z45_0 b x.toNat).copy.at_.who ∨ ¬(gd z45_0 a x.toNat).copy.data = (gd z45_0 b x.toNat).copy.data → false = true) ∧ ((gd z45_0 a x.toNat).kind = (gd z45_0 b x.toNat).kind ∧ (gd z45_0 a x.toNat).op = (gd z45_0 b x.toNat).op ∧ (gd z45_0 a x.toNat).node = (gd z45_0 b x.toNat).node ∧ (gd z45_0 a x.toNat).copy.at_.time = (gd z45_0 b x.toNat).copy.at_.time ∧ (gd z45_0 a x.toNat).copy.at_.who = (gd z45_0 b x.toNat).copy.at_.who ∧ (gd z45_0 a x.toNat).copy.data = (gd z45_0 b x.toNat).copy.data → I64 (x + (1 : Int)) ∧ i_45_0 a b (x + (1 : Int)) ∧ ((↑a.length : Int) - (x + (1 : Int))).toNat < ((↑a.length : Int) - x).toNat)) ∧ ((↑a.length : Int) ≤ x → true = true)) := by
  delta z45_0
  obtain ⟨rfl, hq⟩ := hp
  have hr := @strEq_iff
  (repeat' (first | apply And.intro | intro _)) <;> first | assumption | trivial | omega | (grind [i_45_0, I64, Clu.small]) | trace_state
theorem k_45_ok : k_45.Ok Tryd.prog tD := con_ok tD_ok (Δ := []) trivial (Ω := []) trivial k_45 F45_ok F45_call (fun _ => []) (fun _ => trivial) 0 (fun x => (fun (a : (List Msg)) (b : (List Msg)) => (fun k => bif Nat.beq k 0 then some (.inv [.sl 5 .cInt] (fun zv => (fun (i : Int) => i_45_0 a b i) zv.1) (fun zv => (fun (i : Int) => ((a.length : Int) - i).toNat) zv.1)) else none)) x.1 x.2.1) fun x hp => Eq.mp (by kernel_rfl) (k_45_v x.1 x.2.1 hp)
def i_17_2 (a : Cluster) (b : Cluster) (i : Int) : Prop := 0 ≤ i ∧ Clu.small a
def i_17_1 (a : Cluster) (b : Cluster) (i : Int) : Prop := 0 ≤ i ∧ Clu.small a
def i_17_0 (a : Cluster) (b : Cluster) (i : Int) : Prop := 0 ≤ i ∧ Clu.small a
def k_17 : Con Tc Tc.dn := ⟨17, [.ty .cCluster, .ty .cCluster], fun x => (fun (a : Cluster) (b : Cluster) => a = b ∧ Clu.small a) x.1 x.2.1, [.cBool], fun x => (fun (a : Cluster) (b : Cluster) => true) x.1 x.2.1⟩
abbrev z17_1 (a : Cluster) (b : Cluster) := ((true = !false ∧ a.voters.need = b.voters.need) ∧ (↑a.nodes.length : Int) = (↑b.nodes.length : Int))
abbrev z17_2 (a : Cluster) (b : Cluster) := ((z17_1 a b) ∧ (↑a.asks.length : Int) = (↑b.asks.length : Int))
abbrev z17_3 (a : Cluster) (b : Cluster) := ((true = !false ∧ a.voters.need = b.voters.need) ∧ (↑a.nodes.length : Int) = (↑b.nodes.length : Int) → (true = !false ∧ a.voters.need = b.voters.need) ∧ (↑a.nodes.length : Int) = (↑b.nodes.length : Int))
abbrev z17_4 (a : Cluster) (b : Cluster) := ((z17_1 a b) ∧ (↑a.asks.length : Int) = (↑b.asks.length : Int) → (z17_1 a b) ∧ (↑a.asks.length : Int) = (↑b.asks.length : Int))
abbrev z17_5 (a : Cluster) (b : Cluster) := (((z17_2 a b) ∧ (↑a.terms.length : Int) = (↑b.terms.length : Int)) ∧ true = !false → ((z17_2 a b) ∧ (↑a.terms.length : Int) = (↑b.terms.length : Int)) ∧ true = !false)
abbrev z17_6 (a : Cluster) (b : Cluster) := ((z17_2 a b) ∧ (↑a.terms.length : Int) = (↑b.terms.length : Int) → (z17_2 a b) ∧ (↑a.terms.length : Int) = (↑b.terms.length : Int))
abbrev z17_7 := (Copy.mk (Stp.mk (0 : Int) (0 : Int)) ByteArray.empty)
abbrev z17_0 := (Ask.mk (0 : Int) (0 : Int) (0 : Int) ByteArray.empty z17_7 (U64.mk (0 : Nat) LY.u64._proof_1))
abbrev z17_8 (a : Cluster) (b : Cluster) := (true = !false ∧ a.voters.need = b.voters.need → true = !false ∧ a.voters.need = b.voters.need)
theorem k_17_v (a : Cluster) (b : Cluster) (hp : a = b ∧ Clu.small a) : (a.voters.weights = b.voters.weights ∧ a.voters.weights.length ≤ (100000 : Nat)) ∧ (true = !!true → true = !!true) ∧ (true = !!true → true = !!true) ∧ (true = !!true → true = !!true) ∧ (true = !!true → true = !!true) ∧ (true = !!true → true = !!true) ∧ (true = !!true → true = !!true) ∧ (true = !false → true = !!true) ∧ (z17_8 a b) ∧ (z17_8 a b) ∧ (z17_8 a b) ∧ (z17_8 a b) ∧ (z17_8 a b) ∧ (z17_8 a b) ∧ (z17_8 a b) ∧ (z17_3 a b) ∧ (z17_3 a b) ∧ (z17_3 a b) ∧ (z17_3 a b) ∧ (z17_3 a b) ∧ (z17_3 a b) ∧ (z17_3 a b) ∧ (z17_4 a b) ∧ (z17_4 a b) ∧ (z17_4 a b) ∧ (z17_4 a b) ∧ (z17_4 a b) ∧ (z17_4 a b) ∧ (z17_4 a b) ∧ (z17_6 a b) ∧ (z17_6 a b) ∧ (z17_6 a b) ∧ (z17_6 a b) ∧ ((z17_2 a b) ∧ (↑a.terms.length : Int) = (↑b.terms.length : Int) → a.net = b.net ∧ a.net.length ≤ (100000 : Nat)) ∧ (z17_6 a b) ∧ (z17_6 a b) ∧ (z17_5 a b) ∧ (z17_5 a b) ∧ (z17_5 a b) ∧ (z17_5 a b) ∧ (z17_5 a b) ∧ ((((((true = !true ∨ ¬a.voters.need = b.voters.need) ∨ ¬(↑a.nodes.length : Int) = (↑b.nodes.length : Int)) ∨ ¬(↑a.asks.length : Int) = (↑b.asks.length : Int)) ∨ ¬(↑a.terms.length : Int) = (↑b.terms.length : Int)) ∨ true = !true) ∨ ¬a.clock = b.clock → false = true) ∧ ((((z17_2 a b) ∧ (↑a.terms.length : Int) = (↑b.terms.length : Int)) ∧ true = !false) ∧ a.clock = b.clock → i_17_0 a b (0 : Int) ∧ ∀ (x : Int), i_17_0 a b x → (x < (↑a.nodes.length : Int) → ((0 : Int) ≤ x ∧ x < (↑a.nodes.length : Int)) ∧ ((0 : Int) ≤ x ∧ x < (↑b.nodes.length : Int)) ∧ (¬(gd z17_7 a.nodes x.toNat).at_.time = (gd z17_7 b.nodes x.toNat).at_.time ∨ ¬(gd z17_7 a.nodes x.toNat).at_.who = (gd z17_7 b.nodes x.toNat).at_.who ∨ ¬(gd z17_7 a.nodes x.toNat).data = (gd z17_7 b.nodes x.toNat).data → false = true) ∧ ((gd z17_7 a.nodes x.toNat).at_.time = (gd z17_7 b.nodes x.toNat).at_.time ∧ (gd z17_7 a.nodes x.toNat).at_.who = (gd z17_7 b.nodes x.toNat).at_.who ∧ (gd z17_7 a.nodes x.toNat).data = (gd z17_7 b.nodes x.toNat).data → I64 (x + (1 : Int)) ∧ i_17_0 a b (x + (1 : Int)) ∧ ((↑a.nodes.length : Int) - (x + (1 : Int))).toNat < ((↑a.nodes.length : Int) - x).toNat)) ∧ ((↑a.nodes.length : Int) ≤ x → i_17_1 a b (0 : Int) ∧ ∀ (x : Int), i_17_1 a b x → (x < (↑a.asks.length : Int) → ((0 : Int) ≤ x ∧ x < (↑a.asks.length : Int)) ∧ ((0 : Int) ≤ x ∧ x < (↑b.asks.length : Int)) ∧ (¬(gd z17_0 a.asks x.toNat).op = (gd z17_0 b.asks x.toNat).op ∨ ¬(gd z17_0 a.asks x.toNat).kind = (gd z17_0 b.asks x.toNat).kind ∨ ¬(gd z17_0 a.asks x.toNat).phase = (gd z17_0 b.asks x.toNat).phase ∨ ¬(gd z17_0 a.asks x.toNat).data = (gd z17_0 b.asks x.toNat).data ∨ ¬(gd z17_0 a.asks x.toNat).best.at_.time = (gd z17_0 b.asks x.toNat).best.at_.time ∨ ¬(gd z17_0 a.asks x.toNat).best.at_.who = (gd z17_0 b.asks x.toNat).best.at_.who ∨ ¬(gd z17_0 a.asks x.toNat).best.data = (gd z17_0 b.asks x.toNat).best.data ∨ ¬(↑(gd z17_0 a.asks x.toNat).heard.n : Int) = (↑(gd z17_0 b.asks x.toNat).heard.n : Int) → false = true) ∧ ((gd z17_0 a.asks x.toNat).op = (gd z17_0 b.asks x.toNat).op ∧ (gd z17_0 a.asks x.toNat).kind = (gd z17_0 b.asks x.toNat).kind ∧ (gd z17_0 a.asks x.toNat).phase = (gd z17_0 b.asks x.toNat).phase ∧ (gd z17_0 a.asks x.toNat).data = (gd z17_0 b.asks x.toNat).data ∧ (gd z17_0 a.asks x.toNat).best.at_.time = (gd z17_0 b.asks x.toNat).best.at_.time ∧ (gd z17_0 a.asks x.toNat).best.at_.who = (gd z17_0 b.asks x.toNat).best.at_.who ∧ (gd z17_0 a.asks x.toNat).best.data = (gd z17_0 b.asks x.toNat).best.data ∧ (↑(gd z17_0 a.asks x.toNat).heard.n : Int) = (↑(gd z17_0 b.asks x.toNat).heard.n : Int) → I64 (x + (1 : Int)) ∧ i_17_1 a b (x + (1 : Int)) ∧ ((↑a.asks.length : Int) - (x + (1 : Int))).toNat < ((↑a.asks.length : Int) - x).toNat)) ∧ ((↑a.asks.length : Int) ≤ x → i_17_2 a b (0 : Int) ∧ ∀ (x : Int), i_17_2 a b x → (x < (↑a.terms.length : Int) → ((0 : Int) ≤ x ∧ x < (↑a.terms.length : Int)) ∧ ((0 : Int) ≤ x ∧ x < (↑b.terms.length : Int)) ∧ (¬(gd (Term.mk (0 : Int) (0 : Int)) a.terms x.toNat).begin = (gd (Term.mk (0 : Int) (0 : Int)) b.terms x.toNat).begin ∨ ¬(gd (Term.mk (0 : Int) (0 : Int)) a.terms x.toNat).end_ = (gd (Term.mk (0 : Int) (0 : Int)) b.terms x.toNat).end_ → false = true) ∧ ((gd (Term.mk (0 : Int) (0 : Int)) a.terms x.toNat).begin = (gd (Term.mk (0 : Int) (0 : Int)) b.terms x.toNat).begin ∧ (gd (Term.mk (0 : Int) (0 : Int)) a.terms x.toNat).end_ = (gd (Term.mk (0 : Int) (0 : Int)) b.terms x.toNat).end_ → I64 (x + (1 : Int)) ∧ i_17_2 a b (x + (1 : Int)) ∧ ((↑a.terms.length : Int) - (x + (1 : Int))).toNat < ((↑a.terms.length : Int) - x).toNat)) ∧ ((↑a.terms.length : Int) ≤ x → true = true)))) := by
  delta z17_8 z17_7 z17_6 z17_5 z17_4 z17_3 z17_2 z17_1 z17_0
  obtain ⟨rfl, hq⟩ := hp
  have hr := @strEq_iff
  (repeat' (first | apply And.intro | intro _)) <;> first | assumption | trivial | omega | (grind [i_17_2, i_17_1, i_17_0, I64, Clu.small]) | trace_state
theorem k_17_ok : k_17.Ok Tryd.prog tD := con_ok tD_ok (Δ := [k_44, k_45]) ⟨k_44_ok, k_45_ok, trivial⟩ (Ω := []) trivial k_17 F17_ok F17_call (fun _ => []) (fun _ => trivial) 0 (fun x => (fun (a : Cluster) (b : Cluster) => (fun k => bif Nat.beq k 0 then some (.inv [.sl 5 .cInt] (fun zv => (fun (i : Int) => i_17_0 a b i) zv.1) (fun zv => (fun (i : Int) => ((a.nodes.length : Int) - i).toNat) zv.1)) else bif Nat.beq k 1 then some (.inv [.sl 6 .cInt] (fun zv => (fun (i : Int) => i_17_1 a b i) zv.1) (fun zv => (fun (i : Int) => ((a.asks.length : Int) - i).toNat) zv.1)) else bif Nat.beq k 2 then some (.inv [.sl 7 .cInt] (fun zv => (fun (i : Int) => i_17_2 a b i) zv.1) (fun zv => (fun (i : Int) => ((a.terms.length : Int) - i).toNat) zv.1)) else none)) x.1 x.2.1) fun x hp => Eq.mp (by kernel_rfl) (k_17_v x.1 x.2.1 hp)
open Go.RowKit
theorem run_app : ∀ (l1 l2 : List Step) (c : Cluster) (n : Int), runGo (l1 ++ l2) c n = runGo l2 (runGo l1 c n).1 (runGo l1 c n).2
  | [], l2, c, n => rfl
  | x :: r, l2, c, n => by
    simp only [List.cons_append, runGo]
    split
    · exact run_app r l2 _ _
    · exact run_app r l2 _ _
theorem run_cnt : ∀ (l : List Step) (c : Cluster) (n : Int), n ≤ (runGo l c n).2 ∧ (runGo l c n).2 ≤ n + l.length
  | [], c, n => by simp [runGo]
  | x :: r, c, n => by
    unfold runGo
    split
    · have := run_cnt r (stepP c x).1 (n + 1); simp only [List.length_cons]; omega
    · have := run_cnt r c n; simp only [List.length_cons]; omega
theorem run_shift : ∀ (l : List Step) (c : Cluster) (n : Int), (runGo l c n).1 = (runGo l c 0).1 ∧ (runGo l c n).2 = (runGo l c 0).2 + n
  | [], c, n => by simp [runGo]
  | x :: r, c, n => by
    unfold runGo
    split
    · have h1 := run_shift r (stepP c x).1 (n + 1); have h2 := run_shift r (stepP c x).1 (0 + 1)
      exact ⟨h1.1.trans h2.1.symm, by omega⟩
    · exact run_shift r c n
theorem run_good {l : List Step} {c : Cluster} {n : Int} (h : c.checkE = 0) : (runGo l c n).1.checkE = 0 := (run_ind (fun _ => True) (fun _ _ _ _ _ _ => trivial) l c n h trivial).1
theorem runs_two {c : Cluster} {l : List Step} (he : (runP c l).2.2 = 0) {k : Int} (h0 : 0 ≤ k) (h1 : k ≤ l.length) : (runP c (l.take k.toNat)).2.2 = 0 ∧ (runP (runP c (l.take k.toNat)).1 (l.drop k.toNat)).2.2 = 0 ∧ (runP (runP c (l.take k.toNat)).1 (l.drop k.toNat)).1 = (runP c l).1 ∧
    (runP c (l.take k.toNat)).2.1 + (runP (runP c (l.take k.toNat)).1 (l.drop k.toNat)).2.1 = (runP c l).2.1 ∧ I64 ((runP c (l.take k.toNat)).2.1 + (runP (runP c (l.take k.toNat)).1 (l.drop k.toNat)).2.1) ∧ (runP c l).1.checkE = 0 := by
  have hc : c.checkE = 0 := by
    unfold runP at he; split at he
    · rename_i h; exact absurd he h
    · omega
  have hl : l.length ≤ 200 := by
    unfold runP at he; rw [if_neg (by omega)] at he; split at he
    · simp at he
    · omega
  have e1 : runP c (l.take k.toNat) = ((runGo (l.take k.toNat) c 0).1, (runGo (l.take k.toNat) c 0).2, 0) := by
    unfold runP; rw [if_neg (by omega), if_neg (by rw [List.length_take]; omega)]
  have hg := run_good (l := l.take k.toNat) (n := 0) hc
  have e2 : runP (runGo (l.take k.toNat) c 0).1 (l.drop k.toNat) = ((runGo (l.drop k.toNat) (runGo (l.take k.toNat) c 0).1 0).1, (runGo (l.drop k.toNat) (runGo (l.take k.toNat) c 0).1 0).2, 0) := by
    unfold runP; rw [if_neg (by omega), if_neg (by rw [List.length_drop]; omega)]
  have e3 : runP c l = ((runGo l c 0).1, (runGo l c 0).2, 0) := by unfold runP; rw [if_neg (by omega), if_neg (by omega)]
  have ha := run_app (l.take k.toNat) (l.drop k.toNat) c 0
  rw [List.take_append_drop] at ha
  have hs := run_shift (l.drop k.toNat) (runGo (l.take k.toNat) c 0).1 (runGo (l.take k.toNat) c 0).2
  have hn := run_cnt l c 0
  have hx := run_good (l := l) (n := 0) hc
  rw [e1, e3]
  simp only
  rw [e2]
  rw [ha] at hn hx ⊢
  refine ⟨by trivial, by trivial, hs.1.symm, by (try simp only); omega, ?_, hx⟩
  unfold I64; simp only; omega
theorem run_small (c : Cluster) (l : List Step) : Clu.small (runP c l).1 := by
  have hz : Clu.small Cluster.zero := by unfold Clu.small Cluster.zero; simp
  unfold runP
  split
  · exact hz
  · split
    · exact hz
    · rename_i h _; exact small_of (run_good (by omega))
def k_4 : Con Tc Tc.dn := ⟨4, [.ty .cCluster, .ty .lStep, .ty .cInt], fun x => (fun (c : Cluster) (l : (List Step)) (k : Int) => True) x.1 x.2.1 x.2.2.1, [.cBool], fun x => (fun (c : Cluster) (l : (List Step)) (k : Int) => true) x.1 x.2.1 x.2.2.1⟩
abbrev z4_1 (c : Cluster) (l : (List Step)) (k : Int) := (runP (runP c (List.take k.toNat l)).fst (List.drop k.toNat l))
abbrev z4_0 (c : Cluster) (l : (List Step)) (k : Int) := ((runP c (List.take k.toNat l)).snd.snd = (0 : Int) ∧ (z4_1 c l k).snd.snd = (0 : Int))
abbrev z4_2 (c : Cluster) (l : (List Step)) (k : Int) := (((z4_0 c l k) ∧ true = true) ∧ (runP c (List.take k.toNat l)).snd.fst + (z4_1 c l k).snd.fst = (runP c l).snd.fst → ((z4_0 c l k) ∧ true = true) ∧ (runP c (List.take k.toNat l)).snd.fst + (z4_1 c l k).snd.fst = (runP c l).snd.fst)
abbrev z4_3 (c : Cluster) (l : (List Step)) (k : Int) := ((runP c (List.take k.toNat l)).snd.snd = (0 : Int) ∧ (z4_1 c l k).snd.snd = (0 : Int) → (runP c (List.take k.toNat l)).snd.snd = (0 : Int) ∧ (z4_1 c l k).snd.snd = (0 : Int))
abbrev z4_4 (c : Cluster) (l : (List Step)) := ((true = !false ∧ true = !false) ∧ (runP c l).snd.fst = (runP c l).snd.fst → (true = !false ∧ true = !false) ∧ (runP c l).snd.fst = (runP c l).snd.fst)
theorem k_4_v (c : Cluster) (l : (List Step)) (k : Int) : True ∧ True ∧ True ∧ (true = !!true → true = !!true) ∧ (true = !!true → true = !!true) ∧ (true = !!true → (runP c l).fst = (runP c l).fst ∧ Clu.small (runP c l).fst) ∧ (true = !!true → true = !!true) ∧ (true = !false → true = !!true) ∧ (true = !false ∧ true = !false → true = !false ∧ true = !false) ∧ (true = !false ∧ true = !false → true = !false ∧ true = !false) ∧ (true = !false ∧ true = !false → true = !false ∧ true = !false) ∧ (z4_4 c l) ∧ (z4_4 c l) ∧ (z4_4 c l) ∧ (((true = !true ∨ true = !true) ∨ ¬(runP c l).snd.fst = (runP c l).snd.fst) ∨ ¬(runP c l).snd.snd = (runP c l).snd.snd → false = true) ∧ (((true = !false ∧ true = !false) ∧ (runP c l).snd.fst = (runP c l).snd.fst) ∧ (runP c l).snd.snd = (runP c l).snd.snd → ((runP c l).snd.snd = (0 : Int) → (runP c l).snd.snd = (0 : Int)) ∧ ((runP c l).snd.snd = (0 : Int) → (runP c l).snd.snd = (0 : Int)) ∧ ((runP c l).snd.snd = (0 : Int) ∧ (0 : Int) ≤ k → (runP c l).snd.snd = (0 : Int) ∧ (0 : Int) ≤ k) ∧ ((runP c l).snd.snd = (0 : Int) ∧ (0 : Int) ≤ k → (runP c l).snd.snd = (0 : Int) ∧ (0 : Int) ≤ k) ∧ ((runP c l).snd.snd = (0 : Int) ∧ (0 : Int) ≤ k → (runP c l).snd.snd = (0 : Int) ∧ (0 : Int) ≤ k) ∧ ((runP c l).snd.snd = (0 : Int) ∧ (0 : Int) ≤ k → (runP c l).snd.snd = (0 : Int) ∧ (0 : Int) ≤ k) ∧ ((¬(runP c l).snd.snd = (0 : Int) ∨ k < (0 : Int)) ∨ (↑l.length : Int) < k → true = true) ∧ (((runP c l).snd.snd = (0 : Int) ∧ (0 : Int) ≤ k) ∧ k ≤ (↑l.length : Int) → ((0 : Int) ≤ k ∧ k ≤ (↑l.length : Int)) ∧ True ∧ ((0 : Int) ≤ k ∧ k ≤ (↑l.length : Int)) ∧ True ∧ ((runP c (List.take k.toNat l)).snd.snd = (0 : Int) → (runP c (List.take k.toNat l)).snd.snd = (0 : Int)) ∧ ((runP c (List.take k.toNat l)).snd.snd = (0 : Int) → (runP c (List.take k.toNat l)).snd.snd = (0 : Int)) ∧ (z4_3 c l k) ∧ (z4_3 c l k) ∧ ((runP c (List.take k.toNat l)).snd.snd = (0 : Int) ∧ (z4_1 c l k).snd.snd = (0 : Int) → (z4_1 c l k).fst = (runP c l).fst ∧ Clu.small (z4_1 c l k).fst) ∧ (z4_3 c l k) ∧ ((z4_0 c l k) ∧ true = true → (z4_0 c l k) ∧ true = true) ∧ ((z4_0 c l k) ∧ true = true → (z4_0 c l k) ∧ true = true) ∧ ((z4_0 c l k) ∧ true = true → I64 ((runP c (List.take k.toNat l)).snd.fst + (z4_1 c l k).snd.fst)) ∧ ((z4_0 c l k) ∧ true = true → (z4_0 c l k) ∧ true = true) ∧ ((z4_0 c l k) ∧ true = true → (z4_0 c l k) ∧ true = true) ∧ ((z4_0 c l k) ∧ true = true → (z4_0 c l k) ∧ true = true) ∧ (z4_2 c l k) ∧ (((z4_0 c l k) ∧ true = true) ∧ (runP c (List.take k.toNat l)).snd.fst + (z4_1 c l k).snd.fst = (runP c l).snd.fst → True) ∧ (z4_2 c l k) ∧ (z4_2 c l k) ∧ ((runP c (List.take k.toNat l)).snd.snd == (0 : Int) && (z4_1 c l k).snd.snd == (0 : Int) && true && (runP c (List.take k.toNat l)).snd.fst + (z4_1 c l k).snd.fst == (runP c l).snd.fst && (runP c l).fst.checkE == (0 : Int)) = true)) := by
  delta z4_4 z4_3 z4_2 z4_1 z4_0
  have h0 := @runs_two c l
  have h1 := run_small
  simp only [Clu.small] at h1
  simp only [I64] at h0
  (repeat' (first | apply And.intro | intro _)) <;> first | assumption | trivial | omega | grind | trace_state
theorem k_4_ok : k_4.Ok Tryd.prog tD := con_ok tD_ok (Δ := [k_20, k_18, k_21, k_16, k_17]) ⟨k_20_ok, k_18_ok, k_21_ok, k_16_ok, k_17_ok, trivial⟩ (Ω := []) trivial k_4 F4_ok F4_call (fun _ => []) (fun _ => trivial) 0 (fun x => (fun (c : Cluster) (l : (List Step)) (k : Int) => (fun _ => none)) x.1 x.2.1 x.2.2.1) fun x hp => Eq.mp (by kernel_rfl) (k_4_v x.1 x.2.1 x.2.2.1)
theorem ClusterRuns_walk {w : World} (hG : GlE (E0 w fun b => b < w.heap.size)) (c : Cluster) (csc : List Value) (rc : GoT.rep w w.heap.size csc c) (l : (List Step)) (Al : Option Addr) (nl cl : Nat) (rl : GoT.rep w w.heap.size [.slice Al nl cl] l) (k : Int) (wk : (Lit.int .i64 k).wf = true) : Calls Tryd.prog 4 #[.agg csc.toArray, .slice Al nl cl, I k] w fun e w' => e = .returned (.bool true) ∧ Below w.heap.size w w' := by
  have rk : GoT.rep w w.heap.size [I k] k := ⟨rfl, i64_bd wk⟩
  have hf : Fn Tryd.prog 4 [(tD.en .cCluster c).av tD.toTE N0, (tD.en .lStep l).av tD.toTE N0, (tD.en .cInt k).av tD.toTE N0] (.v (.bool true)) := k_4_ok.2 (c, l, k, ()) N0 trivial
  exact fn_law (vs := [.agg csc.toArray, .slice Al nl cl, I k]) hf hG (.cons (arg_ag tD_ok (t := .cCluster) rfl (lgCluster.av rc)) (.cons (arg_one tD_ok (t := .lStep) rfl ((LG.list lgStep).av rl)) (.cons (arg_one tD_ok (t := .cInt) rfl (LG.i64.av rk)) .nil)))
end Go.Proofs.YtpagdlhlfmenmaaDoor
