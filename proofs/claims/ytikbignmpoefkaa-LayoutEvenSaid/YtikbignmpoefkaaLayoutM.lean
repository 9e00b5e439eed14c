/- Layouts in plain Lean: what the document says of nodes, pieces, blocks and loads. No condition. -/
import Derived.Test.YtikbignmpoefkaaApi
namespace Go.Proofs.Ytikbignmpoefkaa
namespace Layout
def inA (l : Layout) : Prop := 1 ≤ l.nodes ∧ l.nodes ≤ 12
def inB (l : Layout) : Prop := 1 ≤ l.data ∧ l.data ≤ 8
def inC (l : Layout) : Prop := 1 ≤ l.more ∧ l.more ≤ 6
instance (l : Layout) : Decidable l.inA := by unfold inA; infer_instance
instance (l : Layout) : Decidable l.inB := by unfold inB; infer_instance
instance (l : Layout) : Decidable l.inC := by unfold inC; infer_instance
/-- G1. -/
def checkE (l : Layout) : Int :=
  if l.inA ∧ l.inB ∧ l.inC then (if l.nodes < l.data + l.more then 8 else if 0 ≤ l.turn ∧ l.turn ≤ l.nodes - 1 then 0 else 3) else 3
theorem good {l : Layout} (h : l.checkE = 0) : l.inA ∧ l.inB ∧ l.inC ∧ l.data + l.more ≤ l.nodes ∧ 0 ≤ l.turn ∧ l.turn ≤ l.nodes - 1 := by
  unfold checkE at h
  split at h
  · rename_i h1
    split at h
    · simp at h
    · split at h
      · rename_i h2 h3; exact ⟨h1.1, h1.2.1, h1.2.2, by omega, h3.1, h3.2⟩
      · simp at h
  · simp at h
/-- G2. -/
def raw (l : Layout) (s p : Int) : Int := (l.turn + s + p) % l.nodes
def okNode (l : Layout) (s p : Int) : Bool := wi s 0 63 && wi p 0 (l.data + l.more - 1)
def nodeN (l : Layout) (s p : Int) : Int := if l.checkE = 0 ∧ l.okNode s p = true then l.raw s p else 0
def nodeE (l : Layout) (s p : Int) : Int := if l.checkE = 0 then (if l.okNode s p = true then 0 else 3) else l.checkE
def okPiece (l : Layout) (s n : Int) : Bool := wi s 0 63 && wi n 0 (l.nodes - 1)
/-- The number that a node's piece would have. -/
def place (l : Layout) (s n : Int) : Int := (n - l.turn - s) % l.nodes
def has (l : Layout) (s n : Int) : Bool := decide (l.place s n < l.data + l.more)
def pieceB (l : Layout) (s n : Int) : Bool := decide (l.checkE = 0) && l.okPiece s n && l.has s n
def pieceN (l : Layout) (s n : Int) : Int := if l.pieceB s n = true then l.place s n else 0
def pieceE (l : Layout) (s n : Int) : Int := if l.checkE = 0 then (if l.okPiece s n = true then 0 else 3) else l.checkE
def okBlock (l : Layout) (n : Int) : Bool := wi n 0 (64 * l.data - 1)
def blockE (l : Layout) (n : Int) : Int := if l.checkE = 0 then (if l.okBlock n = true then 0 else 3) else l.checkE
def blockS (l : Layout) (n : Int) : Int := if l.checkE = 0 ∧ l.okBlock n = true then n / l.data else 0
def blockP (l : Layout) (n : Int) : Int := if l.checkE = 0 ∧ l.okBlock n = true then n % l.data else 0
/-- How many of the first s stripes have a piece on node n. -/
def cnt (l : Layout) (n : Int) : Nat → Int
  | 0 => 0
  | s+1 => cnt l n s + (if l.has s n = true then 1 else 0)
def loads (l : Layout) (s : Nat) : List Int := (List.range l.nodes.toNat).map fun (n : Nat) => l.cnt (n : Int) s
def loadL (l : Layout) (s : Int) : List Int := if l.checkE = 0 ∧ wi s 0 64 = true then l.loads s.toNat else []
def loadE (l : Layout) (s : Int) : Int := if l.checkE = 0 then (if wi s 0 64 = true then 0 else 3) else l.checkE
theorem place_lt {l : Layout} (h : l.checkE = 0) (s n : Int) : 0 ≤ l.place s n ∧ l.place s n < l.nodes := by
  obtain ⟨⟨h1, _⟩, _⟩ := good h
  exact ⟨Int.emod_nonneg _ (by omega), Int.emod_lt_of_pos _ (by omega)⟩
theorem emod_uniq {a b m : Int} (h0 : 0 ≤ b) (h1 : b < m) (h2 : ∃ k, a = b + m * k) : a % m = b := by
  obtain ⟨k, rfl⟩ := h2
  rw [Int.add_mul_emod_self_left, Int.emod_eq_of_lt h0 h1]
theorem raw_iff {l : Layout} (s p n : Int) (hp : 0 ≤ p ∧ p < l.nodes) (hn : 0 ≤ n ∧ n < l.nodes) : l.raw s p = n ↔ l.place s n = p := by
  unfold raw place
  constructor
  · intro he
    refine emod_uniq hp.1 hp.2 ⟨-((l.turn + s + p) / l.nodes), ?_⟩
    have := Int.emod_add_mul_ediv (l.turn + s + p) l.nodes
    rw [Int.mul_neg]
    omega
  · intro he
    refine emod_uniq hn.1 hn.2 ⟨-((n - l.turn - s) / l.nodes), ?_⟩
    have := Int.emod_add_mul_ediv (n - l.turn - s) l.nodes
    rw [Int.mul_neg]
    omega
theorem raw_lt {l : Layout} (h : l.checkE = 0) (s p : Int) : 0 ≤ l.raw s p ∧ l.raw s p < l.nodes := by
  obtain ⟨⟨h1, _⟩, _⟩ := good h
  exact ⟨Int.emod_nonneg _ (by omega), Int.emod_lt_of_pos _ (by omega)⟩
theorem cnt_bd (l : Layout) (n : Int) (s : Nat) : 0 ≤ l.cnt n s ∧ l.cnt n s ≤ s := by
  induction s with
  | zero => exact ⟨Int.le_refl _, Int.le_refl _⟩
  | succ s ih => rw [cnt]; split <;> omega
end Layout
end Go.Proofs.Ytikbignmpoefkaa
