/- What functions answer (contracts). No condition. -/
import Derived.Test.YtjfakndleagacaaPMH
set_option linter.unusedSimpArgs false
set_option linter.unusedVariables false
set_option maxHeartbeats 4000000
set_option maxRecDepth 100000
namespace Go.Proofs.Ytjfakndleagacaa
open Go.RowKit
theorem gd_iff {α : Type} {d : α} {a b : List α} (h : a.length = b.length) (k : ∀ i, i < a.length → gd d a i = gd d b i) : a = b := by
  refine List.ext_getElem h fun i h1 h2 => ?_
  have := k i h1
  unfold gd at this
  rw [List.getElem?_eq_getElem h1, List.getElem?_eq_getElem h2] at this
  simpa using this
structure EqI {α : Type} (d : α) (a b : List α) (i : Int) : Prop where
  lo : 0 ≤ i
  hi : i ≤ a.length
  len : (a.length : Int) = b.length
  eq : ∀ j, j < i.toNat → gd d a j = gd d b j
theorem EqI.start {α : Type} {d : α} {a b : List α} (h : (a.length : Int) = b.length) : EqI d a b 0 := ⟨by omega, by omega, h, fun j hj => by omega⟩
theorem EqI.step {α : Type} {d : α} {a b : List α} {i : Int} (h : EqI d a b i) (hi : i < a.length) (he : gd d a i.toNat = gd d b i.toNat) : EqI d a b (i + 1) := ⟨by have := h.lo; omega, by omega, h.len, fun j hj => by
  by_cases e : j = i.toNat
  · subst e; exact he
  · exact h.eq j (by have := h.lo; omega)⟩
theorem EqI.fin {α : Type} {d : α} {a b : List α} {i : Int} (h : EqI d a b i) (hi : a.length ≤ i) : a = b := gd_iff (d := d) (by have := h.len; omega) fun j hj => h.eq j (by omega)
theorem gd_ne {α : Type} {d : α} {a b : List α} {i : Nat} (h : gd d a i ≠ gd d b i) : a ≠ b := fun e => h (e ▸ rfl)
theorem len_ne {α : Type} {a b : List α} (h : (a.length : Int) ≠ b.length) : a ≠ b := fun e => h (e ▸ rfl)
structure StI (K : RwL) (A : ArL) (L : List (List UInt8)) : Prop where
  len : K.length = L.length
  row : ∀ j, j < L.length → (gd (Row.no UInt8) K j).mine A ∧ lkA A (gd (Row.no UInt8) K j).id = gd [] L j
theorem StI.nil {A : ArL} : StI [] A [] := ⟨rfl, fun j hj => by simp at hj⟩
theorem StI.snoc {K : RwL} {A : ArL} {L : List (List UInt8)} {id : Nat} {r : List UInt8} (h : StI K A L) (hid : ¬ hasA A id) : StI (K ++ [Row.at UInt8 id r.length]) ((id, r) :: A) (L ++ [r]) := by
  refine ⟨by simp [h.len], fun j hj => ?_⟩
  rw [gd_app, gd_app]
  simp only [List.length_append, List.length_singleton] at hj
  by_cases e : j = K.length
  · rw [if_pos e, if_pos (by rw [e, h.len])]
    exact ⟨at_mine rfl, by rw [Row.at_id, lkA_cons, if_pos rfl]⟩
  · rw [if_neg e, if_neg (by rw [← h.len]; exact e)]
    obtain ⟨q1, q2⟩ := h.row j (by have := h.len; omega)
    have hne : (gd (Row.no UInt8) K j).id ≠ id := fun e => hid (e ▸ q1.2.1)
    exact ⟨⟨q1.1, hasA_cons.2 (.inr q1.2.1), by rw [lkA_cons, if_neg hne]; exact q1.2.2⟩, by rw [lkA_cons, if_neg hne]; exact q2⟩
theorem StI.fin {K : RwL} {A : ArL} {L : List (List UInt8)} (h : StI K A L) : (∀ x : Row UInt8, x ∈ K → x.ok A ∧ x.kd ≠ RK.nil) ∧ List.map (fun x => x.get A) K = L := by
  have hl := h.len
  refine ⟨gd_all (d := Row.no UInt8) fun j hj => ⟨Row.mine.ok (h.row j (by omega)).1, by rw [(h.row j (by omega)).1.1]; intro e; cases e⟩, ?_⟩
  refine gd_iff (d := []) (by simp [hl]) fun j hj => ?_
  simp only [List.length_map] at hj
  obtain ⟨p1, p2⟩ := h.row j (by omega)
  have e1 : gd (Row.no UInt8) K j = K[j] := by unfold gd; rw [List.getElem?_eq_getElem hj]; rfl
  rw [e1] at p1 p2
  rw [← p2, ← (Row.mine.get p1).1]
  unfold gd
  rw [List.getElem?_map, List.getElem?_eq_getElem hj]; rfl
structure UpI {α : Type} (n : Int) (f : Nat → α) (i : Int) (L : List α) : Prop where
  lo : 0 ≤ i
  hi : i ≤ n
  eq : L = (List.range i.toNat).map f
theorem UpI.start {α : Type} {n : Int} {f : Nat → α} (h : 0 ≤ n) : UpI n f 0 [] := ⟨by omega, h, rfl⟩
theorem UpI.step {α : Type} {n : Int} {f : Nat → α} {i : Int} {L : List α} (h : UpI n f i L) (hi : i < n) : UpI n f (i + 1) (L ++ [f i.toNat]) := ⟨by have := h.lo; omega, by omega, by
  have := h.lo
  rw [show (i + 1).toNat = i.toNat + 1 by omega, List.range_succ, List.map_append, ← h.eq]; rfl⟩
theorem UpI.len {α : Type} {n : Int} {f : Nat → α} {i : Int} {L : List α} (h : UpI n f i L) : (L.length : Int) = i := by rw [h.eq]; have := h.lo; simp; omega
theorem UpI.fin {α : Type} {n : Int} {f : Nat → α} {i : Int} {L : List α} (h : UpI n f i L) (hi : n ≤ i) : L = (List.range n.toNat).map f := by rw [h.eq, show i = n by have := h.hi; omega]
structure RwI (m n : Int) (f : Nat → Nat → UInt8) (i : Int) (K : RwL) (A : ArL) : Prop where
  lo : 0 ≤ i
  hi : i ≤ m
  few : m ≤ 64 ∧ n ≤ 64
  st : StI K A ((List.range i.toNat).map fun j => (List.range n.toNat).map (f j))
theorem RwI.start {m n : Int} {f : Nat → Nat → UInt8} {A : ArL} (h : 0 ≤ m) (hm : m ≤ 64) (hn : n ≤ 64) : RwI m n f 0 [] A := ⟨by omega, h, ⟨hm, hn⟩, StI.nil⟩
theorem RwI.len {m n : Int} {f : Nat → Nat → UInt8} {i : Int} {K : RwL} {A : ArL} (h : RwI m n f i K A) : (K.length : Int) = i := by rw [h.st.len]; have := h.lo; simp; omega
theorem RwI.step {m n k : Int} {f : Nat → Nat → UInt8} {i : Int} {K : RwL} {A : ArL} {id : Nat} {r : List UInt8} (h : RwI m n f i K A) (hi : i < m) (hid : ¬ hasA A id) (hr : UpI n (f i.toNat) k r) (hk : n ≤ k) : RwI m n f (i + 1) (K ++ [Row.at UInt8 id r.length]) ((id, r) :: A) := ⟨by have := h.lo; omega, by omega, h.few, by
  have := h.lo
  rw [show (i + 1).toNat = i.toNat + 1 by omega, List.range_succ, List.map_append]
  have := h.st.snoc hid (r := r)
  rw [hr.fin hk] at this ⊢
  exact this⟩
theorem RwI.fin {m n : Int} {f : Nat → Nat → UInt8} {i : Int} {K : RwL} {A : ArL} (h : RwI m n f i K A) (hi : m ≤ i) : (∀ x : Row UInt8, x ∈ K → x.ok A ∧ x.kd ≠ RK.nil) ∧ List.map (fun x => x.get A) K = fillL m n f := by
  have := h.st.fin
  rw [show i = m by have := h.hi; omega] at this
  exact this
def i_41_0 (a : (List UInt8)) (b : (List UInt8)) (i : Int) : Prop := EqI 0 a b i
def k_41 : Con Tc Tc.dn := ⟨41, [.ty .lU8, .ty .lU8], fun x => (fun (a : (List UInt8)) (b : (List UInt8)) => a.length ≤ 1000000) x.1 x.2.1, [.cBool], fun x => (fun (a : (List UInt8)) (b : (List UInt8)) => decide (a = b)) x.1 x.2.1⟩
theorem k_41_v (a : (List UInt8)) (b : (List UInt8)) (hp : a.length ≤ 1000000) : (¬(↑a.length : Int) = (↑b.length : Int) → false = decide (a = b)) ∧ ((↑a.length : Int) = (↑b.length : Int) → i_41_0 a b (0 : Int) ∧ ∀ (x : Int), i_41_0 a b x → (x < (↑a.length : Int) → ((0 : Int) ≤ x ∧ x < (↑a.length : Int)) ∧ ((0 : Int) ≤ x ∧ x < (↑b.length : Int)) ∧ (¬gd (0 : UInt8) a x.toNat = gd (0 : UInt8) b x.toNat → false = decide (a = b)) ∧ (gd (0 : UInt8) a x.toNat = gd (0 : UInt8) b x.toNat → I64 (x + (1 : Int)) ∧ i_41_0 a b (x + (1 : Int)) ∧ ((↑a.length : Int) - (x + (1 : Int))).toNat < ((↑a.length : Int) - x).toNat)) ∧ ((↑a.length : Int) ≤ x → true = decide (a = b))) := by
  have h1 := @EqI.start UInt8 0 a b
  have h2 := @EqI.step UInt8 0 a b
  have h3 := @EqI.fin UInt8 0 a b
  have h4 := @gd_ne UInt8 0 a b
  have h5 := @len_ne UInt8 a b
  have h6 := @EqI.lo UInt8 0 a b
  have h7 := @EqI.len UInt8 0 a b
  (repeat' (first | apply And.intro | intro _)) <;> first | assumption | trivial | omega | (grind [i_41_0, I64]) | trace_state
theorem k_41_ok : k_41.Ok Try.prog tD := con_ok tD_ok (Δ := []) trivial (Ω := []) trivial k_41 F41_ok F41_call (fun _ => []) (fun _ => trivial) 0 (fun x => (fun (a : (List UInt8)) (b : (List UInt8)) => (fun k => bif Nat.beq k 0 then some (.inv [.sl 5 .cInt] (fun zo zv => (fun (i : Int) => i_41_0 a b i) zv.1) (fun zo zv => (fun (i : Int) => ((a.length : Int) - i).toNat) zv.1)) else none)) x.1 x.2.1) fun x hp => Eq.mp (by kernel_rfl) (k_41_v x.1 x.2.1 hp)
def i_18_0 (a : (List (List UInt8))) (b : (List (List UInt8))) (i : Int) : Prop := EqI [] a b i
def k_18 : Con Tc Tc.dn := ⟨18, [.ty .llU8, .ty .llU8], fun x => (fun (a : (List (List UInt8))) (b : (List (List UInt8))) => a.length ≤ 1000000 ∧ ∀ r, r ∈ a → r.length ≤ 1000000) x.1 x.2.1, [.cBool], fun x => (fun (a : (List (List UInt8))) (b : (List (List UInt8))) => decide (a = b)) x.1 x.2.1⟩
theorem k_18_v (a : (List (List UInt8))) (b : (List (List UInt8))) (hp : a.length ≤ 1000000 ∧ ∀ r, r ∈ a → r.length ≤ 1000000) : (¬(↑a.length : Int) = (↑b.length : Int) → false = decide (a = b)) ∧ ((↑a.length : Int) = (↑b.length : Int) → i_18_0 a b (0 : Int) ∧ ∀ (x : Int), i_18_0 a b x → (x < (↑a.length : Int) → ((0 : Int) ≤ x ∧ x < (↑a.length : Int)) ∧ ((0 : Int) ≤ x ∧ x < (↑b.length : Int)) ∧ (gd [] a x.toNat).length ≤ (1000000 : Nat) ∧ (decide (gd [] a x.toNat = gd [] b x.toNat) = !true → false = decide (a = b)) ∧ (decide (gd [] a x.toNat = gd [] b x.toNat) = !false → I64 (x + (1 : Int)) ∧ i_18_0 a b (x + (1 : Int)) ∧ ((↑a.length : Int) - (x + (1 : Int))).toNat < ((↑a.length : Int) - x).toNat)) ∧ ((↑a.length : Int) ≤ x → true = decide (a = b))) := by
  have h1 := @EqI.start (List UInt8) [] a b
  have h2 := @EqI.step (List UInt8) [] a b
  have h3 := @EqI.fin (List UInt8) [] a b
  have h4 := @gd_ne (List UInt8) [] a b
  have h5 := @len_ne (List UInt8) a b
  have h6 := @EqI.lo (List UInt8) [] a b
  have h7 := @EqI.len (List UInt8) [] a b
  have h8 : ∀ i : Int, 0 ≤ i → i < (a.length : Int) → (gd [] a i.toNat).length ≤ 1000000 := fun i q1 q2 => hp.2 _ (gd_mem (by omega))
  (repeat' (first | apply And.intro | intro _)) <;> first | assumption | trivial | omega | (grind [i_18_0, I64]) | trace_state
theorem k_18_ok : k_18.Ok Try.prog tD := con_ok tD_ok (Δ := [k_41]) ⟨k_41_ok, trivial⟩ (Ω := []) trivial k_18 F18_ok F18_call (fun _ => []) (fun _ => trivial) 0 (fun x => (fun (a : (List (List UInt8))) (b : (List (List UInt8))) => (fun k => bif Nat.beq k 0 then some (.inv [.sl 5 .cInt] (fun zo zv => (fun (i : Int) => i_18_0 a b i) zv.1) (fun zo zv => (fun (i : Int) => ((a.length : Int) - i).toNat) zv.1)) else none)) x.1 x.2.1) fun x hp => Eq.mp (by kernel_rfl) (k_18_v x.1 x.2.1 hp)
open Go.RowKit
def k_20 : Con Tc Tc.dn := ⟨20, [], fun _ => True, [.cBool], fun _ => true⟩
abbrev z20_2 := (rankL [[UInt8.ofNat (Int.toNat (1 : Int)), UInt8.ofNat (Int.toNat (2 : Int)), UInt8.ofNat (Int.toNat (3 : Int))], [UInt8.ofNat (Int.toNat (2 : Int)), UInt8.ofNat (Int.toNat (4 : Int)), UInt8.ofNat (Int.toNat (6 : Int))]])
abbrev z20_3 := ((unitL (2 : Int)).fst = [[UInt8.ofNat (Int.toNat (1 : Int)), UInt8.ofNat (Int.toNat (0 : Int))], [UInt8.ofNat (Int.toNat (0 : Int)), UInt8.ofNat (Int.toNat (1 : Int))]])
abbrev z20_4 := (invL [[UInt8.ofNat (Int.toNat (1 : Int)), UInt8.ofNat (Int.toNat (2 : Int))], [UInt8.ofNat (Int.toNat (3 : Int)), UInt8.ofNat (Int.toNat (4 : Int))]])
abbrev z20_1 := (mulL z20_4.fst [[UInt8.ofNat (Int.toNat (1 : Int)), UInt8.ofNat (Int.toNat (2 : Int))], [UInt8.ofNat (Int.toNat (3 : Int)), UInt8.ofNat (Int.toNat (4 : Int))]])
abbrev z20_9 := (invL [[UInt8.ofNat (Int.toNat (1 : Int)), UInt8.ofNat (Int.toNat (2 : Int))], [UInt8.ofNat (Int.toNat (2 : Int)), UInt8.ofNat (Int.toNat (4 : Int))]])
abbrev z20_10 := (rowsL [[UInt8.ofNat (Int.toNat (1 : Int)), UInt8.ofNat (Int.toNat (2 : Int))], [UInt8.ofNat (Int.toNat (3 : Int)), UInt8.ofNat (Int.toNat (4 : Int))]] [(1 : Int), (0 : Int)])
abbrev z20_6 := (z20_10.fst = [[UInt8.ofNat (Int.toNat (3 : Int)), UInt8.ofNat (Int.toNat (4 : Int))], [UInt8.ofNat (Int.toNat (1 : Int)), UInt8.ofNat (Int.toNat (2 : Int))]])
abbrev z20_11 := (gd [] (cauL (2 : Int) (3 : Int)).fst (Int.toNat (0 : Int)))
abbrev z20_12 := ((z20_4.snd = (0 : Int) ∧ z20_1.snd = (0 : Int)) ∧ (unitL (2 : Int)).snd = (0 : Int) → (z20_4.snd = (0 : Int) ∧ z20_1.snd = (0 : Int)) ∧ (unitL (2 : Int)).snd = (0 : Int))
abbrev z20_13 := (decide z20_3 = true ∧ z20_2.fst = (1 : Int))
abbrev z20_0 := ((z20_13 ∧ z20_2.snd = (0 : Int)) ∧ z20_9.snd = (5 : Int))
abbrev z20_5 := (((z20_0 ∧ (cauL (2 : Int) (3 : Int)).snd = (0 : Int)) ∧ (↑(cauL (2 : Int) (3 : Int)).fst.length : Int) = (2 : Int)) ∧ (↑z20_11.length : Int) = (3 : Int) → ((z20_0 ∧ (cauL (2 : Int) (3 : Int)).snd = (0 : Int)) ∧ (↑(cauL (2 : Int) (3 : Int)).fst.length : Int) = (2 : Int)) ∧ (↑z20_11.length : Int) = (3 : Int))
abbrev z20_7 := ((z20_0 ∧ (cauL (2 : Int) (3 : Int)).snd = (0 : Int)) ∧ (↑(cauL (2 : Int) (3 : Int)).fst.length : Int) = (2 : Int) → (z20_0 ∧ (cauL (2 : Int) (3 : Int)).snd = (0 : Int)) ∧ (↑(cauL (2 : Int) (3 : Int)).fst.length : Int) = (2 : Int))
abbrev z20_8 := (((z20_0 ∧ (cauL (2 : Int) (3 : Int)).snd = (0 : Int)) ∧ (↑(cauL (2 : Int) (3 : Int)).fst.length : Int) = (2 : Int)) ∧ (↑z20_11.length : Int) = (3 : Int))
theorem k_20_v  : True ∧ True ∧ True ∧ True ∧ True ∧ True ∧ True ∧ (z20_4.snd = (0 : Int) → z20_4.snd = (0 : Int)) ∧ (z20_4.snd = (0 : Int) → z20_4.snd = (0 : Int)) ∧ (z20_4.snd = (0 : Int) ∧ z20_1.snd = (0 : Int) → z20_4.snd = (0 : Int) ∧ z20_1.snd = (0 : Int)) ∧ (z20_4.snd = (0 : Int) ∧ z20_1.snd = (0 : Int) → z20_4.snd = (0 : Int) ∧ z20_1.snd = (0 : Int)) ∧ z20_12 ∧ z20_12 ∧ ((z20_4.snd = (0 : Int) ∧ z20_1.snd = (0 : Int)) ∧ (unitL (2 : Int)).snd = (0 : Int) → z20_1.fst.length ≤ (1000000 : Nat) ∧ ∀ (r : List UInt8), r ∈ z20_1.fst → r.length ≤ (1000000 : Nat)) ∧ z20_12 ∧ (((z20_4.snd = (0 : Int) ∧ z20_1.snd = (0 : Int)) ∧ (unitL (2 : Int)).snd = (0 : Int)) ∧ decide (z20_1.fst = (unitL (2 : Int)).fst) = true → ((unitL (2 : Int)).fst.length ≤ (1000000 : Nat) ∧ ∀ (r : List UInt8), r ∈ (unitL (2 : Int)).fst → r.length ≤ (1000000 : Nat)) ∧ (decide z20_3 = true → decide z20_3 = true) ∧ (decide z20_3 = true → decide z20_3 = true) ∧ (decide z20_3 = true ∧ z20_2.fst = (1 : Int) → decide z20_3 = true ∧ z20_2.fst = (1 : Int)) ∧ (decide z20_3 = true ∧ z20_2.fst = (1 : Int) → decide z20_3 = true ∧ z20_2.fst = (1 : Int)) ∧ (z20_13 ∧ z20_2.snd = (0 : Int) → z20_13 ∧ z20_2.snd = (0 : Int)) ∧ (z20_13 ∧ z20_2.snd = (0 : Int) → z20_13 ∧ z20_2.snd = (0 : Int)) ∧ ((z20_13 ∧ z20_2.snd = (0 : Int)) ∧ z20_9.snd = (5 : Int) → (z20_13 ∧ z20_2.snd = (0 : Int)) ∧ z20_9.snd = (5 : Int)) ∧ ((z20_13 ∧ z20_2.snd = (0 : Int)) ∧ z20_9.snd = (5 : Int) → (z20_13 ∧ z20_2.snd = (0 : Int)) ∧ z20_9.snd = (5 : Int)) ∧ (z20_0 ∧ (cauL (2 : Int) (3 : Int)).snd = (0 : Int) → z20_0 ∧ (cauL (2 : Int) (3 : Int)).snd = (0 : Int)) ∧ (z20_0 ∧ (cauL (2 : Int) (3 : Int)).snd = (0 : Int) → z20_0 ∧ (cauL (2 : Int) (3 : Int)).snd = (0 : Int)) ∧ (z20_0 ∧ (cauL (2 : Int) (3 : Int)).snd = (0 : Int) → z20_0 ∧ (cauL (2 : Int) (3 : Int)).snd = (0 : Int)) ∧ z20_7 ∧ ((z20_0 ∧ (cauL (2 : Int) (3 : Int)).snd = (0 : Int)) ∧ (↑(cauL (2 : Int) (3 : Int)).fst.length : Int) = (2 : Int) → (0 : Int) ≤ (0 : Int) ∧ (0 : Int) < (↑(cauL (2 : Int) (3 : Int)).fst.length : Int)) ∧ z20_7 ∧ z20_7 ∧ z20_7 ∧ z20_7 ∧ z20_5 ∧ (((z20_0 ∧ (cauL (2 : Int) (3 : Int)).snd = (0 : Int)) ∧ (↑(cauL (2 : Int) (3 : Int)).fst.length : Int) = (2 : Int)) ∧ (↑z20_11.length : Int) = (3 : Int) → (0 : Int) ≤ (0 : Int) ∧ (0 : Int) < (↑(cauL (2 : Int) (3 : Int)).fst.length : Int)) ∧ z20_5 ∧ z20_5 ∧ (((z20_0 ∧ (cauL (2 : Int) (3 : Int)).snd = (0 : Int)) ∧ (↑(cauL (2 : Int) (3 : Int)).fst.length : Int) = (2 : Int)) ∧ (↑z20_11.length : Int) = (3 : Int) → (0 : Int) ≤ (0 : Int) ∧ (0 : Int) < (↑z20_11.length : Int)) ∧ z20_5 ∧ z20_5 ∧ z20_5 ∧ (z20_8 ∧ gd (0 : UInt8) z20_11 (Int.toNat (0 : Int)) = UInt8.ofNat (Int.toNat (142 : Int)) → z20_8 ∧ gd (0 : UInt8) z20_11 (Int.toNat (0 : Int)) = UInt8.ofNat (Int.toNat (142 : Int))) ∧ (z20_8 ∧ gd (0 : UInt8) z20_11 (Int.toNat (0 : Int)) = UInt8.ofNat (Int.toNat (142 : Int)) → z20_8 ∧ gd (0 : UInt8) z20_11 (Int.toNat (0 : Int)) = UInt8.ofNat (Int.toNat (142 : Int))) ∧ ((z20_8 ∧ gd (0 : UInt8) z20_11 (Int.toNat (0 : Int)) = UInt8.ofNat (Int.toNat (142 : Int))) ∧ z20_10.snd = (0 : Int) → (z20_10.fst.length ≤ (1000000 : Nat) ∧ ∀ (r : List UInt8), r ∈ z20_10.fst → r.length ≤ (1000000 : Nat)) ∧ (decide z20_6 = true → True) ∧ (decide z20_6 = true → decide z20_6 = true) ∧ (decide z20_6 = true → decide z20_6 = true) ∧ (decide z20_6 && mchk [] == (1 : Int)) = true) ∧ ((((((((decide z20_3 = false ∨ ¬z20_2.fst = (1 : Int)) ∨ ¬z20_2.snd = (0 : Int)) ∨ ¬z20_9.snd = (5 : Int)) ∨ ¬(cauL (2 : Int) (3 : Int)).snd = (0 : Int)) ∨ ¬(↑(cauL (2 : Int) (3 : Int)).fst.length : Int) = (2 : Int)) ∨ ¬(↑z20_11.length : Int) = (3 : Int)) ∨ ¬gd (0 : UInt8) z20_11 (Int.toNat (0 : Int)) = UInt8.ofNat (Int.toNat (142 : Int))) ∨ ¬z20_10.snd = (0 : Int) → false = true)) ∧ (((¬z20_4.snd = (0 : Int) ∨ ¬z20_1.snd = (0 : Int)) ∨ ¬(unitL (2 : Int)).snd = (0 : Int)) ∨ decide (z20_1.fst = (unitL (2 : Int)).fst) = false → false = true) := by
  delta z20_13 z20_12 z20_11 z20_10 z20_9 z20_8 z20_7 z20_6 z20_5 z20_4 z20_3 z20_2 z20_1 z20_0
  (repeat' (first | apply And.intro | (intro h; exact absurd h (by decide +kernel)) | (intro h; clear h) | decide +kernel)) <;> first | decide +kernel | trace_state
theorem k_20_ok : k_20.Ok Try.prog tD := con_ok tD_ok (Δ := [k_13, k_12, k_11, k_14, k_23, k_24, k_21, k_18]) ⟨k_13_ok, k_12_ok, k_11_ok, k_14_ok, k_23_ok, k_24_ok, k_21_ok, k_18_ok, trivial⟩ (Ω := []) trivial k_20 F20_ok F20_call (fun _ => []) (fun _ => trivial) 0 (fun _ => fun k => bif Nat.beq k 1021 then some (.frz [1]) else bif Nat.beq k 1038 then some (.frz [37]) else bif Nat.beq k 1045 then some (.frz [44]) else bif Nat.beq k 1078 then some (.frz [77]) else bif Nat.beq k 1125 then some (.frz [124]) else bif Nat.beq k 3074 then some (.spl 73) else bif Nat.beq k 3121 then some (.spl 120) else none) fun x hp => Eq.mp (by kernel_rfl) (k_20_v )
open Go.RowKit
theorem fill_rectN {m n : Nat} {f : Nat → Nat → UInt8} : mrect m n (fillL m n f) := by
  have := fill_rect (m := (m : Int)) (n := (n : Int)) (f := f)
  simpa using this
structure Okm (a : List (List UInt8)) (n m : Nat) : Prop where
  rect : mrect n m a
  n0 : 0 < n
  n16 : n ≤ 16
  m0 : 0 < m
  m16 : m ≤ 16
theorem Okm.of {a : List (List UInt8)} (h : mchk a = 0) : Okm a a.length (gd [] a 0).length := by
  obtain ⟨h1, h2, h3, h4, h5⟩ := mchk_ok h
  exact ⟨h5, h1, h2, h3, h4⟩
theorem Okm.len {a : List (List UInt8)} {n m : Nat} (h : Okm a n m) : a.length = n := h.rect.1
theorem Okm.fill {m n : Nat} {f : Nat → Nat → UInt8} (h1 : 0 < m) (h2 : m ≤ 16) (h3 : 0 < n) (h4 : n ≤ 16) : Okm (fillL m n f) m n := ⟨fill_rectN, h1, h2, h3, h4⟩
theorem ok_small {a : List (List UInt8)} {n m : Nat} (h : Okm a n m) : a.length ≤ 1000000 ∧ ∀ r, r ∈ a → r.length ≤ 1000000 := by
  have h1 := h.len
  have h2 := h.n16
  have h3 := h.m16
  exact ⟨by omega, fun r hr => by have := h.rect.2 r hr; omega⟩
open Go.RowKit
theorem div_one (x : UInt8) : divN (UInt8.ofNat (Int.toNat 1)) x = invN x := by
  unfold divN invN
  by_cases h : x = 0
  · rw [if_pos h, if_pos h]
  · rw [if_neg h, if_neg h]; exact one_gmul _
theorem fC_eq {m : Int} {i k : Int} (h0 : 0 ≤ i) (h1 : 0 ≤ k) (hm : 0 ≤ m) : divN (UInt8.ofNat (Int.toNat 1)) (UInt8.ofNat (((i.toNat ^^^ (m + k).toNat : Nat) : Int)).toNat) = fC m i.toNat k.toNat := by
  rw [div_one]
  unfold fC
  rw [Int.toNat_natCast, show (m + k).toNat = m.toNat + k.toNat by omega]
structure RoI (a : List (List UInt8)) (at_ : List Int) (i e : Int) (K : RwL) : Prop where
  lo : 0 ≤ i
  ok : e = 0 → mchk a = 0 ∧ 0 < at_.length ∧ at_.length ≤ 16 ∧ i ≤ at_.length ∧ (K.length : Int) = i ∧ ∀ j, j < i.toNat → (0 ≤ gd 0 at_ j ∧ gd 0 at_ j < a.length) ∧ gd (Row.no UInt8) K j = Row.fix UInt8 (gd [] a (gd 0 at_ j).toNat)
  bad : ¬ e = 0 → ([], e) = rowsL a at_
theorem RoI.many {a : List (List UInt8)} {at_ : List Int} (h : mchk a = 0 ∧ (16 : Int) < at_.length) : RoI a at_ 0 2 [] := ⟨by omega, fun h => by simp at h, fun _ => by unfold rowsL; rw [if_neg (by rw [h.1]; simp), if_pos (by omega)]⟩
theorem RoI.none {a : List (List UInt8)} {at_ : List Int} (h : mchk a = 0 ∧ (at_.length : Int) = 0) : RoI a at_ 0 1 [] := ⟨by omega, fun h => by simp at h, fun _ => by unfold rowsL; rw [if_neg (by rw [h.1]; simp), if_neg (by omega), if_pos (by omega)]⟩
theorem RoI.start {a : List (List UInt8)} {at_ : List Int} (h : ¬mchk a = 0 ∨ (at_.length : Int) ≤ 16) (h2 : ¬mchk a = 0 ∨ ¬(at_.length : Int) = 0) : RoI a at_ 0 (mchk a) [] := ⟨by omega, fun hc => ⟨hc, by omega, by omega, by omega, rfl, fun j hj => by omega⟩, fun hc => by unfold rowsL; rw [if_pos hc]⟩
theorem RoI.out {a : List (List UInt8)} {at_ : List Int} {i : Int} {K : RwL} (h : RoI a at_ i 0 K) (hi : i < at_.length) (hb : gd 0 at_ i.toNat < 0 ∨ (a.length : Int) ≤ gd 0 at_ i.toNat) : RoI a at_ (i + 1) 3 K := ⟨by have := h.lo; omega, fun h => by simp at h, fun _ => by
  obtain ⟨h1, h2, h3, h4, h5, h6⟩ := h.ok rfl
  have h0 := h.lo
  unfold rowsL
  rw [if_neg (by rw [h1]; simp), if_neg (by omega), if_neg (by omega), if_neg]
  intro hall
  have := hall _ (gd_mem (d := 0) (xs := at_) (i := i.toNat) (by omega))
  omega⟩
theorem RoI.step {a : List (List UInt8)} {at_ : List Int} {i : Int} {K : RwL} (h : RoI a at_ i 0 K) (hi : i < at_.length) (hb : 0 ≤ gd 0 at_ i.toNat ∧ gd 0 at_ i.toNat < (a.length : Int)) : RoI a at_ (i + 1) 0 (K ++ [Row.fix UInt8 (gd [] a (gd 0 at_ i.toNat).toNat)]) := ⟨by have := h.lo; omega, fun _ => by
  obtain ⟨h1, h2, h3, h4, h5, h6⟩ := h.ok rfl
  have h0 := h.lo
  refine ⟨h1, h2, h3, by omega, by simp; omega, fun j hj => ?_⟩
  rw [gd_app]
  by_cases e : j = K.length
  · have e2 : j = i.toNat := by omega
    rw [if_pos e]; subst e2; exact ⟨hb, rfl⟩
  · rw [if_neg e]; exact h6 j (by omega), fun hc => absurd rfl hc⟩
theorem RoI.few {a : List (List UInt8)} {at_ : List Int} {i : Int} {K : RwL} (h : RoI a at_ i 0 K) (hi : i < at_.length) : (K.length + 1) * 24 ≤ 140737488355328 ∧ I64 (i + 1) ∧ 0 ≤ i := by
  obtain ⟨h1, h2, h3, h4, h5, h6⟩ := h.ok rfl
  have h0 := h.lo
  unfold I64
  omega
theorem RoI.fin {a : List (List UInt8)} {at_ : List Int} {i : Int} {K : RwL} {A : ArL} (h : RoI a at_ i 0 K) (hi : at_.length ≤ i) : (∀ x : Row UInt8, x ∈ K → x.ok A ∧ x.kd ≠ RK.nil) ∧ (List.map (fun x => x.get A) K, (0 : Int)) = rowsL a at_ := by
  obtain ⟨h1, h2, h3, h4, h5, h6⟩ := h.ok rfl
  have h0 := h.lo
  refine ⟨gd_all (d := Row.no UInt8) fun j hj => by rw [(h6 j (by omega)).2]; exact ⟨trivial, by intro e; cases e⟩, ?_⟩
  unfold rowsL
  rw [if_neg (by rw [h1]; simp), if_neg (by omega), if_neg (by omega), if_pos]
  · congr 1
    apply List.ext_getElem
    · simp; omega
    · intro j q1 q2
      simp only [List.length_map] at q1 q2
      have p := (h6 j (by omega)).2
      have e1 : gd (Row.no UInt8) K j = K[j] := by unfold gd; rw [List.getElem?_eq_getElem q1]; rfl
      have e2 : gd 0 at_ j = at_[j] := by unfold gd; rw [List.getElem?_eq_getElem q2]; rfl
      rw [e1, e2] at p
      rw [List.getElem_map, List.getElem_map, p]; rfl
  · intro x hx
    obtain ⟨j, hj, rfl⟩ := List.mem_iff_getElem.1 hx
    have e2 : gd 0 at_ j = at_[j] := by unfold gd; rw [List.getElem?_eq_getElem hj]; rfl
    rw [← e2]
    exact (h6 j (by omega)).1
theorem RoI.end_ {a : List (List UInt8)} {at_ : List Int} {i e : Int} {K : RwL} {A : ArL} (h : RoI a at_ i e K) (hi : (at_.length : Int) ≤ i ∨ ¬ e = 0) : e = 0 → (∀ x : Row UInt8, x ∈ K → x.ok A ∧ x.kd ≠ RK.nil) ∧ (List.map (fun x => x.get A) K, (0 : Int)) = rowsL a at_ := fun he => by
  subst he
  exact h.fin (by rcases hi with h | h; exact h; exact absurd rfl h)
def i_22_0 (a : (List (List UInt8))) (i : Int) : Prop := 0 ≤ i ∧ i ≤ a.length ∧ 0 < a.length ∧ a.length ≤ 16 ∧ mchkGo (gd [] a 0).length (a.drop i.toNat) = mchkGo (gd [] a 0).length a
def k_22 : Con Tc Tc.dn := ⟨22, [.ty .llU8], fun x => (fun (a : (List (List UInt8))) => True) x.1, [.cInt], fun x => (fun (a : (List (List UInt8))) => mchk a) x.1⟩
theorem k_22_v (a : (List (List UInt8))) : ((16 : Int) < (↑a.length : Int) → (2 : Int) = mchk a) ∧ ((↑a.length : Int) ≤ (16 : Int) → ((↑a.length : Int) = (0 : Int) → (1 : Int) = mchk a) ∧ (¬(↑a.length : Int) = (0 : Int) → i_22_0 a (0 : Int) ∧ ∀ (x : Int), i_22_0 a x → (x < (↑a.length : Int) → ((0 : Int) ≤ x ∧ x < (↑a.length : Int)) ∧ ((16 : Int) < (↑(gd [] a x.toNat).length : Int) → (2 : Int) = mchk a) ∧ ((↑(gd [] a x.toNat).length : Int) ≤ (16 : Int) → ((0 : Int) ≤ x ∧ x < (↑a.length : Int)) ∧ (¬(↑(gd [] a x.toNat).length : Int) = (0 : Int) → ¬(↑(gd [] a x.toNat).length : Int) = (0 : Int)) ∧ (¬(↑(gd [] a x.toNat).length : Int) = (0 : Int) → ¬(↑(gd [] a x.toNat).length : Int) = (0 : Int)) ∧ (¬(↑(gd [] a x.toNat).length : Int) = (0 : Int) → (0 : Int) ≤ x ∧ x < (↑a.length : Int)) ∧ (¬(↑(gd [] a x.toNat).length : Int) = (0 : Int) → ¬(↑(gd [] a x.toNat).length : Int) = (0 : Int)) ∧ (¬(↑(gd [] a x.toNat).length : Int) = (0 : Int) → ¬(↑(gd [] a x.toNat).length : Int) = (0 : Int)) ∧ (¬(↑(gd [] a x.toNat).length : Int) = (0 : Int) → ¬(↑(gd [] a x.toNat).length : Int) = (0 : Int)) ∧ (¬(↑(gd [] a x.toNat).length : Int) = (0 : Int) → (0 : Int) ≤ (0 : Int) ∧ (0 : Int) < (↑a.length : Int)) ∧ (¬(↑(gd [] a x.toNat).length : Int) = (0 : Int) → ¬(↑(gd [] a x.toNat).length : Int) = (0 : Int)) ∧ (¬(↑(gd [] a x.toNat).length : Int) = (0 : Int) → ¬(↑(gd [] a x.toNat).length : Int) = (0 : Int)) ∧ (¬(↑(gd [] a x.toNat).length : Int) = (0 : Int) → ¬(↑(gd [] a x.toNat).length : Int) = (0 : Int)) ∧ (¬(↑(gd [] a x.toNat).length : Int) = (0 : Int) → ¬(↑(gd [] a x.toNat).length : Int) = (0 : Int)) ∧ (¬(↑(gd [] a x.toNat).length : Int) = (0 : Int) → ¬(↑(gd [] a x.toNat).length : Int) = (0 : Int)) ∧ ((↑(gd [] a x.toNat).length : Int) = (0 : Int) ∨ ¬(↑(gd [] a x.toNat).length : Int) = (↑(gd [] a (Int.toNat (0 : Int))).length : Int) → (1 : Int) = mchk a) ∧ (¬(↑(gd [] a x.toNat).length : Int) = (0 : Int) ∧ (↑(gd [] a x.toNat).length : Int) = (↑(gd [] a (Int.toNat (0 : Int))).length : Int) → I64 (x + (1 : Int)) ∧ i_22_0 a (x + (1 : Int)) ∧ ((↑a.length : Int) - (x + (1 : Int))).toNat < ((↑a.length : Int) - x).toNat))) ∧ ((↑a.length : Int) ≤ x → (0 : Int) = mchk a))) := by
  (repeat' (first | apply And.intro | intro _)) <;> first | assumption | trivial | omega | (grind [mchk, mchkGo, drop_gd, drop_end, I64, i_22_0]) | trace_state
theorem k_22_ok : k_22.Ok Try.prog tD := con_ok tD_ok (Δ := []) trivial (Ω := []) trivial k_22 F22_ok F22_call (fun _ => []) (fun _ => trivial) 0 (fun x => (fun (a : (List (List UInt8))) => (fun k => bif Nat.beq k 0 then some (.inv [.sl 3 .cInt] (fun zo zv => (fun (i : Int) => i_22_0 a i) zv.1) (fun zo zv => (fun (i : Int) => ((a.length : Int) - i).toNat) zv.1)) else none)) x.1) fun x hp => Eq.mp (by kernel_rfl) (k_22_v x.1)
def i_25_1 (m : Int) (n : Int) (k0 : Int) (i0 : Int) (r0 : (List UInt8)) (k : Int) (i : Int) (r : (List UInt8)) : Prop := i = i0 ∧ UpI n (fC m i.toNat) k r
def i_25_0 (m : Int) (n : Int) (i : Int) (K : (List (Row UInt8))) (A : (List (Nat × List UInt8))) : Prop := (1 ≤ m ∧ m ≤ 16 ∧ 1 ≤ n ∧ n ≤ 16) ∧ RwI m n (fC m) i K A
def k_25 : Con Tc Tc.dn := ⟨25, [.ty .cInt, .ty .cInt], fun x => (fun (m : Int) (n : Int) => True) x.1 x.2.1, [.llU8, .cInt], fun x => (fun (m : Int) (n : Int) => cauL m n) x.1 x.2.1⟩
theorem k_25_v (m : Int) (n : Int) : ((1 : Int) ≤ m → (1 : Int) ≤ m) ∧ ((1 : Int) ≤ m → (1 : Int) ≤ m) ∧ ((1 : Int) ≤ m ∧ m ≤ (16 : Int) → (1 : Int) ≤ m ∧ m ≤ (16 : Int)) ∧ ((1 : Int) ≤ m ∧ m ≤ (16 : Int) → (1 : Int) ≤ m ∧ m ≤ (16 : Int)) ∧ (((1 : Int) ≤ m ∧ m ≤ (16 : Int)) ∧ (1 : Int) ≤ n → ((1 : Int) ≤ m ∧ m ≤ (16 : Int)) ∧ (1 : Int) ≤ n) ∧ (((1 : Int) ≤ m ∧ m ≤ (16 : Int)) ∧ (1 : Int) ≤ n → ((1 : Int) ≤ m ∧ m ≤ (16 : Int)) ∧ (1 : Int) ≤ n) ∧ (((m < (1 : Int) ∨ (16 : Int) < m) ∨ n < (1 : Int)) ∨ (16 : Int) < n → ([], (3 : Int)) = cauL m n) ∧ ((((1 : Int) ≤ m ∧ m ≤ (16 : Int)) ∧ (1 : Int) ≤ n) ∧ n ≤ (16 : Int) → i_25_0 m n (0 : Int) [] [] ∧ ∀ (x : Int) (x_1 : List (Row UInt8)) (x_2 : List (Nat × List UInt8)), i_25_0 m n x x_1 x_2 → (x < m → i_25_1 m n (0 : Int) x [] (0 : Int) x [] ∧ ∀ (x_3 x_4 : Int) (x_5 : List UInt8), i_25_1 m n (0 : Int) x [] x_3 x_4 x_5 → (x_3 < n → I64 (m + x_3) ∧ ((0 : Int) ≤ x_4 ∧ (0 : Int) ≤ m + x_3 ∧ I64 x_4 ∧ I64 (m + x_3)) ∧ (0 : Int) ≤ (↑(x_4.toNat ^^^ (m + x_3).toNat) : Int) ∧ True ∧ (x_5.length + (1 : Nat)) * (1 : Nat) ≤ (140737488355328 : Nat) ∧ I64 (x_3 + (1 : Int)) ∧ i_25_1 m n (0 : Int) x [] (x_3 + (1 : Int)) x_4 (x_5 ++ [divN (UInt8.ofNat (Int.toNat (1 : Int))) (UInt8.ofNat (↑(x_4.toNat ^^^ (m + x_3).toNat) : Int).toNat)]) ∧ (n - (x_3 + (1 : Int))).toNat < (n - x_3).toNat) ∧ (n ≤ x_3 → ∀ (id : Nat), ¬hasA x_2 id → (x_1.length + (1 : Nat)) * (24 : Nat) ≤ (140737488355328 : Nat) ∧ I64 (x_4 + (1 : Int)) ∧ i_25_0 m n (x_4 + (1 : Int)) (x_1 ++ [Row.at UInt8 id x_5.length]) ((id, x_5) :: x_2) ∧ (m - (x_4 + (1 : Int))).toNat < (m - x).toNat)) ∧ (m ≤ x → (∀ (x : Row UInt8), x ∈ x_1 → x.ok x_2 ∧ x.kd ≠ RK.nil) ∧ (List.map (fun x => x.get x_2) x_1, (0 : Int)) = cauL m n)) := by
  have h1 := @RwI.start m n (fC m)
  have h2 := @RwI.step m n
  have h3 := @RwI.fin m n (fC m)
  have h4 := @RwI.len m n (fC m)
  have h5 := @UpI.start UInt8 n
  have h6 := @UpI.step UInt8 n
  have h7 := @UpI.len UInt8 n
  have h8 := @fC_eq m
  have h9 := @RwI.lo m n (fC m)
  have h10 := @UpI.lo UInt8 n
  unfold cauL
  (repeat' (first | apply And.intro | intro _)) <;> first | assumption | trivial | omega | (grind [i_25_1, i_25_0, I64]) | trace_state
theorem k_25_ok : k_25.Ok Try.prog tD := con_ok tD_ok (Δ := [k_39]) ⟨k_39_ok, trivial⟩ (Ω := []) trivial k_25 F25_ok F25_call (fun _ => []) (fun _ => trivial) 0 (fun x => (fun (m : Int) (n : Int) => (fun k => bif Nat.beq k 0 then some (.inv [.sl 7 .cInt, .ow 6 .rU8, .ar .cU8] (fun zo zv => (fun (i : Int) (K : (List (Row UInt8))) (A : (List (Nat × List UInt8))) => i_25_0 m n i K A) zv.1 zv.2.1 zv.2.2.1) (fun zo zv => (fun (i : Int) (K : (List (Row UInt8))) (A : (List (Nat × List UInt8))) => (m - i).toNat) zv.1 zv.2.1 zv.2.2.1)) else bif Nat.beq k 1 then some (.inv [.sl 9 .cInt, .sl 7 .cInt, .ow 8 .cU8] (fun zo zv => (fun (k0 : Int) (i0 : Int) (r0 : (List UInt8)) (k : Int) (i : Int) (r : (List UInt8)) => i_25_1 m n k0 i0 r0 k i r) zo.1 zo.2.1 zo.2.2.1 zv.1 zv.2.1 zv.2.2.1) (fun zo zv => (fun (k0 : Int) (i0 : Int) (r0 : (List UInt8)) (k : Int) (i : Int) (r : (List UInt8)) => (n - k).toNat) zo.1 zo.2.1 zo.2.2.1 zv.1 zv.2.1 zv.2.2.1)) else none)) x.1 x.2.1) fun x hp => Eq.mp (by kernel_rfl) (k_25_v x.1 x.2.1)
def i_26_0 (a : (List (List UInt8))) (at_ : (List Int)) (i : Int) (e : Int) (K : (List (Row UInt8))) (A : (List (Nat × List UInt8))) : Prop := RoI a at_ i e K
def k_26 : Con Tc Tc.dn := ⟨26, [.ty .llU8, .ty .lInt], fun x => (fun (a : (List (List UInt8))) (at_ : (List Int)) => True) x.1 x.2.1, [.llU8, .cInt], fun x => (fun (a : (List (List UInt8))) (at_ : (List Int)) => rowsL a at_) x.1 x.2.1⟩
theorem k_26_v (a : (List (List UInt8))) (at_ : (List Int)) : True ∧ (mchk a = (0 : Int) → mchk a = (0 : Int)) ∧ (mchk a = (0 : Int) → mchk a = (0 : Int)) ∧ (mchk a = (0 : Int) → mchk a = (0 : Int)) ∧ (mchk a = (0 : Int) ∧ (16 : Int) < (↑at_.length : Int) → i_26_0 a at_ (0 : Int) (2 : Int) [] [] ∧ ∀ (x x_1 : Int) (x_2 : List (Row UInt8)) (x_3 : List (Nat × List UInt8)), i_26_0 a at_ x x_1 x_2 x_3 → (x < (↑at_.length : Int) → x < (↑at_.length : Int)) ∧ (x < (↑at_.length : Int) → x < (↑at_.length : Int)) ∧ (x < (↑at_.length : Int) ∧ x_1 = (0 : Int) → ((0 : Int) ≤ x ∧ x < (↑at_.length : Int)) ∧ ((0 : Int) ≤ gd (0 : Int) at_ x.toNat → (0 : Int) ≤ gd (0 : Int) at_ x.toNat) ∧ ((0 : Int) ≤ gd (0 : Int) at_ x.toNat → (0 : Int) ≤ gd (0 : Int) at_ x.toNat) ∧ ((0 : Int) ≤ gd (0 : Int) at_ x.toNat → (0 : Int) ≤ x ∧ x < (↑at_.length : Int)) ∧ ((0 : Int) ≤ gd (0 : Int) at_ x.toNat → (0 : Int) ≤ gd (0 : Int) at_ x.toNat) ∧ ((0 : Int) ≤ gd (0 : Int) at_ x.toNat → (0 : Int) ≤ gd (0 : Int) at_ x.toNat) ∧ ((0 : Int) ≤ gd (0 : Int) at_ x.toNat → (0 : Int) ≤ gd (0 : Int) at_ x.toNat) ∧ ((0 : Int) ≤ gd (0 : Int) at_ x.toNat → (0 : Int) ≤ gd (0 : Int) at_ x.toNat) ∧ ((0 : Int) ≤ gd (0 : Int) at_ x.toNat → (0 : Int) ≤ gd (0 : Int) at_ x.toNat) ∧ (gd (0 : Int) at_ x.toNat < (0 : Int) ∨ (↑a.length : Int) ≤ gd (0 : Int) at_ x.toNat → I64 (x + (1 : Int)) ∧ i_26_0 a at_ (x + (1 : Int)) (3 : Int) x_2 x_3 ∧ ((↑at_.length : Int) - (x + (1 : Int))).toNat < ((↑at_.length : Int) - x).toNat) ∧ ((0 : Int) ≤ gd (0 : Int) at_ x.toNat ∧ gd (0 : Int) at_ x.toNat < (↑a.length : Int) → ((0 : Int) ≤ x ∧ x < (↑at_.length : Int)) ∧ ((0 : Int) ≤ gd (0 : Int) at_ x.toNat ∧ gd (0 : Int) at_ x.toNat < (↑a.length : Int)) ∧ (x_2.length + (1 : Nat)) * (24 : Nat) ≤ (140737488355328 : Nat) ∧ I64 (x + (1 : Int)) ∧ i_26_0 a at_ (x + (1 : Int)) x_1 (x_2 ++ [Row.fix UInt8 (gd [] a (gd (0 : Int) at_ x.toNat).toNat)]) x_3 ∧ ((↑at_.length : Int) - (x + (1 : Int))).toNat < ((↑at_.length : Int) - x).toNat)) ∧ ((↑at_.length : Int) ≤ x ∨ ¬x_1 = (0 : Int) → (¬x_1 = (0 : Int) → ([], x_1) = rowsL a at_) ∧ (x_1 = (0 : Int) → (∀ (x : Row UInt8), x ∈ x_2 → x.ok x_3 ∧ x.kd ≠ RK.nil) ∧ (List.map (fun x => x.get x_3) x_2, (0 : Int)) = rowsL a at_))) ∧ (¬mchk a = (0 : Int) ∨ (↑at_.length : Int) ≤ (16 : Int) → (mchk a = (0 : Int) → mchk a = (0 : Int)) ∧ (mchk a = (0 : Int) → mchk a = (0 : Int)) ∧ (mchk a = (0 : Int) → mchk a = (0 : Int)) ∧ (mchk a = (0 : Int) ∧ (↑at_.length : Int) = (0 : Int) → i_26_0 a at_ (0 : Int) (1 : Int) [] [] ∧ ∀ (x x_1 : Int) (x_2 : List (Row UInt8)) (x_3 : List (Nat × List UInt8)), i_26_0 a at_ x x_1 x_2 x_3 → (x < (↑at_.length : Int) → x < (↑at_.length : Int)) ∧ (x < (↑at_.length : Int) → x < (↑at_.length : Int)) ∧ (x < (↑at_.length : Int) ∧ x_1 = (0 : Int) → ((0 : Int) ≤ x ∧ x < (↑at_.length : Int)) ∧ ((0 : Int) ≤ gd (0 : Int) at_ x.toNat → (0 : Int) ≤ gd (0 : Int) at_ x.toNat) ∧ ((0 : Int) ≤ gd (0 : Int) at_ x.toNat → (0 : Int) ≤ gd (0 : Int) at_ x.toNat) ∧ ((0 : Int) ≤ gd (0 : Int) at_ x.toNat → (0 : Int) ≤ x ∧ x < (↑at_.length : Int)) ∧ ((0 : Int) ≤ gd (0 : Int) at_ x.toNat → (0 : Int) ≤ gd (0 : Int) at_ x.toNat) ∧ ((0 : Int) ≤ gd (0 : Int) at_ x.toNat → (0 : Int) ≤ gd (0 : Int) at_ x.toNat) ∧ ((0 : Int) ≤ gd (0 : Int) at_ x.toNat → (0 : Int) ≤ gd (0 : Int) at_ x.toNat) ∧ ((0 : Int) ≤ gd (0 : Int) at_ x.toNat → (0 : Int) ≤ gd (0 : Int) at_ x.toNat) ∧ ((0 : Int) ≤ gd (0 : Int) at_ x.toNat → (0 : Int) ≤ gd (0 : Int) at_ x.toNat) ∧ (gd (0 : Int) at_ x.toNat < (0 : Int) ∨ (↑a.length : Int) ≤ gd (0 : Int) at_ x.toNat → I64 (x + (1 : Int)) ∧ i_26_0 a at_ (x + (1 : Int)) (3 : Int) x_2 x_3 ∧ ((↑at_.length : Int) - (x + (1 : Int))).toNat < ((↑at_.length : Int) - x).toNat) ∧ ((0 : Int) ≤ gd (0 : Int) at_ x.toNat ∧ gd (0 : Int) at_ x.toNat < (↑a.length : Int) → ((0 : Int) ≤ x ∧ x < (↑at_.length : Int)) ∧ ((0 : Int) ≤ gd (0 : Int) at_ x.toNat ∧ gd (0 : Int) at_ x.toNat < (↑a.length : Int)) ∧ (x_2.length + (1 : Nat)) * (24 : Nat) ≤ (140737488355328 : Nat) ∧ I64 (x + (1 : Int)) ∧ i_26_0 a at_ (x + (1 : Int)) x_1 (x_2 ++ [Row.fix UInt8 (gd [] a (gd (0 : Int) at_ x.toNat).toNat)]) x_3 ∧ ((↑at_.length : Int) - (x + (1 : Int))).toNat < ((↑at_.length : Int) - x).toNat)) ∧ ((↑at_.length : Int) ≤ x ∨ ¬x_1 = (0 : Int) → (¬x_1 = (0 : Int) → ([], x_1) = rowsL a at_) ∧ (x_1 = (0 : Int) → (∀ (x : Row UInt8), x ∈ x_2 → x.ok x_3 ∧ x.kd ≠ RK.nil) ∧ (List.map (fun x => x.get x_3) x_2, (0 : Int)) = rowsL a at_))) ∧ (¬mchk a = (0 : Int) ∨ ¬(↑at_.length : Int) = (0 : Int) → i_26_0 a at_ (0 : Int) (mchk a) [] [] ∧ ∀ (x x_1 : Int) (x_2 : List (Row UInt8)) (x_3 : List (Nat × List UInt8)), i_26_0 a at_ x x_1 x_2 x_3 → (x < (↑at_.length : Int) → x < (↑at_.length : Int)) ∧ (x < (↑at_.length : Int) → x < (↑at_.length : Int)) ∧ (x < (↑at_.length : Int) ∧ x_1 = (0 : Int) → ((0 : Int) ≤ x ∧ x < (↑at_.length : Int)) ∧ ((0 : Int) ≤ gd (0 : Int) at_ x.toNat → (0 : Int) ≤ gd (0 : Int) at_ x.toNat) ∧ ((0 : Int) ≤ gd (0 : Int) at_ x.toNat → (0 : Int) ≤ gd (0 : Int) at_ x.toNat) ∧ ((0 : Int) ≤ gd (0 : Int) at_ x.toNat → (0 : Int) ≤ x ∧ x < (↑at_.length : Int)) ∧ ((0 : Int) ≤ gd (0 : Int) at_ x.toNat → (0 : Int) ≤ gd (0 : Int) at_ x.toNat) ∧ ((0 : Int) ≤ gd (0 : Int) at_ x.toNat → (0 : Int) ≤ gd (0 : Int) at_ x.toNat) ∧ ((0 : Int) ≤ gd (0 : Int) at_ x.toNat → (0 : Int) ≤ gd (0 : Int) at_ x.toNat) ∧ ((0 : Int) ≤ gd (0 : Int) at_ x.toNat → (0 : Int) ≤ gd (0 : Int) at_ x.toNat) ∧ ((0 : Int) ≤ gd (0 : Int) at_ x.toNat → (0 : Int) ≤ gd (0 : Int) at_ x.toNat) ∧ (gd (0 : Int) at_ x.toNat < (0 : Int) ∨ (↑a.length : Int) ≤ gd (0 : Int) at_ x.toNat → I64 (x + (1 : Int)) ∧ i_26_0 a at_ (x + (1 : Int)) (3 : Int) x_2 x_3 ∧ ((↑at_.length : Int) - (x + (1 : Int))).toNat < ((↑at_.length : Int) - x).toNat) ∧ ((0 : Int) ≤ gd (0 : Int) at_ x.toNat ∧ gd (0 : Int) at_ x.toNat < (↑a.length : Int) → ((0 : Int) ≤ x ∧ x < (↑at_.length : Int)) ∧ ((0 : Int) ≤ gd (0 : Int) at_ x.toNat ∧ gd (0 : Int) at_ x.toNat < (↑a.length : Int)) ∧ (x_2.length + (1 : Nat)) * (24 : Nat) ≤ (140737488355328 : Nat) ∧ I64 (x + (1 : Int)) ∧ i_26_0 a at_ (x + (1 : Int)) x_1 (x_2 ++ [Row.fix UInt8 (gd [] a (gd (0 : Int) at_ x.toNat).toNat)]) x_3 ∧ ((↑at_.length : Int) - (x + (1 : Int))).toNat < ((↑at_.length : Int) - x).toNat)) ∧ ((↑at_.length : Int) ≤ x ∨ ¬x_1 = (0 : Int) → (¬x_1 = (0 : Int) → ([], x_1) = rowsL a at_) ∧ (x_1 = (0 : Int) → (∀ (x : Row UInt8), x ∈ x_2 → x.ok x_3 ∧ x.kd ≠ RK.nil) ∧ (List.map (fun x => x.get x_3) x_2, (0 : Int)) = rowsL a at_)))) := by
  have h1 := @RoI.many a at_
  have h2 := @RoI.none a at_
  have h3 := @RoI.start a at_
  have h4 := @RoI.out a at_
  have h5 := @RoI.step a at_
  have h6 := @RoI.few a at_
  have h8 := @RoI.bad a at_
  (repeat' (first | exact RoI.end_ (by assumption) (by assumption) | apply And.intro | intro _)) <;> first | assumption | trivial | omega | (grind [i_26_0, I64]) | trace_state
theorem k_26_ok : k_26.Ok Try.prog tD := con_ok tD_ok (Δ := [k_22]) ⟨k_22_ok, trivial⟩ (Ω := []) trivial k_26 F26_ok F26_call (fun _ => []) (fun _ => trivial) 0 (fun x => (fun (a : (List (List UInt8))) (at_ : (List Int)) => (fun k => bif Nat.beq k 0 then some (.inv [.sl 8 .cInt, .sl 6 .cInt, .ow 7 .rU8, .ar .cU8] (fun zo zv => (fun (i : Int) (e : Int) (K : (List (Row UInt8))) (A : (List (Nat × List UInt8))) => i_26_0 a at_ i e K A) zv.1 zv.2.1 zv.2.2.1 zv.2.2.2.1) (fun zo zv => (fun (i : Int) (e : Int) (K : (List (Row UInt8))) (A : (List (Nat × List UInt8))) => ((at_.length : Int) - i).toNat) zv.1 zv.2.1 zv.2.2.1 zv.2.2.2.1)) else none)) x.1 x.2.1) fun x hp => Eq.mp (by kernel_rfl) (k_26_v x.1 x.2.1)
open Go.RowKit
open Go.RowKit
open Go.RowKit
theorem cau_small {m n : Int} : (cauL m n).1.length ≤ 1000000 ∧ ∀ r, r ∈ (cauL m n).1 → r.length ≤ 1000000 := by
  unfold cauL
  split
  · rename_i h
    have := ok_small (Okm.fill (m := m.toNat) (n := n.toNat) (f := fC m) (by omega) (by omega) (by omega) (by omega))
    rw [Int.toNat_of_nonneg (by omega), Int.toNat_of_nonneg (by omega)] at this
    exact this
  · exact ⟨by simp, fun r hr => by simp at hr⟩
theorem rows_small {a : List (List UInt8)} {at_ : List Int} : (rowsL a at_).1.length ≤ 1000000 ∧ ∀ r, r ∈ (rowsL a at_).1 → r.length ≤ 1000000 := by
  unfold rowsL
  split
  · exact ⟨by simp, fun r hr => by simp at hr⟩
  · rename_i h1
    split
    · exact ⟨by simp, fun r hr => by simp at hr⟩
    · rename_i h2
      split
      · exact ⟨by simp, fun r hr => by simp at hr⟩
      · split
        · rename_i h4
          have ha := ok_small (Okm.of (Classical.not_not.1 h1))
          refine ⟨by simp; omega, fun r hr => ?_⟩
          obtain ⟨i, hi, rfl⟩ := List.mem_map.1 hr
          have := h4 i hi
          exact ha.2 _ (gd_mem (by omega))
        · exact ⟨by simp, fun r hr => by simp at hr⟩
def k_4 : Con Tc Tc.dn := ⟨4, [.ty .cInt, .ty .cInt, .ty .llU8, .ty .lInt], fun x => (fun (rows : Int) (cols : Int) (a : (List (List UInt8))) (at_ : (List Int)) => True) x.1 x.2.1 x.2.2.1 x.2.2.2.1, [.cBool], fun x => (fun (rows : Int) (cols : Int) (a : (List (List UInt8))) (at_ : (List Int)) => true) x.1 x.2.1 x.2.2.1 x.2.2.2.1⟩
abbrev z4_0 (rows : Int) (cols : Int) := (true = true ∧ decide ((cauL rows cols).fst = (cauL rows cols).fst) = true)
theorem k_4_v (rows : Int) (cols : Int) (a : (List (List UInt8))) (at_ : (List Int)) : True ∧ True ∧ True ∧ True ∧ True ∧ (true = true → true = true) ∧ (true = true → true = true) ∧ (true = true → (cauL rows cols).fst.length ≤ (1000000 : Nat) ∧ ∀ (r : List UInt8), r ∈ (cauL rows cols).fst → r.length ≤ (1000000 : Nat)) ∧ (true = true → true = true) ∧ (true = true ∧ decide ((cauL rows cols).fst = (cauL rows cols).fst) = true → true = true ∧ decide ((cauL rows cols).fst = (cauL rows cols).fst) = true) ∧ (true = true ∧ decide ((cauL rows cols).fst = (cauL rows cols).fst) = true → true = true ∧ decide ((cauL rows cols).fst = (cauL rows cols).fst) = true) ∧ (true = true ∧ decide ((cauL rows cols).fst = (cauL rows cols).fst) = true → true = true ∧ decide ((cauL rows cols).fst = (cauL rows cols).fst) = true) ∧ ((z4_0 rows cols) ∧ (cauL rows cols).snd = (cauL rows cols).snd → (z4_0 rows cols) ∧ (cauL rows cols).snd = (cauL rows cols).snd) ∧ ((z4_0 rows cols) ∧ (cauL rows cols).snd = (cauL rows cols).snd → (z4_0 rows cols) ∧ (cauL rows cols).snd = (cauL rows cols).snd) ∧ ((z4_0 rows cols) ∧ (cauL rows cols).snd = (cauL rows cols).snd → (rowsL a at_).fst.length ≤ (1000000 : Nat) ∧ ∀ (r : List UInt8), r ∈ (rowsL a at_).fst → r.length ≤ (1000000 : Nat)) ∧ ((z4_0 rows cols) ∧ (cauL rows cols).snd = (cauL rows cols).snd → (z4_0 rows cols) ∧ (cauL rows cols).snd = (cauL rows cols).snd) ∧ (((z4_0 rows cols) ∧ (cauL rows cols).snd = (cauL rows cols).snd) ∧ decide ((rowsL a at_).fst = (rowsL a at_).fst) = true → ((z4_0 rows cols) ∧ (cauL rows cols).snd = (cauL rows cols).snd) ∧ decide ((rowsL a at_).fst = (rowsL a at_).fst) = true) ∧ (((z4_0 rows cols) ∧ (cauL rows cols).snd = (cauL rows cols).snd) ∧ decide ((rowsL a at_).fst = (rowsL a at_).fst) = true → ((z4_0 rows cols) ∧ (cauL rows cols).snd = (cauL rows cols).snd) ∧ decide ((rowsL a at_).fst = (rowsL a at_).fst) = true) ∧ (((z4_0 rows cols) ∧ (cauL rows cols).snd = (cauL rows cols).snd) ∧ decide ((rowsL a at_).fst = (rowsL a at_).fst) = true → ((z4_0 rows cols) ∧ (cauL rows cols).snd = (cauL rows cols).snd) ∧ decide ((rowsL a at_).fst = (rowsL a at_).fst) = true) ∧ (true && decide ((cauL rows cols).fst = (cauL rows cols).fst) && (cauL rows cols).snd == (cauL rows cols).snd && decide ((rowsL a at_).fst = (rowsL a at_).fst) && (rowsL a at_).snd == (rowsL a at_).snd) = true := by
  delta z4_0
  have h1 := @cau_small rows cols
  have h2 := @rows_small a at_
  (repeat' (first | apply And.intro | intro _)) <;> first | assumption | trivial | omega | (grind []) | trace_state
theorem k_4_ok : k_4.Ok Try.prog tD := con_ok tD_ok (Δ := [k_20, k_23, k_24, k_25, k_26, k_18]) ⟨k_20_ok, k_23_ok, k_24_ok, k_25_ok, k_26_ok, k_18_ok, trivial⟩ (Ω := []) trivial k_4 F4_ok F4_call (fun _ => []) (fun _ => trivial) 0 (fun x => (fun (rows : Int) (cols : Int) (a : (List (List UInt8))) (at_ : (List Int)) => (fun _ => none)) x.1 x.2.1 x.2.2.1 x.2.2.2.1) fun x hp => Eq.mp (by kernel_rfl) (k_4_v x.1 x.2.1 x.2.2.1 x.2.2.2.1)
theorem CauchyTells_walk {w : World} (rows : Int) (wrows : (Lit.int .i64 rows).wf = true) (cols : Int) (wcols : (Lit.int .i64 cols).wf = true) (a : (List (List UInt8))) (Aa : Option Addr) (na ca : Nat) (ra : GoT.rep w w.heap.size [.slice Aa na ca] a) (at_ : (List Int)) (Aat_ : Option Addr) (nat_ cat_ : Nat) (rat_ : GoT.rep w w.heap.size [.slice Aat_ nat_ cat_] at_) : Calls Try.prog 4 #[I rows, I cols, .slice Aa na ca, .slice Aat_ nat_ cat_] w fun e w' => e = .returned (.bool true) ∧ Below w.heap.size w w' := by
  have rrows : GoT.rep w w.heap.size [I rows] rows := ⟨rfl, i64_bd wrows⟩
  have rcols : GoT.rep w w.heap.size [I cols] cols := ⟨rfl, i64_bd wcols⟩
  have hf : Fn Try.prog 4 [(tD.en .cInt rows).av tD.toTE N0, (tD.en .cInt cols).av tD.toTE N0, (tD.en .llU8 a).av tD.toTE N0, (tD.en .lInt at_).av tD.toTE N0] (.v (.bool true)) := k_4_ok.2 (rows, cols, a, at_, ()) N0 trivial
  exact fn_law (vs := [I rows, I cols, .slice Aa na ca, .slice Aat_ nat_ cat_]) hf trivial (.cons (arg_one tD_ok (t := .cInt) rfl (LG.i64.av rrows)) (.cons (arg_one tD_ok (t := .cInt) rfl (LG.i64.av rcols)) (.cons (arg_one tD_ok (t := .llU8) rfl ((LG.list (LG.list LG.u8)).av ra)) (.cons (arg_one tD_ok (t := .lInt) rfl ((LG.list LG.i64).av rat_)) .nil))))
end Go.Proofs.Ytjfakndleagacaa
