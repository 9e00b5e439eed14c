/- What functions answer (contracts). No condition. -/
import Derived.Test.YtjfakndleagacaaPMH
set_option linter.unusedSimpArgs false
set_option linter.unusedVariables false
set_option maxHeartbeats 4000000
set_option maxRecDepth 100000
namespace Go.Proofs.Ytjfakndleagacaa
open Go.RowKit
theorem gd_iff {α : Type} {d : α} {a b : List α} (h : a.length = b.length) (k : ∀ i, i < a.length → gd d a i = gd d b i) : a = b := by
  refine List.ext_getElem h fun i h1 h2 => ?_
  have := k i h1
  unfold gd at this
  rw [List.getElem?_eq_getElem h1, List.getElem?_eq_getElem h2] at this
  simpa using this
structure EqI {α : Type} (d : α) (a b : List α) (i : Int) : Prop where
  lo : 0 ≤ i
  hi : i ≤ a.length
  len : (a.length : Int) = b.length
  eq : ∀ j, j < i.toNat → gd d a j = gd d b j
theorem EqI.start {α : Type} {d : α} {a b : List α} (h : (a.length : Int) = b.length) : EqI d a b 0 := ⟨by omega, by omega, h, fun j hj => by omega⟩
theorem EqI.step {α : Type} {d : α} {a b : List α} {i : Int} (h : EqI d a b i) (hi : i < a.length) (he : gd d a i.toNat = gd d b i.toNat) : EqI d a b (i + 1) := ⟨by have := h.lo; omega, by omega, h.len, fun j hj => by
  by_cases e : j = i.toNat
  · subst e; exact he
  · exact h.eq j (by have := h.lo; omega)⟩
theorem EqI.fin {α : Type} {d : α} {a b : List α} {i : Int} (h : EqI d a b i) (hi : a.length ≤ i) : a = b := gd_iff (d := d) (by have := h.len; omega) fun j hj => h.eq j (by omega)
theorem gd_ne {α : Type} {d : α} {a b : List α} {i : Nat} (h : gd d a i ≠ gd d b i) : a ≠ b := fun e => h (e ▸ rfl)
theorem len_ne {α : Type} {a b : List α} (h : (a.length : Int) ≠ b.length) : a ≠ b := fun e => h (e ▸ rfl)
structure StI (K : RwL) (A : ArL) (L : List (List UInt8)) : Prop where
  len : K.length = L.length
  row : ∀ j, j < L.length → (gd (Row.no UInt8) K j).mine A ∧ lkA A (gd (Row.no UInt8) K j).id = gd [] L j
theorem StI.nil {A : ArL} : StI [] A [] := ⟨rfl, fun j hj => by simp at hj⟩
theorem StI.snoc {K : RwL} {A : ArL} {L : List (List UInt8)} {id : Nat} {r : List UInt8} (h : StI K A L) (hid : ¬ hasA A id) : StI (K ++ [Row.at UInt8 id r.length]) ((id, r) :: A) (L ++ [r]) := by
  refine ⟨by simp [h.len], fun j hj => ?_⟩
  rw [gd_app, gd_app]
  simp only [List.length_append, List.length_singleton] at hj
  by_cases e : j = K.length
  · rw [if_pos e, if_pos (by rw [e, h.len])]
    exact ⟨at_mine rfl, by rw [Row.at_id, lkA_cons, if_pos rfl]⟩
  · rw [if_neg e, if_neg (by rw [← h.len]; exact e)]
    obtain ⟨q1, q2⟩ := h.row j (by have := h.len; omega)
    have hne : (gd (Row.no UInt8) K j).id ≠ id := fun e => hid (e ▸ q1.2.1)
    exact ⟨⟨q1.1, hasA_cons.2 (.inr q1.2.1), by rw [lkA_cons, if_neg hne]; exact q1.2.2⟩, by rw [lkA_cons, if_neg hne]; exact q2⟩
theorem StI.fin {K : RwL} {A : ArL} {L : List (List UInt8)} (h : StI K A L) : (∀ x : Row UInt8, x ∈ K → x.ok A ∧ x.kd ≠ RK.nil) ∧ List.map (fun x => x.get A) K = L := by
  have hl := h.len
  refine ⟨gd_all (d := Row.no UInt8) fun j hj => ⟨Row.mine.ok (h.row j (by omega)).1, by rw [(h.row j (by omega)).1.1]; intro e; cases e⟩, ?_⟩
  refine gd_iff (d := []) (by simp [hl]) fun j hj => ?_
  simp only [List.length_map] at hj
  obtain ⟨p1, p2⟩ := h.row j (by omega)
  have e1 : gd (Row.no UInt8) K j = K[j] := by unfold gd; rw [List.getElem?_eq_getElem hj]; rfl
  rw [e1] at p1 p2
  rw [← p2, ← (Row.mine.get p1).1]
  unfold gd
  rw [List.getElem?_map, List.getElem?_eq_getElem hj]; rfl
structure UpI {α : Type} (n : Int) (f : Nat → α) (i : Int) (L : List α) : Prop where
  lo : 0 ≤ i
  hi : i ≤ n
  eq : L = (List.range i.toNat).map f
theorem UpI.start {α : Type} {n : Int} {f : Nat → α} (h : 0 ≤ n) : UpI n f 0 [] := ⟨by omega, h, rfl⟩
theorem UpI.step {α : Type} {n : Int} {f : Nat → α} {i : Int} {L : List α} (h : UpI n f i L) (hi : i < n) : UpI n f (i + 1) (L ++ [f i.toNat]) := ⟨by have := h.lo; omega, by omega, by
  have := h.lo
  rw [show (i + 1).toNat = i.toNat + 1 by omega, List.range_succ, List.map_append, ← h.eq]; rfl⟩
theorem UpI.len {α : Type} {n : Int} {f : Nat → α} {i : Int} {L : List α} (h : UpI n f i L) : (L.length : Int) = i := by rw [h.eq]; have := h.lo; simp; omega
theorem UpI.fin {α : Type} {n : Int} {f : Nat → α} {i : Int} {L : List α} (h : UpI n f i L) (hi : n ≤ i) : L = (List.range n.toNat).map f := by rw [h.eq, show i = n by have := h.hi; omega]
structure RwI (m n : Int) (f : Nat → Nat → UInt8) (i : Int) (K : RwL) (A : ArL) : Prop where
  lo : 0 ≤ i
  hi : i ≤ m
  few : m ≤ 64 ∧ n ≤ 64
  st : StI K A ((List.range i.toNat).map fun j => (List.range n.toNat).map (f j))
theorem RwI.start {m n : Int} {f : Nat → Nat → UInt8} {A : ArL} (h : 0 ≤ m) (hm : m ≤ 64) (hn : n ≤ 64) : RwI m n f 0 [] A := ⟨by omega, h, ⟨hm, hn⟩, StI.nil⟩
theorem RwI.len {m n : Int} {f : Nat → Nat → UInt8} {i : Int} {K : RwL} {A : ArL} (h : RwI m n f i K A) : (K.length : Int) = i := by rw [h.st.len]; have := h.lo; simp; omega
theorem RwI.step {m n k : Int} {f : Nat → Nat → UInt8} {i : Int} {K : RwL} {A : ArL} {id : Nat} {r : List UInt8} (h : RwI m n f i K A) (hi : i < m) (hid : ¬ hasA A id) (hr : UpI n (f i.toNat) k r) (hk : n ≤ k) : RwI m n f (i + 1) (K ++ [Row.at UInt8 id r.length]) ((id, r) :: A) := ⟨by have := h.lo; omega, by omega, h.few, by
  have := h.lo
  rw [show (i + 1).toNat = i.toNat + 1 by omega, List.range_succ, List.map_append]
  have := h.st.snoc hid (r := r)
  rw [hr.fin hk] at this ⊢
  exact this⟩
theorem RwI.fin {m n : Int} {f : Nat → Nat → UInt8} {i : Int} {K : RwL} {A : ArL} (h : RwI m n f i K A) (hi : m ≤ i) : (∀ x : Row UInt8, x ∈ K → x.ok A ∧ x.kd ≠ RK.nil) ∧ List.map (fun x => x.get A) K = fillL m n f := by
  have := h.st.fin
  rw [show i = m by have := h.hi; omega] at this
  exact this
def i_41_0 (a : (List UInt8)) (b : (List UInt8)) (i : Int) : Prop := EqI 0 a b i
def k_41 : Con Tc Tc.dn := ⟨41, [.ty .lU8, .ty .lU8], fun x => (fun (a : (List UInt8)) (b : (List UInt8)) => a.length ≤ 1000000) x.1 x.2.1, [.cBool], fun x => (fun (a : (List UInt8)) (b : (List UInt8)) => decide (a = b)) x.1 x.2.1⟩
theorem k_41_v (a : (List UInt8)) (b : (List UInt8)) (hp : a.length ≤ 1000000) : (¬(↑a.length : Int) = (↑b.length : Int) → false = decide (a = b)) ∧ ((↑a.length : Int) = (↑b.length : Int) → i_41_0 a b (0 : Int) ∧ ∀ (x : Int), i_41_0 a b x → (x < (↑a.length : Int) → ((0 : Int) ≤ x ∧ x < (↑a.length : Int)) ∧ ((0 : Int) ≤ x ∧ x < (↑b.length : Int)) ∧ (¬gd (0 : UInt8) a x.toNat = gd (0 : UInt8) b x.toNat → false = decide (a = b)) ∧ (gd (0 : UInt8) a x.toNat = gd (0 : UInt8) b x.toNat → I64 (x + (1 : Int)) ∧ i_41_0 a b (x + (1 : Int)) ∧ ((↑a.length : Int) - (x + (1 : Int))).toNat < ((↑a.length : Int) - x).toNat)) ∧ ((↑a.length : Int) ≤ x → true = decide (a = b))) := by
  have h1 := @EqI.start UInt8 0 a b
  have h2 := @EqI.step UInt8 0 a b
  have h3 := @EqI.fin UInt8 0 a b
  have h4 := @gd_ne UInt8 0 a b
  have h5 := @len_ne UInt8 a b
  have h6 := @EqI.lo UInt8 0 a b
  have h7 := @EqI.len UInt8 0 a b
  (repeat' (first | apply And.intro | intro _)) <;> first | assumption | trivial | omega | (grind [i_41_0, I64]) | trace_state
theorem k_41_ok : k_41.Ok Try.prog tD := con_ok tD_ok (Δ := []) trivial (Ω := []) trivial k_41 F41_ok F41_call (fun _ => []) (fun _ => trivial) 0 (fun x => (fun (a : (List UInt8)) (b : (List UInt8)) => (fun k => bif Nat.beq k 0 then some (.inv [.sl 5 .cInt] (fun zo zv => (fun (i : Int) => i_41_0 a b i) zv.1) (fun zo zv => (fun (i : Int) => ((a.length : Int) - i).toNat) zv.1)) else none)) x.1 x.2.1) fun x hp => Eq.mp (by kernel_rfl) (k_41_v x.1 x.2.1 hp)
def i_18_0 (a : (List (List UInt8))) (b : (List (List UInt8))) (i : Int) : Prop := EqI [] a b i
def k_18 : Con Tc Tc.dn := ⟨18, [.ty .llU8, .ty .llU8], fun x => (fun (a : (List (List UInt8))) (b : (List (List UInt8))) => a.length ≤ 1000000 ∧ ∀ r, r ∈ a → r.length ≤ 1000000) x.1 x.2.1, [.cBool], fun x => (fun (a : (List (List UInt8))) (b : (List (List UInt8))) => decide (a = b)) x.1 x.2.1⟩
theorem k_18_v (a : (List (List UInt8))) (b : (List (List UInt8))) (hp : a.length ≤ 1000000 ∧ ∀ r, r ∈ a → r.length ≤ 1000000) : (¬(↑a.length : Int) = (↑b.length : Int) → false = decide (a = b)) ∧ ((↑a.length : Int) = (↑b.length : Int) → i_18_0 a b (0 : Int) ∧ ∀ (x : Int), i_18_0 a b x → (x < (↑a.length : Int) → ((0 : Int) ≤ x ∧ x < (↑a.length : Int)) ∧ ((0 : Int) ≤ x ∧ x < (↑b.length : Int)) ∧ (gd [] a x.toNat).length ≤ (1000000 : Nat) ∧ (decide (gd [] a x.toNat = gd [] b x.toNat) = !true → false = decide (a = b)) ∧ (decide (gd [] a x.toNat = gd [] b x.toNat) = !false → I64 (x + (1 : Int)) ∧ i_18_0 a b (x + (1 : Int)) ∧ ((↑a.length : Int) - (x + (1 : Int))).toNat < ((↑a.length : Int) - x).toNat)) ∧ ((↑a.length : Int) ≤ x → true = decide (a = b))) := by
  have h1 := @EqI.start (List UInt8) [] a b
  have h2 := @EqI.step (List UInt8) [] a b
  have h3 := @EqI.fin (List UInt8) [] a b
  have h4 := @gd_ne (List UInt8) [] a b
  have h5 := @len_ne (List UInt8) a b
  have h6 := @EqI.lo (List UInt8) [] a b
  have h7 := @EqI.len (List UInt8) [] a b
  have h8 : ∀ i : Int, 0 ≤ i → i < (a.length : Int) → (gd [] a i.toNat).length ≤ 1000000 := fun i q1 q2 => hp.2 _ (gd_mem (by omega))
  (repeat' (first | apply And.intro | intro _)) <;> first | assumption | trivial | omega | (grind [i_18_0, I64]) | trace_state
theorem k_18_ok : k_18.Ok Try.prog tD := con_ok tD_ok (Δ := [k_41]) ⟨k_41_ok, trivial⟩ (Ω := []) trivial k_18 F18_ok F18_call (fun _ => []) (fun _ => trivial) 0 (fun x => (fun (a : (List (List UInt8))) (b : (List (List UInt8))) => (fun k => bif Nat.beq k 0 then some (.inv [.sl 5 .cInt] (fun zo zv => (fun (i : Int) => i_18_0 a b i) zv.1) (fun zo zv => (fun (i : Int) => ((a.length : Int) - i).toNat) zv.1)) else none)) x.1 x.2.1) fun x hp => Eq.mp (by kernel_rfl) (k_18_v x.1 x.2.1 hp)
open Go.RowKit
def k_20 : Con Tc Tc.dn := ⟨20, [], fun _ => True, [.cBool], fun _ => true⟩
abbrev z20_2 := (rankL [[UInt8.ofNat (Int.toNat (1 : Int)), UInt8.ofNat (Int.toNat (2 : Int)), UInt8.ofNat (Int.toNat (3 : Int))], [UInt8.ofNat (Int.toNat (2 : Int)), UInt8.ofNat (Int.toNat (4 : Int)), UInt8.ofNat (Int.toNat (6 : Int))]])
abbrev z20_3 := ((unitL (2 : Int)).fst = [[UInt8.ofNat (Int.toNat (1 : Int)), UInt8.ofNat (Int.toNat (0 : Int))], [UInt8.ofNat (Int.toNat (0 : Int)), UInt8.ofNat (Int.toNat (1 : Int))]])
abbrev z20_4 := (invL [[UInt8.ofNat (Int.toNat (1 : Int)), UInt8.ofNat (Int.toNat (2 : Int))], [UInt8.ofNat (Int.toNat (3 : Int)), UInt8.ofNat (Int.toNat (4 : Int))]])
abbrev z20_1 := (mulL z20_4.fst [[UInt8.ofNat (Int.toNat (1 : Int)), UInt8.ofNat (Int.toNat (2 : Int))], [UInt8.ofNat (Int.toNat (3 : Int)), UInt8.ofNat (Int.toNat (4 : Int))]])
abbrev z20_9 := (invL [[UInt8.ofNat (Int.toNat (1 : Int)), UInt8.ofNat (Int.toNat (2 : Int))], [UInt8.ofNat (Int.toNat (2 : Int)), UInt8.ofNat (Int.toNat (4 : Int))]])
abbrev z20_10 := (rowsL [[UInt8.ofNat (Int.toNat (1 : Int)), UInt8.ofNat (Int.toNat (2 : Int))], [UInt8.ofNat (Int.toNat (3 : Int)), UInt8.ofNat (Int.toNat (4 : Int))]] [(1 : Int), (0 : Int)])
abbrev z20_6 := (z20_10.fst = [[UInt8.ofNat (Int.toNat (3 : Int)), UInt8.ofNat (Int.toNat (4 : Int))], [UInt8.ofNat (Int.toNat (1 : Int)), UInt8.ofNat (Int.toNat (2 : Int))]])
abbrev z20_11 := (gd [] (cauL (2 : Int) (3 : Int)).fst (Int.toNat (0 : Int)))
abbrev z20_12 := ((z20_4.snd = (0 : Int) ∧ z20_1.snd = (0 : Int)) ∧ (unitL (2 : Int)).snd = (0 : Int) → (z20_4.snd = (0 : Int) ∧ z20_1.snd = (0 : Int)) ∧ (unitL (2 : Int)).snd = (0 : Int))
abbrev z20_13 := (decide z20_3 = true ∧ z20_2.fst = (1 : Int))
abbrev z20_0 := ((z20_13 ∧ z20_2.snd = (0 : Int)) ∧ z20_9.snd = (5 : Int))
abbrev z20_5 := (((z20_0 ∧ (cauL (2 : Int) (3 : Int)).snd = (0 : Int)) ∧ (↑(cauL (2 : Int) (3 : Int)).fst.length : Int) = (2 : Int)) ∧ (↑z20_11.length : Int) = (3 : Int) → ((z20_0 ∧ (cauL (2 : Int) (3 : Int)).snd = (0 : Int)) ∧ (↑(cauL (2 : Int) (3 : Int)).fst.length : Int) = (2 : Int)) ∧ (↑z20_11.length : Int) = (3 : Int))
abbrev z20_7 := ((z20_0 ∧ (cauL (2 : Int) (3 : Int)).snd = (0 : Int)) ∧ (↑(cauL (2 : Int) (3 : Int)).fst.length : Int) = (2 : Int) → (z20_0 ∧ (cauL (2 : Int) (3 : Int)).snd = (0 : Int)) ∧ (↑(cauL (2 : Int) (3 : Int)).fst.length : Int) = (2 : Int))
abbrev z20_8 := (((z20_0 ∧ (cauL (2 : Int) (3 : Int)).snd = (0 : Int)) ∧ (↑(cauL (2 : Int) (3 : Int)).fst.length : Int) = (2 : Int)) ∧ (↑z20_11.length : Int) = (3 : Int))
theorem k_20_v  : True ∧ True ∧ True ∧ True ∧ True ∧ True ∧ True ∧ (z20_4.snd = (0 : Int) → z20_4.snd = (0 : Int)) ∧ (z20_4.snd = (0 : Int) → z20_4.snd = (0 : Int)) ∧ (z20_4.snd = (0 : Int) ∧ z20_1.snd = (0 : Int) → z20_4.snd = (0 : Int) ∧ z20_1.snd = (0 : Int)) ∧ (z20_4.snd = (0 : Int) ∧ z20_1.snd = (0 : Int) → z20_4.snd = (0 : Int) ∧ z20_1.snd = (0 : Int)) ∧ z20_12 ∧ z20_12 ∧ ((z20_4.snd = (0 : Int) ∧ z20_1.snd = (0 : Int)) ∧ (unitL (2 : Int)).snd = (0 : Int) → z20_1.fst.length ≤ (1000000 : Nat) ∧ ∀ (r : List UInt8), r ∈ z20_1.fst → r.length ≤ (1000000 : Nat)) ∧ z20_12 ∧ (((z20_4.snd = (0 : Int) ∧ z20_1.snd = (0 : Int)) ∧ (unitL (2 : Int)).snd = (0 : Int)) ∧ decide (z20_1.fst = (unitL (2 : Int)).fst) = true → ((unitL (2 : Int)).fst.length ≤ (1000000 : Nat) ∧ ∀ (r : List UInt8), r ∈ (unitL (2 : Int)).fst → r.length ≤ (1000000 : Nat)) ∧ (decide z20_3 = true → decide z20_3 = true) ∧ (decide z20_3 = true → decide z20_3 = true) ∧ (decide z20_3 = true ∧ z20_2.fst = (1 : Int) → decide z20_3 = true ∧ z20_2.fst = (1 : Int)) ∧ (decide z20_3 = true ∧ z20_2.fst = (1 : Int) → decide z20_3 = true ∧ z20_2.fst = (1 : Int)) ∧ (z20_13 ∧ z20_2.snd = (0 : Int) → z20_13 ∧ z20_2.snd = (0 : Int)) ∧ (z20_13 ∧ z20_2.snd = (0 : Int) → z20_13 ∧ z20_2.snd = (0 : Int)) ∧ ((z20_13 ∧ z20_2.snd = (0 : Int)) ∧ z20_9.snd = (5 : Int) → (z20_13 ∧ z20_2.snd = (0 : Int)) ∧ z20_9.snd = (5 : Int)) ∧ ((z20_13 ∧ z20_2.snd = (0 : Int)) ∧ z20_9.snd = (5 : Int) → (z20_13 ∧ z20_2.snd = (0 : Int)) ∧ z20_9.snd = (5 : Int)) ∧ (z20_0 ∧ (cauL (2 : Int) (3 : Int)).snd = (0 : Int) → z20_0 ∧ (cauL (2 : Int) (3 : Int)).snd = (0 : Int)) ∧ (z20_0 ∧ (cauL (2 : Int) (3 : Int)).snd = (0 : Int) → z20_0 ∧ (cauL (2 : Int) (3 : Int)).snd = (0 : Int)) ∧ (z20_0 ∧ (cauL (2 : Int) (3 : Int)).snd = (0 : Int) → z20_0 ∧ (cauL (2 : Int) (3 : Int)).snd = (0 : Int)) ∧ z20_7 ∧ ((z20_0 ∧ (cauL (2 : Int) (3 : Int)).snd = (0 : Int)) ∧ (↑(cauL (2 : Int) (3 : Int)).fst.length : Int) = (2 : Int) → (0 : Int) ≤ (0 : Int) ∧ (0 : Int) < (↑(cauL (2 : Int) (3 : Int)).fst.length : Int)) ∧ z20_7 ∧ z20_7 ∧ z20_7 ∧ z20_7 ∧ z20_5 ∧ (((z20_0 ∧ (cauL (2 : Int) (3 : Int)).snd = (0 : Int)) ∧ (↑(cauL (2 : Int) (3 : Int)).fst.length : Int) = (2 : Int)) ∧ (↑z20_11.length : Int) = (3 : Int) → (0 : Int) ≤ (0 : Int) ∧ (0 : Int) < (↑(cauL (2 : Int) (3 : Int)).fst.length : Int)) ∧ z20_5 ∧ z20_5 ∧ (((z20_0 ∧ (cauL (2 : Int) (3 : Int)).snd = (0 : Int)) ∧ (↑(cauL (2 : Int) (3 : Int)).fst.length : Int) = (2 : Int)) ∧ (↑z20_11.length : Int) = (3 : Int) → (0 : Int) ≤ (0 : Int) ∧ (0 : Int) < (↑z20_11.length : Int)) ∧ z20_5 ∧ z20_5 ∧ z20_5 ∧ (z20_8 ∧ gd (0 : UInt8) z20_11 (Int.toNat (0 : Int)) = UInt8.ofNat (Int.toNat (142 : Int)) → z20_8 ∧ gd (0 : UInt8) z20_11 (Int.toNat (0 : Int)) = UInt8.ofNat (Int.toNat (142 : Int))) ∧ (z20_8 ∧ gd (0 : UInt8) z20_11 (Int.toNat (0 : Int)) = UInt8.ofNat (Int.toNat (142 : Int)) → z20_8 ∧ gd (0 : UInt8) z20_11 (Int.toNat (0 : Int)) = UInt8.ofNat (Int.toNat (142 : Int))) ∧ ((z20_8 ∧ gd (0 : UInt8) z20_11 (Int.toNat (0 : Int)) = UInt8.ofNat (Int.toNat (142 : Int))) ∧ z20_10.snd = (0 : Int) → (z20_10.fst.length ≤ (1000000 : Nat) ∧ ∀ (r : List UInt8), r ∈ z20_10.fst → r.length ≤ (1000000 : Nat)) ∧ (decide z20_6 = true → True) ∧ (decide z20_6 = true → decide z20_6 = true) ∧ (decide z20_6 = true → decide z20_6 = true) ∧ (decide z20_6 && mchk [] == (1 : Int)) = true) ∧ ((((((((decide z20_3 = false ∨ ¬z20_2.fst = (1 : Int)) ∨ ¬z20_2.snd = (0 : Int)) ∨ ¬z20_9.snd = (5 : Int)) ∨ ¬(cauL (2 : Int) (3 : Int)).snd = (0 : Int)) ∨ ¬(↑(cauL (2 : Int) (3 : Int)).fst.length : Int) = (2 : Int)) ∨ ¬(↑z20_11.length : Int) = (3 : Int)) ∨ ¬gd (0 : UInt8) z20_11 (Int.toNat (0 : Int)) = UInt8.ofNat (Int.toNat (142 : Int))) ∨ ¬z20_10.snd = (0 : Int) → false = true)) ∧ (((¬z20_4.snd = (0 : Int) ∨ ¬z20_1.snd = (0 : Int)) ∨ ¬(unitL (2 : Int)).snd = (0 : Int)) ∨ decide (z20_1.fst = (unitL (2 : Int)).fst) = false → false = true) := by
  delta z20_13 z20_12 z20_11 z20_10 z20_9 z20_8 z20_7 z20_6 z20_5 z20_4 z20_3 z20_2 z20_1 z20_0
  (repeat' (first | apply And.intro | (intro h; exact absurd h (by decide +kernel)) | (intro h; clear h) | decide +kernel)) <;> first | decide +kernel | trace_state
theorem k_20_ok : k_20.Ok Try.prog tD := con_ok tD_ok (Δ := [k_13, k_12, k_11, k_14, k_23, k_24, k_21, k_18]) ⟨k_13_ok, k_12_ok, k_11_ok, k_14_ok, k_23_ok, k_24_ok, k_21_ok, k_18_ok, trivial⟩ (Ω := []) trivial k_20 F20_ok F20_call (fun _ => []) (fun _ => trivial) 0 (fun _ => fun k => bif Nat.beq k 1021 then some (.frz [1]) else bif Nat.beq k 1038 then some (.frz [37]) else bif Nat.beq k 1045 then some (.frz [44]) else bif Nat.beq k 1078 then some (.frz [77]) else bif Nat.beq k 1125 then some (.frz [124]) else bif Nat.beq k 3074 then some (.spl 73) else bif Nat.beq k 3121 then some (.spl 120) else none) fun x hp => Eq.mp (by kernel_rfl) (k_20_v )
open Go.RowKit
theorem mx_fill {m n : Int} {f : Nat → Nat → UInt8} {i j : Nat} (hi : (i : Int) < m) (hj : (j : Int) < n) : mxL (fillL m n f) i j = f i j := by
  unfold mxL
  rw [fill_row hi]
  unfold gd
  rw [List.getElem?_map, List.getElem?_range (by omega)]; rfl
theorem fill_congr {m n : Int} {f g : Nat → Nat → UInt8} (h : ∀ i j : Nat, (i : Int) < m → (j : Int) < n → f i j = g i j) : fillL m n f = fillL m n g := by
  unfold fillL
  refine List.map_congr_left fun i hi => List.map_congr_left fun j hj => h i j ?_ ?_
  · have := List.mem_range.1 hi; omega
  · have := List.mem_range.1 hj; omega
theorem fill_self {n m : Nat} {a : List (List UInt8)} (h : mrect n m a) : fillL n m (mxL a) = a := by
  refine gd_iff (d := []) (by rw [fill_len, h.1]; simp) fun i hi => ?_
  rw [fill_len] at hi
  have hin : i < n := by omega
  rw [fill_row (by omega)]
  refine gd_iff (d := 0) (by rw [List.length_map, List.length_range, h.row hin]; simp) fun j hj => ?_
  rw [List.length_map, List.length_range] at hj
  unfold gd
  rw [List.getElem?_map, List.getElem?_range hj]; rfl
theorem rect_eq {n m : Nat} {a b : List (List UInt8)} (ha : mrect n m a) (hb : mrect n m b) (h : ∀ i j, i < n → j < m → mxL a i j = mxL b i j) : a = b := by
  rw [← fill_self ha, ← fill_self hb]
  exact fill_congr fun i j hi hj => h i j (by omega) (by omega)
theorem mchkGo_of {n : Int} : ∀ {a : List (List UInt8)}, (∀ r, r ∈ a → (r.length : Int) = n ∧ r.length ≤ 16 ∧ 0 < r.length) → mchkGo n a = 0
  | [], _ => rfl
  | r :: l, h => by
    have h1 := h r (List.mem_cons_self ..)
    unfold mchkGo
    rw [if_neg (by omega), if_neg (by omega)]
    exact mchkGo_of fun q hq => h q (List.mem_cons_of_mem _ hq)
theorem rect_zero {n m : Nat} {a : List (List UInt8)} (h : mrect n m a) (hn : 0 < n) : (gd [] a 0).length = m := h.row hn
theorem mchk_of {n m : Nat} {a : List (List UInt8)} (h : mrect n m a) (h1 : 0 < n) (h2 : n ≤ 16) (h3 : 0 < m) (h4 : m ≤ 16) : mchk a = 0 := by
  have hl := h.1
  unfold mchk
  rw [if_neg (by omega), if_neg (by omega), rect_zero h h1]
  exact mchkGo_of fun r hr => by have := h.2 r hr; omega
theorem fill_rectN {m n : Nat} {f : Nat → Nat → UInt8} : mrect m n (fillL m n f) := by
  have := fill_rect (m := (m : Int)) (n := (n : Int)) (f := f)
  simpa using this
theorem sg_front (d : Nat) (f : Nat → UInt8) : sg (d + 1) f = f 0 ^^^ sg d fun j => f (j + 1) := by
  rw [sg_skip d 0 f (Nat.zero_le _)]
  rfl
theorem dot_sg : ∀ (xs ys : List UInt8) (o : UInt8), dotGo xs ys o = o ^^^ sg xs.length fun t => gmul (gd 0 xs t) (gd 0 ys t)
  | [], ys, o => by simp [dotGo, sg]
  | x :: l, ys, o => by
    unfold dotGo
    rw [dot_sg l (ys.drop 1), List.length_cons, sg_front, UInt8.xor_assoc]
    congr 2
    refine sg_congr fun i hi => ?_
    congr 1
    unfold gd
    rw [List.getElem?_drop, Nat.add_comm]
theorem turn_rect {n m : Nat} {a : List (List UInt8)} (h : mrect n m a) (hn : 0 < n) : mrect m n (turnL a) := by
  unfold turnL
  rw [rect_zero h hn, h.1]
  exact fill_rectN
theorem turn_mx {n m : Nat} {a : List (List UInt8)} (h : mrect n m a) (hn : 0 < n) {i j : Nat} (hi : i < m) (hj : j < n) : mxL (turnL a) i j = mxL a j i := by
  unfold turnL
  rw [rect_zero h hn, h.1, mx_fill (by omega) (by omega)]
  rfl
theorem raw_eq {n k m : Nat} {a b : List (List UInt8)} (ha : mrect n k a) (hb : mrect k m b) (hk : 0 < k) : rawL a b = fillL n m (mm k (mxL a) (mxL b)) := by
  have ht := turn_rect hb hk
  unfold rawL
  rw [ha.1, ht.1]
  refine fill_congr fun i j hi hj => ?_
  unfold fR
  rw [dot_sg, ha.row (by omega)]
  unfold mm
  rw [UInt8.zero_xor]
  refine sg_congr fun t htk => ?_
  congr 1
  exact turn_mx hb hk (by omega) htk
theorem raw_rect {n k m : Nat} {a b : List (List UInt8)} (ha : mrect n k a) (hb : mrect k m b) (hk : 0 < k) : mrect n m (rawL a b) := by
  rw [raw_eq ha hb hk]; exact fill_rectN
theorem raw_mx {n k m : Nat} {a b : List (List UInt8)} (ha : mrect n k a) (hb : mrect k m b) (hk : 0 < k) {i j : Nat} (hi : i < n) (hj : j < m) : mxL (rawL a b) i j = mm k (mxL a) (mxL b) i j := by
  rw [raw_eq ha hb hk, mx_fill (by omega) (by omega)]
structure Okm (a : List (List UInt8)) (n m : Nat) : Prop where
  rect : mrect n m a
  n0 : 0 < n
  n16 : n ≤ 16
  m0 : 0 < m
  m16 : m ≤ 16
theorem Okm.of {a : List (List UInt8)} (h : mchk a = 0) : Okm a a.length (gd [] a 0).length := by
  obtain ⟨h1, h2, h3, h4, h5⟩ := mchk_ok h
  exact ⟨h5, h1, h2, h3, h4⟩
theorem Okm.chk {a : List (List UInt8)} {n m : Nat} (h : Okm a n m) : mchk a = 0 := mchk_of h.rect h.n0 h.n16 h.m0 h.m16
theorem Okm.len {a : List (List UInt8)} {n m : Nat} (h : Okm a n m) : a.length = n := h.rect.1
theorem Okm.wid {a : List (List UInt8)} {n m : Nat} (h : Okm a n m) : (gd [] a 0).length = m := rect_zero h.rect h.n0
theorem Okm.raw {a b : List (List UInt8)} {n k m : Nat} (ha : Okm a n k) (hb : Okm b k m) : Okm (rawL a b) n m := ⟨raw_rect ha.rect hb.rect ha.m0, ha.n0, ha.n16, hb.m0, hb.m16⟩
theorem Okm.fill {m n : Nat} {f : Nat → Nat → UInt8} (h1 : 0 < m) (h2 : m ≤ 16) (h3 : 0 < n) (h4 : n ≤ 16) : Okm (fillL m n f) m n := ⟨fill_rectN, h1, h2, h3, h4⟩
theorem mul_ok {a b : List (List UInt8)} {n k m : Nat} (ha : Okm a n k) (hb : Okm b k m) : mulL a b = (rawL a b, 0) := by
  unfold mulL
  rw [if_neg (by rw [ha.chk]; simp), if_neg (by rw [hb.chk]; simp), if_neg (by rw [ha.wid, hb.len]; simp)]
theorem mul_zero {a b : List (List UInt8)} (h : (mulL a b).2 = 0) : ∃ n k m, Okm a n k ∧ Okm b k m ∧ mulL a b = (rawL a b, 0) := by
  unfold mulL at h
  split at h
  · rename_i h1; exact absurd h h1
  · split at h
    · rename_i h1; exact absurd h h1
    · split at h
      · simp at h
      · rename_i h1 h2 h3
        have ha := Okm.of (Classical.not_not.1 h1)
        have hb := Okm.of (Classical.not_not.1 h2)
        rw [Classical.not_not.1 h3] at ha
        exact ⟨_, _, _, ha, hb, mul_ok ha hb⟩
theorem ok_small {a : List (List UInt8)} {n m : Nat} (h : Okm a n m) : a.length ≤ 1000000 ∧ ∀ r, r ∈ a → r.length ≤ 1000000 := by
  have h1 := h.len
  have h2 := h.n16
  have h3 := h.m16
  exact ⟨by omega, fun r hr => by have := h.rect.2 r hr; omega⟩
theorem unit_ok {n : Nat} (h1 : 0 < n) (h2 : n ≤ 16) : unitL n = (fillL n n fU, 0) ∧ Okm (fillL n n fU) n n := by
  unfold unitL
  rw [if_pos (by omega)]
  exact ⟨rfl, Okm.fill h1 h2 h1 h2⟩
theorem unit_mx {n i j : Nat} (hi : i < n) (hj : j < n) : mxL (fillL n n fU) i j = unitM i j := mx_fill (by omega) (by omega)
open Go.RowKit
def i_22_0 (a : (List (List UInt8))) (i : Int) : Prop := 0 ≤ i ∧ i ≤ a.length ∧ 0 < a.length ∧ a.length ≤ 16 ∧ mchkGo (gd [] a 0).length (a.drop i.toNat) = mchkGo (gd [] a 0).length a
def k_22 : Con Tc Tc.dn := ⟨22, [.ty .llU8], fun x => (fun (a : (List (List UInt8))) => True) x.1, [.cInt], fun x => (fun (a : (List (List UInt8))) => mchk a) x.1⟩
theorem k_22_v (a : (List (List UInt8))) : ((16 : Int) < (↑a.length : Int) → (2 : Int) = mchk a) ∧ ((↑a.length : Int) ≤ (16 : Int) → ((↑a.length : Int) = (0 : Int) → (1 : Int) = mchk a) ∧ (¬(↑a.length : Int) = (0 : Int) → i_22_0 a (0 : Int) ∧ ∀ (x : Int), i_22_0 a x → (x < (↑a.length : Int) → ((0 : Int) ≤ x ∧ x < (↑a.length : Int)) ∧ ((16 : Int) < (↑(gd [] a x.toNat).length : Int) → (2 : Int) = mchk a) ∧ ((↑(gd [] a x.toNat).length : Int) ≤ (16 : Int) → ((0 : Int) ≤ x ∧ x < (↑a.length : Int)) ∧ (¬(↑(gd [] a x.toNat).length : Int) = (0 : Int) → ¬(↑(gd [] a x.toNat).length : Int) = (0 : Int)) ∧ (¬(↑(gd [] a x.toNat).length : Int) = (0 : Int) → ¬(↑(gd [] a x.toNat).length : Int) = (0 : Int)) ∧ (¬(↑(gd [] a x.toNat).length : Int) = (0 : Int) → (0 : Int) ≤ x ∧ x < (↑a.length : Int)) ∧ (¬(↑(gd [] a x.toNat).length : Int) = (0 : Int) → ¬(↑(gd [] a x.toNat).length : Int) = (0 : Int)) ∧ (¬(↑(gd [] a x.toNat).length : Int) = (0 : Int) → ¬(↑(gd [] a x.toNat).length : Int) = (0 : Int)) ∧ (¬(↑(gd [] a x.toNat).length : Int) = (0 : Int) → ¬(↑(gd [] a x.toNat).length : Int) = (0 : Int)) ∧ (¬(↑(gd [] a x.toNat).length : Int) = (0 : Int) → (0 : Int) ≤ (0 : Int) ∧ (0 : Int) < (↑a.length : Int)) ∧ (¬(↑(gd [] a x.toNat).length : Int) = (0 : Int) → ¬(↑(gd [] a x.toNat).length : Int) = (0 : Int)) ∧ (¬(↑(gd [] a x.toNat).length : Int) = (0 : Int) → ¬(↑(gd [] a x.toNat).length : Int) = (0 : Int)) ∧ (¬(↑(gd [] a x.toNat).length : Int) = (0 : Int) → ¬(↑(gd [] a x.toNat).length : Int) = (0 : Int)) ∧ (¬(↑(gd [] a x.toNat).length : Int) = (0 : Int) → ¬(↑(gd [] a x.toNat).length : Int) = (0 : Int)) ∧ (¬(↑(gd [] a x.toNat).length : Int) = (0 : Int) → ¬(↑(gd [] a x.toNat).length : Int) = (0 : Int)) ∧ ((↑(gd [] a x.toNat).length : Int) = (0 : Int) ∨ ¬(↑(gd [] a x.toNat).length : Int) = (↑(gd [] a (Int.toNat (0 : Int))).length : Int) → (1 : Int) = mchk a) ∧ (¬(↑(gd [] a x.toNat).length : Int) = (0 : Int) ∧ (↑(gd [] a x.toNat).length : Int) = (↑(gd [] a (Int.toNat (0 : Int))).length : Int) → I64 (x + (1 : Int)) ∧ i_22_0 a (x + (1 : Int)) ∧ ((↑a.length : Int) - (x + (1 : Int))).toNat < ((↑a.length : Int) - x).toNat))) ∧ ((↑a.length : Int) ≤ x → (0 : Int) = mchk a))) := by
  (repeat' (first | apply And.intro | intro _)) <;> first | assumption | trivial | omega | (grind [mchk, mchkGo, drop_gd, drop_end, I64, i_22_0]) | trace_state
theorem k_22_ok : k_22.Ok Try.prog tD := con_ok tD_ok (Δ := []) trivial (Ω := []) trivial k_22 F22_ok F22_call (fun _ => []) (fun _ => trivial) 0 (fun x => (fun (a : (List (List UInt8))) => (fun k => bif Nat.beq k 0 then some (.inv [.sl 3 .cInt] (fun zo zv => (fun (i : Int) => i_22_0 a i) zv.1) (fun zo zv => (fun (i : Int) => ((a.length : Int) - i).toNat) zv.1)) else none)) x.1) fun x hp => Eq.mp (by kernel_rfl) (k_22_v x.1)
open Go.RowKit
theorem unit_row {n i : Int} (h0 : 0 ≤ i) (h : i < n) : UpI n (fU i.toNat) n ((List.replicate n.toNat (UInt8.ofNat (Int.toNat 0))).set i.toNat (UInt8.ofNat (Int.toNat 1))) := by
  refine ⟨by omega, Int.le_refl _, ?_⟩
  refine gd_iff (d := 0) (by simp) fun j hj => ?_
  simp only [List.length_set, List.length_replicate] at hj
  rw [gd_set1]
  have e2 : gd 0 ((List.range n.toNat).map (fU i.toNat)) j = fU i.toNat j := by
    unfold gd; rw [List.getElem?_map, List.getElem?_range hj]; rfl
  rw [e2]
  unfold fU
  by_cases e : i.toNat = j
  · rw [if_pos ⟨e, by simp; omega⟩, if_pos e]; rfl
  · rw [if_neg (fun hh => e hh.1), if_neg e]
    unfold gd
    rw [List.getElem?_replicate, if_pos hj]; rfl
structure SgI (n : Int) (f : Nat → UInt8) (j : Int) (c : UInt8) : Prop where
  lo : 0 ≤ j
  hi : j ≤ n
  eq : c = sg j.toNat f
theorem SgI.start {n : Int} {f : Nat → UInt8} (h : 0 ≤ n) : SgI n f 0 (UInt8.ofNat (Int.toNat 0)) := ⟨by omega, h, rfl⟩
theorem SgI.step {n : Int} {f : Nat → UInt8} {j : Int} {c : UInt8} (h : SgI n f j c) (hj : j < n) : SgI n f (j + 1) (c ^^^ f j.toNat) := ⟨by have := h.lo; omega, by omega, by
  have := h.lo
  rw [show (j + 1).toNat = j.toNat + 1 by omega, sg, ← h.eq]⟩
theorem SgI.fin {n : Int} {f : Nat → UInt8} {j : Int} {c : UInt8} (h : SgI n f j c) (hj : n ≤ j) : c = sg n.toNat f := by rw [h.eq, show j = n by have := h.hi; omega]
def fG (a b : List (List UInt8)) (i k t : Nat) : UInt8 := gmul (gd 0 (gd [] a i) t) (gd 0 (gd [] b t) k)
def fM (a b : List (List UInt8)) (i k : Nat) : UInt8 := sg b.length (fG a b i k)
theorem sg_fM {a b : List (List UInt8)} {i k : Nat} {j : Int} {c : UInt8} (h : SgI b.length (fG a b i k) j c) (hj : b.length ≤ j) : c = fM a b i k := by have := h.fin hj; rw [Int.toNat_natCast] at this; exact this
structure MuI (a b : List (List UInt8)) : Prop where
  ca : mchk a = 0
  cb : mchk b = 0
  eq : (gd [] a 0).length = b.length
theorem MuI.mk' {a b : List (List UInt8)} (ca : mchk a = 0) (cb : mchk b = 0) (eq : ((gd [] a 0).length : Int) = b.length) : MuI a b := ⟨ca, cb, by omega⟩
theorem MuI.ra {a b : List (List UInt8)} (h : MuI a b) {i : Int} (h0 : 0 ≤ i) (hi : i < a.length) : (gd [] a i.toNat).length = b.length := by
  have oa := Okm.of h.ca
  rw [oa.rect.row (by omega), h.eq]
theorem MuI.rb {a b : List (List UInt8)} (h : MuI a b) {i : Int} (h0 : 0 ≤ i) (hi : i < b.length) : (gd [] b i.toNat).length = (gd [] b 0).length := (Okm.of h.cb).rect.row (by omega)
theorem MuI.sz {a b : List (List UInt8)} (h : MuI a b) : 0 < a.length ∧ a.length ≤ 16 ∧ 0 < b.length ∧ b.length ≤ 16 ∧ 0 < (gd [] b 0).length ∧ (gd [] b 0).length ≤ 16 := ⟨(Okm.of h.ca).n0, (Okm.of h.ca).n16, (Okm.of h.cb).n0, (Okm.of h.cb).n16, (Okm.of h.cb).m0, (Okm.of h.cb).m16⟩
def fS (a b : List UInt8) (f : UInt8) (i : Nat) : UInt8 := gd 0 a i ^^^ gmul (gd 0 b i) f
theorem fM_raw {a b : List (List UInt8)} (ha : mchk a = 0) (hb : mchk b = 0) (h : (gd [] a 0).length = b.length) : fillL a.length (gd [] b 0).length (fM a b) = rawL a b := by
  have oa := Okm.of ha
  have ob := Okm.of hb
  rw [h] at oa
  rw [raw_eq oa.rect ob.rect oa.m0]
  rfl
theorem MuI.end_ {a b : List (List UInt8)} (h : MuI a b) {i : Int} {K : RwL} {A : ArL} (hr : RwI a.length (gd [] b 0).length (fM a b) i K A) (hi : a.length ≤ i) : (∀ x : Row UInt8, x ∈ K → x.ok A ∧ x.kd ≠ RK.nil) ∧ (List.map (fun x => x.get A) K, (0 : Int)) = mulL a b := by
  obtain ⟨h1, h2⟩ := hr.fin hi
  refine ⟨h1, ?_⟩
  rw [h2, fM_raw h.ca h.cb h.eq]
  unfold mulL
  rw [if_neg (by rw [h.ca]; simp), if_neg (by rw [h.cb]; simp), if_neg (by rw [h.eq]; simp)]
def i_19_0 (n : Int) (i : Int) (K : (List (Row UInt8))) (A : (List (Nat × List UInt8))) : Prop := RwI n n fU i K A
def k_19 : Con Tc Tc.dn := ⟨19, [.ty .cInt], fun x => (fun (n : Int) => 0 ≤ n ∧ n ≤ 16) x.1, [.llU8], fun x => (fun (n : Int) => fillL n n fU) x.1⟩
theorem k_19_v (n : Int) (hp : 0 ≤ n ∧ n ≤ 16) : i_19_0 n (0 : Int) [] [] ∧ ∀ (x : Int) (x_1 : List (Row UInt8)) (x_2 : List (Nat × List UInt8)), i_19_0 n x x_1 x_2 → (x < n → ((0 : Int) ≤ n ∧ n ≤ n ∧ n * (↑(1 : Nat) : Int) ≤ (140737488355328 : Int)) ∧ ((0 : Int) ≤ x ∧ x < (↑(List.replicate n.toNat (UInt8.ofNat (Int.toNat (0 : Int)))).length : Int)) ∧ x.toNat < (List.replicate n.toNat (UInt8.ofNat (Int.toNat (0 : Int)))).length ∧ ∀ (id : Nat), ¬hasA x_2 id → (x_1.length + (1 : Nat)) * (24 : Nat) ≤ (140737488355328 : Nat) ∧ I64 (x + (1 : Int)) ∧ i_19_0 n (x + (1 : Int)) (x_1 ++ [Row.at UInt8 id ((List.replicate n.toNat (UInt8.ofNat (Int.toNat (0 : Int)))).set x.toNat (UInt8.ofNat (Int.toNat (1 : Int)))).length]) ((id, (List.replicate n.toNat (UInt8.ofNat (Int.toNat (0 : Int)))).set x.toNat (UInt8.ofNat (Int.toNat (1 : Int)))) :: x_2) ∧ (n - (x + (1 : Int))).toNat < (n - x).toNat) ∧ (n ≤ x → (∀ (x : Row UInt8), x ∈ x_1 → x.ok x_2 ∧ x.kd ≠ RK.nil) ∧ List.map (fun x => x.get x_2) x_1 = fillL n n fU) := by
  have h1 := @RwI.start n n fU
  have h2 := @RwI.step n n n fU
  have h3 := @RwI.fin n n fU
  have h4 := @RwI.len n n fU
  have h5 := @unit_row n
  have h9 := @RwI.lo n n fU
  (repeat' (first | apply And.intro | intro _)) <;> first | assumption | trivial | omega | (grind [i_19_0, I64]) | trace_state
theorem k_19_ok : k_19.Ok Try.prog tD := con_ok tD_ok (Δ := []) trivial (Ω := []) trivial k_19 F19_ok F19_call (fun _ => []) (fun _ => trivial) 0 (fun x => (fun (n : Int) => (fun k => bif Nat.beq k 0 then some (.inv [.sl 4 .cInt, .ow 3 .rU8, .ar .cU8] (fun zo zv => (fun (i : Int) (K : (List (Row UInt8))) (A : (List (Nat × List UInt8))) => i_19_0 n i K A) zv.1 zv.2.1 zv.2.2.1) (fun zo zv => (fun (i : Int) (K : (List (Row UInt8))) (A : (List (Nat × List UInt8))) => (n - i).toNat) zv.1 zv.2.1 zv.2.2.1)) else none)) x.1) fun x hp => Eq.mp (by kernel_rfl) (k_19_v x.1 hp)
def i_40_0 (a : (List UInt8)) (b : (List UInt8)) (f : UInt8) (i : Int) (r : (List UInt8)) : Prop := UpI a.length (fS a b f) i r
def k_40 : Con Tc Tc.dn := ⟨40, [.ty .lU8, .ty .lU8, .ty .cU8], fun x => (fun (a : (List UInt8)) (b : (List UInt8)) (f : UInt8) => a.length ≤ b.length ∧ a.length ≤ 1000000) x.1 x.2.1 x.2.2.1, [.lU8], fun x => (fun (a : (List UInt8)) (b : (List UInt8)) (f : UInt8) => (List.range a.length).map (fS a b f)) x.1 x.2.1 x.2.2.1⟩
theorem k_40_v (a : (List UInt8)) (b : (List UInt8)) (f : UInt8) (hp : a.length ≤ b.length ∧ a.length ≤ 1000000) : i_40_0 a b f (0 : Int) [] ∧ ∀ (x : Int) (x_1 : List UInt8), i_40_0 a b f x x_1 → (x < (↑a.length : Int) → ((0 : Int) ≤ x ∧ x < (↑a.length : Int)) ∧ ((0 : Int) ≤ x ∧ x < (↑b.length : Int)) ∧ True ∧ (x_1.length + (1 : Nat)) * (1 : Nat) ≤ (140737488355328 : Nat) ∧ I64 (x + (1 : Int)) ∧ i_40_0 a b f (x + (1 : Int)) (x_1 ++ [gd (0 : UInt8) a x.toNat ^^^ gmul (gd (0 : UInt8) b x.toNat) f]) ∧ ((↑a.length : Int) - (x + (1 : Int))).toNat < ((↑a.length : Int) - x).toNat) ∧ ((↑a.length : Int) ≤ x → x_1 = List.map (fS a b f) (List.range a.length)) := by
  have h5 := @UpI.start UInt8 a.length (fS a b f)
  have h6 := @UpI.step UInt8 a.length (fS a b f)
  have h7 := @UpI.len UInt8 a.length (fS a b f)
  have h8 := @UpI.fin UInt8 a.length (fS a b f)
  simp only [Int.toNat_natCast] at h8
  have h10 := @UpI.lo UInt8 a.length (fS a b f)
  (repeat' (first | apply And.intro | intro _)) <;> first | assumption | trivial | omega | (grind [i_40_0, I64, fS]) | trace_state
theorem k_40_ok : k_40.Ok Try.prog tD := con_ok tD_ok (Δ := [k_37]) ⟨k_37_ok, trivial⟩ (Ω := []) trivial k_40 F40_ok F40_call (fun _ => []) (fun _ => trivial) 0 (fun x => (fun (a : (List UInt8)) (b : (List UInt8)) (f : UInt8) => (fun k => bif Nat.beq k 0 then some (.inv [.sl 8 .cInt, .ow 7 .cU8] (fun zo zv => (fun (i : Int) (r : (List UInt8)) => i_40_0 a b f i r) zv.1 zv.2.1) (fun zo zv => (fun (i : Int) (r : (List UInt8)) => ((a.length : Int) - i).toNat) zv.1 zv.2.1)) else none)) x.1 x.2.1 x.2.2.1) fun x hp => Eq.mp (by kernel_rfl) (k_40_v x.1 x.2.1 x.2.2.1 hp)
def i_15_2 (a : (List (List UInt8))) (b : (List (List UInt8))) (j0 : Int) (k0 : Int) (i0 : Int) (c0 : UInt8) (j : Int) (k : Int) (i : Int) (c : UInt8) : Prop := i = i0 ∧ k = k0 ∧ SgI b.length (fG a b i.toNat k.toNat) j c
def i_15_1 (a : (List (List UInt8))) (b : (List (List UInt8))) (k0 : Int) (i0 : Int) (r0 : (List UInt8)) (k : Int) (i : Int) (r : (List UInt8)) : Prop := i = i0 ∧ UpI (gd [] b 0).length (fM a b i.toNat) k r
def i_15_0 (a : (List (List UInt8))) (b : (List (List UInt8))) (i : Int) (K : (List (Row UInt8))) (A : (List (Nat × List UInt8))) : Prop := MuI a b ∧ RwI a.length (gd [] b 0).length (fM a b) i K A
def k_15 : Con Tc Tc.dn := ⟨15, [.ty .llU8, .ty .llU8], fun x => (fun (a : (List (List UInt8))) (b : (List (List UInt8))) => True) x.1 x.2.1, [.llU8, .cInt], fun x => (fun (a : (List (List UInt8))) (b : (List (List UInt8))) => mulL a b) x.1 x.2.1⟩
theorem k_15_v (a : (List (List UInt8))) (b : (List (List UInt8))) : True ∧ (mchk a = (0 : Int) → True ∧ (mchk b = (0 : Int) → mchk b = (0 : Int)) ∧ (mchk b = (0 : Int) → (0 : Int) ≤ (0 : Int) ∧ (0 : Int) < (↑a.length : Int)) ∧ (mchk b = (0 : Int) → mchk b = (0 : Int)) ∧ (mchk b = (0 : Int) → mchk b = (0 : Int)) ∧ (mchk b = (0 : Int) → mchk b = (0 : Int)) ∧ (mchk b = (0 : Int) → mchk b = (0 : Int)) ∧ (mchk b = (0 : Int) → mchk b = (0 : Int)) ∧ (mchk b = (0 : Int) → mchk b = (0 : Int)) ∧ (mchk b = (0 : Int) ∧ ¬(↑(gd [] a (Int.toNat (0 : Int))).length : Int) = (↑b.length : Int) → ([], (1 : Int)) = mulL a b) ∧ (¬mchk b = (0 : Int) ∨ (↑(gd [] a (Int.toNat (0 : Int))).length : Int) = (↑b.length : Int) → (¬mchk b = (0 : Int) → ([], mchk b) = mulL a b) ∧ (mchk b = (0 : Int) → i_15_0 a b (0 : Int) [] [] ∧ ∀ (x : Int) (x_1 : List (Row UInt8)) (x_2 : List (Nat × List UInt8)), i_15_0 a b x x_1 x_2 → (x < (↑a.length : Int) → i_15_1 a b (0 : Int) x [] (0 : Int) x [] ∧ ∀ (x_3 x_4 : Int) (x_5 : List UInt8), i_15_1 a b (0 : Int) x [] x_3 x_4 x_5 → ((0 : Int) ≤ (0 : Int) ∧ (0 : Int) < (↑b.length : Int)) ∧ (x_3 < (↑(gd [] b (Int.toNat (0 : Int))).length : Int) → i_15_2 a b (0 : Int) x_3 x_4 (UInt8.ofNat (Int.toNat (0 : Int))) (0 : Int) x_3 x_4 (UInt8.ofNat (Int.toNat (0 : Int))) ∧ ∀ (x_6 x_7 x_8 : Int) (x_9 : UInt8), i_15_2 a b (0 : Int) x_3 x_4 (UInt8.ofNat (Int.toNat (0 : Int))) x_6 x_7 x_8 x_9 → (x_6 < (↑b.length : Int) → ((0 : Int) ≤ x_8 ∧ x_8 < (↑a.length : Int)) ∧ ((0 : Int) ≤ x_6 ∧ x_6 < (↑(gd [] a x_8.toNat).length : Int)) ∧ ((0 : Int) ≤ x_6 ∧ x_6 < (↑b.length : Int)) ∧ ((0 : Int) ≤ x_7 ∧ x_7 < (↑(gd [] b x_6.toNat).length : Int)) ∧ True ∧ I64 (x_6 + (1 : Int)) ∧ i_15_2 a b (0 : Int) x_3 x_4 (UInt8.ofNat (Int.toNat (0 : Int))) (x_6 + (1 : Int)) x_7 x_8 (x_9 ^^^ gmul (gd (0 : UInt8) (gd [] a x_8.toNat) x_6.toNat) (gd (0 : UInt8) (gd [] b x_6.toNat) x_7.toNat)) ∧ ((↑b.length : Int) - (x_6 + (1 : Int))).toNat < ((↑b.length : Int) - x_6).toNat) ∧ ((↑b.length : Int) ≤ x_6 → (x_5.length + (1 : Nat)) * (1 : Nat) ≤ (140737488355328 : Nat) ∧ I64 (x_7 + (1 : Int)) ∧ i_15_1 a b (0 : Int) x [] (x_7 + (1 : Int)) x_8 (x_5 ++ [x_9]) ∧ ((↑(gd [] b (0 : Nat)).length : Int) - (x_7 + (1 : Int))).toNat < ((↑(gd [] b (0 : Nat)).length : Int) - x_3).toNat)) ∧ ((↑(gd [] b (Int.toNat (0 : Int))).length : Int) ≤ x_3 → ∀ (id : Nat), ¬hasA x_2 id → (x_1.length + (1 : Nat)) * (24 : Nat) ≤ (140737488355328 : Nat) ∧ I64 (x_4 + (1 : Int)) ∧ i_15_0 a b (x_4 + (1 : Int)) (x_1 ++ [Row.at UInt8 id x_5.length]) ((id, x_5) :: x_2) ∧ ((↑a.length : Int) - (x_4 + (1 : Int))).toNat < ((↑a.length : Int) - x).toNat)) ∧ ((↑a.length : Int) ≤ x → (∀ (x : Row UInt8), x ∈ x_1 → x.ok x_2 ∧ x.kd ≠ RK.nil) ∧ (List.map (fun x => x.get x_2) x_1, (0 : Int)) = mulL a b)))) ∧ (¬mchk a = (0 : Int) → (mchk a = (0 : Int) → mchk a = (0 : Int)) ∧ (mchk a = (0 : Int) → (0 : Int) ≤ (0 : Int) ∧ (0 : Int) < (↑a.length : Int)) ∧ (mchk a = (0 : Int) → mchk a = (0 : Int)) ∧ (mchk a = (0 : Int) → mchk a = (0 : Int)) ∧ (mchk a = (0 : Int) → mchk a = (0 : Int)) ∧ (mchk a = (0 : Int) → mchk a = (0 : Int)) ∧ (mchk a = (0 : Int) → mchk a = (0 : Int)) ∧ (mchk a = (0 : Int) → mchk a = (0 : Int)) ∧ (mchk a = (0 : Int) ∧ ¬(↑(gd [] a (Int.toNat (0 : Int))).length : Int) = (↑b.length : Int) → ([], (1 : Int)) = mulL a b) ∧ (¬mchk a = (0 : Int) ∨ (↑(gd [] a (Int.toNat (0 : Int))).length : Int) = (↑b.length : Int) → (¬mchk a = (0 : Int) → ([], mchk a) = mulL a b) ∧ (mchk a = (0 : Int) → i_15_0 a b (0 : Int) [] [] ∧ ∀ (x : Int) (x_1 : List (Row UInt8)) (x_2 : List (Nat × List UInt8)), i_15_0 a b x x_1 x_2 → (x < (↑a.length : Int) → i_15_1 a b (0 : Int) x [] (0 : Int) x [] ∧ ∀ (x_3 x_4 : Int) (x_5 : List UInt8), i_15_1 a b (0 : Int) x [] x_3 x_4 x_5 → ((0 : Int) ≤ (0 : Int) ∧ (0 : Int) < (↑b.length : Int)) ∧ (x_3 < (↑(gd [] b (Int.toNat (0 : Int))).length : Int) → i_15_2 a b (0 : Int) x_3 x_4 (UInt8.ofNat (Int.toNat (0 : Int))) (0 : Int) x_3 x_4 (UInt8.ofNat (Int.toNat (0 : Int))) ∧ ∀ (x_6 x_7 x_8 : Int) (x_9 : UInt8), i_15_2 a b (0 : Int) x_3 x_4 (UInt8.ofNat (Int.toNat (0 : Int))) x_6 x_7 x_8 x_9 → (x_6 < (↑b.length : Int) → ((0 : Int) ≤ x_8 ∧ x_8 < (↑a.length : Int)) ∧ ((0 : Int) ≤ x_6 ∧ x_6 < (↑(gd [] a x_8.toNat).length : Int)) ∧ ((0 : Int) ≤ x_6 ∧ x_6 < (↑b.length : Int)) ∧ ((0 : Int) ≤ x_7 ∧ x_7 < (↑(gd [] b x_6.toNat).length : Int)) ∧ True ∧ I64 (x_6 + (1 : Int)) ∧ i_15_2 a b (0 : Int) x_3 x_4 (UInt8.ofNat (Int.toNat (0 : Int))) (x_6 + (1 : Int)) x_7 x_8 (x_9 ^^^ gmul (gd (0 : UInt8) (gd [] a x_8.toNat) x_6.toNat) (gd (0 : UInt8) (gd [] b x_6.toNat) x_7.toNat)) ∧ ((↑b.length : Int) - (x_6 + (1 : Int))).toNat < ((↑b.length : Int) - x_6).toNat) ∧ ((↑b.length : Int) ≤ x_6 → (x_5.length + (1 : Nat)) * (1 : Nat) ≤ (140737488355328 : Nat) ∧ I64 (x_7 + (1 : Int)) ∧ i_15_1 a b (0 : Int) x [] (x_7 + (1 : Int)) x_8 (x_5 ++ [x_9]) ∧ ((↑(gd [] b (0 : Nat)).length : Int) - (x_7 + (1 : Int))).toNat < ((↑(gd [] b (0 : Nat)).length : Int) - x_3).toNat)) ∧ ((↑(gd [] b (Int.toNat (0 : Int))).length : Int) ≤ x_3 → ∀ (id : Nat), ¬hasA x_2 id → (x_1.length + (1 : Nat)) * (24 : Nat) ≤ (140737488355328 : Nat) ∧ I64 (x_4 + (1 : Int)) ∧ i_15_0 a b (x_4 + (1 : Int)) (x_1 ++ [Row.at UInt8 id x_5.length]) ((id, x_5) :: x_2) ∧ ((↑a.length : Int) - (x_4 + (1 : Int))).toNat < ((↑a.length : Int) - x).toNat)) ∧ ((↑a.length : Int) ≤ x → (∀ (x : Row UInt8), x ∈ x_1 → x.ok x_2 ∧ x.kd ≠ RK.nil) ∧ (List.map (fun x => x.get x_2) x_1, (0 : Int)) = mulL a b)))) := by
  have h0 := @MuI.mk' a b
  have h1 := @RwI.start a.length (gd [] b 0).length (fM a b)
  have h2 := @RwI.step a.length (gd [] b 0).length
  have h4 := @RwI.len a.length (gd [] b 0).length (fM a b)
  have h5 := @UpI.start UInt8 (gd [] b 0).length
  have h6 := @UpI.step UInt8 (gd [] b 0).length
  have h7 := @UpI.len UInt8 (gd [] b 0).length
  have h9 := @RwI.lo a.length (gd [] b 0).length (fM a b)
  have h10 := @UpI.lo UInt8 (gd [] b 0).length
  have h11 := @SgI.start b.length
  have h12 := @SgI.step b.length
  have h13 := @SgI.lo b.length
  have h14 := @sg_fM a b
  have h15 := @MuI.ra a b
  have h16 := @MuI.rb a b
  have h17 := @MuI.sz a b
  have h18 := @mchk_ok a
  have h19 := @mchk_ok b
  have h20 : ¬mchk a = 0 → mulL a b = ([], mchk a) := fun h => by unfold mulL; rw [if_pos h]
  have h21 : mchk a = 0 → ¬mchk b = 0 → mulL a b = ([], mchk b) := fun h h' => by unfold mulL; rw [if_neg (by rw [h]; simp), if_pos h']
  have h22 : mchk a = 0 → mchk b = 0 → ¬((gd [] a 0).length : Int) = b.length → mulL a b = ([], 1) := fun h h' h3 => by unfold mulL; rw [if_neg (by rw [h]; simp), if_neg (by rw [h']; simp), if_pos (by omega)]
  simp only [show Int.toNat 0 = 0 from rfl] at *
  (repeat' (first | exact MuI.end_ (And.left (by assumption)) (And.right (by assumption)) (by assumption) | apply And.intro | intro _)) <;> first | assumption | trivial | omega | (exact absurd (by assumption) (by assumption)) | (grind [i_15_2, i_15_1, i_15_0, I64, fG]) | trace_state
theorem k_15_ok : k_15.Ok Try.prog tD := con_ok tD_ok (Δ := [k_22, k_37]) ⟨k_22_ok, k_37_ok, trivial⟩ (Ω := []) trivial k_15 F15_ok F15_call (fun _ => []) (fun _ => trivial) 0 (fun x => (fun (a : (List (List UInt8))) (b : (List (List UInt8))) => (fun k => bif Nat.beq k 0 then some (.inv [.sl 8 .cInt, .ow 7 .rU8, .ar .cU8] (fun zo zv => (fun (i : Int) (K : (List (Row UInt8))) (A : (List (Nat × List UInt8))) => i_15_0 a b i K A) zv.1 zv.2.1 zv.2.2.1) (fun zo zv => (fun (i : Int) (K : (List (Row UInt8))) (A : (List (Nat × List UInt8))) => ((a.length : Int) - i).toNat) zv.1 zv.2.1 zv.2.2.1)) else bif Nat.beq k 1 then some (.inv [.sl 10 .cInt, .sl 8 .cInt, .ow 9 .cU8] (fun zo zv => (fun (k0 : Int) (i0 : Int) (r0 : (List UInt8)) (k : Int) (i : Int) (r : (List UInt8)) => i_15_1 a b k0 i0 r0 k i r) zo.1 zo.2.1 zo.2.2.1 zv.1 zv.2.1 zv.2.2.1) (fun zo zv => (fun (k0 : Int) (i0 : Int) (r0 : (List UInt8)) (k : Int) (i : Int) (r : (List UInt8)) => (((gd [] b 0).length : Int) - k).toNat) zo.1 zo.2.1 zo.2.2.1 zv.1 zv.2.1 zv.2.2.1)) else bif Nat.beq k 2 then some (.inv [.sl 12 .cInt, .sl 10 .cInt, .sl 8 .cInt, .sl 11 .cU8] (fun zo zv => (fun (j0 : Int) (k0 : Int) (i0 : Int) (c0 : UInt8) (j : Int) (k : Int) (i : Int) (c : UInt8) => i_15_2 a b j0 k0 i0 c0 j k i c) zo.1 zo.2.1 zo.2.2.1 zo.2.2.2.1 zv.1 zv.2.1 zv.2.2.1 zv.2.2.2.1) (fun zo zv => (fun (j0 : Int) (k0 : Int) (i0 : Int) (c0 : UInt8) (j : Int) (k : Int) (i : Int) (c : UInt8) => ((b.length : Int) - j).toNat) zo.1 zo.2.1 zo.2.2.1 zo.2.2.2.1 zv.1 zv.2.1 zv.2.2.1 zv.2.2.2.1)) else none)) x.1 x.2.1) fun x hp => Eq.mp (by kernel_rfl) (k_15_v x.1 x.2.1)
theorem sg_pick : ∀ {l : List Nat} {n : Nat} {f : Nat → UInt8}, l.Nodup → (∀ t, t ∈ l → t < n) → (∀ t, t < n → ¬ t ∈ l → f t = 0) → sg n f = sg l.length fun s => f (l.getD s 0)
  | [], n, f, _, _, h => by
    rw [sg_zero fun i hi => h i hi (by simp)]; rfl
  | t :: l, n, f, hd, hl, h => by
    have ht : t < n := hl t (List.mem_cons_self ..)
    have hnt : ¬ t ∈ l := (List.nodup_cons.1 hd).1
    have e : sg n f = sg n (fun i => (if i = t then f i else 0) ^^^ (if i = t then 0 else f i)) := sg_congr fun i hi => by
      by_cases q : i = t
      · rw [if_pos q, if_pos q, UInt8.xor_zero]
      · rw [if_neg q, if_neg q, UInt8.zero_xor]
    rw [e, sg_xor, sg_one t f n, if_pos ht, sg_pick (l := l) (List.nodup_cons.1 hd).2 (fun s hs => hl s (List.mem_cons_of_mem _ hs)) (fun s hs hn => by
      by_cases q : s = t
      · rw [if_pos q]
      · rw [if_neg q]; exact h s hs (by simp [q, hn]))]
    have e2 : sg (t :: l).length (fun s => f ((t :: l).getD s 0)) = f t ^^^ sg l.length fun s => f (l.getD s 0) := by
      rw [List.length_cons, sg_skip l.length 0 _ (Nat.zero_le _)]
      rfl
    rw [e2]
    congr 1
    refine sg_congr fun s hs => ?_
    have hm : l.getD s 0 ∈ l := by
      rw [List.getD_eq_getElem?_getD, List.getElem?_eq_getElem hs]; exact List.getElem_mem _
    rw [if_neg fun q : l.getD s 0 = t => hnt (q ▸ hm)]
structure Rd (n m : Nat) (X : Mx) (c : Nat) (p : List (Nat × Nat)) : Prop where
  piv : ∀ q, q ∈ p → q.1 < n ∧ c ≤ q.2 ∧ q.2 < m ∧ X q.1 q.2 ≠ 0 ∧ ∀ i, i < n → i ≠ q.1 → X i q.2 = 0
  nd : (p.map Prod.fst).Nodup
  zero : ∀ i, i < n → ¬ i ∈ p.map Prod.fst → ∀ j, c ≤ j → j < m → X i j = 0
theorem Rd.start (n m : Nat) (X : Mx) : Rd n m X m [] := ⟨fun q hq => by simp at hq, by simp, fun i _ _ j h1 h2 => by omega⟩
theorem Rd.none {n m c : Nat} {X : Mx} {p : List (Nat × Nat)} (h : Rd n m X (c + 1) p) (hz : ∀ i, i < n → ¬ i ∈ p.map Prod.fst → X i c = 0) : Rd n m X c p :=
  ⟨fun q hq => by have := h.piv q hq; exact ⟨this.1, by omega, this.2.2⟩, h.nd, fun i hi hn j h1 h2 => by
    by_cases e : j = c
    · subst e; exact hz i hi hn
    · exact h.zero i hi hn j (by omega) h2⟩
theorem Rd.some {n m c t : Nat} {X : Mx} {p : List (Nat × Nat)} (h : Rd n m X (c + 1) p) (hc : c < m) (ht : t < n) (hn : ¬ t ∈ p.map Prod.fst) (hx : X t c ≠ 0) : Rd n m (elimM (fun i => gmul (X i c) (ginv (X t c))) t X) c ((t, c) :: p) := by
  have row : ∀ j, c + 1 ≤ j → j < m → X t j = 0 := h.zero t ht hn
  have keep : ∀ i j, c + 1 ≤ j → j < m → elimM (fun i => gmul (X i c) (ginv (X t c))) t X i j = X i j := fun i j h1 h2 => by
    unfold elimM
    by_cases e : i = t
    · rw [if_pos e, e]
    · rw [if_neg e, row j h1 h2, gmul_zero, UInt8.xor_zero]
  have col : ∀ i, i ≠ t → elimM (fun i => gmul (X i c) (ginv (X t c))) t X i c = 0 := fun i e => by
    unfold elimM
    rw [if_neg e, gmul_assoc, ginv_mul _ hx, gmul_one, UInt8.xor_self]
  have colt : elimM (fun i => gmul (X i c) (ginv (X t c))) t X t c = X t c := by unfold elimM; rw [if_pos rfl]
  refine ⟨fun q hq => ?_, ?_, fun i hi hni j h1 h2 => ?_⟩
  · rcases List.mem_cons.1 hq with rfl | hq
    · exact ⟨ht, Nat.le_refl _, hc, by rw [colt]; exact hx, fun i _ e => col i e⟩
    · obtain ⟨q1, q2, q3, q4, q5⟩ := h.piv q hq
      exact ⟨q1, by omega, q3, by rw [keep _ _ q2 q3]; exact q4, fun i hi e => by rw [keep _ _ q2 q3]; exact q5 i hi e⟩
  · rw [List.map_cons, List.nodup_cons]; exact ⟨hn, h.nd⟩
  · rw [List.map_cons, List.mem_cons] at hni
    by_cases e : j = c
    · subst e; exact col i fun e2 => hni (.inl e2)
    · rw [keep _ _ (by omega) h2]
      exact h.zero i hi (fun e2 => hni (.inr e2)) j (by omega) h2
theorem Rd.rank {n m : Nat} {A X : Mx} {p : List (Nat × Nat)} (he : RE n A X) (h : Rd n m X 0 p) : RankIs n m A p.length := by
  obtain ⟨P, Q, hP, hQ⟩ := he
  have hlt : ∀ t, t ∈ p.map Prod.fst → t < n := fun t ht => by
    obtain ⟨q, hq, rfl⟩ := List.mem_map.1 ht
    exact (h.piv q hq).1
  refine ⟨⟨fun i s => Q i ((p.map Prod.fst).getD s 0), fun s j => X ((p.map Prod.fst).getD s 0) j, fun i j hi hj => ?_⟩, fun k ⟨B, C, hB⟩ => ?_⟩
  · rw [hQ i j hi]
    unfold mm
    rw [sg_pick h.nd hlt fun t ht hn => by rw [h.zero t ht hn j (Nat.zero_le _) hj, gmul_zero], List.length_map]
  · have get : ∀ s, s < p.length → p.getD s (0, 0) ∈ p := fun s hs => by
      rw [List.getD_eq_getElem?_getD, List.getElem?_eq_getElem hs]; exact List.getElem_mem _
    have inj : ∀ s t, s < p.length → t < p.length → (p.getD s (0, 0)).1 = (p.getD t (0, 0)).1 → s = t := fun s t hs ht e => by
      have hs' : s < (p.map Prod.fst).length := by simpa using hs
      have ht' : t < (p.map Prod.fst).length := by simpa using ht
      refine (List.getElem_inj (h₀ := hs') (h₁ := ht') h.nd).1 ?_
      rw [List.getD_eq_getElem?_getD, List.getD_eq_getElem?_getD, List.getElem?_eq_getElem hs, List.getElem?_eq_getElem ht] at e
      simpa using e
    refine unit_wide (X := fun s t => gmul (ginv (X (p.getD s (0, 0)).1 (p.getD s (0, 0)).2)) (mm n P B (p.getD s (0, 0)).1 t)) (Y := fun t s => C t (p.getD s (0, 0)).2) fun s t hs ht => ?_
    obtain ⟨q1, q2, q3, q4, q5⟩ := h.piv _ (get s hs)
    obtain ⟨r1, r2, r3, r4, r5⟩ := h.piv _ (get t ht)
    have e1 : mm k (fun s t => gmul (ginv (X (p.getD s (0, 0)).1 (p.getD s (0, 0)).2)) (mm n P B (p.getD s (0, 0)).1 t)) (fun t s => C t (p.getD s (0, 0)).2) s t = gmul (ginv (X (p.getD s (0, 0)).1 (p.getD s (0, 0)).2)) (X (p.getD s (0, 0)).1 (p.getD t (0, 0)).2) := by
      have e2 : X (p.getD s (0, 0)).1 (p.getD t (0, 0)).2 = mm k (mm n P B) C (p.getD s (0, 0)).1 (p.getD t (0, 0)).2 := by
        rw [hP _ _ q1, mm_assoc]
        exact mm_congr (fun _ _ => rfl) fun t' ht' => hB t' _ ht' r3
      rw [e2]
      unfold mm
      rw [← sg_mul]
      exact sg_congr fun i hi => gmul_assoc _ _ _
    rw [e1]
    unfold unitM
    by_cases e : s = t
    · subst e; rw [if_pos rfl, ginv_mul _ q4]
    · rw [if_neg e, r5 _ q1 (fun e2 => e (inj s t hs ht e2)), gmul_zero]
def addR (a b : List UInt8) (f : UInt8) : List UInt8 := (List.range a.length).map fun i => gd 0 a i ^^^ gmul (gd 0 b i) f
def offR (X Y : List (List UInt8)) (c t : Nat) : List (List UInt8) := (List.range Y.length).map fun i => if i = t ∨ gd 0 (gd [] X i) c = 0 then gd [] Y i else addR (gd [] Y i) (gd [] Y t) (divN (gd 0 (gd [] X i) c) (gd 0 (gd [] X t) c))
def lastR (X : List (List UInt8)) (used : List Bool) (c : Nat) : Nat → Int
  | 0 => -1
  | k + 1 => if gd false used k = false ∧ gd 0 (gd [] X k) c ≠ 0 then (k : Int) else lastR X used c k
def redGo : Nat → List (List UInt8) → List (List UInt8) → List Bool → List Int → List (List UInt8) × List (List UInt8) × List Int
  | 0, X, Y, _, by_ => (X, Y, by_)
  | c + 1, X, Y, used, by_ => if lastR X used c X.length < 0 then redGo c X Y used (lastR X used c X.length :: by_)
    else redGo c (offR X X c (lastR X used c X.length).toNat) (offR X Y c (lastR X used c X.length).toNat) (used.set (lastR X used c X.length).toNat true) (lastR X used c X.length :: by_)
theorem lastR_neg {X : List (List UInt8)} {used : List Bool} {c : Nat} : ∀ {k : Nat}, lastR X used c k < 0 → ∀ i, i < k → gd false used i = false → mxL X i c = 0
  | 0, _, i, hi, _ => by omega
  | k + 1, h, i, hi, hu => by
    unfold lastR at h
    split at h
    · omega
    · rename_i hn
      by_cases e : i = k
      · subst e
        exact Classical.byContradiction fun h2 => hn ⟨hu, h2⟩
      · exact lastR_neg h i (by omega) hu
theorem lastR_pos {X : List (List UInt8)} {used : List Bool} {c : Nat} : ∀ {k : Nat}, ¬ lastR X used c k < 0 → (lastR X used c k).toNat < k ∧ gd false used (lastR X used c k).toNat = false ∧ mxL X (lastR X used c k).toNat c ≠ 0
  | 0, h => by simp [lastR] at h
  | k + 1, h => by
    unfold lastR at h ⊢
    split
    · rename_i hy
      rw [Int.toNat_natCast]
      exact ⟨by omega, hy.1, hy.2⟩
    · rename_i hn
      rw [if_neg hn] at h
      obtain ⟨h1, h2, h3⟩ := lastR_pos h
      exact ⟨by omega, h2, h3⟩
theorem addR_len {a b : List UInt8} {f : UInt8} : (addR a b f).length = a.length := by simp [addR]
theorem addR_gd {a b : List UInt8} {f : UInt8} (h : a.length = b.length) (j : Nat) : gd 0 (addR a b f) j = gd 0 a j ^^^ gmul (gd 0 b j) f := by
  unfold addR
  by_cases hj : j < a.length
  · show ((List.map _ _)[j]?).getD 0 = _
    rw [List.getElem?_map, List.getElem?_range hj]; rfl
  · have e1 : gd 0 a j = 0 := by unfold gd; rw [List.getElem?_eq_none (by omega)]; rfl
    have e2 : gd 0 b j = 0 := by unfold gd; rw [List.getElem?_eq_none (by omega)]; rfl
    rw [e1, e2, zero_gmul, UInt8.xor_zero]
    show ((List.map _ _)[j]?).getD 0 = _
    rw [List.getElem?_eq_none (by simp; omega)]; rfl
theorem offR_row {X Y : List (List UInt8)} {c t i : Nat} (hi : i < Y.length) : gd [] (offR X Y c t) i = if i = t ∨ gd 0 (gd [] X i) c = 0 then gd [] Y i else addR (gd [] Y i) (gd [] Y t) (divN (gd 0 (gd [] X i) c) (gd 0 (gd [] X t) c)) := by
  unfold offR
  show ((List.map _ _)[i]?).getD [] = _
  rw [List.getElem?_map, List.getElem?_range hi]; rfl
theorem offR_rect {n m c t : Nat} {X Y : List (List UInt8)} (h : Rect n m Y) : Rect n m (offR X Y c t) := by
  refine ⟨by simp [offR, h.1], fun r hr => ?_⟩
  unfold offR at hr
  obtain ⟨i, hi, rfl⟩ := List.mem_map.1 hr
  have hi : i < n := by have := List.mem_range.1 hi; rw [h.1] at this; exact this
  split
  · exact (h.row hi).1
  · rw [addR_len]; exact (h.row hi).1
theorem offR_mx {n m c t : Nat} {X Y : List (List UInt8)} (h : Rect n m Y) (ht : t < n) (hx : mxL X t c ≠ 0) {i : Nat} (hi : i < n) (j : Nat) : mxL (offR X Y c t) i j = elimM (fun i => gmul (mxL X i c) (ginv (mxL X t c))) t (mxL Y) i j := by
  unfold elimM
  show gd 0 (gd [] (offR X Y c t) i) j = _
  rw [offR_row (by rw [h.1]; exact hi)]
  by_cases e : i = t
  · rw [if_pos (.inl e), if_pos e, e]; rfl
  · rw [if_neg e]
    by_cases e2 : gd 0 (gd [] X i) c = 0
    · rw [if_pos (.inr e2)]
      show mxL Y i j = mxL Y i j ^^^ gmul (gmul (gd 0 (gd [] X i) c) (ginv (mxL X t c))) (mxL Y t j)
      rw [e2, zero_gmul, zero_gmul, UInt8.xor_zero]
    · rw [if_neg fun hh => hh.elim e e2, addR_gd (by rw [(h.row hi).1, (h.row ht).1])]
      have e3 : divN (gd 0 (gd [] X i) c) (gd 0 (gd [] X t) c) = gmul (mxL X i c) (ginv (mxL X t c)) := by
        unfold divN; rw [if_neg (show ¬gd 0 (gd [] X t) c = 0 from hx)]; rfl
      rw [e3, gmul_comm]; rfl
structure UsI (n m c : Nat) (used : List Bool) (by_ : List Int) (p : List (Nat × Nat)) : Prop where
  len : used.length = n
  us : ∀ i, i < n → (gd false used i = false ↔ ¬ i ∈ p.map Prod.fst)
  cnt : (by_.filter fun x => decide (0 ≤ x)).length = p.length
theorem red_law {n m : Nat} {A : Mx} : ∀ (c : Nat) (X Y : List (List UInt8)) (used : List Bool) (by_ : List Int) (p : List (Nat × Nat)), c ≤ m → Rect n m X → RE n A (mxL X) → Rd n m (mxL X) c p → UsI n m c used by_ p →
    ∃ p', Rect n m (redGo c X Y used by_).1 ∧ RE n A (mxL (redGo c X Y used by_).1) ∧ Rd n m (mxL (redGo c X Y used by_).1) 0 p' ∧ ((redGo c X Y used by_).2.2.filter fun x => decide (0 ≤ x)).length = p'.length
  | 0, X, Y, used, by_, p, _, h1, h2, h3, h4 => ⟨p, h1, h2, h3, h4.cnt⟩
  | c + 1, X, Y, used, by_, p, hc, h1, h2, h3, h4 => by
    unfold redGo
    by_cases hn : lastR X used c X.length < 0
    · rw [if_pos hn]
      refine red_law c X Y used _ p (by omega) h1 h2 (h3.none fun i hi hni => lastR_neg hn i (by rw [h1.1]; exact hi) ((h4.us i hi).2 hni)) ⟨h4.len, h4.us, ?_⟩
      rw [List.filter_cons_of_neg (by simp; omega)]; exact h4.cnt
    · rw [if_neg hn]
      obtain ⟨q1, q2, q3⟩ := lastR_pos hn
      have hp : ¬ lastR X used c X.length < 0 := hn
      generalize hL : lastR X used c X.length = L at q1 q2 q3 hn ⊢
      have ht : L.toNat < n := by rw [← h1.1]; exact q1
      have e : ∀ i j, i < n → mxL (offR X X c L.toNat) i j = elimM (fun i => gmul (mxL X i c) (ginv (mxL X L.toNat c))) L.toNat (mxL X) i j := fun i j hi => offR_mx h1 ht q3 hi j
      have hnu : ¬ L.toNat ∈ p.map Prod.fst := (h4.us _ ht).1 q2
      have r := h3.some (by omega) ht hnu q3
      have r2 : Rd n m (mxL (offR X X c L.toNat)) c ((L.toNat, c) :: p) :=
        ⟨fun q hq => by
          obtain ⟨k1, k2, k3, k4, k5⟩ := r.piv q hq
          exact ⟨k1, k2, k3, by rw [e _ _ k1]; exact k4, fun i hi hne => by rw [e i _ hi]; exact k5 i hi hne⟩, r.nd, fun i hi hni j j1 j2 => by rw [e i j hi]; exact r.zero i hi hni j j1 j2⟩
      refine red_law c _ _ _ _ ((L.toNat, c) :: p) (by omega) (offR_rect h1) ((h2.elim ht).congr e) r2 ⟨by simp [h4.len], fun i hi => ?_, ?_⟩
      · rw [gd_set2 (by rw [h4.len]; exact ht), List.map_cons, List.mem_cons]
        by_cases ei : L.toNat = i
        · rw [if_pos ei]
          constructor
          · intro hh; simp at hh
          · intro hh; exact absurd (.inl ei.symm) hh
        · rw [if_neg ei, h4.us i hi]
          constructor
          · intro hh h5; rcases h5 with h5 | h5
            · exact ei h5.symm
            · exact hh h5
          · intro hh h5; exact hh (.inr h5)
      · rw [List.filter_cons_of_pos (by simp; omega), List.length_cons, List.length_cons, h4.cnt]
open Go.RowKit
abbrev LL : Type := List (List UInt8)
def Grw (A A' : ArL) : Prop := ∀ id, hasA A id → hasA A' id ∧ lkA A' id = lkA A id
theorem Grw.refl (A : ArL) : Grw A A := fun id h => ⟨h, rfl⟩
theorem Grw.snoc {A A' : ArL} {id : Nat} {xs : List UInt8} (h : Grw A A') (hid : ¬ hasA A' id) : Grw A ((id, xs) :: A') := fun j hj => by
  obtain ⟨h1, h2⟩ := h j hj
  have hne : j ≠ id := fun e => hid (e ▸ h1)
  exact ⟨hasA_cons.2 (.inr h1), by rw [lkA_cons, if_neg hne]; exact h2⟩
theorem StI.mono {K : RwL} {A A' : ArL} {L : LL} (h : StI K A L) (g : Grw A A') : StI K A' L := ⟨h.len, fun j hj => by
  obtain ⟨⟨q1, q2, q3⟩, q4⟩ := h.row j hj
  obtain ⟨g1, g2⟩ := g _ q2
  exact ⟨⟨q1, g1, by rw [g2]; exact q3⟩, by rw [g2]; exact q4⟩⟩
structure CpI (A0 : ArL) (s : LL) (i : Int) (K : RwL) (A : ArL) : Prop where
  lo : 0 ≤ i
  hi : i ≤ s.length
  few : s.length ≤ 16
  st : StI K A (s.take i.toNat)
  gr : Grw A0 A
theorem CpI.start {A : ArL} {s : LL} (h : s.length ≤ 16) : CpI A s 0 [] A := ⟨by omega, by omega, h, by simpa using StI.nil, .refl A⟩
theorem CpI.step {A0 A : ArL} {s : LL} {i : Int} {K : RwL} {id : Nat} (h : CpI A0 s i K A) (hi : i < s.length) (hid : ¬ hasA A id) : CpI A0 s (i + 1) (K ++ [Row.at UInt8 id (gd [] s i.toNat).length]) ((id, gd [] s i.toNat) :: A) := by
  have h0 := h.lo
  refine ⟨by omega, by omega, h.few, ?_, h.gr.snoc hid⟩
  have := h.st.snoc hid (r := gd [] s i.toNat)
  rw [show (i + 1).toNat = i.toNat + 1 by omega, List.take_add_one, show s[i.toNat]?.toList = [gd [] s i.toNat] by rw [gd_get (d := ([] : List UInt8)) (by omega)]; rfl]
  exact this
theorem CpI.len {A0 A : ArL} {s : LL} {i : Int} {K : RwL} (h : CpI A0 s i K A) : (K.length : Int) = i := by rw [h.st.len]; have := h.lo; have := h.hi; simp; omega
theorem CpI.fin {A0 A : ArL} {s : LL} {i : Int} {K : RwL} (h : CpI A0 s i K A) (hi : s.length ≤ i) : StI K A s := by
  have := h.st
  rwa [List.take_of_length_le (by omega)] at this
theorem cp_end {A0 A A6 : ArL} {s mate : LL} {i j : Int} {K K5 : RwL} (h1 : CpI A0 s i K A) (hi : s.length ≤ i) (h2 : CpI A mate j K5 A6) (hj : mate.length ≤ j) : ((∀ x : Row UInt8, x ∈ K → x.ok A6 ∧ x.kd ≠ RK.nil) ∧ ∀ x : Row UInt8, x ∈ K5 → x.ok A6 ∧ x.kd ≠ RK.nil) ∧ List.map (fun x => x.get A6) K = s ∧ List.map (fun x => x.get A6) K5 = mate := by
  have e1 := ((h1.fin hi).mono h2.gr).fin
  have e2 := (h2.fin hj).fin
  exact ⟨⟨e1.1, e2.1⟩, e1.2, e2.2⟩
def redL (a mate : LL) : LL × LL × List Int := redGo (gd [] a 0).length a mate (List.replicate a.length false) []
def offK (X Y : LL) (c t k : Nat) : LL := (List.range Y.length).map fun i => if i = t ∨ k ≤ i ∨ gd 0 (gd [] X i) c = 0 then gd [] Y i else addR (gd [] Y i) (gd [] Y t) (divN (gd 0 (gd [] X i) c) (gd 0 (gd [] X t) c))
theorem offK_len {X Y : LL} {c t k : Nat} : (offK X Y c t k).length = Y.length := by simp [offK]
theorem offK_gd {X Y : LL} {c t k i : Nat} (hi : i < Y.length) : gd [] (offK X Y c t k) i = if i = t ∨ k ≤ i ∨ gd 0 (gd [] X i) c = 0 then gd [] Y i else addR (gd [] Y i) (gd [] Y t) (divN (gd 0 (gd [] X i) c) (gd 0 (gd [] X t) c)) := by
  unfold offK
  show ((List.map _ _)[i]?).getD [] = _
  rw [List.getElem?_map, List.getElem?_range hi]; rfl
theorem offK_zero {X Y : LL} {c t : Nat} : offK X Y c t 0 = Y := gd_iff (d := []) offK_len fun i hi => by
  rw [offK_len] at hi
  rw [offK_gd hi, if_pos (.inr (.inl (by omega)))]
theorem offK_end {X Y : LL} {c t k : Nat} (h : Y.length ≤ k) : offK X Y c t k = offR X Y c t := gd_iff (d := []) (by simp [offK, offR]) fun i hi => by
  rw [offK_len] at hi
  rw [offK_gd hi, offR_row hi]
  by_cases e : i = t ∨ gd 0 (gd [] X i) c = 0
  · rw [if_pos e, if_pos (by rcases e with e | e; exact .inl e; exact .inr (.inr e))]
  · rw [if_neg e, if_neg (by intro hh; rcases hh with hh | hh | hh; exact e (.inl hh); omega; exact e (.inr hh))]
theorem offK_skip {X Y : LL} {c t k : Nat} (h : k = t ∨ gd 0 (gd [] X k) c = 0) : offK X Y c t (k + 1) = offK X Y c t k := gd_iff (d := []) (by rw [offK_len, offK_len]) fun i hi => by
  rw [offK_len] at hi
  rw [offK_gd hi, offK_gd hi]
  by_cases e : i = k
  · subst e
    rw [if_pos (by rcases h with e | e; exact .inl e; exact .inr (.inr e)), if_pos (.inr (.inl (Nat.le_refl _)))]
  · by_cases e2 : i = t ∨ k ≤ i ∨ gd 0 (gd [] X i) c = 0
    · rw [if_pos e2, if_pos (by rcases e2 with e2 | e2 | e2; exact .inl e2; exact .inr (.inl (by omega)); exact .inr (.inr e2))]
    · rw [if_neg e2, if_neg (by intro hh; rcases hh with hh | hh | hh; exact e2 (.inl hh); exact e2 (.inr (.inl (by omega))); exact e2 (.inr (.inr hh)))]
theorem offK_step {X Y : LL} {c t k : Nat} (hk : k < Y.length) (h1 : k ≠ t) (h2 : gd 0 (gd [] X k) c ≠ 0) : (offK X Y c t k).set k (addR (gd [] Y k) (gd [] Y t) (divN (gd 0 (gd [] X k) c) (gd 0 (gd [] X t) c))) = offK X Y c t (k + 1) := gd_iff (d := []) (by rw [List.length_set, offK_len, offK_len]) fun i hi => by
  rw [List.length_set, offK_len] at hi
  rw [gd_set1, offK_len, offK_gd hi, offK_gd hi]
  by_cases e : k = i
  · subst e
    rw [if_pos ⟨rfl, hk⟩, if_neg (by intro hh; rcases hh with hh | hh | hh; exact h1 hh; omega; exact h2 hh)]
  · rw [if_neg (fun hh => e hh.1)]
    by_cases e2 : i = t ∨ k ≤ i ∨ gd 0 (gd [] X i) c = 0
    · rw [if_pos e2, if_pos (by rcases e2 with e2 | e2 | e2; exact .inl e2; exact .inr (.inl (by omega)); exact .inr (.inr e2))]
    · rw [if_neg e2, if_neg (by intro hh; rcases hh with hh | hh | hh; exact e2 (.inl hh); exact e2 (.inr (.inl (by omega))); exact e2 (.inr (.inr hh)))]
theorem offK_own {X Y : LL} {c t k : Nat} (hk : k < Y.length) : gd [] (offK X Y c t k) k = gd [] Y k := by rw [offK_gd hk, if_pos (.inr (.inl (Nat.le_refl _)))]
theorem offK_piv {X Y : LL} {c t k : Nat} (ht : t < Y.length) : gd [] (offK X Y c t k) t = gd [] Y t := by rw [offK_gd ht, if_pos (.inl rfl)]
theorem offK_rect {n m c t k : Nat} {X Y : LL} (h : Rect n m Y) : Rect n m (offK X Y c t k) := by
  refine ⟨by rw [offK_len, h.1], gd_all (d := []) fun i hi => ?_⟩
  rw [offK_len] at hi
  rw [offK_gd hi]
  split
  · exact (h.row (by rw [← h.1]; exact hi)).1
  · rw [addR_len]; exact (h.row (by rw [← h.1]; exact hi)).1
structure UdI (n m k : Nat) (X0 Y0 : LL) (c t i : Int) (X Y : LL) : Prop where
  lo : 0 ≤ i
  hi : i ≤ n
  rx0 : Rect n m X0
  ry0 : Rect n k Y0
  ht : 0 ≤ t ∧ t < n
  hc : 0 ≤ c ∧ c < m
  few : m ≤ 16 ∧ k ≤ 16
  x : X = offK X0 X0 c.toNat t.toNat i.toNat
  y : Y = offK X0 Y0 c.toNat t.toNat i.toNat
section
variable {n m k : Nat} {X0 Y0 : LL} {c t i : Int} {X Y : LL}
theorem UdI.start (h1 : Rect n m X0) (h2 : Rect n k Y0) (h3 : 0 ≤ t) (h4 : t < n) (h5 : 0 ≤ c) (h6 : c < m) (h7 : m ≤ 16) (h8 : k ≤ 16) : UdI n m k X0 Y0 c t 0 X0 Y0 := ⟨by omega, by omega, h1, h2, ⟨h3, h4⟩, ⟨h5, h6⟩, ⟨h7, h8⟩, offK_zero.symm, offK_zero.symm⟩
theorem UdI.len (h : UdI n m k X0 Y0 c t i X Y) : X.length = n ∧ Y.length = n := ⟨by rw [h.x, offK_len, h.rx0.1], by rw [h.y, offK_len, h.ry0.1]⟩
theorem UdI.rows (h : UdI n m k X0 Y0 c t i X Y) {j : Int} (h1 : 0 ≤ j) (h2 : j < n) : (gd [] X j.toNat).length = m ∧ (gd [] Y j.toNat).length = k := by
  have e1 : Rect n m X := by rw [h.x]; exact offK_rect h.rx0
  have e2 : Rect n k Y := by rw [h.y]; exact offK_rect h.ry0
  exact ⟨(e1.row (by omega)).1, (e2.row (by omega)).1⟩
theorem UdI.skip1 (h : UdI n m k X0 Y0 c t i X Y) (hi : i < n) (e : i = t) : UdI n m k X0 Y0 c t (i + 1) X Y := by
  have h0 := h.lo
  refine ⟨by omega, by omega, h.rx0, h.ry0, h.ht, h.hc, h.few, ?_, ?_⟩ <;> rw [show (i + 1).toNat = i.toNat + 1 by omega, offK_skip (.inl (by rw [e]))]
  · exact h.x
  · exact h.y
theorem UdI.skip2 (h : UdI n m k X0 Y0 c t i X Y) (hi : i < n) (e : gd 0 (gd [] X i.toNat) c.toNat = 0) : UdI n m k X0 Y0 c t (i + 1) X Y := by
  have h0 := h.lo
  rw [h.x, offK_own (by rw [h.rx0.1]; omega)] at e
  refine ⟨by omega, by omega, h.rx0, h.ry0, h.ht, h.hc, h.few, ?_, ?_⟩ <;> rw [show (i + 1).toNat = i.toNat + 1 by omega, offK_skip (.inr e)]
  · exact h.x
  · exact h.y
theorem UdI.step (h : UdI n m k X0 Y0 c t i X Y) (hi : i < n) (h1 : ¬ i = t) (h2 : ¬ gd 0 (gd [] X i.toNat) c.toNat = 0) : UdI n m k X0 Y0 c t (i + 1) (X.set i.toNat ((List.range (gd [] X i.toNat).length).map (fS (gd [] X i.toNat) (gd [] X t.toNat) (divN (gd 0 (gd [] X i.toNat) c.toNat) (gd 0 (gd [] X t.toNat) c.toNat))))) (Y.set i.toNat ((List.range (gd [] Y i.toNat).length).map (fS (gd [] Y i.toNat) (gd [] Y t.toNat) (divN (gd 0 (gd [] X i.toNat) c.toNat) (gd 0 (gd [] X t.toNat) c.toNat))))) := by
  have h0 := h.lo
  have ht := h.ht
  have lx := h.rx0.1
  have ly := h.ry0.1
  have e1 : gd [] X i.toNat = gd [] X0 i.toNat := by rw [h.x, offK_own (by omega)]
  have e2 : gd [] X t.toNat = gd [] X0 t.toNat := by rw [h.x, offK_piv (by omega)]
  have e3 : gd [] Y i.toNat = gd [] Y0 i.toNat := by rw [h.y, offK_own (by omega)]
  have e4 : gd [] Y t.toNat = gd [] Y0 t.toNat := by rw [h.y, offK_piv (by omega)]
  rw [e1] at h2
  rw [e1, e2, e3, e4]
  refine ⟨by omega, by omega, h.rx0, h.ry0, h.ht, h.hc, h.few, ?_, ?_⟩
  · rw [h.x, show (i + 1).toNat = i.toNat + 1 by omega]
    exact offK_step (X := X0) (Y := X0) (by omega) (by omega) h2
  · rw [h.y, show (i + 1).toNat = i.toNat + 1 by omega]
    exact offK_step (X := X0) (Y := Y0) (by omega) (by omega) h2
theorem UdI.fin (h : UdI n m k X0 Y0 c t i X Y) (hi : n ≤ i) : X = offR X0 X0 c.toNat t.toNat ∧ Y = offR X0 Y0 c.toNat t.toNat := by
  have lx := h.rx0.1
  have ly := h.ry0.1
  exact ⟨by rw [h.x, offK_end (by omega)], by rw [h.y, offK_end (by omega)]⟩
end
structure ReI (a mate : LL) (c : Int) (b : List Int) (u : List Bool) (X Y : LL) : Prop where
  lo : -1 ≤ c
  hi : c < (gd [] a 0).length
  m16 : (gd [] a 0).length ≤ 16
  k16 : (gd [] mate 0).length ≤ 16
  n16 : 0 < a.length ∧ a.length ≤ 16
  rx : Rect a.length (gd [] a 0).length X
  ry : Rect a.length (gd [] mate 0).length Y
  us : u.length = a.length
  bl : (b.length : Int) + c + 1 = (gd [] a 0).length
  eq : redGo (c + 1).toNat X Y u b = redL a mate
theorem ReI.start {a mate : LL} (h1 : mchk a = 0) (h2 : mchk mate = 0) (h3 : mate.length = a.length) : ReI a mate (((gd [] a 0).length : Int) - 1) [] (List.replicate a.length false) a mate := by
  have o1 := Okm.of h1
  have o2 := Okm.of h2
  refine ⟨by omega, by omega, o1.m16, o2.m16, ⟨o1.n0, o1.n16⟩, o1.rect, by rw [← h3]; exact o2.rect, by simp, by simp, ?_⟩
  rw [show (((gd [] a 0).length : Int) - 1 + 1).toNat = (gd [] a 0).length by omega]; rfl
section
variable {a mate : LL} {c : Int} {b : List Int} {u : List Bool} {X Y : LL}
theorem ReI.rows (h : ReI a mate c b u X Y) {j : Int} (h1 : 0 ≤ j) (h2 : j < a.length) : (gd [] X j.toNat).length = (gd [] a 0).length ∧ (gd [] Y j.toNat).length = (gd [] mate 0).length := ⟨(h.rx.row (by omega)).1, (h.ry.row (by omega)).1⟩
theorem ReI.len (h : ReI a mate c b u X Y) : X.length = a.length ∧ Y.length = a.length := ⟨h.rx.1, h.ry.1⟩
theorem ReI.neg (h : ReI a mate c b u X Y) (h0 : 0 ≤ c) {t : Int} (ht : t = lastR X u c.toNat a.length) (hn : t < 0) : ReI a mate (c - 1) ([t] ++ b) u X Y := by
  have := h.hi
  have := h.bl
  refine ⟨by omega, by omega, h.m16, h.k16, h.n16, h.rx, h.ry, h.us, by simp; omega, ?_⟩
  rw [← h.eq, show (c - 1 + 1).toNat = c.toNat by omega, show (c + 1).toNat = c.toNat + 1 by omega, redGo, h.rx.1, ← ht, if_pos hn]
  rfl
theorem ReI.pos (h : ReI a mate c b u X Y) (h0 : 0 ≤ c) {t : Int} (ht : t = lastR X u c.toNat a.length) (hn : ¬ t < 0) {X' Y' : LL} (hx : X' = offR X X c.toNat t.toNat) (hy : Y' = offR X Y c.toNat t.toNat) : ReI a mate (c - 1) ([t] ++ b) (u.set t.toNat true) X' Y' := by
  have := h.hi
  have := h.bl
  subst hx; subst hy
  refine ⟨by omega, by omega, h.m16, h.k16, h.n16, offR_rect h.rx, offR_rect h.ry, by simp [h.us], by simp; omega, ?_⟩
  rw [← h.eq, show (c - 1 + 1).toNat = c.toNat by omega, show (c + 1).toNat = c.toNat + 1 by omega, redGo, h.rx.1, ← ht, if_neg hn]
  rfl
theorem ReI.fin (h : ReI a mate c b u X Y) (h0 : c < 0) : (X, Y, b) = redL a mate := by
  rw [← h.eq, show (c + 1).toNat = 0 by have := h.lo; omega]; rfl
theorem ReI.ud (h : ReI a mate c b u X Y) (h0 : 0 ≤ c) {t : Int} (h1 : 0 ≤ t) (h2 : t < a.length) : UdI a.length (gd [] a 0).length (gd [] mate 0).length X Y c t 0 X Y := UdI.start h.rx h.ry h1 h2 h0 h.hi h.m16 h.k16
end
structure LaI (n : Nat) (X : LL) (u : List Bool) (c i t : Int) : Prop where
  lo : 0 ≤ i
  hi : i ≤ n
  eq : t = lastR X u c.toNat i.toNat
section
variable {n : Nat} {X : LL} {u : List Bool} {c i t : Int}
theorem LaI.start : LaI n X u c 0 (-1) := ⟨by omega, by omega, rfl⟩
theorem LaI.yes (h : LaI n X u c i t) (hi : i < n) (h1 : gd false u i.toNat = false) (h2 : ¬ gd 0 (gd [] X i.toNat) c.toNat = 0) : LaI n X u c (i + 1) i := by
  have h0 := h.lo
  refine ⟨by omega, by omega, ?_⟩
  rw [show (i + 1).toNat = i.toNat + 1 by omega, lastR, if_pos ⟨h1, h2⟩]; omega
theorem LaI.no (h : LaI n X u c i t) (hi : i < n) (h1 : gd false u i.toNat = true ∨ gd 0 (gd [] X i.toNat) c.toNat = 0) : LaI n X u c (i + 1) t := by
  have h0 := h.lo
  refine ⟨by omega, by omega, ?_⟩
  rw [show (i + 1).toNat = i.toNat + 1 by omega, lastR, if_neg (fun hh => by rcases h1 with e | e; rw [hh.1] at e; simp at e; exact hh.2 e)]; exact h.eq
theorem LaI.rng (h : LaI n X u c i t) : -1 ≤ t ∧ t < i ∨ t = -1 := by
  have : ∀ k : Nat, -1 ≤ lastR X u c.toNat k ∧ (lastR X u c.toNat k < k ∨ lastR X u c.toNat k = -1) := by
    intro k
    induction k with
    | zero => exact ⟨Int.le_refl _, .inr rfl⟩
    | succ k ih =>
      unfold lastR
      split
      · omega
      · omega
  have h1 := this i.toNat
  have h0 := h.lo
  rw [← h.eq] at h1
  omega
theorem LaI.fin (h : LaI n X u c i t) (hi : n ≤ i) : t = lastR X u c.toNat n := by
  have e := h.eq
  rw [show i.toNat = n by have := h.hi; omega] at e
  exact e
end
def i_38_54_0 (s0 : (List (List UInt8))) (i0 : Int) (K0 : (List (Row UInt8))) (A0 : (List (Nat × List UInt8))) (s : (List (List UInt8))) (i : Int) (K : (List (Row UInt8))) (A : (List (Nat × List UInt8))) : Prop := s0 = s ∧ CpI A0 s i K A
def i_38_2 (a : (List (List UInt8))) (mate : (List (List UInt8))) (i0 : Int) (t0 : Int) (c0 : Int) (X0 : (List (List UInt8))) (Y0 : (List (List UInt8))) (i : Int) (t : Int) (c : Int) (X : (List (List UInt8))) (Y : (List (List UInt8))) : Prop := (c0 = c ∧ t0 = t) ∧ UdI a.length (gd [] a 0).length (gd [] mate 0).length X0 Y0 c t i X Y
def i_38_1 (a : (List (List UInt8))) (i0 : Int) (t0 : Int) (c0 : Int) (u0 : (List Bool)) (X0 : (List (List UInt8))) (i : Int) (t : Int) (c : Int) (u : (List Bool)) (X : (List (List UInt8))) : Prop := (c0 = c ∧ X0 = X ∧ u0 = u) ∧ LaI a.length X u c i t
def i_38_0 (a : (List (List UInt8))) (mate : (List (List UInt8))) (c : Int) (b : (List Int)) (u : (List Bool)) (X : (List (List UInt8))) (Y : (List (List UInt8))) : Prop := ReI a mate c b u X Y
def k_38 : Con Tc Tc.dn := ⟨38, [.ty .llU8, .ty .llU8], fun x => (fun (a : (List (List UInt8))) (mate : (List (List UInt8))) => mchk a = 0 ∧ mchk mate = 0 ∧ mate.length = a.length) x.1 x.2.1, [.llU8, .llU8, .lInt], fun x => (fun (a : (List (List UInt8))) (mate : (List (List UInt8))) => redL a mate) x.1 x.2.1⟩
theorem k_38_v (a : (List (List UInt8))) (mate : (List (List UInt8))) (hp : mchk a = 0 ∧ mchk mate = 0 ∧ mate.length = a.length) : i_38_54_0 a (0 : Int) [] [] a (0 : Int) [] [] ∧ ∀ (x : List (List UInt8)) (x_1 : Int) (x_2 : List (Row UInt8)) (x_3 : List (Nat × List UInt8)), i_38_54_0 a (0 : Int) [] [] x x_1 x_2 x_3 → (x_1 < (↑x.length : Int) → ((0 : Int) ≤ x_1 ∧ x_1 < (↑x.length : Int)) ∧ ((0 : Nat) + (gd [] x x_1.toNat).length) * (1 : Nat) ≤ (140737488355328 : Nat) ∧ ∀ (id : Nat), ¬hasA x_3 id → (x_2.length + (1 : Nat)) * (24 : Nat) ≤ (140737488355328 : Nat) ∧ I64 (x_1 + (1 : Int)) ∧ i_38_54_0 a (0 : Int) [] [] x (x_1 + (1 : Int)) (x_2 ++ [Row.at UInt8 id ([] ++ gd [] x x_1.toNat).length]) ((id, [] ++ gd [] x x_1.toNat) :: x_3) ∧ ((↑x.length : Int) - (x_1 + (1 : Int))).toNat < ((↑x.length : Int) - x_1).toNat) ∧ ((↑x.length : Int) ≤ x_1 → i_38_54_0 mate (0 : Int) [] x_3 mate (0 : Int) [] x_3 ∧ ∀ (x : List (List UInt8)) (x_4 : Int) (x_5 : List (Row UInt8)) (x_6 : List (Nat × List UInt8)), i_38_54_0 mate (0 : Int) [] x_3 x x_4 x_5 x_6 → (x_4 < (↑x.length : Int) → ((0 : Int) ≤ x_4 ∧ x_4 < (↑x.length : Int)) ∧ ((0 : Nat) + (gd [] x x_4.toNat).length) * (1 : Nat) ≤ (140737488355328 : Nat) ∧ ∀ (id : Nat), ¬hasA x_6 id → (x_5.length + (1 : Nat)) * (24 : Nat) ≤ (140737488355328 : Nat) ∧ I64 (x_4 + (1 : Int)) ∧ i_38_54_0 mate (0 : Int) [] x_3 x (x_4 + (1 : Int)) (x_5 ++ [Row.at UInt8 id ([] ++ gd [] x x_4.toNat).length]) ((id, [] ++ gd [] x x_4.toNat) :: x_6) ∧ ((↑x.length : Int) - (x_4 + (1 : Int))).toNat < ((↑x.length : Int) - x_4).toNat) ∧ ((↑x.length : Int) ≤ x_4 → (∀ (x : Row UInt8), x ∈ x_2 → x.ok x_6 ∧ x.kd ≠ RK.nil) ∧ (∀ (x : Row UInt8), x ∈ x_5 → x.ok x_6 ∧ x.kd ≠ RK.nil) ∧ ((0 : Int) ≤ (↑a.length : Int) ∧ (↑a.length : Int) ≤ (↑a.length : Int) ∧ (↑a.length : Int) * (↑(1 : Nat) : Int) ≤ (140737488355328 : Int)) ∧ ((0 : Int) ≤ (0 : Int) ∧ (0 : Int) < (↑a.length : Int)) ∧ I64 ((↑(gd [] a (Int.toNat (0 : Int))).length : Int) - (1 : Int)) ∧ i_38_0 a mate ((↑(gd [] a (Int.toNat (0 : Int))).length : Int) - (1 : Int)) [] (List.replicate (↑a.length : Int).toNat false) (List.map (fun x => x.get x_6) x_2) (List.map (fun x => x.get x_6) x_5) ∧ ∀ (x : Int) (x_7 : List Int) (x_8 : List Bool) (x_9 x_10 : List (List UInt8)), i_38_0 a mate x x_7 x_8 x_9 x_10 → ((0 : Int) ≤ x → i_38_1 a (0 : Int) (-1 : Int) x x_8 x_9 (0 : Int) (-1 : Int) x x_8 x_9 ∧ ∀ (x_11 x_12 x_13 : Int) (x_14 : List Bool) (x_15 : List (List UInt8)), i_38_1 a (0 : Int) (-1 : Int) x x_8 x_9 x_11 x_12 x_13 x_14 x_15 → (x_11 < (↑a.length : Int) → ((0 : Int) ≤ x_11 ∧ x_11 < (↑x_14.length : Int)) ∧ x_11.toNat < x_14.length ∧ (gd false x_14 x_11.toNat = !true → gd false x_14 x_11.toNat = !true) ∧ (gd false x_14 x_11.toNat = !true → gd false x_14 x_11.toNat = !true) ∧ (gd false x_14 x_11.toNat = !true → (0 : Int) ≤ x_11 ∧ x_11 < (↑x_15.length : Int)) ∧ (gd false x_14 x_11.toNat = !true → gd false x_14 x_11.toNat = !true) ∧ (gd false x_14 x_11.toNat = !true → x_11.toNat < x_15.length) ∧ (gd false x_14 x_11.toNat = !true → gd false x_14 x_11.toNat = !true) ∧ (gd false x_14 x_11.toNat = !true → gd false x_14 x_11.toNat = !true) ∧ (gd false x_14 x_11.toNat = !true → (0 : Int) ≤ x_13 ∧ x_13 < (↑(gd [] x_15 x_11.toNat).length : Int)) ∧ (gd false x_14 x_11.toNat = !true → gd false x_14 x_11.toNat = !true) ∧ (gd false x_14 x_11.toNat = !true → gd false x_14 x_11.toNat = !true) ∧ (gd false x_14 x_11.toNat = !true → gd false x_14 x_11.toNat = !true) ∧ (gd false x_14 x_11.toNat = !true ∧ ¬gd (0 : UInt8) (gd [] x_15 x_11.toNat) x_13.toNat = UInt8.ofNat (Int.toNat (0 : Int)) → I64 (x_11 + (1 : Int)) ∧ i_38_1 a (0 : Int) (-1 : Int) x x_8 x_9 (x_11 + (1 : Int)) x_11 x_13 x_14 x_15 ∧ ((↑a.length : Int) - (x_11 + (1 : Int))).toNat < ((↑a.length : Int) - x_11).toNat) ∧ (gd false x_14 x_11.toNat = !false ∨ gd (0 : UInt8) (gd [] x_15 x_11.toNat) x_13.toNat = UInt8.ofNat (Int.toNat (0 : Int)) → I64 (x_11 + (1 : Int)) ∧ i_38_1 a (0 : Int) (-1 : Int) x x_8 x_9 (x_11 + (1 : Int)) x_12 x_13 x_14 x_15 ∧ ((↑a.length : Int) - (x_11 + (1 : Int))).toNat < ((↑a.length : Int) - x_11).toNat)) ∧ ((↑a.length : Int) ≤ x_11 → ((1 : Nat) + x_7.length) * (8 : Nat) ≤ (140737488355328 : Nat) ∧ (x_12 < (0 : Int) → I64 (x_13 - (1 : Int)) ∧ i_38_0 a mate (x_13 - (1 : Int)) ([x_12] ++ x_7) x_14 x_15 x_10 ∧ (x_13 - (1 : Int) + (1 : Int)).toNat < (x + (1 : Int)).toNat) ∧ ((0 : Int) ≤ x_12 → ((0 : Int) ≤ x_12 ∧ x_12 < (↑x_14.length : Int)) ∧ x_12.toNat < x_14.length ∧ i_38_2 a mate (0 : Int) x_12 x_13 x_15 x_10 (0 : Int) x_12 x_13 x_15 x_10 ∧ ∀ (x_16 x_17 x_18 : Int) (x_19 x_20 : List (List UInt8)), i_38_2 a mate (0 : Int) x_12 x_13 x_15 x_10 x_16 x_17 x_18 x_19 x_20 → (x_16 < (↑a.length : Int) → (¬x_16 = x_17 → ¬x_16 = x_17) ∧ (¬x_16 = x_17 → ¬x_16 = x_17) ∧ (¬x_16 = x_17 → (0 : Int) ≤ x_16 ∧ x_16 < (↑x_19.length : Int)) ∧ (¬x_16 = x_17 → ¬x_16 = x_17) ∧ (¬x_16 = x_17 → x_16.toNat < x_19.length) ∧ (¬x_16 = x_17 → ¬x_16 = x_17) ∧ (¬x_16 = x_17 → ¬x_16 = x_17) ∧ (¬x_16 = x_17 → (0 : Int) ≤ x_18 ∧ x_18 < (↑(gd [] x_19 x_16.toNat).length : Int)) ∧ (¬x_16 = x_17 → ¬x_16 = x_17) ∧ (¬x_16 = x_17 → ¬x_16 = x_17) ∧ (¬x_16 = x_17 → ¬x_16 = x_17) ∧ (x_16 = x_17 ∨ gd (0 : UInt8) (gd [] x_19 x_16.toNat) x_18.toNat = UInt8.ofNat (Int.toNat (0 : Int)) → I64 (x_16 + (1 : Int)) ∧ i_38_2 a mate (0 : Int) x_12 x_13 x_15 x_10 (x_16 + (1 : Int)) x_17 x_18 x_19 x_20 ∧ ((↑a.length : Int) - (x_16 + (1 : Int))).toNat < ((↑a.length : Int) - x_16).toNat) ∧ (¬x_16 = x_17 ∧ ¬gd (0 : UInt8) (gd [] x_19 x_16.toNat) x_18.toNat = UInt8.ofNat (Int.toNat (0 : Int)) → ((0 : Int) ≤ x_16 ∧ x_16 < (↑x_19.length : Int)) ∧ x_16.toNat < x_19.length ∧ ((0 : Int) ≤ x_18 ∧ x_18 < (↑(gd [] x_19 x_16.toNat).length : Int)) ∧ ((0 : Int) ≤ x_17 ∧ x_17 < (↑x_19.length : Int)) ∧ x_17.toNat < x_19.length ∧ ((0 : Int) ≤ x_18 ∧ x_18 < (↑(gd [] x_19 x_17.toNat).length : Int)) ∧ True ∧ ((0 : Int) ≤ x_16 ∧ x_16 < (↑x_19.length : Int)) ∧ x_16.toNat < x_19.length ∧ ((0 : Int) ≤ x_17 ∧ x_17 < (↑x_19.length : Int)) ∧ x_17.toNat < x_19.length ∧ ((gd [] x_19 x_16.toNat).length ≤ (gd [] x_19 x_17.toNat).length ∧ (gd [] x_19 x_16.toNat).length ≤ (1000000 : Nat)) ∧ ((0 : Int) ≤ x_16 ∧ x_16 < (↑x_19.length : Int)) ∧ x_16.toNat < x_19.length ∧ ((0 : Int) ≤ x_16 ∧ x_16 < (↑x_20.length : Int)) ∧ x_16.toNat < x_20.length ∧ ((0 : Int) ≤ x_17 ∧ x_17 < (↑x_20.length : Int)) ∧ x_17.toNat < x_20.length ∧ ((gd [] x_20 x_16.toNat).length ≤ (gd [] x_20 x_17.toNat).length ∧ (gd [] x_20 x_16.toNat).length ≤ (1000000 : Nat)) ∧ ((0 : Int) ≤ x_16 ∧ x_16 < (↑x_20.length : Int)) ∧ x_16.toNat < x_20.length ∧ I64 (x_16 + (1 : Int)) ∧ i_38_2 a mate (0 : Int) x_12 x_13 x_15 x_10 (x_16 + (1 : Int)) x_17 x_18 (x_19.set x_16.toNat (List.map (fS (gd [] x_19 x_16.toNat) (gd [] x_19 x_17.toNat) (divN (gd (0 : UInt8) (gd [] x_19 x_16.toNat) x_18.toNat) (gd (0 : UInt8) (gd [] x_19 x_17.toNat) x_18.toNat))) (List.range (gd [] x_19 x_16.toNat).length))) (x_20.set x_16.toNat (List.map (fS (gd [] x_20 x_16.toNat) (gd [] x_20 x_17.toNat) (divN (gd (0 : UInt8) (gd [] x_19 x_16.toNat) x_18.toNat) (gd (0 : UInt8) (gd [] x_19 x_17.toNat) x_18.toNat))) (List.range (gd [] x_20 x_16.toNat).length))) ∧ ((↑a.length : Int) - (x_16 + (1 : Int))).toNat < ((↑a.length : Int) - x_16).toNat)) ∧ ((↑a.length : Int) ≤ x_16 → I64 (x_18 - (1 : Int)) ∧ i_38_0 a mate (x_18 - (1 : Int)) ([x_12] ++ x_7) (x_14.set x_12.toNat true) x_19 x_20 ∧ (x_18 - (1 : Int) + (1 : Int)).toNat < (x + (1 : Int)).toNat)))) ∧ (x < (0 : Int) → (x_9, x_10, x_7) = redL a mate))) := by
  obtain ⟨p1, p2, p3⟩ := hp
  have o1 := Okm.of p1
  have o2 := Okm.of p2
  have b1 := o1.n16
  have b2 := o1.n0
  have b3 := o1.m16
  have b4 := o1.m0
  have b5 := o2.m16
  have b6 := o2.m0
  have r1 : ∀ j : Int, 0 ≤ j → j < a.length → (gd [] a j.toNat).length ≤ 16 := fun j h0 h1 => by rw [o1.rect.row (by omega)]; exact b3
  have r2 : ∀ j : Int, 0 ≤ j → j < mate.length → (gd [] mate j.toNat).length ≤ 16 := fun j h0 h1 => by rw [o2.rect.row (by omega)]; exact b5
  simp only [List.nil_append, Int.toNat_natCast, show UInt8.ofNat (Int.toNat 0) = 0 from rfl, show Int.toNat 0 = 0 from rfl, i_38_54_0, i_38_2, i_38_1, i_38_0, I64]
  refine ⟨⟨(by trivial), CpI.start b1⟩, fun s i K A hI => ?_⟩
  obtain ⟨e, hI⟩ := hI
  subst e
  have i0 := hI.lo
  have il := hI.len
  refine ⟨fun hlt => ?_, fun hge => ?_⟩
  focus
    have rr := r1 _ i0 hlt
    exact ⟨⟨i0, hlt⟩, by omega, fun id hid => ⟨by omega, by omega, ⟨(by trivial), hI.step hlt hid⟩, by omega⟩⟩
  refine ⟨⟨(by trivial), CpI.start (by omega)⟩, fun s j K5 A6 hJ => ?_⟩
  obtain ⟨e, hJ⟩ := hJ
  subst e
  have j0 := hJ.lo
  have jl := hJ.len
  refine ⟨fun hlt => ?_, fun hge2 => ?_⟩
  focus
    have rr := r2 _ j0 hlt
    exact ⟨⟨j0, hlt⟩, by omega, fun id hid => ⟨by omega, by omega, ⟨(by trivial), hJ.step hlt hid⟩, by omega⟩⟩
  obtain ⟨⟨k1, k2⟩, k3, k4⟩ := cp_end hI hge hJ hge2
  rw [k3, k4]
  clear hI hJ k3 k4 i0 j0 il jl
  refine ⟨k1, k2, by omega, by omega, by omega, ReI.start p1 p2 p3, fun c b u X Y hR => ?_⟩
  refine ⟨fun hc => ?_, fun hc => hR.fin hc⟩
  have rb := hR.bl
  have ru := hR.us
  have rl := hR.len
  have rh := hR.hi
  refine ⟨⟨⟨(by trivial), (by trivial), (by trivial)⟩, LaI.start⟩, fun i2 t c2 u2 X2 hL => ?_⟩
  obtain ⟨⟨e1, e2, e3⟩, hL⟩ := hL
  subst e1; subst e2; subst e3
  have l0 := hL.lo
  refine ⟨fun hlt => ?_, fun hge3 => ?_⟩
  focus
    have hr := hR.rows l0 hlt
    refine ⟨by omega, by omega, (by first | exact fun h => h | trivial), (by first | exact fun h => h | trivial), fun _ => by omega, (by first | exact fun h => h | trivial), fun _ => by omega, (by first | exact fun h => h | trivial), (by first | exact fun h => h | trivial), fun _ => by omega, (by first | exact fun h => h | trivial), (by first | exact fun h => h | trivial), (by first | exact fun h => h | trivial), fun hh => ⟨by omega, ⟨⟨(by trivial), (by trivial), (by trivial)⟩, hL.yes hlt (by simpa using hh.1) hh.2⟩, by omega⟩, fun hh => ⟨by omega, ⟨⟨(by trivial), (by trivial), (by trivial)⟩, hL.no hlt (by simpa using hh)⟩, by omega⟩⟩
  have ht := hL.fin hge3
  have hg := hL.rng
  have hi3 := hL.hi
  refine ⟨by omega, fun hn => ⟨by omega, hR.neg hc ht hn, by omega⟩, fun hp => ?_⟩
  have htl : t < a.length := by omega
  refine ⟨by omega, by omega, ⟨⟨(by trivial), (by trivial)⟩, hR.ud hc hp htl⟩, fun i3 t3 c3 X3 Y3 hU => ?_⟩
  obtain ⟨⟨e1, e2⟩, hU⟩ := hU
  subst e1; subst e2
  have u0 := hU.lo
  have ul := hU.len
  refine ⟨fun hlt => ?_, fun hge4 => ?_⟩
  focus
    have q1 := hU.rows u0 hlt
    have q2 := hU.rows hp htl
    refine ⟨(by first | exact fun h => h | trivial), (by first | exact fun h => h | trivial), fun _ => by omega, (by first | exact fun h => h | trivial), fun _ => by omega, (by first | exact fun h => h | trivial), (by first | exact fun h => h | trivial), fun _ => by omega, (by first | exact fun h => h | trivial), (by first | exact fun h => h | trivial), (by first | exact fun h => h | trivial), fun hh => ⟨by omega, ⟨⟨(by trivial), (by trivial)⟩, hh.elim (hU.skip1 hlt) (hU.skip2 hlt)⟩, by omega⟩, fun hh => ?_⟩
    exact ⟨by omega, by omega, by omega, by omega, by omega, by omega, trivial, by omega, by omega, by omega, by omega, by omega, by omega, by omega, by omega, by omega, by omega, by omega, by omega, by omega, by omega, by omega, ⟨⟨(by trivial), (by trivial)⟩, hU.step hlt hh.1 hh.2⟩, by omega⟩
  obtain ⟨v1, v2⟩ := hU.fin hge4
  exact ⟨by omega, hR.pos hc ht (by omega) v1 v2, by omega⟩
def l_38 : PD Tc.dn k_38.ps → List (IL Tc Tc.dn) := fun x => (fun (a : (List (List UInt8))) (mate : (List (List UInt8))) => ([⟨54, .fn F54 (fun k => bif Nat.beq k 0 then some (.inv [.sl 0 .llU8, .sl 4 .cInt, .ow 3 .rU8, .ar .cU8] (fun zo zv => (fun (s0 : (List (List UInt8))) (i0 : Int) (K0 : (List (Row UInt8))) (A0 : (List (Nat × List UInt8))) (s : (List (List UInt8))) (i : Int) (K : (List (Row UInt8))) (A : (List (Nat × List UInt8))) => i_38_54_0 s0 i0 K0 A0 s i K A) zo.1 zo.2.1 zo.2.2.1 zo.2.2.2.1 zv.1 zv.2.1 zv.2.2.1 zv.2.2.2.1) (fun zo zv => (fun (s0 : (List (List UInt8))) (i0 : Int) (K0 : (List (Row UInt8))) (A0 : (List (Nat × List UInt8))) (s : (List (List UInt8))) (i : Int) (K : (List (Row UInt8))) (A : (List (Nat × List UInt8))) => ((s.length : Int) - i).toNat) zo.1 zo.2.1 zo.2.2.1 zo.2.2.2.1 zv.1 zv.2.1 zv.2.2.1 zv.2.2.2.1)) else none), none⟩])) x.1 x.2.1
theorem l_38_ok : ∀ x, ILs Try.prog tD (l_38 x) := fun _ => ⟨⟨F54_ok, F54_call⟩, trivial⟩
theorem k_38_ok : k_38.Ok Try.prog tD := con_ok tD_ok (Δ := [k_39, k_40]) ⟨k_39_ok, k_40_ok, trivial⟩ (Ω := []) trivial k_38 F38_ok F38_call (l_38) (l_38_ok) 3 (fun x => (fun (a : (List (List UInt8))) (mate : (List (List UInt8))) => (fun k => bif Nat.beq k 0 then some (.inv [.sl 12 .cInt, .ow 11 .cInt, .bl 3 .cBool, .bl 1 .lU8, .bl 2 .lU8] (fun zo zv => (fun (c : Int) (b : (List Int)) (u : (List Bool)) (X : (List (List UInt8))) (Y : (List (List UInt8))) => i_38_0 a mate c b u X Y) zv.1 zv.2.1 zv.2.2.1 zv.2.2.2.1 zv.2.2.2.2.1) (fun zo zv => (fun (c : Int) (b : (List Int)) (u : (List Bool)) (X : (List (List UInt8))) (Y : (List (List UInt8))) => (c + 1).toNat) zv.1 zv.2.1 zv.2.2.1 zv.2.2.2.1 zv.2.2.2.2.1)) else bif Nat.beq k 1 then some (.inv [.sl 14 .cInt, .sl 13 .cInt, .sl 12 .cInt, .bl 3 .cBool, .bl 1 .lU8] (fun zo zv => (fun (i0 : Int) (t0 : Int) (c0 : Int) (u0 : (List Bool)) (X0 : (List (List UInt8))) (i : Int) (t : Int) (c : Int) (u : (List Bool)) (X : (List (List UInt8))) => i_38_1 a i0 t0 c0 u0 X0 i t c u X) zo.1 zo.2.1 zo.2.2.1 zo.2.2.2.1 zo.2.2.2.2.1 zv.1 zv.2.1 zv.2.2.1 zv.2.2.2.1 zv.2.2.2.2.1) (fun zo zv => (fun (i0 : Int) (t0 : Int) (c0 : Int) (u0 : (List Bool)) (X0 : (List (List UInt8))) (i : Int) (t : Int) (c : Int) (u : (List Bool)) (X : (List (List UInt8))) => ((a.length : Int) - i).toNat) zo.1 zo.2.1 zo.2.2.1 zo.2.2.2.1 zo.2.2.2.2.1 zv.1 zv.2.1 zv.2.2.1 zv.2.2.2.1 zv.2.2.2.2.1)) else bif Nat.beq k 2 then some (.inv [.sl 15 .cInt, .sl 13 .cInt, .sl 12 .cInt, .bl 1 .lU8, .bl 2 .lU8] (fun zo zv => (fun (i0 : Int) (t0 : Int) (c0 : Int) (X0 : (List (List UInt8))) (Y0 : (List (List UInt8))) (i : Int) (t : Int) (c : Int) (X : (List (List UInt8))) (Y : (List (List UInt8))) => i_38_2 a mate i0 t0 c0 X0 Y0 i t c X Y) zo.1 zo.2.1 zo.2.2.1 zo.2.2.2.1 zo.2.2.2.2.1 zv.1 zv.2.1 zv.2.2.1 zv.2.2.2.1 zv.2.2.2.2.1) (fun zo zv => (fun (i0 : Int) (t0 : Int) (c0 : Int) (X0 : (List (List UInt8))) (Y0 : (List (List UInt8))) (i : Int) (t : Int) (c : Int) (X : (List (List UInt8))) (Y : (List (List UInt8))) => ((a.length : Int) - i).toNat) zo.1 zo.2.1 zo.2.2.1 zo.2.2.2.1 zo.2.2.2.2.1 zv.1 zv.2.1 zv.2.2.1 zv.2.2.2.1 zv.2.2.2.2.1)) else bif Nat.beq k 1025 then some (.frz [8, 9, 5000]) else none)) x.1 x.2.1) fun x hp => Eq.mp (by kernel_rfl) (k_38_v x.1 x.2.1 hp)
open Go.RowKit
open Go.RowKit
theorem rank_ok {a : List (List UInt8)} {n m : Nat} (h : Okm a n m) : ∃ r : Nat, rankL a = ((r : Int), 0) ∧ RankIs n m (mxL a) r := by
  unfold rankL
  rw [if_neg (by rw [h.chk]; simp), h.wid, h.len]
  refine ⟨_, rfl, ?_⟩
  have e : fillL n m (fA a) = a := by
    rw [← fill_self h.rect]
    refine fill_congr fun i j hi hj => ?_
    rw [fill_self h.rect]
    rfl
  rw [e]
  exact clr_rank h.rect h.n0
theorem fillB_eq {a : List (List UInt8)} {n : Nat} (h : Okm a n n) : fillL n (2 * (n : Int)) (fB a n) = bothL a n := by
  have e : (2 * (n : Int)) = ((n + n : Nat) : Int) := by omega
  rw [e]
  refine rect_eq fill_rectN (bothL_rect h.rect) fun i j hi hj => ?_
  rw [mx_fill (by omega) (by omega), bothL_mx h.rect hi]
  unfold fB bothM unitM
  by_cases hj2 : j < n
  · rw [if_pos hj2, if_pos hj2]; rfl
  · rw [if_neg hj2, if_neg hj2]
    by_cases e2 : j - n = i
    · rw [if_pos e2, if_pos e2.symm]
    · rw [if_neg e2, if_neg fun e3 => e2 e3.symm]
theorem inv_ok {a : List (List UInt8)} {n : Nat} (h : Okm a n n) : ∃ r, RankIs n n (mxL a) r ∧ ((r < n ∧ invL a = ([], 5)) ∨ (r = n ∧ ∃ x, invL a = (x, 0) ∧ Okm x n n ∧ rawL x a = fillL n n fU ∧ rawL a x = fillL n n fU)) := by
  obtain ⟨k1, k2, k3⟩ := clr_inv h.rect h.n0
  have e1 : clI a = clrL n (bothL a n) 0 0 := by unfold clI; rw [h.len, fillB_eq h]
  have hle := k2.le.1
  refine ⟨_, k2, ?_⟩
  have hinv : invL a = if (clI a).2 < a.length then ([], 5) else (fillL a.length a.length (fI (clI a).1 a.length), 0) := by
    unfold invL; rw [if_neg (by rw [h.chk]; simp), if_neg (by rw [h.len, h.wid]; simp)]
  rw [hinv, e1, h.len]
  by_cases hr : (clrL n (bothL a n) 0 0).2 < n
  · left; exact ⟨hr, by rw [if_pos hr]⟩
  · right
    have hrn : (clrL n (bothL a n) 0 0).2 = n := by omega
    obtain ⟨q1, q2⟩ := k1 hrn
    have hx : Okm (fillL n n (fI (clrL n (bothL a n) 0 0).1 n)) n n := Okm.fill h.n0 h.n16 h.n0 h.n16
    have hu := (unit_ok h.n0 h.n16).2
    have hm : ∀ i j, i < n → j < n → mxL (fillL n n (fI (clrL n (bothL a n) 0 0).1 n)) i j = mxL (clrL n (bothL a n) 0 0).1 i (n + j) := fun i j hi hj => mx_fill (by omega) (by omega)
    refine ⟨hrn, _, by rw [if_neg hr], hx, ?_, ?_⟩
    · refine rect_eq (hx.raw h).rect hu.rect fun i j hi hj => ?_
      rw [raw_mx hx.rect h.rect h.n0 hi hj, unit_mx hi hj, ← q1 i j hi hj]
      exact mm_congr (fun t ht => hm i t hi ht) fun t _ => rfl
    · refine rect_eq (h.raw hx).rect hu.rect fun i j hi hj => ?_
      rw [raw_mx h.rect hx.rect h.n0 hi hj, unit_mx hi hj, ← q2 i j hi hj]
      exact mm_congr (fun t _ => rfl) fun t ht => hm t j ht hj
theorem inv_zero {a : List (List UInt8)} (h : (invL a).2 = 0) : Okm a a.length a.length := by
  unfold invL at h
  split at h
  · rename_i h1; exact absurd h h1
  · rename_i h1
    have ho := Okm.of (Classical.not_not.1 h1)
    split at h
    · simp at h
    · rename_i h2
      rw [← Classical.not_not.1 h2] at ho; exact ho
theorem inv_err {a : List (List UInt8)} (h : ¬(invL a).2 = 0) : (invL a).1.length = 0 := by
  unfold invL at h ⊢
  split
  · rfl
  · rename_i h1
    rw [if_neg h1] at h
    split
    · rfl
    · rename_i h2
      rw [if_neg h2] at h
      split
      · rfl
      · rename_i h3
        rw [if_neg h3] at h; exact absurd rfl h
theorem inv_is {a x : List (List UInt8)} {n : Nat} (h : Okm a n n) (hx : Okm x n n) (he : rawL x a = fillL n n fU) : invL a = (x, 0) := by
  have hX : ∀ i j, i < n → j < n → mm n (mxL x) (mxL a) i j = unitM i j := fun i j hi hj => by rw [← raw_mx hx.rect h.rect h.n0 hi hj, he, unit_mx hi hj]
  obtain ⟨r, hr, ⟨h1, _⟩ | ⟨_, y, e1, hy, _, e3⟩⟩ := inv_ok h
  · exact absurd (inv_rank hX hr) (by omega)
  · rw [e1]
    have hY : ∀ i j, i < n → j < n → mm n (mxL a) (mxL y) i j = unitM i j := fun i j hi hj => by rw [← raw_mx h.rect hy.rect h.n0 hi hj, e3, unit_mx hi hj]
    rw [rect_eq hx.rect hy.rect fun i j hi hj => inv_uniq hX hY i j hi hj]
structure ByI (m c : Nat) (by_ : List Int) (p : List (Nat × Nat)) : Prop where
  len : by_.length + c = m
  mem : ∀ k, k < by_.length → 0 ≤ gd 0 by_ k → ((gd 0 by_ k).toNat, c + k) ∈ p
theorem gd_cons {α : Type} {d x : α} {l : List α} {k : Nat} : gd d (x :: l) k = if k = 0 then x else gd d l (k - 1) := by
  cases k with
  | zero => rfl
  | succ k => rw [if_neg (by omega)]; rfl
theorem ByI.neg {m c : Nat} {by_ : List Int} {p : List (Nat × Nat)} {x : Int} (h : ByI m (c + 1) by_ p) (hx : x < 0) : ByI m c (x :: by_) p := ⟨by have := h.len; simp; omega, fun k hk h0 => by
  rw [gd_cons] at h0 ⊢
  by_cases e : k = 0
  · rw [if_pos e] at h0; omega
  · rw [if_neg e] at h0 ⊢
    have := h.mem (k - 1) (by simp at hk; omega) h0
    rw [show c + 1 + (k - 1) = c + k by omega] at this
    exact this⟩
theorem ByI.pos {m c : Nat} {by_ : List Int} {p : List (Nat × Nat)} {x : Int} (h : ByI m (c + 1) by_ p) : ByI m c (x :: by_) ((x.toNat, c) :: p) := ⟨by have := h.len; simp; omega, fun k hk h0 => by
  rw [gd_cons] at h0 ⊢
  by_cases e : k = 0
  · subst e; rw [if_pos rfl]; exact List.mem_cons_self ..
  · rw [if_neg e] at h0 ⊢
    have := h.mem (k - 1) (by simp at hk; omega) h0
    rw [show c + 1 + (k - 1) = c + k by omega] at this
    exact List.mem_cons_of_mem _ this⟩
def Bo (n : Nat) (A M X Y : Mx) : Prop := ∃ P : Mx, (∀ i j, i < n → X i j = mm n P A i j) ∧ ∀ i j, i < n → Y i j = mm n P M i j
theorem Bo.start (n : Nat) (A M : Mx) : Bo n A M A M := ⟨unitM, fun i j h => (unit_mm A h).symm, fun i j h => (unit_mm M h).symm⟩
theorem elim_congr {n d : Nat} {w : Nat → UInt8} {R R' : Mx} (h : ∀ i j, i < n → R i j = R' i j) (hd : d < n) : ∀ i j, i < n → elimM w d R i j = elimM w d R' i j := fun i j hi => by
  unfold elimM
  rw [h i j hi, h d j hd]
theorem Bo.elim {n d : Nat} {w : Nat → UInt8} {A M X Y X' Y' : Mx} (h : Bo n A M X Y) (hd : d < n) (hX : ∀ i j, i < n → X' i j = elimM w d X i j) (hY : ∀ i j, i < n → Y' i j = elimM w d Y i j) : Bo n A M X' Y' := by
  obtain ⟨P, h1, h2⟩ := h
  exact ⟨elimM w d P, fun i j hi => by rw [hX i j hi, elim_congr h1 hd i j hi, mm_elim], fun i j hi => by rw [hY i j hi, elim_congr h2 hd i j hi, mm_elim]⟩
theorem red_mate {n m k : Nat} {A M : Mx} : ∀ (c : Nat) (X Y : List (List UInt8)) (used : List Bool) (by_ : List Int) (p : List (Nat × Nat)), c ≤ m → Rect n m X → Rect n k Y → Bo n A M (mxL X) (mxL Y) → Rd n m (mxL X) c p → UsI n m c used by_ p → ByI m c by_ p →
    ∃ p', Rect n m (redGo c X Y used by_).1 ∧ Rect n k (redGo c X Y used by_).2.1 ∧ Bo n A M (mxL (redGo c X Y used by_).1) (mxL (redGo c X Y used by_).2.1) ∧ Rd n m (mxL (redGo c X Y used by_).1) 0 p' ∧ ByI m 0 (redGo c X Y used by_).2.2 p'
  | 0, X, Y, used, by_, p, _, h1, h2, h3, h4, _, h5 => ⟨p, h1, h2, h3, h4, h5⟩
  | c + 1, X, Y, used, by_, p, hc, h1, h2, h3, h4, hu, h5 => by
    unfold redGo
    by_cases hn : lastR X used c X.length < 0
    · rw [if_pos hn]
      refine red_mate c X Y used _ p (by omega) h1 h2 h3 (h4.none fun i hi hni => lastR_neg hn i (by rw [h1.1]; exact hi) ((hu.us i hi).2 hni)) ⟨hu.len, hu.us, ?_⟩ (h5.neg hn)
      rw [List.filter_cons_of_neg (by simp; omega)]; exact hu.cnt
    · rw [if_neg hn]
      obtain ⟨q1, q2, q3⟩ := lastR_pos hn
      generalize hL : lastR X used c X.length = L at q1 q2 q3 hn ⊢
      have ht : L.toNat < n := by rw [← h1.1]; exact q1
      have e : ∀ i j, i < n → mxL (offR X X c L.toNat) i j = elimM (fun i => gmul (mxL X i c) (ginv (mxL X L.toNat c))) L.toNat (mxL X) i j := fun i j hi => offR_mx h1 ht q3 hi j
      have e' : ∀ i j, i < n → mxL (offR X Y c L.toNat) i j = elimM (fun i => gmul (mxL X i c) (ginv (mxL X L.toNat c))) L.toNat (mxL Y) i j := fun i j hi => offR_mx h2 ht q3 hi j
      have hnu : ¬ L.toNat ∈ p.map Prod.fst := (hu.us _ ht).1 q2
      have r := h4.some (by omega) ht hnu q3
      have r2 : Rd n m (mxL (offR X X c L.toNat)) c ((L.toNat, c) :: p) :=
        ⟨fun q hq => by
          obtain ⟨k1, k2, k3, k4, k5⟩ := r.piv q hq
          exact ⟨k1, k2, k3, by rw [e _ _ k1]; exact k4, fun i hi hne => by rw [e i _ hi]; exact k5 i hi hne⟩, r.nd, fun i hi hni j j1 j2 => by rw [e i j hi]; exact r.zero i hi hni j j1 j2⟩
      refine red_mate c _ _ _ _ ((L.toNat, c) :: p) (by omega) (offR_rect h1) (offR_rect h2) (h3.elim ht e e') r2 ⟨by simp [hu.len], fun i hi => ?_, ?_⟩ h5.pos
      · rw [gd_set2 (by rw [hu.len]; exact ht), List.map_cons, List.mem_cons]
        by_cases ei : L.toNat = i
        · rw [if_pos ei]
          constructor
          · intro hh; simp at hh
          · intro hh; exact absurd (.inl ei.symm) hh
        · rw [if_neg ei, hu.us i hi]
          constructor
          · intro hh h5; rcases h5 with h5 | h5
            · exact ei h5.symm
            · exact hh h5
          · intro hh h5; exact hh (.inr h5)
      · rw [List.filter_cons_of_pos (by simp; omega), List.length_cons, List.length_cons, hu.cnt]
theorem red_row {n c r : Nat} {A X Y : Mx} {p : List (Nat × Nat)} (hb : Bo n A unitM X Y) (h : Rd n n X 0 p) (hall : ∀ q, q < n → ∃ t, (t, q) ∈ p) (hp : (r, c) ∈ p) (hc : c < n) (j : Nat) (hj : j < n) :
    sg n (fun t => gmul (gmul (ginv (X r c)) (Y r t)) (A t j)) = unitM c j := by
  obtain ⟨P, h1, h2⟩ := hb
  obtain ⟨q1, q2, q3, q4, q5⟩ := h.piv _ hp
  have e1 : sg n (fun t => gmul (gmul (ginv (X r c)) (Y r t)) (A t j)) = gmul (ginv (X r c)) (X r j) := by
    rw [h1 r j q1]
    unfold mm
    rw [← sg_mul]
    refine sg_congr fun t ht => ?_
    rw [gmul_assoc, h2 r t q1, mm_unit _ ht]
  rw [e1]
  unfold unitM
  by_cases e : c = j
  · subst e; rw [if_pos rfl, ginv_mul _ q4]
  · rw [if_neg e]
    obtain ⟨t, ht⟩ := hall j hj
    obtain ⟨k1, k2, k3, k4, k5⟩ := h.piv _ ht
    have hne : r ≠ t := fun e2 => by
      subst e2
      have key : ∀ l : List (Nat × Nat), (l.map Prod.fst).Nodup → (r, c) ∈ l → (r, j) ∈ l → c = j := by
        intro l
        induction l with
        | nil => intro _ hh; simp at hh
        | cons a l ih =>
          intro hnd h1 h2
          rw [List.map_cons, List.nodup_cons] at hnd
          rcases List.mem_cons.1 h1 with e1 | e1 <;> rcases List.mem_cons.1 h2 with e2 | e2
          · rw [← e1] at e2; exact (Prod.mk.inj e2).2.symm
          · exact absurd (List.mem_map.2 ⟨_, e2, by rw [← e1]⟩) hnd.1
          · exact absurd (List.mem_map.2 ⟨_, e1, by rw [← e2]⟩) hnd.1
          · exact ih hnd.2 e1 e2
      exact e (key p h.nd hp ht)
    rw [k5 r q1 hne, gmul_zero]
open Go.RowKit
theorem red_start {n m : Nat} {X : Mx} : UsI n m m (List.replicate n false) [] [] := ⟨by simp, fun i hi => by simp [gd, List.getElem?_replicate, hi], rfl⟩
theorem red_rank {a mate : LL} {n m : Nat} (h : Okm a n m) : Rect n m (redL a mate).1 ∧ RankIs n m (mxL a) ((redL a mate).2.2.filter fun x => decide (0 ≤ x)).length := by
  unfold redL
  rw [h.wid, h.len]
  obtain ⟨p, h1, h2, h3, h4⟩ := red_law (A := mxL a) m a mate (List.replicate n false) [] [] (Nat.le_refl _) h.rect (RE.refl n _) (Rd.start n m _) (red_start (X := mxL a))
  exact ⟨h1, by rw [h4]; exact h3.rank h2⟩
structure CtI (b : List Int) (c k : Int) : Prop where
  lo : 0 ≤ c
  hi : c ≤ b.length
  eq : k = (((b.take c.toNat).filter fun x => decide (0 ≤ x)).length : Int)
theorem CtI.start {b : List Int} : CtI b 0 0 := ⟨by omega, by omega, rfl⟩
theorem CtI.k {b : List Int} {c k : Int} (h : CtI b c k) : 0 ≤ k ∧ k ≤ c := by
  have h0 := h.lo
  have h1 := h.hi
  have := List.length_filter_le (fun x : Int => decide (0 ≤ x)) (b.take c.toNat)
  rw [List.length_take] at this
  rw [h.eq]; omega
theorem take_gd {b : List Int} {c : Int} (h0 : 0 ≤ c) (h : c < b.length) : b.take (c + 1).toNat = b.take c.toNat ++ [gd 0 b c.toNat] := by
  rw [show (c + 1).toNat = c.toNat + 1 by omega, List.take_add_one, gd_get (d := (0 : Int)) (by omega)]; rfl
theorem CtI.yes {b : List Int} {c k : Int} (h : CtI b c k) (hc : c < b.length) (hg : 0 ≤ gd 0 b c.toNat) : CtI b (c + 1) (k + 1) := by
  have h0 := h.lo
  refine ⟨by omega, by omega, ?_⟩
  rw [take_gd h0 hc, List.filter_append, List.length_append, h.eq]
  simp [hg]
theorem CtI.no {b : List Int} {c k : Int} (h : CtI b c k) (hc : c < b.length) (hg : gd 0 b c.toNat < 0) : CtI b (c + 1) k := by
  have h0 := h.lo
  refine ⟨by omega, by omega, ?_⟩
  rw [take_gd h0 hc, List.filter_append, List.length_append, h.eq, List.filter_cons_of_neg (by simp; omega)]
  rfl
theorem CtI.fin {b : List Int} {c k : Int} (h : CtI b c k) (hc : b.length ≤ c) : k = ((b.filter fun x => decide (0 ≤ x)).length : Int) := by
  rw [h.eq, List.take_of_length_le (by omega)]
theorem rank_red {a mate : LL} (h : mchk a = 0) {k c : Int} (hk : CtI (redL a mate).2.2 c k) (hc : (redL a mate).2.2.length ≤ c) : (k, (0 : Int)) = rankL a := by
  have ho := Okm.of h
  obtain ⟨r, e, hr⟩ := rank_ok ho
  rw [e, hk.fin hc, hr.uniq (red_rank (mate := mate) ho).2]
theorem red_by {a mate : LL} (h : mchk a = 0) (hm : Rect a.length (gd [] mate 0).length mate) : (redL a mate).2.2.length ≤ 16 := by
  have ho := Okm.of h
  unfold redL
  obtain ⟨p, h1, h2, h3, h4, h5⟩ := red_mate (A := mxL a) (M := mxL mate) (gd [] a 0).length a mate (List.replicate a.length false) [] [] (Nat.le_refl _) ho.rect hm (Bo.start _ _ _) (Rd.start _ _ _) (red_start (X := mxL a)) ⟨by simp, fun k hk => by simp at hk⟩
  have := h5.len
  have := ho.m16
  omega
def unU (a : LL) : LL := fillL a.length a.length fU
def rdA (a : LL) : LL × LL × List Int := redL a (unU a)
def byA (a : LL) (c : Nat) : Int := gd 0 (rdA a).2.2 c
def invR (a : LL) (c : Nat) : List UInt8 := (List.range (List.replicate a.length (0 : UInt8)).length).map (fS (List.replicate a.length 0) (gd [] (rdA a).2.1 (byA a c).toNat) (divN 1 (gd 0 (gd [] (rdA a).1 (byA a c).toNat) c)))
structure SqI (a : LL) : Prop where
  chk : mchk a = 0
  sq : a.length = (gd [] a 0).length
theorem SqI.ok {a : LL} (h : SqI a) : Okm a a.length a.length := by have := Okm.of h.chk; rwa [← h.sq] at this
theorem unU_ok {a : LL} (h : mchk a = 0) : mchk (unU a) = 0 ∧ (unU a).length = a.length := by
  have ho := Okm.of h
  have := (unit_ok ho.n0 ho.n16).2
  exact ⟨this.chk, this.len⟩
theorem rdA_law {a : LL} (h : SqI a) : ∃ p, Rect a.length a.length (rdA a).1 ∧ Rect a.length a.length (rdA a).2.1 ∧ Bo a.length (mxL a) unitM (mxL (rdA a).1) (mxL (rdA a).2.1) ∧ Rd a.length a.length (mxL (rdA a).1) 0 p ∧ ByI a.length 0 (rdA a).2.2 p := by
  have ho := h.ok
  have hu := (unit_ok ho.n0 ho.n16).2
  obtain ⟨p, h1, h2, ⟨P, h3, h4⟩, h5, h6⟩ := red_mate (A := mxL a) (M := mxL (unU a)) a.length a (unU a) (List.replicate a.length false) [] [] (Nat.le_refl _) ho.rect hu.rect (Bo.start _ _ _) (Rd.start _ _ _) (red_start (X := mxL a)) ⟨by simp, fun k hk => by simp at hk⟩
  have e : rdA a = redGo a.length a (unU a) (List.replicate a.length false) [] := by unfold rdA redL; rw [← h.sq]
  rw [← e] at h1 h2 h3 h4 h5 h6
  refine ⟨p, h1, h2, ⟨P, h3, fun i j hi => ?_⟩, h5, h6⟩
  rw [h4 i j hi]
  refine mm_congr (fun _ _ => rfl) fun t ht => ?_
  by_cases hj : j < a.length
  · exact unit_mx ht hj
  · unfold unitM
    rw [if_neg (by omega)]
    unfold mxL
    have : (gd [] (unU a) t).length = a.length := hu.rect.row ht
    unfold gd
    rw [List.getElem?_eq_none (by unfold gd at this; omega)]; rfl
theorem SqI.rows {a : LL} (h : SqI a) : (rdA a).1.length = a.length ∧ (rdA a).2.1.length = a.length ∧ (rdA a).2.2.length = a.length ∧ ∀ c : Int, 0 ≤ c → c < a.length → byA a c.toNat < a.length ∧ (0 ≤ byA a c.toNat → (gd [] (rdA a).1 (byA a c.toNat).toNat).length = a.length ∧ (gd [] (rdA a).2.1 (byA a c.toNat).toNat).length = a.length) := by
  obtain ⟨p, h1, h2, h3, h4, h5⟩ := rdA_law h
  have hl := h5.len
  refine ⟨h1.1, h2.1, by omega, fun c h0 hc => ?_⟩
  have key : 0 ≤ byA a c.toNat → (byA a c.toNat).toNat < a.length := fun hg => (h4.piv _ (h5.mem c.toNat (by omega) hg)).1
  have hn := h.ok.n0
  refine ⟨?_, fun hg => ?_⟩
  · by_cases hg : 0 ≤ byA a c.toNat
    · have := key hg; omega
    · omega
  · exact ⟨(h1.row (key hg)).1, (h2.row (key hg)).1⟩
theorem mx_inv {a : LL} {c j : Nat} (hj : j < a.length) (hz : ¬ mxL (rdA a).1 (byA a c).toNat c = 0) : gd 0 (invR a c) j = gmul (ginv (mxL (rdA a).1 (byA a c).toNat c)) (mxL (rdA a).2.1 (byA a c).toNat j) := by
  unfold invR
  rw [List.length_replicate]
  show ((List.map _ _)[j]?).getD 0 = _
  rw [List.getElem?_map, List.getElem?_range hj]
  show fS _ _ _ _ = _
  unfold fS
  have e : gd 0 (List.replicate a.length (0 : UInt8)) j = 0 := by unfold gd; rw [List.getElem?_replicate, if_pos hj]; rfl
  rw [e, UInt8.zero_xor, gmul_comm]
  congr 1
  unfold divN
  unfold mxL at hz ⊢
  rw [if_neg hz, one_gmul]
structure InI (a : LL) (c : Int) (out : LL) : Prop where
  sq : SqI a
  lo : 0 ≤ c
  hi : c ≤ a.length
  eq : out = (List.range c.toNat).map (invR a)
  pos : ∀ k, k < c.toNat → 0 ≤ byA a k
theorem InI.start {a : LL} (h : SqI a) : InI a 0 [] := ⟨h, by omega, by omega, rfl, fun k hk => by simp at hk⟩
theorem InI.len {a : LL} {c : Int} {out : LL} (h : InI a c out) : (out.length : Int) = c := by rw [h.eq]; have := h.lo; simp; omega
theorem InI.step {a : LL} {c : Int} {out : LL} (h : InI a c out) (hc : c < a.length) (hp : 0 ≤ byA a c.toNat) : InI a (c + 1) (out ++ [invR a c.toNat]) := by
  have h0 := h.lo
  refine ⟨h.sq, by omega, by omega, ?_, fun k hk => ?_⟩
  · rw [show (c + 1).toNat = c.toNat + 1 by omega, List.range_succ, List.map_append, ← h.eq]; rfl
  · by_cases e : k = c.toNat
    · subst e; exact hp
    · exact h.pos k (by omega)
theorem InI.fin {a : LL} {c : Int} {out : LL} (h : InI a c out) (hc : a.length ≤ c) : (out, (0 : Int)) = invL a := by
  have hi := h.hi
  have ho := h.sq.ok
  obtain ⟨p, h1, h2, h3, h4, h5⟩ := rdA_law h.sq
  have hl := h5.len
  have hn : c.toNat = a.length := by omega
  have hx : Okm out a.length a.length := by
    refine ⟨⟨by rw [h.eq]; simp; omega, fun r hr => ?_⟩, ho.n0, ho.n16, ho.n0, ho.n16⟩
    rw [h.eq] at hr
    obtain ⟨k, _, rfl⟩ := List.mem_map.1 hr
    simp [invR]
  have hm : ∀ k, k < a.length → (((byA a k).toNat, k) : Nat × Nat) ∈ p := fun k hk => by
    have := h5.mem k (by omega) (h.pos k (by omega))
    rw [Nat.zero_add] at this; exact this
  refine (inv_is ho hx ?_).symm
  refine rect_eq (hx.raw ho).rect (unit_ok ho.n0 ho.n16).2.rect fun i j hi hj => ?_
  rw [raw_mx hx.rect ho.rect ho.n0 hi hj, unit_mx hi hj, ← red_row h3 h4 (fun q hq => ⟨_, hm q hq⟩) (hm i hi) hi j hj]
  refine sg_congr fun t ht => ?_
  congr 1
  have : gd [] out i = invR a i := by
    rw [h.eq]
    show ((List.map _ _)[i]?).getD [] = _
    rw [List.getElem?_map, List.getElem?_range (by omega)]; rfl
  unfold mxL
  rw [this, mx_inv ht (h4.piv _ (hm i hi)).2.2.2.1]
  rfl
theorem InI.neg {a : LL} {c : Int} {out : LL} (h : InI a c out) (hc : c < a.length) (hn : byA a c.toNat < 0) : (([] : LL), (5 : Int)) = invL a := by
  have h0 := h.lo
  have ho := h.sq.ok
  obtain ⟨p, _, _, _, _, h5⟩ := rdA_law h.sq
  have hl := h5.len
  have hr := (red_rank (mate := unU a) ho).2
  have hlt : ((rdA a).2.2.filter fun x => decide (0 ≤ x)).length < (rdA a).2.2.length := by
    have hm : gd 0 (rdA a).2.2 c.toNat ∈ (rdA a).2.2 := gd_mem (by omega)
    rcases Nat.lt_or_ge ((rdA a).2.2.filter fun x => decide (0 ≤ x)).length (rdA a).2.2.length with hh | hh
    · exact hh
    · have e := List.length_filter_eq_length_iff.1 (Nat.le_antisymm (List.length_filter_le _ _) hh) _ hm
      have hn' : gd 0 (rdA a).2.2 c.toNat < 0 := hn
      simp at e; omega
  obtain ⟨r, hr2, ⟨_, e⟩ | ⟨e, _⟩⟩ := inv_ok ho
  · exact e.symm
  · have := hr.uniq hr2
    have e2 : ((redL a (unU a)).2.2.filter fun x => decide (0 ≤ x)).length = ((rdA a).2.2.filter fun x => decide (0 ≤ x)).length := rfl
    omega
theorem inv_chk {a : LL} (h : ¬ mchk a = 0) : (([] : LL), mchk a) = invL a := by unfold invL; rw [if_pos h]
theorem inv_sq {a : LL} (h : mchk a = 0) (h2 : ¬ a.length = (gd [] a 0).length) : (([] : LL), (1 : Int)) = invL a := by unfold invL; rw [if_neg (by rw [h]; simp), if_pos h2]
theorem rank_chk {a : LL} (h : ¬ mchk a = 0) : ((0 : Int), mchk a) = rankL a := by unfold rankL; rw [if_pos h]
def i_17_0 (a : (List (List UInt8))) (c : Int) (n : Int) : Prop := CtI (redL a a).2.2 c n
def k_17 : Con Tc Tc.dn := ⟨17, [.ty .llU8], fun x => (fun (a : (List (List UInt8))) => True) x.1, [.cInt, .cInt], fun x => (fun (a : (List (List UInt8))) => rankL a) x.1⟩
theorem k_17_v (a : (List (List UInt8))) : True ∧ (¬mchk a = (0 : Int) → ((0 : Int), mchk a) = rankL a) ∧ (mchk a = (0 : Int) → (mchk a = (0 : Int) ∧ mchk a = (0 : Int) ∧ a.length = a.length) ∧ i_17_0 a (0 : Int) (0 : Int) ∧ ∀ (x x_1 : Int), i_17_0 a x x_1 → (x < (↑(redGo (gd [] a (0 : Nat)).length a a (List.replicate a.length false) []).snd.snd.length : Int) → ((0 : Int) ≤ x ∧ x < (↑(redGo (gd [] a (0 : Nat)).length a a (List.replicate a.length false) []).snd.snd.length : Int)) ∧ ((0 : Int) ≤ gd (0 : Int) (redGo (gd [] a (0 : Nat)).length a a (List.replicate a.length false) []).snd.snd x.toNat → I64 (x_1 + (1 : Int)) ∧ I64 (x + (1 : Int)) ∧ i_17_0 a (x + (1 : Int)) (x_1 + (1 : Int)) ∧ ((↑(redGo (gd [] a (0 : Nat)).length a a (List.replicate a.length false) []).snd.snd.length : Int) - (x + (1 : Int))).toNat < ((↑(redGo (gd [] a (0 : Nat)).length a a (List.replicate a.length false) []).snd.snd.length : Int) - x).toNat) ∧ (gd (0 : Int) (redGo (gd [] a (0 : Nat)).length a a (List.replicate a.length false) []).snd.snd x.toNat < (0 : Int) → I64 (x + (1 : Int)) ∧ i_17_0 a (x + (1 : Int)) x_1 ∧ ((↑(redGo (gd [] a (0 : Nat)).length a a (List.replicate a.length false) []).snd.snd.length : Int) - (x + (1 : Int))).toNat < ((↑(redGo (gd [] a (0 : Nat)).length a a (List.replicate a.length false) []).snd.snd.length : Int) - x).toNat)) ∧ ((↑(redGo (gd [] a (0 : Nat)).length a a (List.replicate a.length false) []).snd.snd.length : Int) ≤ x → (x_1, (0 : Int)) = rankL a)) := by
  simp only [show redGo (gd [] a 0).length a a (List.replicate a.length false) [] = redL a a from rfl, i_17_0, I64]
  refine ⟨trivial, rank_chk, fun h => ⟨⟨h, h, trivial⟩, CtI.start, fun c n hI => ?_⟩⟩
  have hb := red_by (a := a) (mate := a) h (Okm.of h).rect
  have h0 := hI.lo
  have hk := hI.k
  have hh := hI.hi
  exact ⟨fun hc => ⟨⟨h0, hc⟩, fun hp => ⟨by omega, by omega, hI.yes hc hp, by omega⟩, fun hn => ⟨by omega, hI.no hc hn, by omega⟩⟩, fun hc => rank_red h hI hc⟩
theorem k_17_ok : k_17.Ok Try.prog tD := con_ok tD_ok (Δ := [k_22, k_38]) ⟨k_22_ok, k_38_ok, trivial⟩ (Ω := []) trivial k_17 F17_ok F17_call (fun _ => []) (fun _ => trivial) 0 (fun x => (fun (a : (List (List UInt8))) => (fun k => bif Nat.beq k 0 then some (.inv [.sl 9 .cInt, .sl 8 .cInt] (fun zo zv => (fun (c : Int) (n : Int) => i_17_0 a c n) zv.1 zv.2.1) (fun zo zv => (fun (c : Int) (n : Int) => (((redL a a).2.2.length : Int) - c).toNat) zv.1 zv.2.1)) else none)) x.1) fun x hp => Eq.mp (by kernel_rfl) (k_17_v x.1)
def i_16_0 (a : (List (List UInt8))) (c : Int) (out : (List (List UInt8))) : Prop := InI a c out
def k_16 : Con Tc Tc.dn := ⟨16, [.ty .llU8], fun x => (fun (a : (List (List UInt8))) => True) x.1, [.llU8, .cInt], fun x => (fun (a : (List (List UInt8))) => invL a) x.1⟩
abbrev z16_0 (a : (List (List UInt8))) := (redGo (gd [] a (0 : Nat)).length a (fillL (↑a.length : Int) (↑a.length : Int) fU) (List.replicate a.length false) [])
theorem k_16_v (a : (List (List UInt8))) : True ∧ (mchk a = (0 : Int) → mchk a = (0 : Int)) ∧ (mchk a = (0 : Int) → mchk a = (0 : Int)) ∧ (mchk a = (0 : Int) → (0 : Int) ≤ (0 : Int) ∧ (0 : Int) < (↑a.length : Int)) ∧ (mchk a = (0 : Int) → mchk a = (0 : Int)) ∧ (mchk a = (0 : Int) → mchk a = (0 : Int)) ∧ (mchk a = (0 : Int) → mchk a = (0 : Int)) ∧ (mchk a = (0 : Int) → mchk a = (0 : Int)) ∧ (mchk a = (0 : Int) → mchk a = (0 : Int)) ∧ (mchk a = (0 : Int) ∧ ¬(↑a.length : Int) = (↑(gd [] a (Int.toNat (0 : Int))).length : Int) → ([], (1 : Int)) = invL a) ∧ (¬mchk a = (0 : Int) ∨ (↑a.length : Int) = (↑(gd [] a (Int.toNat (0 : Int))).length : Int) → (¬mchk a = (0 : Int) → ([], mchk a) = invL a) ∧ (mchk a = (0 : Int) → ((0 : Int) ≤ (↑a.length : Int) ∧ (↑a.length : Int) ≤ (16 : Int)) ∧ (mchk a = (0 : Int) ∧ mchk (fillL (↑a.length : Int) (↑a.length : Int) fU) = (0 : Int) ∧ (fillL (↑a.length : Int) (↑a.length : Int) fU).length = a.length) ∧ i_16_0 a (0 : Int) [] ∧ ∀ (x : Int) (x_1 : List (List UInt8)), i_16_0 a x x_1 → (x < (↑a.length : Int) → ((0 : Int) ≤ x ∧ x < (↑(z16_0 a).snd.snd.length : Int)) ∧ (gd (0 : Int) (z16_0 a).snd.snd x.toNat < (0 : Int) → ([], (5 : Int)) = invL a) ∧ ((0 : Int) ≤ gd (0 : Int) (z16_0 a).snd.snd x.toNat → ((0 : Int) ≤ x ∧ x < (↑(z16_0 a).snd.snd.length : Int)) ∧ ((0 : Int) ≤ gd (0 : Int) (z16_0 a).snd.snd x.toNat ∧ gd (0 : Int) (z16_0 a).snd.snd x.toNat < (↑(z16_0 a).fst.length : Int)) ∧ ((0 : Int) ≤ x ∧ x < (↑(gd [] (z16_0 a).fst (gd (0 : Int) (z16_0 a).snd.snd x.toNat).toNat).length : Int)) ∧ True ∧ ((0 : Int) ≤ (↑a.length : Int) ∧ (↑a.length : Int) ≤ (↑a.length : Int) ∧ (↑a.length : Int) * (↑(1 : Nat) : Int) ≤ (140737488355328 : Int)) ∧ ((0 : Int) ≤ x ∧ x < (↑(z16_0 a).snd.snd.length : Int)) ∧ ((0 : Int) ≤ gd (0 : Int) (z16_0 a).snd.snd x.toNat ∧ gd (0 : Int) (z16_0 a).snd.snd x.toNat < (↑(z16_0 a).snd.fst.length : Int)) ∧ ((List.replicate (↑a.length : Int).toNat (UInt8.ofNat (Int.toNat (0 : Int)))).length ≤ (gd [] (z16_0 a).snd.fst (gd (0 : Int) (z16_0 a).snd.snd x.toNat).toNat).length ∧ (List.replicate (↑a.length : Int).toNat (UInt8.ofNat (Int.toNat (0 : Int)))).length ≤ (1000000 : Nat)) ∧ (x_1.length + (1 : Nat)) * (24 : Nat) ≤ (140737488355328 : Nat) ∧ I64 (x + (1 : Int)) ∧ i_16_0 a (x + (1 : Int)) (x_1 ++ [List.map (fS (List.replicate (↑a.length : Int).toNat (UInt8.ofNat (Int.toNat (0 : Int)))) (gd [] (z16_0 a).snd.fst (gd (0 : Int) (z16_0 a).snd.snd x.toNat).toNat) (divN (UInt8.ofNat (Int.toNat (1 : Int))) (gd (0 : UInt8) (gd [] (z16_0 a).fst (gd (0 : Int) (z16_0 a).snd.snd x.toNat).toNat) x.toNat))) (List.range (List.replicate (↑a.length : Int).toNat (UInt8.ofNat (Int.toNat (0 : Int)))).length)]) ∧ ((↑a.length : Int) - (x + (1 : Int))).toNat < ((↑a.length : Int) - x).toNat)) ∧ ((↑a.length : Int) ≤ x → (x_1, (0 : Int)) = invL a))) := by
  delta z16_0
  simp only [show fillL (a.length : Int) (a.length : Int) fU = unU a from rfl, show redGo (gd [] a 0).length a (unU a) (List.replicate a.length false) [] = rdA a from rfl, Int.toNat_natCast, show UInt8.ofNat (Int.toNat 0) = 0 from rfl, show UInt8.ofNat (Int.toNat 1) = 1 from rfl, show Int.toNat 0 = 0 from rfl, i_16_0, I64]
  refine ⟨trivial, fun h => h, fun h => h, fun h => by have := (Okm.of h).n0; omega, fun h => h, fun h => h, fun h => h, fun h => h, fun h => h, fun h => inv_sq h.1 (by have := h.2; omega), fun h1 => ⟨inv_chk, fun h => ?_⟩⟩
  have hs : SqI a := ⟨h, by rcases h1 with h1 | h1; exact absurd h h1; omega⟩
  have hu := unU_ok h
  have h16 := hs.ok.n16
  obtain ⟨r1, r2, r3, r4⟩ := hs.rows
  refine ⟨by omega, ⟨h, hu.1, hu.2⟩, InI.start hs, fun c out hI => ?_⟩
  have h0 := hI.lo
  have hl := hI.len
  refine ⟨fun hc => ?_, hI.fin⟩
  obtain ⟨q1, q2⟩ := r4 c h0 hc
  simp only [byA] at q1 q2
  have q3 := List.length_replicate (n := a.length) (a := (0 : UInt8))
  have q6 := List.length_replicate (n := a.length) (a := UInt8.ofNat 0)
  exact ⟨by omega, fun hn => hI.neg hc hn, fun hp => by
    obtain ⟨q4, q5⟩ := q2 hp
    exact ⟨by omega, by omega, by omega, trivial, by omega, by omega, by omega, by omega, by omega, by omega, hI.step hc hp, by omega⟩⟩
theorem k_16_ok : k_16.Ok Try.prog tD := con_ok tD_ok (Δ := [k_22, k_19, k_38, k_39, k_40]) ⟨k_22_ok, k_19_ok, k_38_ok, k_39_ok, k_40_ok, trivial⟩ (Ω := []) trivial k_16 F16_ok F16_call (fun _ => []) (fun _ => trivial) 0 (fun x => (fun (a : (List (List UInt8))) => (fun k => bif Nat.beq k 0 then some (.inv [.sl 9 .cInt, .ow 8 .lU8] (fun zo zv => (fun (c : Int) (out : (List (List UInt8))) => i_16_0 a c out) zv.1 zv.2.1) (fun zo zv => (fun (c : Int) (out : (List (List UInt8))) => ((a.length : Int) - c).toNat) zv.1 zv.2.1)) else none)) x.1) fun x hp => Eq.mp (by kernel_rfl) (k_16_v x.1)
open Go.RowKit
open Go.RowKit
theorem mul_sm {a b : List (List UInt8)} : (mulL a b).1.length ≤ 1000000 ∧ ∀ r, r ∈ (mulL a b).1 → r.length ≤ 1000000 := by
  by_cases h : (mulL a b).2 = 0
  · obtain ⟨n, k, m, ha, hb, e⟩ := mul_zero h
    rw [e]
    exact ok_small (ha.raw hb)
  · have : (mulL a b).1 = [] := by
      unfold mulL at h ⊢
      split
      · rfl
      · rename_i h1
        rw [if_neg h1] at h
        split
        · rfl
        · rename_i h2
          rw [if_neg h2] at h
          split
          · rfl
          · rename_i h3
            rw [if_neg h3] at h; exact absurd rfl h
    rw [this]; exact ⟨by simp, fun r hr => by simp at hr⟩
theorem inv_sm {a : List (List UInt8)} : (invL a).1.length ≤ 1000000 ∧ ∀ r, r ∈ (invL a).1 → r.length ≤ 1000000 := by
  by_cases h : (invL a).2 = 0
  · obtain ⟨r, hr, ⟨h1, h2⟩ | ⟨_, x, e1, hx, _⟩⟩ := inv_ok (inv_zero h)
    · rw [h2] at h; simp at h
    · rw [e1]; exact ok_small hx
  · have := List.eq_nil_of_length_eq_zero (inv_err h)
    rw [this]; exact ⟨by simp, fun r hr => by simp at hr⟩
theorem unit_in {n : Int} (h1 : 1 ≤ n) (h2 : n ≤ 16) : unitL n = (fillL n n fU, 0) ∧ (fillL n n fU).length ≤ 1000000 ∧ ∀ r, r ∈ fillL n n fU → r.length ≤ 1000000 := by
  have e : n = ((n.toNat : Nat) : Int) := by omega
  rw [e]
  have := unit_ok (n := n.toNat) (by omega) (by omega)
  exact ⟨this.1, ok_small this.2⟩
theorem unit_out {n : Int} (h : n < 1 ∨ 16 < n) : (unitL n).1.length = 0 ∧ (unitL n).2 = 3 := by
  unfold unitL
  rw [if_neg (by omega)]; exact ⟨rfl, rfl⟩
def k_3 : Con Tc Tc.dn := ⟨3, [.ty .llU8, .ty .llU8, .ty .cInt], fun x => (fun (a : (List (List UInt8))) (b : (List (List UInt8))) (n : Int) => True) x.1 x.2.1 x.2.2.1, [.cBool], fun x => (fun (a : (List (List UInt8))) (b : (List (List UInt8))) (n : Int) => true) x.1 x.2.1 x.2.2.1⟩
abbrev z3_0 (a : (List (List UInt8))) (b : (List (List UInt8))) := (((true = true ∧ mchk a = mchk a) ∧ decide ((mulL a b).fst = (mulL a b).fst) = true) ∧ (mulL a b).snd = (mulL a b).snd)
abbrev z3_1 (a : (List (List UInt8))) (b : (List (List UInt8))) := ((((z3_0 a b) ∧ decide ((invL a).fst = (invL a).fst) = true) ∧ (invL a).snd = (invL a).snd) ∧ (rankL a).fst = (rankL a).fst → (((z3_0 a b) ∧ decide ((invL a).fst = (invL a).fst) = true) ∧ (invL a).snd = (invL a).snd) ∧ (rankL a).fst = (rankL a).fst)
abbrev z3_2 (a : (List (List UInt8))) (b : (List (List UInt8))) := (((true = true ∧ mchk a = mchk a) ∧ decide ((mulL a b).fst = (mulL a b).fst) = true) ∧ (mulL a b).snd = (mulL a b).snd → ((true = true ∧ mchk a = mchk a) ∧ decide ((mulL a b).fst = (mulL a b).fst) = true) ∧ (mulL a b).snd = (mulL a b).snd)
abbrev z3_3 (a : (List (List UInt8))) (b : (List (List UInt8))) := (((z3_0 a b) ∧ decide ((invL a).fst = (invL a).fst) = true) ∧ (invL a).snd = (invL a).snd → ((z3_0 a b) ∧ decide ((invL a).fst = (invL a).fst) = true) ∧ (invL a).snd = (invL a).snd)
abbrev z3_4 (a : (List (List UInt8))) (b : (List (List UInt8))) := ((true = true ∧ mchk a = mchk a) ∧ decide ((mulL a b).fst = (mulL a b).fst) = true → (true = true ∧ mchk a = mchk a) ∧ decide ((mulL a b).fst = (mulL a b).fst) = true)
abbrev z3_5 (a : (List (List UInt8))) (b : (List (List UInt8))) := ((z3_0 a b) ∧ decide ((invL a).fst = (invL a).fst) = true → (z3_0 a b) ∧ decide ((invL a).fst = (invL a).fst) = true)
abbrev z3_6 (a : (List (List UInt8))) := (true = true ∧ mchk a = mchk a → true = true ∧ mchk a = mchk a)
theorem k_3_v (a : (List (List UInt8))) (b : (List (List UInt8))) (n : Int) : True ∧ True ∧ True ∧ True ∧ True ∧ True ∧ True ∧ ((1 : Int) ≤ n → (1 : Int) ≤ n) ∧ ((1 : Int) ≤ n → (1 : Int) ≤ n) ∧ (n < (1 : Int) ∨ (16 : Int) < n → ((unitL n).snd = (3 : Int) → (unitL n).snd = (3 : Int)) ∧ ((unitL n).snd = (3 : Int) → (unitL n).snd = (3 : Int)) ∧ ((unitL n).snd = (3 : Int) → (unitL n).snd = (3 : Int)) ∧ (¬(unitL n).snd = (3 : Int) ∨ (0 : Int) < (↑(unitL n).fst.length : Int) → false = true) ∧ ((unitL n).snd = (3 : Int) ∧ (↑(unitL n).fst.length : Int) ≤ (0 : Int) → True ∧ (true = true → true = true) ∧ (true = true → True) ∧ (true = true → true = true) ∧ (true = true → True) ∧ (true = true → true = true) ∧ (true = true → true = true) ∧ (true = true → true = true) ∧ (z3_6 a) ∧ (z3_6 a) ∧ (true = true ∧ mchk a = mchk a → (mulL a b).fst.length ≤ (1000000 : Nat) ∧ ∀ (r : List UInt8), r ∈ (mulL a b).fst → r.length ≤ (1000000 : Nat)) ∧ (z3_6 a) ∧ (z3_4 a b) ∧ (z3_4 a b) ∧ (z3_4 a b) ∧ (z3_2 a b) ∧ (z3_2 a b) ∧ (((true = true ∧ mchk a = mchk a) ∧ decide ((mulL a b).fst = (mulL a b).fst) = true) ∧ (mulL a b).snd = (mulL a b).snd → (invL a).fst.length ≤ (1000000 : Nat) ∧ ∀ (r : List UInt8), r ∈ (invL a).fst → r.length ≤ (1000000 : Nat)) ∧ (z3_2 a b) ∧ (z3_5 a b) ∧ (z3_5 a b) ∧ (z3_5 a b) ∧ (z3_3 a b) ∧ (z3_3 a b) ∧ (z3_3 a b) ∧ (z3_1 a b) ∧ (z3_1 a b) ∧ (z3_1 a b) ∧ (true && mchk a == mchk a && decide ((mulL a b).fst = (mulL a b).fst) && (mulL a b).snd == (mulL a b).snd && decide ((invL a).fst = (invL a).fst) && (invL a).snd == (invL a).snd && (rankL a).fst == (rankL a).fst && (rankL a).snd == (rankL a).snd) = true)) ∧ ((1 : Int) ≤ n ∧ n ≤ (16 : Int) → ((unitL n).snd = (0 : Int) → (unitL n).snd = (0 : Int)) ∧ ((unitL n).snd = (0 : Int) → (0 : Int) ≤ n ∧ n ≤ (16 : Int)) ∧ ((unitL n).snd = (0 : Int) → (unitL n).snd = (0 : Int)) ∧ ((unitL n).snd = (0 : Int) → (unitL n).snd = (0 : Int)) ∧ ((unitL n).snd = (0 : Int) → (unitL n).fst.length ≤ (1000000 : Nat) ∧ ∀ (r : List UInt8), r ∈ (unitL n).fst → r.length ≤ (1000000 : Nat)) ∧ ((unitL n).snd = (0 : Int) → (unitL n).snd = (0 : Int)) ∧ ((unitL n).snd = (0 : Int) → (unitL n).snd = (0 : Int)) ∧ (¬(unitL n).snd = (0 : Int) ∨ decide ((unitL n).fst = fillL n n fU) = !true → false = true) ∧ ((unitL n).snd = (0 : Int) ∧ decide ((unitL n).fst = fillL n n fU) = !false → True ∧ (true = true → true = true) ∧ (true = true → True) ∧ (true = true → true = true) ∧ (true = true → True) ∧ (true = true → true = true) ∧ (true = true → true = true) ∧ (true = true → true = true) ∧ (z3_6 a) ∧ (z3_6 a) ∧ (true = true ∧ mchk a = mchk a → (mulL a b).fst.length ≤ (1000000 : Nat) ∧ ∀ (r : List UInt8), r ∈ (mulL a b).fst → r.length ≤ (1000000 : Nat)) ∧ (z3_6 a) ∧ (z3_4 a b) ∧ (z3_4 a b) ∧ (z3_4 a b) ∧ (z3_2 a b) ∧ (z3_2 a b) ∧ (((true = true ∧ mchk a = mchk a) ∧ decide ((mulL a b).fst = (mulL a b).fst) = true) ∧ (mulL a b).snd = (mulL a b).snd → (invL a).fst.length ≤ (1000000 : Nat) ∧ ∀ (r : List UInt8), r ∈ (invL a).fst → r.length ≤ (1000000 : Nat)) ∧ (z3_2 a b) ∧ (z3_5 a b) ∧ (z3_5 a b) ∧ (z3_5 a b) ∧ (z3_3 a b) ∧ (z3_3 a b) ∧ (z3_3 a b) ∧ (z3_1 a b) ∧ (z3_1 a b) ∧ (z3_1 a b) ∧ (true && mchk a == mchk a && decide ((mulL a b).fst = (mulL a b).fst) && (mulL a b).snd == (mulL a b).snd && decide ((invL a).fst = (invL a).fst) && (invL a).snd == (invL a).snd && (rankL a).fst == (rankL a).fst && (rankL a).snd == (rankL a).snd) = true)) := by
  delta z3_6 z3_5 z3_4 z3_3 z3_2 z3_1 z3_0
  have h1 := @mul_sm a b
  have h2 := @inv_sm a
  have h3 := @unit_in n
  have h4 := @unit_out n
  (repeat' (first | apply And.intro | intro _)) <;> first | assumption | trivial | omega | (grind []) | trace_state
theorem k_3_ok : k_3.Ok Try.prog tD := con_ok tD_ok (Δ := [k_20, k_21, k_11, k_12, k_13, k_14, k_15, k_16, k_17, k_19, k_22, k_18]) ⟨k_20_ok, k_21_ok, k_11_ok, k_12_ok, k_13_ok, k_14_ok, k_15_ok, k_16_ok, k_17_ok, k_19_ok, k_22_ok, k_18_ok, trivial⟩ (Ω := []) trivial k_3 F3_ok F3_call (fun _ => []) (fun _ => trivial) 0 (fun x => (fun (a : (List (List UInt8))) (b : (List (List UInt8))) (n : Int) => (fun _ => none)) x.1 x.2.1 x.2.2.1) fun x hp => Eq.mp (by kernel_rfl) (k_3_v x.1 x.2.1 x.2.2.1)
theorem MatrixTells_walk {w : World} (a : (List (List UInt8))) (Aa : Option Addr) (na ca : Nat) (ra : GoT.rep w w.heap.size [.slice Aa na ca] a) (b : (List (List UInt8))) (Ab : Option Addr) (nb cb : Nat) (rb : GoT.rep w w.heap.size [.slice Ab nb cb] b) (n : Int) (wn : (Lit.int .i64 n).wf = true) : Calls Try.prog 3 #[.slice Aa na ca, .slice Ab nb cb, I n] w fun e w' => e = .returned (.bool true) ∧ Below w.heap.size w w' := by
  have rn : GoT.rep w w.heap.size [I n] n := ⟨rfl, i64_bd wn⟩
  have hf : Fn Try.prog 3 [(tD.en .llU8 a).av tD.toTE N0, (tD.en .llU8 b).av tD.toTE N0, (tD.en .cInt n).av tD.toTE N0] (.v (.bool true)) := k_3_ok.2 (a, b, n, ()) N0 trivial
  exact fn_law (vs := [.slice Aa na ca, .slice Ab nb cb, I n]) hf trivial (.cons (arg_one tD_ok (t := .llU8) rfl ((LG.list (LG.list LG.u8)).av ra)) (.cons (arg_one tD_ok (t := .llU8) rfl ((LG.list (LG.list LG.u8)).av rb)) (.cons (arg_one tD_ok (t := .cInt) rfl (LG.i64.av rn)) .nil)))
end Go.Proofs.Ytjfakndleagacaa
