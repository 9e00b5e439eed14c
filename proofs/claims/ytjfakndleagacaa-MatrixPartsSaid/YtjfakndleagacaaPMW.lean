/- What functions answer (contracts). No condition. -/
import Derived.Test.YtjfakndleagacaaPMH
import Derived.Test.YtjfakndleagacaaPPolB
set_option linter.unusedSimpArgs false
set_option linter.unusedVariables false
set_option maxHeartbeats 4000000
set_option maxRecDepth 100000
namespace Go.Proofs.Ytjfakndleagacaa
open Go.RowKit
theorem gd_iff {α : Type} {d : α} {a b : List α} (h : a.length = b.length) (k : ∀ i, i < a.length → gd d a i = gd d b i) : a = b := by
  refine List.ext_getElem h fun i h1 h2 => ?_
  have := k i h1
  unfold gd at this
  rw [List.getElem?_eq_getElem h1, List.getElem?_eq_getElem h2] at this
  simpa using this
structure EqI {α : Type} (d : α) (a b : List α) (i : Int) : Prop where
  lo : 0 ≤ i
  hi : i ≤ a.length
  len : (a.length : Int) = b.length
  eq : ∀ j, j < i.toNat → gd d a j = gd d b j
theorem EqI.start {α : Type} {d : α} {a b : List α} (h : (a.length : Int) = b.length) : EqI d a b 0 := ⟨by omega, by omega, h, fun j hj => by omega⟩
theorem EqI.step {α : Type} {d : α} {a b : List α} {i : Int} (h : EqI d a b i) (hi : i < a.length) (he : gd d a i.toNat = gd d b i.toNat) : EqI d a b (i + 1) := ⟨by have := h.lo; omega, by omega, h.len, fun j hj => by
  by_cases e : j = i.toNat
  · subst e; exact he
  · exact h.eq j (by have := h.lo; omega)⟩
theorem EqI.fin {α : Type} {d : α} {a b : List α} {i : Int} (h : EqI d a b i) (hi : a.length ≤ i) : a = b := gd_iff (d := d) (by have := h.len; omega) fun j hj => h.eq j (by omega)
theorem gd_ne {α : Type} {d : α} {a b : List α} {i : Nat} (h : gd d a i ≠ gd d b i) : a ≠ b := fun e => h (e ▸ rfl)
theorem len_ne {α : Type} {a b : List α} (h : (a.length : Int) ≠ b.length) : a ≠ b := fun e => h (e ▸ rfl)
structure StI (K : RwL) (A : ArL) (L : List (List UInt8)) : Prop where
  len : K.length = L.length
  row : ∀ j, j < L.length → (gd (Row.no UInt8) K j).mine A ∧ lkA A (gd (Row.no UInt8) K j).id = gd [] L j
theorem StI.nil {A : ArL} : StI [] A [] := ⟨rfl, fun j hj => by simp at hj⟩
theorem StI.snoc {K : RwL} {A : ArL} {L : List (List UInt8)} {id : Nat} {r : List UInt8} (h : StI K A L) (hid : ¬ hasA A id) : StI (K ++ [Row.at UInt8 id r.length]) ((id, r) :: A) (L ++ [r]) := by
  refine ⟨by simp [h.len], fun j hj => ?_⟩
  rw [gd_app, gd_app]
  simp only [List.length_append, List.length_singleton] at hj
  by_cases e : j = K.length
  · rw [if_pos e, if_pos (by rw [e, h.len])]
    exact ⟨at_mine rfl, by rw [Row.at_id, lkA_cons, if_pos rfl]⟩
  · rw [if_neg e, if_neg (by rw [← h.len]; exact e)]
    obtain ⟨q1, q2⟩ := h.row j (by have := h.len; omega)
    have hne : (gd (Row.no UInt8) K j).id ≠ id := fun e => hid (e ▸ q1.2.1)
    exact ⟨⟨q1.1, hasA_cons.2 (.inr q1.2.1), by rw [lkA_cons, if_neg hne]; exact q1.2.2⟩, by rw [lkA_cons, if_neg hne]; exact q2⟩
theorem StI.fin {K : RwL} {A : ArL} {L : List (List UInt8)} (h : StI K A L) : (∀ x : Row UInt8, x ∈ K → x.ok A ∧ x.kd ≠ RK.nil) ∧ List.map (fun x => x.get A) K = L := by
  have hl := h.len
  refine ⟨gd_all (d := Row.no UInt8) fun j hj => ⟨Row.mine.ok (h.row j (by omega)).1, by rw [(h.row j (by omega)).1.1]; intro e; cases e⟩, ?_⟩
  refine gd_iff (d := []) (by simp [hl]) fun j hj => ?_
  simp only [List.length_map] at hj
  obtain ⟨p1, p2⟩ := h.row j (by omega)
  have e1 : gd (Row.no UInt8) K j = K[j] := by unfold gd; rw [List.getElem?_eq_getElem hj]; rfl
  rw [e1] at p1 p2
  rw [← p2, ← (Row.mine.get p1).1]
  unfold gd
  rw [List.getElem?_map, List.getElem?_eq_getElem hj]; rfl
structure UpI {α : Type} (n : Int) (f : Nat → α) (i : Int) (L : List α) : Prop where
  lo : 0 ≤ i
  hi : i ≤ n
  eq : L = (List.range i.toNat).map f
theorem UpI.start {α : Type} {n : Int} {f : Nat → α} (h : 0 ≤ n) : UpI n f 0 [] := ⟨by omega, h, rfl⟩
theorem UpI.step {α : Type} {n : Int} {f : Nat → α} {i : Int} {L : List α} (h : UpI n f i L) (hi : i < n) : UpI n f (i + 1) (L ++ [f i.toNat]) := ⟨by have := h.lo; omega, by omega, by
  have := h.lo
  rw [show (i + 1).toNat = i.toNat + 1 by omega, List.range_succ, List.map_append, ← h.eq]; rfl⟩
theorem UpI.len {α : Type} {n : Int} {f : Nat → α} {i : Int} {L : List α} (h : UpI n f i L) : (L.length : Int) = i := by rw [h.eq]; have := h.lo; simp; omega
theorem UpI.fin {α : Type} {n : Int} {f : Nat → α} {i : Int} {L : List α} (h : UpI n f i L) (hi : n ≤ i) : L = (List.range n.toNat).map f := by rw [h.eq, show i = n by have := h.hi; omega]
def i_41_0 (a : (List UInt8)) (b : (List UInt8)) (i : Int) : Prop := EqI 0 a b i
def k_41 : Con Tc Tc.dn := ⟨41, [.ty .lU8, .ty .lU8], fun x => (fun (a : (List UInt8)) (b : (List UInt8)) => a.length ≤ 1000000) x.1 x.2.1, [.cBool], fun x => (fun (a : (List UInt8)) (b : (List UInt8)) => decide (a = b)) x.1 x.2.1⟩
theorem k_41_v (a : (List UInt8)) (b : (List UInt8)) (hp : a.length ≤ 1000000) : (¬(↑a.length : Int) = (↑b.length : Int) → false = decide (a = b)) ∧ ((↑a.length : Int) = (↑b.length : Int) → i_41_0 a b (0 : Int) ∧ ∀ (x : Int), i_41_0 a b x → (x < (↑a.length : Int) → ((0 : Int) ≤ x ∧ x < (↑a.length : Int)) ∧ ((0 : Int) ≤ x ∧ x < (↑b.length : Int)) ∧ (¬gd (0 : UInt8) a x.toNat = gd (0 : UInt8) b x.toNat → false = decide (a = b)) ∧ (gd (0 : UInt8) a x.toNat = gd (0 : UInt8) b x.toNat → I64 (x + (1 : Int)) ∧ i_41_0 a b (x + (1 : Int)) ∧ ((↑a.length : Int) - (x + (1 : Int))).toNat < ((↑a.length : Int) - x).toNat)) ∧ ((↑a.length : Int) ≤ x → true = decide (a = b))) := by
  have h1 := @EqI.start UInt8 0 a b
  have h2 := @EqI.step UInt8 0 a b
  have h3 := @EqI.fin UInt8 0 a b
  have h4 := @gd_ne UInt8 0 a b
  have h5 := @len_ne UInt8 a b
  have h6 := @EqI.lo UInt8 0 a b
  have h7 := @EqI.len UInt8 0 a b
  (repeat' (first | apply And.intro | intro _)) <;> first | assumption | trivial | omega | (grind [i_41_0, I64]) | trace_state
theorem k_41_ok : k_41.Ok Try.prog tD := con_ok tD_ok (Δ := []) trivial (Ω := []) trivial k_41 F41_ok F41_call (fun _ => []) (fun _ => trivial) 0 (fun x => (fun (a : (List UInt8)) (b : (List UInt8)) => (fun k => bif Nat.beq k 0 then some (.inv [.sl 5 .cInt] (fun zo zv => (fun (i : Int) => i_41_0 a b i) zv.1) (fun zo zv => (fun (i : Int) => ((a.length : Int) - i).toNat) zv.1)) else none)) x.1 x.2.1) fun x hp => Eq.mp (by kernel_rfl) (k_41_v x.1 x.2.1 hp)
def i_18_0 (a : (List (List UInt8))) (b : (List (List UInt8))) (i : Int) : Prop := EqI [] a b i
def k_18 : Con Tc Tc.dn := ⟨18, [.ty .llU8, .ty .llU8], fun x => (fun (a : (List (List UInt8))) (b : (List (List UInt8))) => a.length ≤ 1000000 ∧ ∀ r, r ∈ a → r.length ≤ 1000000) x.1 x.2.1, [.cBool], fun x => (fun (a : (List (List UInt8))) (b : (List (List UInt8))) => decide (a = b)) x.1 x.2.1⟩
theorem k_18_v (a : (List (List UInt8))) (b : (List (List UInt8))) (hp : a.length ≤ 1000000 ∧ ∀ r, r ∈ a → r.length ≤ 1000000) : (¬(↑a.length : Int) = (↑b.length : Int) → false = decide (a = b)) ∧ ((↑a.length : Int) = (↑b.length : Int) → i_18_0 a b (0 : Int) ∧ ∀ (x : Int), i_18_0 a b x → (x < (↑a.length : Int) → ((0 : Int) ≤ x ∧ x < (↑a.length : Int)) ∧ ((0 : Int) ≤ x ∧ x < (↑b.length : Int)) ∧ (gd [] a x.toNat).length ≤ (1000000 : Nat) ∧ (decide (gd [] a x.toNat = gd [] b x.toNat) = !true → false = decide (a = b)) ∧ (decide (gd [] a x.toNat = gd [] b x.toNat) = !false → I64 (x + (1 : Int)) ∧ i_18_0 a b (x + (1 : Int)) ∧ ((↑a.length : Int) - (x + (1 : Int))).toNat < ((↑a.length : Int) - x).toNat)) ∧ ((↑a.length : Int) ≤ x → true = decide (a = b))) := by
  have h1 := @EqI.start (List UInt8) [] a b
  have h2 := @EqI.step (List UInt8) [] a b
  have h3 := @EqI.fin (List UInt8) [] a b
  have h4 := @gd_ne (List UInt8) [] a b
  have h5 := @len_ne (List UInt8) a b
  have h6 := @EqI.lo (List UInt8) [] a b
  have h7 := @EqI.len (List UInt8) [] a b
  have h8 : ∀ i : Int, 0 ≤ i → i < (a.length : Int) → (gd [] a i.toNat).length ≤ 1000000 := fun i q1 q2 => hp.2 _ (gd_mem (by omega))
  (repeat' (first | apply And.intro | intro _)) <;> first | assumption | trivial | omega | (grind [i_18_0, I64]) | trace_state
theorem k_18_ok : k_18.Ok Try.prog tD := con_ok tD_ok (Δ := [k_41]) ⟨k_41_ok, trivial⟩ (Ω := []) trivial k_18 F18_ok F18_call (fun _ => []) (fun _ => trivial) 0 (fun x => (fun (a : (List (List UInt8))) (b : (List (List UInt8))) => (fun k => bif Nat.beq k 0 then some (.inv [.sl 5 .cInt] (fun zo zv => (fun (i : Int) => i_18_0 a b i) zv.1) (fun zo zv => (fun (i : Int) => ((a.length : Int) - i).toNat) zv.1)) else none)) x.1 x.2.1) fun x hp => Eq.mp (by kernel_rfl) (k_18_v x.1 x.2.1 hp)
open Go.RowKit
def k_20 : Con Tc Tc.dn := ⟨20, [], fun _ => True, [.cBool], fun _ => true⟩
abbrev z20_2 := (rankL [[UInt8.ofNat (Int.toNat (1 : Int)), UInt8.ofNat (Int.toNat (2 : Int)), UInt8.ofNat (Int.toNat (3 : Int))], [UInt8.ofNat (Int.toNat (2 : Int)), UInt8.ofNat (Int.toNat (4 : Int)), UInt8.ofNat (Int.toNat (6 : Int))]])
abbrev z20_3 := ((unitL (2 : Int)).fst = [[UInt8.ofNat (Int.toNat (1 : Int)), UInt8.ofNat (Int.toNat (0 : Int))], [UInt8.ofNat (Int.toNat (0 : Int)), UInt8.ofNat (Int.toNat (1 : Int))]])
abbrev z20_4 := (invL [[UInt8.ofNat (Int.toNat (1 : Int)), UInt8.ofNat (Int.toNat (2 : Int))], [UInt8.ofNat (Int.toNat (3 : Int)), UInt8.ofNat (Int.toNat (4 : Int))]])
abbrev z20_1 := (mulL z20_4.fst [[UInt8.ofNat (Int.toNat (1 : Int)), UInt8.ofNat (Int.toNat (2 : Int))], [UInt8.ofNat (Int.toNat (3 : Int)), UInt8.ofNat (Int.toNat (4 : Int))]])
abbrev z20_9 := (invL [[UInt8.ofNat (Int.toNat (1 : Int)), UInt8.ofNat (Int.toNat (2 : Int))], [UInt8.ofNat (Int.toNat (2 : Int)), UInt8.ofNat (Int.toNat (4 : Int))]])
abbrev z20_10 := (rowsL [[UInt8.ofNat (Int.toNat (1 : Int)), UInt8.ofNat (Int.toNat (2 : Int))], [UInt8.ofNat (Int.toNat (3 : Int)), UInt8.ofNat (Int.toNat (4 : Int))]] [(1 : Int), (0 : Int)])
abbrev z20_6 := (z20_10.fst = [[UInt8.ofNat (Int.toNat (3 : Int)), UInt8.ofNat (Int.toNat (4 : Int))], [UInt8.ofNat (Int.toNat (1 : Int)), UInt8.ofNat (Int.toNat (2 : Int))]])
abbrev z20_11 := (gd [] (cauL (2 : Int) (3 : Int)).fst (Int.toNat (0 : Int)))
abbrev z20_12 := ((z20_4.snd = (0 : Int) ∧ z20_1.snd = (0 : Int)) ∧ (unitL (2 : Int)).snd = (0 : Int) → (z20_4.snd = (0 : Int) ∧ z20_1.snd = (0 : Int)) ∧ (unitL (2 : Int)).snd = (0 : Int))
abbrev z20_13 := (decide z20_3 = true ∧ z20_2.fst = (1 : Int))
abbrev z20_0 := ((z20_13 ∧ z20_2.snd = (0 : Int)) ∧ z20_9.snd = (5 : Int))
abbrev z20_5 := (((z20_0 ∧ (cauL (2 : Int) (3 : Int)).snd = (0 : Int)) ∧ (↑(cauL (2 : Int) (3 : Int)).fst.length : Int) = (2 : Int)) ∧ (↑z20_11.length : Int) = (3 : Int) → ((z20_0 ∧ (cauL (2 : Int) (3 : Int)).snd = (0 : Int)) ∧ (↑(cauL (2 : Int) (3 : Int)).fst.length : Int) = (2 : Int)) ∧ (↑z20_11.length : Int) = (3 : Int))
abbrev z20_7 := ((z20_0 ∧ (cauL (2 : Int) (3 : Int)).snd = (0 : Int)) ∧ (↑(cauL (2 : Int) (3 : Int)).fst.length : Int) = (2 : Int) → (z20_0 ∧ (cauL (2 : Int) (3 : Int)).snd = (0 : Int)) ∧ (↑(cauL (2 : Int) (3 : Int)).fst.length : Int) = (2 : Int))
abbrev z20_8 := (((z20_0 ∧ (cauL (2 : Int) (3 : Int)).snd = (0 : Int)) ∧ (↑(cauL (2 : Int) (3 : Int)).fst.length : Int) = (2 : Int)) ∧ (↑z20_11.length : Int) = (3 : Int))
theorem k_20_v  : True ∧ True ∧ True ∧ True ∧ True ∧ True ∧ True ∧ (z20_4.snd = (0 : Int) → z20_4.snd = (0 : Int)) ∧ (z20_4.snd = (0 : Int) → z20_4.snd = (0 : Int)) ∧ (z20_4.snd = (0 : Int) ∧ z20_1.snd = (0 : Int) → z20_4.snd = (0 : Int) ∧ z20_1.snd = (0 : Int)) ∧ (z20_4.snd = (0 : Int) ∧ z20_1.snd = (0 : Int) → z20_4.snd = (0 : Int) ∧ z20_1.snd = (0 : Int)) ∧ z20_12 ∧ z20_12 ∧ ((z20_4.snd = (0 : Int) ∧ z20_1.snd = (0 : Int)) ∧ (unitL (2 : Int)).snd = (0 : Int) → z20_1.fst.length ≤ (1000000 : Nat) ∧ ∀ (r : List UInt8), r ∈ z20_1.fst → r.length ≤ (1000000 : Nat)) ∧ z20_12 ∧ (((z20_4.snd = (0 : Int) ∧ z20_1.snd = (0 : Int)) ∧ (unitL (2 : Int)).snd = (0 : Int)) ∧ decide (z20_1.fst = (unitL (2 : Int)).fst) = true → ((unitL (2 : Int)).fst.length ≤ (1000000 : Nat) ∧ ∀ (r : List UInt8), r ∈ (unitL (2 : Int)).fst → r.length ≤ (1000000 : Nat)) ∧ (decide z20_3 = true → decide z20_3 = true) ∧ (decide z20_3 = true → decide z20_3 = true) ∧ (decide z20_3 = true ∧ z20_2.fst = (1 : Int) → decide z20_3 = true ∧ z20_2.fst = (1 : Int)) ∧ (decide z20_3 = true ∧ z20_2.fst = (1 : Int) → decide z20_3 = true ∧ z20_2.fst = (1 : Int)) ∧ (z20_13 ∧ z20_2.snd = (0 : Int) → z20_13 ∧ z20_2.snd = (0 : Int)) ∧ (z20_13 ∧ z20_2.snd = (0 : Int) → z20_13 ∧ z20_2.snd = (0 : Int)) ∧ ((z20_13 ∧ z20_2.snd = (0 : Int)) ∧ z20_9.snd = (5 : Int) → (z20_13 ∧ z20_2.snd = (0 : Int)) ∧ z20_9.snd = (5 : Int)) ∧ ((z20_13 ∧ z20_2.snd = (0 : Int)) ∧ z20_9.snd = (5 : Int) → (z20_13 ∧ z20_2.snd = (0 : Int)) ∧ z20_9.snd = (5 : Int)) ∧ (z20_0 ∧ (cauL (2 : Int) (3 : Int)).snd = (0 : Int) → z20_0 ∧ (cauL (2 : Int) (3 : Int)).snd = (0 : Int)) ∧ (z20_0 ∧ (cauL (2 : Int) (3 : Int)).snd = (0 : Int) → z20_0 ∧ (cauL (2 : Int) (3 : Int)).snd = (0 : Int)) ∧ (z20_0 ∧ (cauL (2 : Int) (3 : Int)).snd = (0 : Int) → z20_0 ∧ (cauL (2 : Int) (3 : Int)).snd = (0 : Int)) ∧ z20_7 ∧ ((z20_0 ∧ (cauL (2 : Int) (3 : Int)).snd = (0 : Int)) ∧ (↑(cauL (2 : Int) (3 : Int)).fst.length : Int) = (2 : Int) → (0 : Int) ≤ (0 : Int) ∧ (0 : Int) < (↑(cauL (2 : Int) (3 : Int)).fst.length : Int)) ∧ z20_7 ∧ z20_7 ∧ z20_7 ∧ z20_7 ∧ z20_5 ∧ (((z20_0 ∧ (cauL (2 : Int) (3 : Int)).snd = (0 : Int)) ∧ (↑(cauL (2 : Int) (3 : Int)).fst.length : Int) = (2 : Int)) ∧ (↑z20_11.length : Int) = (3 : Int) → (0 : Int) ≤ (0 : Int) ∧ (0 : Int) < (↑(cauL (2 : Int) (3 : Int)).fst.length : Int)) ∧ z20_5 ∧ z20_5 ∧ (((z20_0 ∧ (cauL (2 : Int) (3 : Int)).snd = (0 : Int)) ∧ (↑(cauL (2 : Int) (3 : Int)).fst.length : Int) = (2 : Int)) ∧ (↑z20_11.length : Int) = (3 : Int) → (0 : Int) ≤ (0 : Int) ∧ (0 : Int) < (↑z20_11.length : Int)) ∧ z20_5 ∧ z20_5 ∧ z20_5 ∧ (z20_8 ∧ gd (0 : UInt8) z20_11 (Int.toNat (0 : Int)) = UInt8.ofNat (Int.toNat (142 : Int)) → z20_8 ∧ gd (0 : UInt8) z20_11 (Int.toNat (0 : Int)) = UInt8.ofNat (Int.toNat (142 : Int))) ∧ (z20_8 ∧ gd (0 : UInt8) z20_11 (Int.toNat (0 : Int)) = UInt8.ofNat (Int.toNat (142 : Int)) → z20_8 ∧ gd (0 : UInt8) z20_11 (Int.toNat (0 : Int)) = UInt8.ofNat (Int.toNat (142 : Int))) ∧ ((z20_8 ∧ gd (0 : UInt8) z20_11 (Int.toNat (0 : Int)) = UInt8.ofNat (Int.toNat (142 : Int))) ∧ z20_10.snd = (0 : Int) → (z20_10.fst.length ≤ (1000000 : Nat) ∧ ∀ (r : List UInt8), r ∈ z20_10.fst → r.length ≤ (1000000 : Nat)) ∧ (decide z20_6 = true → True) ∧ (decide z20_6 = true → decide z20_6 = true) ∧ (decide z20_6 = true → decide z20_6 = true) ∧ (decide z20_6 && mchk [] == (1 : Int)) = true) ∧ ((((((((decide z20_3 = false ∨ ¬z20_2.fst = (1 : Int)) ∨ ¬z20_2.snd = (0 : Int)) ∨ ¬z20_9.snd = (5 : Int)) ∨ ¬(cauL (2 : Int) (3 : Int)).snd = (0 : Int)) ∨ ¬(↑(cauL (2 : Int) (3 : Int)).fst.length : Int) = (2 : Int)) ∨ ¬(↑z20_11.length : Int) = (3 : Int)) ∨ ¬gd (0 : UInt8) z20_11 (Int.toNat (0 : Int)) = UInt8.ofNat (Int.toNat (142 : Int))) ∨ ¬z20_10.snd = (0 : Int) → false = true)) ∧ (((¬z20_4.snd = (0 : Int) ∨ ¬z20_1.snd = (0 : Int)) ∨ ¬(unitL (2 : Int)).snd = (0 : Int)) ∨ decide (z20_1.fst = (unitL (2 : Int)).fst) = false → false = true) := by
  delta z20_13 z20_12 z20_11 z20_10 z20_9 z20_8 z20_7 z20_6 z20_5 z20_4 z20_3 z20_2 z20_1 z20_0
  (repeat' (first | apply And.intro | (intro h; exact absurd h (by decide +kernel)) | (intro h; clear h) | decide +kernel)) <;> first | decide +kernel | trace_state
theorem k_20_ok : k_20.Ok Try.prog tD := con_ok tD_ok (Δ := [k_13, k_12, k_11, k_14, k_23, k_24, k_21, k_18]) ⟨k_13_ok, k_12_ok, k_11_ok, k_14_ok, k_23_ok, k_24_ok, k_21_ok, k_18_ok, trivial⟩ (Ω := []) trivial k_20 F20_ok F20_call (fun _ => []) (fun _ => trivial) 0 (fun _ => fun k => bif Nat.beq k 1021 then some (.frz [1]) else bif Nat.beq k 1038 then some (.frz [37]) else bif Nat.beq k 1045 then some (.frz [44]) else bif Nat.beq k 1078 then some (.frz [77]) else bif Nat.beq k 1125 then some (.frz [124]) else bif Nat.beq k 3074 then some (.spl 73) else bif Nat.beq k 3121 then some (.spl 120) else none) fun x hp => Eq.mp (by kernel_rfl) (k_20_v )
open Go.RowKit
theorem fill_congr {m n : Int} {f g : Nat → Nat → UInt8} (h : ∀ i j : Nat, (i : Int) < m → (j : Int) < n → f i j = g i j) : fillL m n f = fillL m n g := by
  unfold fillL
  refine List.map_congr_left fun i hi => List.map_congr_left fun j hj => h i j ?_ ?_
  · have := List.mem_range.1 hi; omega
  · have := List.mem_range.1 hj; omega
theorem fill_self {n m : Nat} {a : List (List UInt8)} (h : mrect n m a) : fillL n m (mxL a) = a := by
  refine gd_iff (d := []) (by rw [fill_len, h.1]; simp) fun i hi => ?_
  rw [fill_len] at hi
  have hin : i < n := by omega
  rw [fill_row (by omega)]
  refine gd_iff (d := 0) (by rw [List.length_map, List.length_range, h.row hin]; simp) fun j hj => ?_
  rw [List.length_map, List.length_range] at hj
  unfold gd
  rw [List.getElem?_map, List.getElem?_range hj]; rfl
theorem mchkGo_of {n : Int} : ∀ {a : List (List UInt8)}, (∀ r, r ∈ a → (r.length : Int) = n ∧ r.length ≤ 16 ∧ 0 < r.length) → mchkGo n a = 0
  | [], _ => rfl
  | r :: l, h => by
    have h1 := h r (List.mem_cons_self ..)
    unfold mchkGo
    rw [if_neg (by omega), if_neg (by omega)]
    exact mchkGo_of fun q hq => h q (List.mem_cons_of_mem _ hq)
theorem rect_zero {n m : Nat} {a : List (List UInt8)} (h : mrect n m a) (hn : 0 < n) : (gd [] a 0).length = m := h.row hn
theorem mchk_of {n m : Nat} {a : List (List UInt8)} (h : mrect n m a) (h1 : 0 < n) (h2 : n ≤ 16) (h3 : 0 < m) (h4 : m ≤ 16) : mchk a = 0 := by
  have hl := h.1
  unfold mchk
  rw [if_neg (by omega), if_neg (by omega), rect_zero h h1]
  exact mchkGo_of fun r hr => by have := h.2 r hr; omega
structure Okm (a : List (List UInt8)) (n m : Nat) : Prop where
  rect : mrect n m a
  n0 : 0 < n
  n16 : n ≤ 16
  m0 : 0 < m
  m16 : m ≤ 16
theorem Okm.of {a : List (List UInt8)} (h : mchk a = 0) : Okm a a.length (gd [] a 0).length := by
  obtain ⟨h1, h2, h3, h4, h5⟩ := mchk_ok h
  exact ⟨h5, h1, h2, h3, h4⟩
theorem Okm.chk {a : List (List UInt8)} {n m : Nat} (h : Okm a n m) : mchk a = 0 := mchk_of h.rect h.n0 h.n16 h.m0 h.m16
theorem Okm.len {a : List (List UInt8)} {n m : Nat} (h : Okm a n m) : a.length = n := h.rect.1
theorem Okm.wid {a : List (List UInt8)} {n m : Nat} (h : Okm a n m) : (gd [] a 0).length = m := rect_zero h.rect h.n0
open Go.RowKit
def i_22_0 (a : (List (List UInt8))) (i : Int) : Prop := 0 ≤ i ∧ i ≤ a.length ∧ 0 < a.length ∧ a.length ≤ 16 ∧ mchkGo (gd [] a 0).length (a.drop i.toNat) = mchkGo (gd [] a 0).length a
def k_22 : Con Tc Tc.dn := ⟨22, [.ty .llU8], fun x => (fun (a : (List (List UInt8))) => True) x.1, [.cInt], fun x => (fun (a : (List (List UInt8))) => mchk a) x.1⟩
theorem k_22_v (a : (List (List UInt8))) : ((16 : Int) < (↑a.length : Int) → (2 : Int) = mchk a) ∧ ((↑a.length : Int) ≤ (16 : Int) → ((↑a.length : Int) = (0 : Int) → (1 : Int) = mchk a) ∧ (¬(↑a.length : Int) = (0 : Int) → i_22_0 a (0 : Int) ∧ ∀ (x : Int), i_22_0 a x → (x < (↑a.length : Int) → ((0 : Int) ≤ x ∧ x < (↑a.length : Int)) ∧ ((16 : Int) < (↑(gd [] a x.toNat).length : Int) → (2 : Int) = mchk a) ∧ ((↑(gd [] a x.toNat).length : Int) ≤ (16 : Int) → ((0 : Int) ≤ x ∧ x < (↑a.length : Int)) ∧ (¬(↑(gd [] a x.toNat).length : Int) = (0 : Int) → ¬(↑(gd [] a x.toNat).length : Int) = (0 : Int)) ∧ (¬(↑(gd [] a x.toNat).length : Int) = (0 : Int) → ¬(↑(gd [] a x.toNat).length : Int) = (0 : Int)) ∧ (¬(↑(gd [] a x.toNat).length : Int) = (0 : Int) → (0 : Int) ≤ x ∧ x < (↑a.length : Int)) ∧ (¬(↑(gd [] a x.toNat).length : Int) = (0 : Int) → ¬(↑(gd [] a x.toNat).length : Int) = (0 : Int)) ∧ (¬(↑(gd [] a x.toNat).length : Int) = (0 : Int) → ¬(↑(gd [] a x.toNat).length : Int) = (0 : Int)) ∧ (¬(↑(gd [] a x.toNat).length : Int) = (0 : Int) → ¬(↑(gd [] a x.toNat).length : Int) = (0 : Int)) ∧ (¬(↑(gd [] a x.toNat).length : Int) = (0 : Int) → (0 : Int) ≤ (0 : Int) ∧ (0 : Int) < (↑a.length : Int)) ∧ (¬(↑(gd [] a x.toNat).length : Int) = (0 : Int) → ¬(↑(gd [] a x.toNat).length : Int) = (0 : Int)) ∧ (¬(↑(gd [] a x.toNat).length : Int) = (0 : Int) → ¬(↑(gd [] a x.toNat).length : Int) = (0 : Int)) ∧ (¬(↑(gd [] a x.toNat).length : Int) = (0 : Int) → ¬(↑(gd [] a x.toNat).length : Int) = (0 : Int)) ∧ (¬(↑(gd [] a x.toNat).length : Int) = (0 : Int) → ¬(↑(gd [] a x.toNat).length : Int) = (0 : Int)) ∧ (¬(↑(gd [] a x.toNat).length : Int) = (0 : Int) → ¬(↑(gd [] a x.toNat).length : Int) = (0 : Int)) ∧ ((↑(gd [] a x.toNat).length : Int) = (0 : Int) ∨ ¬(↑(gd [] a x.toNat).length : Int) = (↑(gd [] a (Int.toNat (0 : Int))).length : Int) → (1 : Int) = mchk a) ∧ (¬(↑(gd [] a x.toNat).length : Int) = (0 : Int) ∧ (↑(gd [] a x.toNat).length : Int) = (↑(gd [] a (Int.toNat (0 : Int))).length : Int) → I64 (x + (1 : Int)) ∧ i_22_0 a (x + (1 : Int)) ∧ ((↑a.length : Int) - (x + (1 : Int))).toNat < ((↑a.length : Int) - x).toNat))) ∧ ((↑a.length : Int) ≤ x → (0 : Int) = mchk a))) := by
  (repeat' (first | apply And.intro | intro _)) <;> first | assumption | trivial | omega | (grind [mchk, mchkGo, drop_gd, drop_end, I64, i_22_0]) | trace_state
theorem k_22_ok : k_22.Ok Try.prog tD := con_ok tD_ok (Δ := []) trivial (Ω := []) trivial k_22 F22_ok F22_call (fun _ => []) (fun _ => trivial) 0 (fun x => (fun (a : (List (List UInt8))) => (fun k => bif Nat.beq k 0 then some (.inv [.sl 3 .cInt] (fun zo zv => (fun (i : Int) => i_22_0 a i) zv.1) (fun zo zv => (fun (i : Int) => ((a.length : Int) - i).toNat) zv.1)) else none)) x.1) fun x hp => Eq.mp (by kernel_rfl) (k_22_v x.1)
open Go.RowKit
def fG (a b : List (List UInt8)) (i k t : Nat) : UInt8 := gmul (gd 0 (gd [] a i) t) (gd 0 (gd [] b t) k)
def fM (a b : List (List UInt8)) (i k : Nat) : UInt8 := sg b.length (fG a b i k)
def fS (a b : List UInt8) (f : UInt8) (i : Nat) : UInt8 := gd 0 a i ^^^ gmul (gd 0 b i) f
def i_40_0 (a : (List UInt8)) (b : (List UInt8)) (f : UInt8) (i : Int) (r : (List UInt8)) : Prop := UpI a.length (fS a b f) i r
def k_40 : Con Tc Tc.dn := ⟨40, [.ty .lU8, .ty .lU8, .ty .cU8], fun x => (fun (a : (List UInt8)) (b : (List UInt8)) (f : UInt8) => a.length ≤ b.length ∧ a.length ≤ 1000000) x.1 x.2.1 x.2.2.1, [.lU8], fun x => (fun (a : (List UInt8)) (b : (List UInt8)) (f : UInt8) => (List.range a.length).map (fS a b f)) x.1 x.2.1 x.2.2.1⟩
theorem k_40_v (a : (List UInt8)) (b : (List UInt8)) (f : UInt8) (hp : a.length ≤ b.length ∧ a.length ≤ 1000000) : i_40_0 a b f (0 : Int) [] ∧ ∀ (x : Int) (x_1 : List UInt8), i_40_0 a b f x x_1 → (x < (↑a.length : Int) → ((0 : Int) ≤ x ∧ x < (↑a.length : Int)) ∧ ((0 : Int) ≤ x ∧ x < (↑b.length : Int)) ∧ True ∧ (x_1.length + (1 : Nat)) * (1 : Nat) ≤ (140737488355328 : Nat) ∧ I64 (x + (1 : Int)) ∧ i_40_0 a b f (x + (1 : Int)) (x_1 ++ [gd (0 : UInt8) a x.toNat ^^^ gmul (gd (0 : UInt8) b x.toNat) f]) ∧ ((↑a.length : Int) - (x + (1 : Int))).toNat < ((↑a.length : Int) - x).toNat) ∧ ((↑a.length : Int) ≤ x → x_1 = List.map (fS a b f) (List.range a.length)) := by
  have h5 := @UpI.start UInt8 a.length (fS a b f)
  have h6 := @UpI.step UInt8 a.length (fS a b f)
  have h7 := @UpI.len UInt8 a.length (fS a b f)
  have h8 := @UpI.fin UInt8 a.length (fS a b f)
  simp only [Int.toNat_natCast] at h8
  have h10 := @UpI.lo UInt8 a.length (fS a b f)
  (repeat' (first | apply And.intro | intro _)) <;> first | assumption | trivial | omega | (grind [i_40_0, I64, fS]) | trace_state
theorem k_40_ok : k_40.Ok Try.prog tD := con_ok tD_ok (Δ := [k_37]) ⟨k_37_ok, trivial⟩ (Ω := []) trivial k_40 F40_ok F40_call (fun _ => []) (fun _ => trivial) 0 (fun x => (fun (a : (List UInt8)) (b : (List UInt8)) (f : UInt8) => (fun k => bif Nat.beq k 0 then some (.inv [.sl 8 .cInt, .ow 7 .cU8] (fun zo zv => (fun (i : Int) (r : (List UInt8)) => i_40_0 a b f i r) zv.1 zv.2.1) (fun zo zv => (fun (i : Int) (r : (List UInt8)) => ((a.length : Int) - i).toNat) zv.1 zv.2.1)) else none)) x.1 x.2.1 x.2.2.1) fun x hp => Eq.mp (by kernel_rfl) (k_40_v x.1 x.2.1 x.2.2.1 hp)
theorem sg_pick : ∀ {l : List Nat} {n : Nat} {f : Nat → UInt8}, l.Nodup → (∀ t, t ∈ l → t < n) → (∀ t, t < n → ¬ t ∈ l → f t = 0) → sg n f = sg l.length fun s => f (l.getD s 0)
  | [], n, f, _, _, h => by
    rw [sg_zero fun i hi => h i hi (by simp)]; rfl
  | t :: l, n, f, hd, hl, h => by
    have ht : t < n := hl t (List.mem_cons_self ..)
    have hnt : ¬ t ∈ l := (List.nodup_cons.1 hd).1
    have e : sg n f = sg n (fun i => (if i = t then f i else 0) ^^^ (if i = t then 0 else f i)) := sg_congr fun i hi => by
      by_cases q : i = t
      · rw [if_pos q, if_pos q, UInt8.xor_zero]
      · rw [if_neg q, if_neg q, UInt8.zero_xor]
    rw [e, sg_xor, sg_one t f n, if_pos ht, sg_pick (l := l) (List.nodup_cons.1 hd).2 (fun s hs => hl s (List.mem_cons_of_mem _ hs)) (fun s hs hn => by
      by_cases q : s = t
      · rw [if_pos q]
      · rw [if_neg q]; exact h s hs (by simp [q, hn]))]
    have e2 : sg (t :: l).length (fun s => f ((t :: l).getD s 0)) = f t ^^^ sg l.length fun s => f (l.getD s 0) := by
      rw [List.length_cons, sg_skip l.length 0 _ (Nat.zero_le _)]
      rfl
    rw [e2]
    congr 1
    refine sg_congr fun s hs => ?_
    have hm : l.getD s 0 ∈ l := by
      rw [List.getD_eq_getElem?_getD, List.getElem?_eq_getElem hs]; exact List.getElem_mem _
    rw [if_neg fun q : l.getD s 0 = t => hnt (q ▸ hm)]
structure Rd (n m : Nat) (X : Mx) (c : Nat) (p : List (Nat × Nat)) : Prop where
  piv : ∀ q, q ∈ p → q.1 < n ∧ c ≤ q.2 ∧ q.2 < m ∧ X q.1 q.2 ≠ 0 ∧ ∀ i, i < n → i ≠ q.1 → X i q.2 = 0
  nd : (p.map Prod.fst).Nodup
  zero : ∀ i, i < n → ¬ i ∈ p.map Prod.fst → ∀ j, c ≤ j → j < m → X i j = 0
theorem Rd.start (n m : Nat) (X : Mx) : Rd n m X m [] := ⟨fun q hq => by simp at hq, by simp, fun i _ _ j h1 h2 => by omega⟩
theorem Rd.none {n m c : Nat} {X : Mx} {p : List (Nat × Nat)} (h : Rd n m X (c + 1) p) (hz : ∀ i, i < n → ¬ i ∈ p.map Prod.fst → X i c = 0) : Rd n m X c p :=
  ⟨fun q hq => by have := h.piv q hq; exact ⟨this.1, by omega, this.2.2⟩, h.nd, fun i hi hn j h1 h2 => by
    by_cases e : j = c
    · subst e; exact hz i hi hn
    · exact h.zero i hi hn j (by omega) h2⟩
theorem Rd.some {n m c t : Nat} {X : Mx} {p : List (Nat × Nat)} (h : Rd n m X (c + 1) p) (hc : c < m) (ht : t < n) (hn : ¬ t ∈ p.map Prod.fst) (hx : X t c ≠ 0) : Rd n m (elimM (fun i => gmul (X i c) (ginv (X t c))) t X) c ((t, c) :: p) := by
  have row : ∀ j, c + 1 ≤ j → j < m → X t j = 0 := h.zero t ht hn
  have keep : ∀ i j, c + 1 ≤ j → j < m → elimM (fun i => gmul (X i c) (ginv (X t c))) t X i j = X i j := fun i j h1 h2 => by
    unfold elimM
    by_cases e : i = t
    · rw [if_pos e, e]
    · rw [if_neg e, row j h1 h2, gmul_zero, UInt8.xor_zero]
  have col : ∀ i, i ≠ t → elimM (fun i => gmul (X i c) (ginv (X t c))) t X i c = 0 := fun i e => by
    unfold elimM
    rw [if_neg e, gmul_assoc, ginv_mul _ hx, gmul_one, UInt8.xor_self]
  have colt : elimM (fun i => gmul (X i c) (ginv (X t c))) t X t c = X t c := by unfold elimM; rw [if_pos rfl]
  refine ⟨fun q hq => ?_, ?_, fun i hi hni j h1 h2 => ?_⟩
  · rcases List.mem_cons.1 hq with rfl | hq
    · exact ⟨ht, Nat.le_refl _, hc, by rw [colt]; exact hx, fun i _ e => col i e⟩
    · obtain ⟨q1, q2, q3, q4, q5⟩ := h.piv q hq
      exact ⟨q1, by omega, q3, by rw [keep _ _ q2 q3]; exact q4, fun i hi e => by rw [keep _ _ q2 q3]; exact q5 i hi e⟩
  · rw [List.map_cons, List.nodup_cons]; exact ⟨hn, h.nd⟩
  · rw [List.map_cons, List.mem_cons] at hni
    by_cases e : j = c
    · subst e; exact col i fun e2 => hni (.inl e2)
    · rw [keep _ _ (by omega) h2]
      exact h.zero i hi (fun e2 => hni (.inr e2)) j (by omega) h2
theorem Rd.rank {n m : Nat} {A X : Mx} {p : List (Nat × Nat)} (he : RE n A X) (h : Rd n m X 0 p) : RankIs n m A p.length := by
  obtain ⟨P, Q, hP, hQ⟩ := he
  have hlt : ∀ t, t ∈ p.map Prod.fst → t < n := fun t ht => by
    obtain ⟨q, hq, rfl⟩ := List.mem_map.1 ht
    exact (h.piv q hq).1
  refine ⟨⟨fun i s => Q i ((p.map Prod.fst).getD s 0), fun s j => X ((p.map Prod.fst).getD s 0) j, fun i j hi hj => ?_⟩, fun k ⟨B, C, hB⟩ => ?_⟩
  · rw [hQ i j hi]
    unfold mm
    rw [sg_pick h.nd hlt fun t ht hn => by rw [h.zero t ht hn j (Nat.zero_le _) hj, gmul_zero], List.length_map]
  · have get : ∀ s, s < p.length → p.getD s (0, 0) ∈ p := fun s hs => by
      rw [List.getD_eq_getElem?_getD, List.getElem?_eq_getElem hs]; exact List.getElem_mem _
    have inj : ∀ s t, s < p.length → t < p.length → (p.getD s (0, 0)).1 = (p.getD t (0, 0)).1 → s = t := fun s t hs ht e => by
      have hs' : s < (p.map Prod.fst).length := by simpa using hs
      have ht' : t < (p.map Prod.fst).length := by simpa using ht
      refine (List.getElem_inj (h₀ := hs') (h₁ := ht') h.nd).1 ?_
      rw [List.getD_eq_getElem?_getD, List.getD_eq_getElem?_getD, List.getElem?_eq_getElem hs, List.getElem?_eq_getElem ht] at e
      simpa using e
    refine unit_wide (X := fun s t => gmul (ginv (X (p.getD s (0, 0)).1 (p.getD s (0, 0)).2)) (mm n P B (p.getD s (0, 0)).1 t)) (Y := fun t s => C t (p.getD s (0, 0)).2) fun s t hs ht => ?_
    obtain ⟨q1, q2, q3, q4, q5⟩ := h.piv _ (get s hs)
    obtain ⟨r1, r2, r3, r4, r5⟩ := h.piv _ (get t ht)
    have e1 : mm k (fun s t => gmul (ginv (X (p.getD s (0, 0)).1 (p.getD s (0, 0)).2)) (mm n P B (p.getD s (0, 0)).1 t)) (fun t s => C t (p.getD s (0, 0)).2) s t = gmul (ginv (X (p.getD s (0, 0)).1 (p.getD s (0, 0)).2)) (X (p.getD s (0, 0)).1 (p.getD t (0, 0)).2) := by
      have e2 : X (p.getD s (0, 0)).1 (p.getD t (0, 0)).2 = mm k (mm n P B) C (p.getD s (0, 0)).1 (p.getD t (0, 0)).2 := by
        rw [hP _ _ q1, mm_assoc]
        exact mm_congr (fun _ _ => rfl) fun t' ht' => hB t' _ ht' r3
      rw [e2]
      unfold mm
      rw [← sg_mul]
      exact sg_congr fun i hi => gmul_assoc _ _ _
    rw [e1]
    unfold unitM
    by_cases e : s = t
    · subst e; rw [if_pos rfl, ginv_mul _ q4]
    · rw [if_neg e, r5 _ q1 (fun e2 => e (inj s t hs ht e2)), gmul_zero]
def addR (a b : List UInt8) (f : UInt8) : List UInt8 := (List.range a.length).map fun i => gd 0 a i ^^^ gmul (gd 0 b i) f
def offR (X Y : List (List UInt8)) (c t : Nat) : List (List UInt8) := (List.range Y.length).map fun i => if i = t ∨ gd 0 (gd [] X i) c = 0 then gd [] Y i else addR (gd [] Y i) (gd [] Y t) (divN (gd 0 (gd [] X i) c) (gd 0 (gd [] X t) c))
def lastR (X : List (List UInt8)) (used : List Bool) (c : Nat) : Nat → Int
  | 0 => -1
  | k + 1 => if gd false used k = false ∧ gd 0 (gd [] X k) c ≠ 0 then (k : Int) else lastR X used c k
def redGo : Nat → List (List UInt8) → List (List UInt8) → List Bool → List Int → List (List UInt8) × List (List UInt8) × List Int
  | 0, X, Y, _, by_ => (X, Y, by_)
  | c + 1, X, Y, used, by_ => if lastR X used c X.length < 0 then redGo c X Y used (lastR X used c X.length :: by_)
    else redGo c (offR X X c (lastR X used c X.length).toNat) (offR X Y c (lastR X used c X.length).toNat) (used.set (lastR X used c X.length).toNat true) (lastR X used c X.length :: by_)
theorem lastR_neg {X : List (List UInt8)} {used : List Bool} {c : Nat} : ∀ {k : Nat}, lastR X used c k < 0 → ∀ i, i < k → gd false used i = false → mxL X i c = 0
  | 0, _, i, hi, _ => by omega
  | k + 1, h, i, hi, hu => by
    unfold lastR at h
    split at h
    · omega
    · rename_i hn
      by_cases e : i = k
      · subst e
        exact Classical.byContradiction fun h2 => hn ⟨hu, h2⟩
      · exact lastR_neg h i (by omega) hu
theorem lastR_pos {X : List (List UInt8)} {used : List Bool} {c : Nat} : ∀ {k : Nat}, ¬ lastR X used c k < 0 → (lastR X used c k).toNat < k ∧ gd false used (lastR X used c k).toNat = false ∧ mxL X (lastR X used c k).toNat c ≠ 0
  | 0, h => by simp [lastR] at h
  | k + 1, h => by
    unfold lastR at h ⊢
    split
    · rename_i hy
      rw [Int.toNat_natCast]
      exact ⟨by omega, hy.1, hy.2⟩
    · rename_i hn
      rw [if_neg hn] at h
      obtain ⟨h1, h2, h3⟩ := lastR_pos h
      exact ⟨by omega, h2, h3⟩
theorem addR_len {a b : List UInt8} {f : UInt8} : (addR a b f).length = a.length := by simp [addR]
theorem addR_gd {a b : List UInt8} {f : UInt8} (h : a.length = b.length) (j : Nat) : gd 0 (addR a b f) j = gd 0 a j ^^^ gmul (gd 0 b j) f := by
  unfold addR
  by_cases hj : j < a.length
  · show ((List.map _ _)[j]?).getD 0 = _
    rw [List.getElem?_map, List.getElem?_range hj]; rfl
  · have e1 : gd 0 a j = 0 := by unfold gd; rw [List.getElem?_eq_none (by omega)]; rfl
    have e2 : gd 0 b j = 0 := by unfold gd; rw [List.getElem?_eq_none (by omega)]; rfl
    rw [e1, e2, zero_gmul, UInt8.xor_zero]
    show ((List.map _ _)[j]?).getD 0 = _
    rw [List.getElem?_eq_none (by simp; omega)]; rfl
theorem offR_row {X Y : List (List UInt8)} {c t i : Nat} (hi : i < Y.length) : gd [] (offR X Y c t) i = if i = t ∨ gd 0 (gd [] X i) c = 0 then gd [] Y i else addR (gd [] Y i) (gd [] Y t) (divN (gd 0 (gd [] X i) c) (gd 0 (gd [] X t) c)) := by
  unfold offR
  show ((List.map _ _)[i]?).getD [] = _
  rw [List.getElem?_map, List.getElem?_range hi]; rfl
theorem offR_rect {n m c t : Nat} {X Y : List (List UInt8)} (h : Rect n m Y) : Rect n m (offR X Y c t) := by
  refine ⟨by simp [offR, h.1], fun r hr => ?_⟩
  unfold offR at hr
  obtain ⟨i, hi, rfl⟩ := List.mem_map.1 hr
  have hi : i < n := by have := List.mem_range.1 hi; rw [h.1] at this; exact this
  split
  · exact (h.row hi).1
  · rw [addR_len]; exact (h.row hi).1
theorem offR_mx {n m c t : Nat} {X Y : List (List UInt8)} (h : Rect n m Y) (ht : t < n) (hx : mxL X t c ≠ 0) {i : Nat} (hi : i < n) (j : Nat) : mxL (offR X Y c t) i j = elimM (fun i => gmul (mxL X i c) (ginv (mxL X t c))) t (mxL Y) i j := by
  unfold elimM
  show gd 0 (gd [] (offR X Y c t) i) j = _
  rw [offR_row (by rw [h.1]; exact hi)]
  by_cases e : i = t
  · rw [if_pos (.inl e), if_pos e, e]; rfl
  · rw [if_neg e]
    by_cases e2 : gd 0 (gd [] X i) c = 0
    · rw [if_pos (.inr e2)]
      show mxL Y i j = mxL Y i j ^^^ gmul (gmul (gd 0 (gd [] X i) c) (ginv (mxL X t c))) (mxL Y t j)
      rw [e2, zero_gmul, zero_gmul, UInt8.xor_zero]
    · rw [if_neg fun hh => hh.elim e e2, addR_gd (by rw [(h.row hi).1, (h.row ht).1])]
      have e3 : divN (gd 0 (gd [] X i) c) (gd 0 (gd [] X t) c) = gmul (mxL X i c) (ginv (mxL X t c)) := by
        unfold divN; rw [if_neg (show ¬gd 0 (gd [] X t) c = 0 from hx)]; rfl
      rw [e3, gmul_comm]; rfl
structure UsI (n m c : Nat) (used : List Bool) (by_ : List Int) (p : List (Nat × Nat)) : Prop where
  len : used.length = n
  us : ∀ i, i < n → (gd false used i = false ↔ ¬ i ∈ p.map Prod.fst)
  cnt : (by_.filter fun x => decide (0 ≤ x)).length = p.length
theorem red_law {n m : Nat} {A : Mx} : ∀ (c : Nat) (X Y : List (List UInt8)) (used : List Bool) (by_ : List Int) (p : List (Nat × Nat)), c ≤ m → Rect n m X → RE n A (mxL X) → Rd n m (mxL X) c p → UsI n m c used by_ p →
    ∃ p', Rect n m (redGo c X Y used by_).1 ∧ RE n A (mxL (redGo c X Y used by_).1) ∧ Rd n m (mxL (redGo c X Y used by_).1) 0 p' ∧ ((redGo c X Y used by_).2.2.filter fun x => decide (0 ≤ x)).length = p'.length
  | 0, X, Y, used, by_, p, _, h1, h2, h3, h4 => ⟨p, h1, h2, h3, h4.cnt⟩
  | c + 1, X, Y, used, by_, p, hc, h1, h2, h3, h4 => by
    unfold redGo
    by_cases hn : lastR X used c X.length < 0
    · rw [if_pos hn]
      refine red_law c X Y used _ p (by omega) h1 h2 (h3.none fun i hi hni => lastR_neg hn i (by rw [h1.1]; exact hi) ((h4.us i hi).2 hni)) ⟨h4.len, h4.us, ?_⟩
      rw [List.filter_cons_of_neg (by simp; omega)]; exact h4.cnt
    · rw [if_neg hn]
      obtain ⟨q1, q2, q3⟩ := lastR_pos hn
      have hp : ¬ lastR X used c X.length < 0 := hn
      generalize hL : lastR X used c X.length = L at q1 q2 q3 hn ⊢
      have ht : L.toNat < n := by rw [← h1.1]; exact q1
      have e : ∀ i j, i < n → mxL (offR X X c L.toNat) i j = elimM (fun i => gmul (mxL X i c) (ginv (mxL X L.toNat c))) L.toNat (mxL X) i j := fun i j hi => offR_mx h1 ht q3 hi j
      have hnu : ¬ L.toNat ∈ p.map Prod.fst := (h4.us _ ht).1 q2
      have r := h3.some (by omega) ht hnu q3
      have r2 : Rd n m (mxL (offR X X c L.toNat)) c ((L.toNat, c) :: p) :=
        ⟨fun q hq => by
          obtain ⟨k1, k2, k3, k4, k5⟩ := r.piv q hq
          exact ⟨k1, k2, k3, by rw [e _ _ k1]; exact k4, fun i hi hne => by rw [e i _ hi]; exact k5 i hi hne⟩, r.nd, fun i hi hni j j1 j2 => by rw [e i j hi]; exact r.zero i hi hni j j1 j2⟩
      refine red_law c _ _ _ _ ((L.toNat, c) :: p) (by omega) (offR_rect h1) ((h2.elim ht).congr e) r2 ⟨by simp [h4.len], fun i hi => ?_, ?_⟩
      · rw [gd_set2 (by rw [h4.len]; exact ht), List.map_cons, List.mem_cons]
        by_cases ei : L.toNat = i
        · rw [if_pos ei]
          constructor
          · intro hh; simp at hh
          · intro hh; exact absurd (.inl ei.symm) hh
        · rw [if_neg ei, h4.us i hi]
          constructor
          · intro hh h5; rcases h5 with h5 | h5
            · exact ei h5.symm
            · exact hh h5
          · intro hh h5; exact hh (.inr h5)
      · rw [List.filter_cons_of_pos (by simp; omega), List.length_cons, List.length_cons, h4.cnt]
open Go.RowKit
abbrev LL : Type := List (List UInt8)
def Grw (A A' : ArL) : Prop := ∀ id, hasA A id → hasA A' id ∧ lkA A' id = lkA A id
theorem Grw.refl (A : ArL) : Grw A A := fun id h => ⟨h, rfl⟩
theorem Grw.snoc {A A' : ArL} {id : Nat} {xs : List UInt8} (h : Grw A A') (hid : ¬ hasA A' id) : Grw A ((id, xs) :: A') := fun j hj => by
  obtain ⟨h1, h2⟩ := h j hj
  have hne : j ≠ id := fun e => hid (e ▸ h1)
  exact ⟨hasA_cons.2 (.inr h1), by rw [lkA_cons, if_neg hne]; exact h2⟩
theorem StI.mono {K : RwL} {A A' : ArL} {L : LL} (h : StI K A L) (g : Grw A A') : StI K A' L := ⟨h.len, fun j hj => by
  obtain ⟨⟨q1, q2, q3⟩, q4⟩ := h.row j hj
  obtain ⟨g1, g2⟩ := g _ q2
  exact ⟨⟨q1, g1, by rw [g2]; exact q3⟩, by rw [g2]; exact q4⟩⟩
structure CpI (A0 : ArL) (s : LL) (i : Int) (K : RwL) (A : ArL) : Prop where
  lo : 0 ≤ i
  hi : i ≤ s.length
  few : s.length ≤ 16
  st : StI K A (s.take i.toNat)
  gr : Grw A0 A
theorem CpI.start {A : ArL} {s : LL} (h : s.length ≤ 16) : CpI A s 0 [] A := ⟨by omega, by omega, h, by simpa using StI.nil, .refl A⟩
theorem CpI.step {A0 A : ArL} {s : LL} {i : Int} {K : RwL} {id : Nat} (h : CpI A0 s i K A) (hi : i < s.length) (hid : ¬ hasA A id) : CpI A0 s (i + 1) (K ++ [Row.at UInt8 id (gd [] s i.toNat).length]) ((id, gd [] s i.toNat) :: A) := by
  have h0 := h.lo
  refine ⟨by omega, by omega, h.few, ?_, h.gr.snoc hid⟩
  have := h.st.snoc hid (r := gd [] s i.toNat)
  rw [show (i + 1).toNat = i.toNat + 1 by omega, List.take_add_one, show s[i.toNat]?.toList = [gd [] s i.toNat] by rw [gd_get (d := ([] : List UInt8)) (by omega)]; rfl]
  exact this
theorem CpI.len {A0 A : ArL} {s : LL} {i : Int} {K : RwL} (h : CpI A0 s i K A) : (K.length : Int) = i := by rw [h.st.len]; have := h.lo; have := h.hi; simp; omega
theorem CpI.fin {A0 A : ArL} {s : LL} {i : Int} {K : RwL} (h : CpI A0 s i K A) (hi : s.length ≤ i) : StI K A s := by
  have := h.st
  rwa [List.take_of_length_le (by omega)] at this
theorem cp_end {A0 A A6 : ArL} {s mate : LL} {i j : Int} {K K5 : RwL} (h1 : CpI A0 s i K A) (hi : s.length ≤ i) (h2 : CpI A mate j K5 A6) (hj : mate.length ≤ j) : ((∀ x : Row UInt8, x ∈ K → x.ok A6 ∧ x.kd ≠ RK.nil) ∧ ∀ x : Row UInt8, x ∈ K5 → x.ok A6 ∧ x.kd ≠ RK.nil) ∧ List.map (fun x => x.get A6) K = s ∧ List.map (fun x => x.get A6) K5 = mate := by
  have e1 := ((h1.fin hi).mono h2.gr).fin
  have e2 := (h2.fin hj).fin
  exact ⟨⟨e1.1, e2.1⟩, e1.2, e2.2⟩
def redL (a mate : LL) : LL × LL × List Int := redGo (gd [] a 0).length a mate (List.replicate a.length false) []
def offK (X Y : LL) (c t k : Nat) : LL := (List.range Y.length).map fun i => if i = t ∨ k ≤ i ∨ gd 0 (gd [] X i) c = 0 then gd [] Y i else addR (gd [] Y i) (gd [] Y t) (divN (gd 0 (gd [] X i) c) (gd 0 (gd [] X t) c))
theorem offK_len {X Y : LL} {c t k : Nat} : (offK X Y c t k).length = Y.length := by simp [offK]
theorem offK_gd {X Y : LL} {c t k i : Nat} (hi : i < Y.length) : gd [] (offK X Y c t k) i = if i = t ∨ k ≤ i ∨ gd 0 (gd [] X i) c = 0 then gd [] Y i else addR (gd [] Y i) (gd [] Y t) (divN (gd 0 (gd [] X i) c) (gd 0 (gd [] X t) c)) := by
  unfold offK
  show ((List.map _ _)[i]?).getD [] = _
  rw [List.getElem?_map, List.getElem?_range hi]; rfl
theorem offK_zero {X Y : LL} {c t : Nat} : offK X Y c t 0 = Y := gd_iff (d := []) offK_len fun i hi => by
  rw [offK_len] at hi
  rw [offK_gd hi, if_pos (.inr (.inl (by omega)))]
theorem offK_end {X Y : LL} {c t k : Nat} (h : Y.length ≤ k) : offK X Y c t k = offR X Y c t := gd_iff (d := []) (by simp [offK, offR]) fun i hi => by
  rw [offK_len] at hi
  rw [offK_gd hi, offR_row hi]
  by_cases e : i = t ∨ gd 0 (gd [] X i) c = 0
  · rw [if_pos e, if_pos (by rcases e with e | e; exact .inl e; exact .inr (.inr e))]
  · rw [if_neg e, if_neg (by intro hh; rcases hh with hh | hh | hh; exact e (.inl hh); omega; exact e (.inr hh))]
theorem offK_skip {X Y : LL} {c t k : Nat} (h : k = t ∨ gd 0 (gd [] X k) c = 0) : offK X Y c t (k + 1) = offK X Y c t k := gd_iff (d := []) (by rw [offK_len, offK_len]) fun i hi => by
  rw [offK_len] at hi
  rw [offK_gd hi, offK_gd hi]
  by_cases e : i = k
  · subst e
    rw [if_pos (by rcases h with e | e; exact .inl e; exact .inr (.inr e)), if_pos (.inr (.inl (Nat.le_refl _)))]
  · by_cases e2 : i = t ∨ k ≤ i ∨ gd 0 (gd [] X i) c = 0
    · rw [if_pos e2, if_pos (by rcases e2 with e2 | e2 | e2; exact .inl e2; exact .inr (.inl (by omega)); exact .inr (.inr e2))]
    · rw [if_neg e2, if_neg (by intro hh; rcases hh with hh | hh | hh; exact e2 (.inl hh); exact e2 (.inr (.inl (by omega))); exact e2 (.inr (.inr hh)))]
theorem offK_step {X Y : LL} {c t k : Nat} (hk : k < Y.length) (h1 : k ≠ t) (h2 : gd 0 (gd [] X k) c ≠ 0) : (offK X Y c t k).set k (addR (gd [] Y k) (gd [] Y t) (divN (gd 0 (gd [] X k) c) (gd 0 (gd [] X t) c))) = offK X Y c t (k + 1) := gd_iff (d := []) (by rw [List.length_set, offK_len, offK_len]) fun i hi => by
  rw [List.length_set, offK_len] at hi
  rw [gd_set1, offK_len, offK_gd hi, offK_gd hi]
  by_cases e : k = i
  · subst e
    rw [if_pos ⟨rfl, hk⟩, if_neg (by intro hh; rcases hh with hh | hh | hh; exact h1 hh; omega; exact h2 hh)]
  · rw [if_neg (fun hh => e hh.1)]
    by_cases e2 : i = t ∨ k ≤ i ∨ gd 0 (gd [] X i) c = 0
    · rw [if_pos e2, if_pos (by rcases e2 with e2 | e2 | e2; exact .inl e2; exact .inr (.inl (by omega)); exact .inr (.inr e2))]
    · rw [if_neg e2, if_neg (by intro hh; rcases hh with hh | hh | hh; exact e2 (.inl hh); exact e2 (.inr (.inl (by omega))); exact e2 (.inr (.inr hh)))]
theorem offK_own {X Y : LL} {c t k : Nat} (hk : k < Y.length) : gd [] (offK X Y c t k) k = gd [] Y k := by rw [offK_gd hk, if_pos (.inr (.inl (Nat.le_refl _)))]
theorem offK_piv {X Y : LL} {c t k : Nat} (ht : t < Y.length) : gd [] (offK X Y c t k) t = gd [] Y t := by rw [offK_gd ht, if_pos (.inl rfl)]
theorem offK_rect {n m c t k : Nat} {X Y : LL} (h : Rect n m Y) : Rect n m (offK X Y c t k) := by
  refine ⟨by rw [offK_len, h.1], gd_all (d := []) fun i hi => ?_⟩
  rw [offK_len] at hi
  rw [offK_gd hi]
  split
  · exact (h.row (by rw [← h.1]; exact hi)).1
  · rw [addR_len]; exact (h.row (by rw [← h.1]; exact hi)).1
structure UdI (n m k : Nat) (X0 Y0 : LL) (c t i : Int) (X Y : LL) : Prop where
  lo : 0 ≤ i
  hi : i ≤ n
  rx0 : Rect n m X0
  ry0 : Rect n k Y0
  ht : 0 ≤ t ∧ t < n
  hc : 0 ≤ c ∧ c < m
  few : m ≤ 16 ∧ k ≤ 16
  x : X = offK X0 X0 c.toNat t.toNat i.toNat
  y : Y = offK X0 Y0 c.toNat t.toNat i.toNat
section
variable {n m k : Nat} {X0 Y0 : LL} {c t i : Int} {X Y : LL}
theorem UdI.start (h1 : Rect n m X0) (h2 : Rect n k Y0) (h3 : 0 ≤ t) (h4 : t < n) (h5 : 0 ≤ c) (h6 : c < m) (h7 : m ≤ 16) (h8 : k ≤ 16) : UdI n m k X0 Y0 c t 0 X0 Y0 := ⟨by omega, by omega, h1, h2, ⟨h3, h4⟩, ⟨h5, h6⟩, ⟨h7, h8⟩, offK_zero.symm, offK_zero.symm⟩
theorem UdI.len (h : UdI n m k X0 Y0 c t i X Y) : X.length = n ∧ Y.length = n := ⟨by rw [h.x, offK_len, h.rx0.1], by rw [h.y, offK_len, h.ry0.1]⟩
theorem UdI.rows (h : UdI n m k X0 Y0 c t i X Y) {j : Int} (h1 : 0 ≤ j) (h2 : j < n) : (gd [] X j.toNat).length = m ∧ (gd [] Y j.toNat).length = k := by
  have e1 : Rect n m X := by rw [h.x]; exact offK_rect h.rx0
  have e2 : Rect n k Y := by rw [h.y]; exact offK_rect h.ry0
  exact ⟨(e1.row (by omega)).1, (e2.row (by omega)).1⟩
theorem UdI.skip1 (h : UdI n m k X0 Y0 c t i X Y) (hi : i < n) (e : i = t) : UdI n m k X0 Y0 c t (i + 1) X Y := by
  have h0 := h.lo
  refine ⟨by omega, by omega, h.rx0, h.ry0, h.ht, h.hc, h.few, ?_, ?_⟩ <;> rw [show (i + 1).toNat = i.toNat + 1 by omega, offK_skip (.inl (by rw [e]))]
  · exact h.x
  · exact h.y
theorem UdI.skip2 (h : UdI n m k X0 Y0 c t i X Y) (hi : i < n) (e : gd 0 (gd [] X i.toNat) c.toNat = 0) : UdI n m k X0 Y0 c t (i + 1) X Y := by
  have h0 := h.lo
  rw [h.x, offK_own (by rw [h.rx0.1]; omega)] at e
  refine ⟨by omega, by omega, h.rx0, h.ry0, h.ht, h.hc, h.few, ?_, ?_⟩ <;> rw [show (i + 1).toNat = i.toNat + 1 by omega, offK_skip (.inr e)]
  · exact h.x
  · exact h.y
theorem UdI.step (h : UdI n m k X0 Y0 c t i X Y) (hi : i < n) (h1 : ¬ i = t) (h2 : ¬ gd 0 (gd [] X i.toNat) c.toNat = 0) : UdI n m k X0 Y0 c t (i + 1) (X.set i.toNat ((List.range (gd [] X i.toNat).length).map (fS (gd [] X i.toNat) (gd [] X t.toNat) (divN (gd 0 (gd [] X i.toNat) c.toNat) (gd 0 (gd [] X t.toNat) c.toNat))))) (Y.set i.toNat ((List.range (gd [] Y i.toNat).length).map (fS (gd [] Y i.toNat) (gd [] Y t.toNat) (divN (gd 0 (gd [] X i.toNat) c.toNat) (gd 0 (gd [] X t.toNat) c.toNat))))) := by
  have h0 := h.lo
  have ht := h.ht
  have lx := h.rx0.1
  have ly := h.ry0.1
  have e1 : gd [] X i.toNat = gd [] X0 i.toNat := by rw [h.x, offK_own (by omega)]
  have e2 : gd [] X t.toNat = gd [] X0 t.toNat := by rw [h.x, offK_piv (by omega)]
  have e3 : gd [] Y i.toNat = gd [] Y0 i.toNat := by rw [h.y, offK_own (by omega)]
  have e4 : gd [] Y t.toNat = gd [] Y0 t.toNat := by rw [h.y, offK_piv (by omega)]
  rw [e1] at h2
  rw [e1, e2, e3, e4]
  refine ⟨by omega, by omega, h.rx0, h.ry0, h.ht, h.hc, h.few, ?_, ?_⟩
  · rw [h.x, show (i + 1).toNat = i.toNat + 1 by omega]
    exact offK_step (X := X0) (Y := X0) (by omega) (by omega) h2
  · rw [h.y, show (i + 1).toNat = i.toNat + 1 by omega]
    exact offK_step (X := X0) (Y := Y0) (by omega) (by omega) h2
theorem UdI.fin (h : UdI n m k X0 Y0 c t i X Y) (hi : n ≤ i) : X = offR X0 X0 c.toNat t.toNat ∧ Y = offR X0 Y0 c.toNat t.toNat := by
  have lx := h.rx0.1
  have ly := h.ry0.1
  exact ⟨by rw [h.x, offK_end (by omega)], by rw [h.y, offK_end (by omega)]⟩
end
structure ReI (a mate : LL) (c : Int) (b : List Int) (u : List Bool) (X Y : LL) : Prop where
  lo : -1 ≤ c
  hi : c < (gd [] a 0).length
  m16 : (gd [] a 0).length ≤ 16
  k16 : (gd [] mate 0).length ≤ 16
  n16 : 0 < a.length ∧ a.length ≤ 16
  rx : Rect a.length (gd [] a 0).length X
  ry : Rect a.length (gd [] mate 0).length Y
  us : u.length = a.length
  bl : (b.length : Int) + c + 1 = (gd [] a 0).length
  eq : redGo (c + 1).toNat X Y u b = redL a mate
theorem ReI.start {a mate : LL} (h1 : mchk a = 0) (h2 : mchk mate = 0) (h3 : mate.length = a.length) : ReI a mate (((gd [] a 0).length : Int) - 1) [] (List.replicate a.length false) a mate := by
  have o1 := Okm.of h1
  have o2 := Okm.of h2
  refine ⟨by omega, by omega, o1.m16, o2.m16, ⟨o1.n0, o1.n16⟩, o1.rect, by rw [← h3]; exact o2.rect, by simp, by simp, ?_⟩
  rw [show (((gd [] a 0).length : Int) - 1 + 1).toNat = (gd [] a 0).length by omega]; rfl
section
variable {a mate : LL} {c : Int} {b : List Int} {u : List Bool} {X Y : LL}
theorem ReI.rows (h : ReI a mate c b u X Y) {j : Int} (h1 : 0 ≤ j) (h2 : j < a.length) : (gd [] X j.toNat).length = (gd [] a 0).length ∧ (gd [] Y j.toNat).length = (gd [] mate 0).length := ⟨(h.rx.row (by omega)).1, (h.ry.row (by omega)).1⟩
theorem ReI.len (h : ReI a mate c b u X Y) : X.length = a.length ∧ Y.length = a.length := ⟨h.rx.1, h.ry.1⟩
theorem ReI.neg (h : ReI a mate c b u X Y) (h0 : 0 ≤ c) {t : Int} (ht : t = lastR X u c.toNat a.length) (hn : t < 0) : ReI a mate (c - 1) ([t] ++ b) u X Y := by
  have := h.hi
  have := h.bl
  refine ⟨by omega, by omega, h.m16, h.k16, h.n16, h.rx, h.ry, h.us, by simp; omega, ?_⟩
  rw [← h.eq, show (c - 1 + 1).toNat = c.toNat by omega, show (c + 1).toNat = c.toNat + 1 by omega, redGo, h.rx.1, ← ht, if_pos hn]
  rfl
theorem ReI.pos (h : ReI a mate c b u X Y) (h0 : 0 ≤ c) {t : Int} (ht : t = lastR X u c.toNat a.length) (hn : ¬ t < 0) {X' Y' : LL} (hx : X' = offR X X c.toNat t.toNat) (hy : Y' = offR X Y c.toNat t.toNat) : ReI a mate (c - 1) ([t] ++ b) (u.set t.toNat true) X' Y' := by
  have := h.hi
  have := h.bl
  subst hx; subst hy
  refine ⟨by omega, by omega, h.m16, h.k16, h.n16, offR_rect h.rx, offR_rect h.ry, by simp [h.us], by simp; omega, ?_⟩
  rw [← h.eq, show (c - 1 + 1).toNat = c.toNat by omega, show (c + 1).toNat = c.toNat + 1 by omega, redGo, h.rx.1, ← ht, if_neg hn]
  rfl
theorem ReI.fin (h : ReI a mate c b u X Y) (h0 : c < 0) : (X, Y, b) = redL a mate := by
  rw [← h.eq, show (c + 1).toNat = 0 by have := h.lo; omega]; rfl
theorem ReI.ud (h : ReI a mate c b u X Y) (h0 : 0 ≤ c) {t : Int} (h1 : 0 ≤ t) (h2 : t < a.length) : UdI a.length (gd [] a 0).length (gd [] mate 0).length X Y c t 0 X Y := UdI.start h.rx h.ry h1 h2 h0 h.hi h.m16 h.k16
end
structure LaI (n : Nat) (X : LL) (u : List Bool) (c i t : Int) : Prop where
  lo : 0 ≤ i
  hi : i ≤ n
  eq : t = lastR X u c.toNat i.toNat
section
variable {n : Nat} {X : LL} {u : List Bool} {c i t : Int}
theorem LaI.start : LaI n X u c 0 (-1) := ⟨by omega, by omega, rfl⟩
theorem LaI.yes (h : LaI n X u c i t) (hi : i < n) (h1 : gd false u i.toNat = false) (h2 : ¬ gd 0 (gd [] X i.toNat) c.toNat = 0) : LaI n X u c (i + 1) i := by
  have h0 := h.lo
  refine ⟨by omega, by omega, ?_⟩
  rw [show (i + 1).toNat = i.toNat + 1 by omega, lastR, if_pos ⟨h1, h2⟩]; omega
theorem LaI.no (h : LaI n X u c i t) (hi : i < n) (h1 : gd false u i.toNat = true ∨ gd 0 (gd [] X i.toNat) c.toNat = 0) : LaI n X u c (i + 1) t := by
  have h0 := h.lo
  refine ⟨by omega, by omega, ?_⟩
  rw [show (i + 1).toNat = i.toNat + 1 by omega, lastR, if_neg (fun hh => by rcases h1 with e | e; rw [hh.1] at e; simp at e; exact hh.2 e)]; exact h.eq
theorem LaI.rng (h : LaI n X u c i t) : -1 ≤ t ∧ t < i ∨ t = -1 := by
  have : ∀ k : Nat, -1 ≤ lastR X u c.toNat k ∧ (lastR X u c.toNat k < k ∨ lastR X u c.toNat k = -1) := by
    intro k
    induction k with
    | zero => exact ⟨Int.le_refl _, .inr rfl⟩
    | succ k ih =>
      unfold lastR
      split
      · omega
      · omega
  have h1 := this i.toNat
  have h0 := h.lo
  rw [← h.eq] at h1
  omega
theorem LaI.fin (h : LaI n X u c i t) (hi : n ≤ i) : t = lastR X u c.toNat n := by
  have e := h.eq
  rw [show i.toNat = n by have := h.hi; omega] at e
  exact e
end
def i_38_54_0 (s0 : (List (List UInt8))) (i0 : Int) (K0 : (List (Row UInt8))) (A0 : (List (Nat × List UInt8))) (s : (List (List UInt8))) (i : Int) (K : (List (Row UInt8))) (A : (List (Nat × List UInt8))) : Prop := s0 = s ∧ CpI A0 s i K A
def i_38_2 (a : (List (List UInt8))) (mate : (List (List UInt8))) (i0 : Int) (t0 : Int) (c0 : Int) (X0 : (List (List UInt8))) (Y0 : (List (List UInt8))) (i : Int) (t : Int) (c : Int) (X : (List (List UInt8))) (Y : (List (List UInt8))) : Prop := (c0 = c ∧ t0 = t) ∧ UdI a.length (gd [] a 0).length (gd [] mate 0).length X0 Y0 c t i X Y
def i_38_1 (a : (List (List UInt8))) (i0 : Int) (t0 : Int) (c0 : Int) (u0 : (List Bool)) (X0 : (List (List UInt8))) (i : Int) (t : Int) (c : Int) (u : (List Bool)) (X : (List (List UInt8))) : Prop := (c0 = c ∧ X0 = X ∧ u0 = u) ∧ LaI a.length X u c i t
def i_38_0 (a : (List (List UInt8))) (mate : (List (List UInt8))) (c : Int) (b : (List Int)) (u : (List Bool)) (X : (List (List UInt8))) (Y : (List (List UInt8))) : Prop := ReI a mate c b u X Y
def k_38 : Con Tc Tc.dn := ⟨38, [.ty .llU8, .ty .llU8], fun x => (fun (a : (List (List UInt8))) (mate : (List (List UInt8))) => mchk a = 0 ∧ mchk mate = 0 ∧ mate.length = a.length) x.1 x.2.1, [.llU8, .llU8, .lInt], fun x => (fun (a : (List (List UInt8))) (mate : (List (List UInt8))) => redL a mate) x.1 x.2.1⟩
theorem k_38_v (a : (List (List UInt8))) (mate : (List (List UInt8))) (hp : mchk a = 0 ∧ mchk mate = 0 ∧ mate.length = a.length) : i_38_54_0 a (0 : Int) [] [] a (0 : Int) [] [] ∧ ∀ (x : List (List UInt8)) (x_1 : Int) (x_2 : List (Row UInt8)) (x_3 : List (Nat × List UInt8)), i_38_54_0 a (0 : Int) [] [] x x_1 x_2 x_3 → (x_1 < (↑x.length : Int) → ((0 : Int) ≤ x_1 ∧ x_1 < (↑x.length : Int)) ∧ ((0 : Nat) + (gd [] x x_1.toNat).length) * (1 : Nat) ≤ (140737488355328 : Nat) ∧ ∀ (id : Nat), ¬hasA x_3 id → (x_2.length + (1 : Nat)) * (24 : Nat) ≤ (140737488355328 : Nat) ∧ I64 (x_1 + (1 : Int)) ∧ i_38_54_0 a (0 : Int) [] [] x (x_1 + (1 : Int)) (x_2 ++ [Row.at UInt8 id ([] ++ gd [] x x_1.toNat).length]) ((id, [] ++ gd [] x x_1.toNat) :: x_3) ∧ ((↑x.length : Int) - (x_1 + (1 : Int))).toNat < ((↑x.length : Int) - x_1).toNat) ∧ ((↑x.length : Int) ≤ x_1 → i_38_54_0 mate (0 : Int) [] x_3 mate (0 : Int) [] x_3 ∧ ∀ (x : List (List UInt8)) (x_4 : Int) (x_5 : List (Row UInt8)) (x_6 : List (Nat × List UInt8)), i_38_54_0 mate (0 : Int) [] x_3 x x_4 x_5 x_6 → (x_4 < (↑x.length : Int) → ((0 : Int) ≤ x_4 ∧ x_4 < (↑x.length : Int)) ∧ ((0 : Nat) + (gd [] x x_4.toNat).length) * (1 : Nat) ≤ (140737488355328 : Nat) ∧ ∀ (id : Nat), ¬hasA x_6 id → (x_5.length + (1 : Nat)) * (24 : Nat) ≤ (140737488355328 : Nat) ∧ I64 (x_4 + (1 : Int)) ∧ i_38_54_0 mate (0 : Int) [] x_3 x (x_4 + (1 : Int)) (x_5 ++ [Row.at UInt8 id ([] ++ gd [] x x_4.toNat).length]) ((id, [] ++ gd [] x x_4.toNat) :: x_6) ∧ ((↑x.length : Int) - (x_4 + (1 : Int))).toNat < ((↑x.length : Int) - x_4).toNat) ∧ ((↑x.length : Int) ≤ x_4 → (∀ (x : Row UInt8), x ∈ x_2 → x.ok x_6 ∧ x.kd ≠ RK.nil) ∧ (∀ (x : Row UInt8), x ∈ x_5 → x.ok x_6 ∧ x.kd ≠ RK.nil) ∧ ((0 : Int) ≤ (↑a.length : Int) ∧ (↑a.length : Int) ≤ (↑a.length : Int) ∧ (↑a.length : Int) * (↑(1 : Nat) : Int) ≤ (140737488355328 : Int)) ∧ ((0 : Int) ≤ (0 : Int) ∧ (0 : Int) < (↑a.length : Int)) ∧ I64 ((↑(gd [] a (Int.toNat (0 : Int))).length : Int) - (1 : Int)) ∧ i_38_0 a mate ((↑(gd [] a (Int.toNat (0 : Int))).length : Int) - (1 : Int)) [] (List.replicate (↑a.length : Int).toNat false) (List.map (fun x => x.get x_6) x_2) (List.map (fun x => x.get x_6) x_5) ∧ ∀ (x : Int) (x_7 : List Int) (x_8 : List Bool) (x_9 x_10 : List (List UInt8)), i_38_0 a mate x x_7 x_8 x_9 x_10 → ((0 : Int) ≤ x → i_38_1 a (0 : Int) (-1 : Int) x x_8 x_9 (0 : Int) (-1 : Int) x x_8 x_9 ∧ ∀ (x_11 x_12 x_13 : Int) (x_14 : List Bool) (x_15 : List (List UInt8)), i_38_1 a (0 : Int) (-1 : Int) x x_8 x_9 x_11 x_12 x_13 x_14 x_15 → (x_11 < (↑a.length : Int) → ((0 : Int) ≤ x_11 ∧ x_11 < (↑x_14.length : Int)) ∧ x_11.toNat < x_14.length ∧ (gd false x_14 x_11.toNat = !true → gd false x_14 x_11.toNat = !true) ∧ (gd false x_14 x_11.toNat = !true → gd false x_14 x_11.toNat = !true) ∧ (gd false x_14 x_11.toNat = !true → (0 : Int) ≤ x_11 ∧ x_11 < (↑x_15.length : Int)) ∧ (gd false x_14 x_11.toNat = !true → gd false x_14 x_11.toNat = !true) ∧ (gd false x_14 x_11.toNat = !true → x_11.toNat < x_15.length) ∧ (gd false x_14 x_11.toNat = !true → gd false x_14 x_11.toNat = !true) ∧ (gd false x_14 x_11.toNat = !true → gd false x_14 x_11.toNat = !true) ∧ (gd false x_14 x_11.toNat = !true → (0 : Int) ≤ x_13 ∧ x_13 < (↑(gd [] x_15 x_11.toNat).length : Int)) ∧ (gd false x_14 x_11.toNat = !true → gd false x_14 x_11.toNat = !true) ∧ (gd false x_14 x_11.toNat = !true → gd false x_14 x_11.toNat = !true) ∧ (gd false x_14 x_11.toNat = !true → gd false x_14 x_11.toNat = !true) ∧ (gd false x_14 x_11.toNat = !true ∧ ¬gd (0 : UInt8) (gd [] x_15 x_11.toNat) x_13.toNat = UInt8.ofNat (Int.toNat (0 : Int)) → I64 (x_11 + (1 : Int)) ∧ i_38_1 a (0 : Int) (-1 : Int) x x_8 x_9 (x_11 + (1 : Int)) x_11 x_13 x_14 x_15 ∧ ((↑a.length : Int) - (x_11 + (1 : Int))).toNat < ((↑a.length : Int) - x_11).toNat) ∧ (gd false x_14 x_11.toNat = !false ∨ gd (0 : UInt8) (gd [] x_15 x_11.toNat) x_13.toNat = UInt8.ofNat (Int.toNat (0 : Int)) → I64 (x_11 + (1 : Int)) ∧ i_38_1 a (0 : Int) (-1 : Int) x x_8 x_9 (x_11 + (1 : Int)) x_12 x_13 x_14 x_15 ∧ ((↑a.length : Int) - (x_11 + (1 : Int))).toNat < ((↑a.length : Int) - x_11).toNat)) ∧ ((↑a.length : Int) ≤ x_11 → ((1 : Nat) + x_7.length) * (8 : Nat) ≤ (140737488355328 : Nat) ∧ (x_12 < (0 : Int) → I64 (x_13 - (1 : Int)) ∧ i_38_0 a mate (x_13 - (1 : Int)) ([x_12] ++ x_7) x_14 x_15 x_10 ∧ (x_13 - (1 : Int) + (1 : Int)).toNat < (x + (1 : Int)).toNat) ∧ ((0 : Int) ≤ x_12 → ((0 : Int) ≤ x_12 ∧ x_12 < (↑x_14.length : Int)) ∧ x_12.toNat < x_14.length ∧ i_38_2 a mate (0 : Int) x_12 x_13 x_15 x_10 (0 : Int) x_12 x_13 x_15 x_10 ∧ ∀ (x_16 x_17 x_18 : Int) (x_19 x_20 : List (List UInt8)), i_38_2 a mate (0 : Int) x_12 x_13 x_15 x_10 x_16 x_17 x_18 x_19 x_20 → (x_16 < (↑a.length : Int) → (¬x_16 = x_17 → ¬x_16 = x_17) ∧ (¬x_16 = x_17 → ¬x_16 = x_17) ∧ (¬x_16 = x_17 → (0 : Int) ≤ x_16 ∧ x_16 < (↑x_19.length : Int)) ∧ (¬x_16 = x_17 → ¬x_16 = x_17) ∧ (¬x_16 = x_17 → x_16.toNat < x_19.length) ∧ (¬x_16 = x_17 → ¬x_16 = x_17) ∧ (¬x_16 = x_17 → ¬x_16 = x_17) ∧ (¬x_16 = x_17 → (0 : Int) ≤ x_18 ∧ x_18 < (↑(gd [] x_19 x_16.toNat).length : Int)) ∧ (¬x_16 = x_17 → ¬x_16 = x_17) ∧ (¬x_16 = x_17 → ¬x_16 = x_17) ∧ (¬x_16 = x_17 → ¬x_16 = x_17) ∧ (x_16 = x_17 ∨ gd (0 : UInt8) (gd [] x_19 x_16.toNat) x_18.toNat = UInt8.ofNat (Int.toNat (0 : Int)) → I64 (x_16 + (1 : Int)) ∧ i_38_2 a mate (0 : Int) x_12 x_13 x_15 x_10 (x_16 + (1 : Int)) x_17 x_18 x_19 x_20 ∧ ((↑a.length : Int) - (x_16 + (1 : Int))).toNat < ((↑a.length : Int) - x_16).toNat) ∧ (¬x_16 = x_17 ∧ ¬gd (0 : UInt8) (gd [] x_19 x_16.toNat) x_18.toNat = UInt8.ofNat (Int.toNat (0 : Int)) → ((0 : Int) ≤ x_16 ∧ x_16 < (↑x_19.length : Int)) ∧ x_16.toNat < x_19.length ∧ ((0 : Int) ≤ x_18 ∧ x_18 < (↑(gd [] x_19 x_16.toNat).length : Int)) ∧ ((0 : Int) ≤ x_17 ∧ x_17 < (↑x_19.length : Int)) ∧ x_17.toNat < x_19.length ∧ ((0 : Int) ≤ x_18 ∧ x_18 < (↑(gd [] x_19 x_17.toNat).length : Int)) ∧ True ∧ ((0 : Int) ≤ x_16 ∧ x_16 < (↑x_19.length : Int)) ∧ x_16.toNat < x_19.length ∧ ((0 : Int) ≤ x_17 ∧ x_17 < (↑x_19.length : Int)) ∧ x_17.toNat < x_19.length ∧ ((gd [] x_19 x_16.toNat).length ≤ (gd [] x_19 x_17.toNat).length ∧ (gd [] x_19 x_16.toNat).length ≤ (1000000 : Nat)) ∧ ((0 : Int) ≤ x_16 ∧ x_16 < (↑x_19.length : Int)) ∧ x_16.toNat < x_19.length ∧ ((0 : Int) ≤ x_16 ∧ x_16 < (↑x_20.length : Int)) ∧ x_16.toNat < x_20.length ∧ ((0 : Int) ≤ x_17 ∧ x_17 < (↑x_20.length : Int)) ∧ x_17.toNat < x_20.length ∧ ((gd [] x_20 x_16.toNat).length ≤ (gd [] x_20 x_17.toNat).length ∧ (gd [] x_20 x_16.toNat).length ≤ (1000000 : Nat)) ∧ ((0 : Int) ≤ x_16 ∧ x_16 < (↑x_20.length : Int)) ∧ x_16.toNat < x_20.length ∧ I64 (x_16 + (1 : Int)) ∧ i_38_2 a mate (0 : Int) x_12 x_13 x_15 x_10 (x_16 + (1 : Int)) x_17 x_18 (x_19.set x_16.toNat (List.map (fS (gd [] x_19 x_16.toNat) (gd [] x_19 x_17.toNat) (divN (gd (0 : UInt8) (gd [] x_19 x_16.toNat) x_18.toNat) (gd (0 : UInt8) (gd [] x_19 x_17.toNat) x_18.toNat))) (List.range (gd [] x_19 x_16.toNat).length))) (x_20.set x_16.toNat (List.map (fS (gd [] x_20 x_16.toNat) (gd [] x_20 x_17.toNat) (divN (gd (0 : UInt8) (gd [] x_19 x_16.toNat) x_18.toNat) (gd (0 : UInt8) (gd [] x_19 x_17.toNat) x_18.toNat))) (List.range (gd [] x_20 x_16.toNat).length))) ∧ ((↑a.length : Int) - (x_16 + (1 : Int))).toNat < ((↑a.length : Int) - x_16).toNat)) ∧ ((↑a.length : Int) ≤ x_16 → I64 (x_18 - (1 : Int)) ∧ i_38_0 a mate (x_18 - (1 : Int)) ([x_12] ++ x_7) (x_14.set x_12.toNat true) x_19 x_20 ∧ (x_18 - (1 : Int) + (1 : Int)).toNat < (x + (1 : Int)).toNat)))) ∧ (x < (0 : Int) → (x_9, x_10, x_7) = redL a mate))) := by
  obtain ⟨p1, p2, p3⟩ := hp
  have o1 := Okm.of p1
  have o2 := Okm.of p2
  have b1 := o1.n16
  have b2 := o1.n0
  have b3 := o1.m16
  have b4 := o1.m0
  have b5 := o2.m16
  have b6 := o2.m0
  have r1 : ∀ j : Int, 0 ≤ j → j < a.length → (gd [] a j.toNat).length ≤ 16 := fun j h0 h1 => by rw [o1.rect.row (by omega)]; exact b3
  have r2 : ∀ j : Int, 0 ≤ j → j < mate.length → (gd [] mate j.toNat).length ≤ 16 := fun j h0 h1 => by rw [o2.rect.row (by omega)]; exact b5
  simp only [List.nil_append, Int.toNat_natCast, show UInt8.ofNat (Int.toNat 0) = 0 from rfl, show Int.toNat 0 = 0 from rfl, i_38_54_0, i_38_2, i_38_1, i_38_0, I64]
  refine ⟨⟨(by trivial), CpI.start b1⟩, fun s i K A hI => ?_⟩
  obtain ⟨e, hI⟩ := hI
  subst e
  have i0 := hI.lo
  have il := hI.len
  refine ⟨fun hlt => ?_, fun hge => ?_⟩
  focus
    have rr := r1 _ i0 hlt
    exact ⟨⟨i0, hlt⟩, by omega, fun id hid => ⟨by omega, by omega, ⟨(by trivial), hI.step hlt hid⟩, by omega⟩⟩
  refine ⟨⟨(by trivial), CpI.start (by omega)⟩, fun s j K5 A6 hJ => ?_⟩
  obtain ⟨e, hJ⟩ := hJ
  subst e
  have j0 := hJ.lo
  have jl := hJ.len
  refine ⟨fun hlt => ?_, fun hge2 => ?_⟩
  focus
    have rr := r2 _ j0 hlt
    exact ⟨⟨j0, hlt⟩, by omega, fun id hid => ⟨by omega, by omega, ⟨(by trivial), hJ.step hlt hid⟩, by omega⟩⟩
  obtain ⟨⟨k1, k2⟩, k3, k4⟩ := cp_end hI hge hJ hge2
  rw [k3, k4]
  clear hI hJ k3 k4 i0 j0 il jl
  refine ⟨k1, k2, by omega, by omega, by omega, ReI.start p1 p2 p3, fun c b u X Y hR => ?_⟩
  refine ⟨fun hc => ?_, fun hc => hR.fin hc⟩
  have rb := hR.bl
  have ru := hR.us
  have rl := hR.len
  have rh := hR.hi
  refine ⟨⟨⟨(by trivial), (by trivial), (by trivial)⟩, LaI.start⟩, fun i2 t c2 u2 X2 hL => ?_⟩
  obtain ⟨⟨e1, e2, e3⟩, hL⟩ := hL
  subst e1; subst e2; subst e3
  have l0 := hL.lo
  refine ⟨fun hlt => ?_, fun hge3 => ?_⟩
  focus
    have hr := hR.rows l0 hlt
    refine ⟨by omega, by omega, (by first | exact fun h => h | trivial), (by first | exact fun h => h | trivial), fun _ => by omega, (by first | exact fun h => h | trivial), fun _ => by omega, (by first | exact fun h => h | trivial), (by first | exact fun h => h | trivial), fun _ => by omega, (by first | exact fun h => h | trivial), (by first | exact fun h => h | trivial), (by first | exact fun h => h | trivial), fun hh => ⟨by omega, ⟨⟨(by trivial), (by trivial), (by trivial)⟩, hL.yes hlt (by simpa using hh.1) hh.2⟩, by omega⟩, fun hh => ⟨by omega, ⟨⟨(by trivial), (by trivial), (by trivial)⟩, hL.no hlt (by simpa using hh)⟩, by omega⟩⟩
  have ht := hL.fin hge3
  have hg := hL.rng
  have hi3 := hL.hi
  refine ⟨by omega, fun hn => ⟨by omega, hR.neg hc ht hn, by omega⟩, fun hp => ?_⟩
  have htl : t < a.length := by omega
  refine ⟨by omega, by omega, ⟨⟨(by trivial), (by trivial)⟩, hR.ud hc hp htl⟩, fun i3 t3 c3 X3 Y3 hU => ?_⟩
  obtain ⟨⟨e1, e2⟩, hU⟩ := hU
  subst e1; subst e2
  have u0 := hU.lo
  have ul := hU.len
  refine ⟨fun hlt => ?_, fun hge4 => ?_⟩
  focus
    have q1 := hU.rows u0 hlt
    have q2 := hU.rows hp htl
    refine ⟨(by first | exact fun h => h | trivial), (by first | exact fun h => h | trivial), fun _ => by omega, (by first | exact fun h => h | trivial), fun _ => by omega, (by first | exact fun h => h | trivial), (by first | exact fun h => h | trivial), fun _ => by omega, (by first | exact fun h => h | trivial), (by first | exact fun h => h | trivial), (by first | exact fun h => h | trivial), fun hh => ⟨by omega, ⟨⟨(by trivial), (by trivial)⟩, hh.elim (hU.skip1 hlt) (hU.skip2 hlt)⟩, by omega⟩, fun hh => ?_⟩
    exact ⟨by omega, by omega, by omega, by omega, by omega, by omega, trivial, by omega, by omega, by omega, by omega, by omega, by omega, by omega, by omega, by omega, by omega, by omega, by omega, by omega, by omega, by omega, ⟨⟨(by trivial), (by trivial)⟩, hU.step hlt hh.1 hh.2⟩, by omega⟩
  obtain ⟨v1, v2⟩ := hU.fin hge4
  exact ⟨by omega, hR.pos hc ht (by omega) v1 v2, by omega⟩
def l_38 : PD Tc.dn k_38.ps → List (IL Tc Tc.dn) := fun x => (fun (a : (List (List UInt8))) (mate : (List (List UInt8))) => ([⟨54, .fn F54 (fun k => bif Nat.beq k 0 then some (.inv [.sl 0 .llU8, .sl 4 .cInt, .ow 3 .rU8, .ar .cU8] (fun zo zv => (fun (s0 : (List (List UInt8))) (i0 : Int) (K0 : (List (Row UInt8))) (A0 : (List (Nat × List UInt8))) (s : (List (List UInt8))) (i : Int) (K : (List (Row UInt8))) (A : (List (Nat × List UInt8))) => i_38_54_0 s0 i0 K0 A0 s i K A) zo.1 zo.2.1 zo.2.2.1 zo.2.2.2.1 zv.1 zv.2.1 zv.2.2.1 zv.2.2.2.1) (fun zo zv => (fun (s0 : (List (List UInt8))) (i0 : Int) (K0 : (List (Row UInt8))) (A0 : (List (Nat × List UInt8))) (s : (List (List UInt8))) (i : Int) (K : (List (Row UInt8))) (A : (List (Nat × List UInt8))) => ((s.length : Int) - i).toNat) zo.1 zo.2.1 zo.2.2.1 zo.2.2.2.1 zv.1 zv.2.1 zv.2.2.1 zv.2.2.2.1)) else none), none⟩])) x.1 x.2.1
theorem l_38_ok : ∀ x, ILs Try.prog tD (l_38 x) := fun _ => ⟨⟨F54_ok, F54_call⟩, trivial⟩
theorem k_38_ok : k_38.Ok Try.prog tD := con_ok tD_ok (Δ := [k_39, k_40]) ⟨k_39_ok, k_40_ok, trivial⟩ (Ω := []) trivial k_38 F38_ok F38_call (l_38) (l_38_ok) 3 (fun x => (fun (a : (List (List UInt8))) (mate : (List (List UInt8))) => (fun k => bif Nat.beq k 0 then some (.inv [.sl 12 .cInt, .ow 11 .cInt, .bl 3 .cBool, .bl 1 .lU8, .bl 2 .lU8] (fun zo zv => (fun (c : Int) (b : (List Int)) (u : (List Bool)) (X : (List (List UInt8))) (Y : (List (List UInt8))) => i_38_0 a mate c b u X Y) zv.1 zv.2.1 zv.2.2.1 zv.2.2.2.1 zv.2.2.2.2.1) (fun zo zv => (fun (c : Int) (b : (List Int)) (u : (List Bool)) (X : (List (List UInt8))) (Y : (List (List UInt8))) => (c + 1).toNat) zv.1 zv.2.1 zv.2.2.1 zv.2.2.2.1 zv.2.2.2.2.1)) else bif Nat.beq k 1 then some (.inv [.sl 14 .cInt, .sl 13 .cInt, .sl 12 .cInt, .bl 3 .cBool, .bl 1 .lU8] (fun zo zv => (fun (i0 : Int) (t0 : Int) (c0 : Int) (u0 : (List Bool)) (X0 : (List (List UInt8))) (i : Int) (t : Int) (c : Int) (u : (List Bool)) (X : (List (List UInt8))) => i_38_1 a i0 t0 c0 u0 X0 i t c u X) zo.1 zo.2.1 zo.2.2.1 zo.2.2.2.1 zo.2.2.2.2.1 zv.1 zv.2.1 zv.2.2.1 zv.2.2.2.1 zv.2.2.2.2.1) (fun zo zv => (fun (i0 : Int) (t0 : Int) (c0 : Int) (u0 : (List Bool)) (X0 : (List (List UInt8))) (i : Int) (t : Int) (c : Int) (u : (List Bool)) (X : (List (List UInt8))) => ((a.length : Int) - i).toNat) zo.1 zo.2.1 zo.2.2.1 zo.2.2.2.1 zo.2.2.2.2.1 zv.1 zv.2.1 zv.2.2.1 zv.2.2.2.1 zv.2.2.2.2.1)) else bif Nat.beq k 2 then some (.inv [.sl 15 .cInt, .sl 13 .cInt, .sl 12 .cInt, .bl 1 .lU8, .bl 2 .lU8] (fun zo zv => (fun (i0 : Int) (t0 : Int) (c0 : Int) (X0 : (List (List UInt8))) (Y0 : (List (List UInt8))) (i : Int) (t : Int) (c : Int) (X : (List (List UInt8))) (Y : (List (List UInt8))) => i_38_2 a mate i0 t0 c0 X0 Y0 i t c X Y) zo.1 zo.2.1 zo.2.2.1 zo.2.2.2.1 zo.2.2.2.2.1 zv.1 zv.2.1 zv.2.2.1 zv.2.2.2.1 zv.2.2.2.2.1) (fun zo zv => (fun (i0 : Int) (t0 : Int) (c0 : Int) (X0 : (List (List UInt8))) (Y0 : (List (List UInt8))) (i : Int) (t : Int) (c : Int) (X : (List (List UInt8))) (Y : (List (List UInt8))) => ((a.length : Int) - i).toNat) zo.1 zo.2.1 zo.2.2.1 zo.2.2.2.1 zo.2.2.2.2.1 zv.1 zv.2.1 zv.2.2.1 zv.2.2.2.1 zv.2.2.2.2.1)) else bif Nat.beq k 1025 then some (.frz [8, 9, 5000]) else none)) x.1 x.2.1) fun x hp => Eq.mp (by kernel_rfl) (k_38_v x.1 x.2.1 hp)
open Go.RowKit
open Go.RowKit
theorem rank_ok {a : List (List UInt8)} {n m : Nat} (h : Okm a n m) : ∃ r : Nat, rankL a = ((r : Int), 0) ∧ RankIs n m (mxL a) r := by
  unfold rankL
  rw [if_neg (by rw [h.chk]; simp), h.wid, h.len]
  refine ⟨_, rfl, ?_⟩
  have e : fillL n m (fA a) = a := by
    rw [← fill_self h.rect]
    refine fill_congr fun i j hi hj => ?_
    rw [fill_self h.rect]
    rfl
  rw [e]
  exact clr_rank h.rect h.n0
theorem rank_err {a : List (List UInt8)} (h : ¬(rankL a).2 = 0) : (rankL a).1 = 0 ∧ ¬ mchk a = 0 := by
  by_cases hc : mchk a = 0
  · obtain ⟨r, e, _⟩ := rank_ok (Okm.of hc)
    rw [e] at h; exact absurd rfl h
  · unfold rankL
    rw [if_pos hc]; exact ⟨rfl, hc⟩
theorem rank_zero {a : List (List UInt8)} (h : (rankL a).2 = 0) : mchk a = 0 := by
  by_cases hc : mchk a = 0
  · exact hc
  · unfold rankL at h
    rw [if_pos hc] at h; exact absurd h hc
structure ByI (m c : Nat) (by_ : List Int) (p : List (Nat × Nat)) : Prop where
  len : by_.length + c = m
  mem : ∀ k, k < by_.length → 0 ≤ gd 0 by_ k → ((gd 0 by_ k).toNat, c + k) ∈ p
theorem gd_cons {α : Type} {d x : α} {l : List α} {k : Nat} : gd d (x :: l) k = if k = 0 then x else gd d l (k - 1) := by
  cases k with
  | zero => rfl
  | succ k => rw [if_neg (by omega)]; rfl
theorem ByI.neg {m c : Nat} {by_ : List Int} {p : List (Nat × Nat)} {x : Int} (h : ByI m (c + 1) by_ p) (hx : x < 0) : ByI m c (x :: by_) p := ⟨by have := h.len; simp; omega, fun k hk h0 => by
  rw [gd_cons] at h0 ⊢
  by_cases e : k = 0
  · rw [if_pos e] at h0; omega
  · rw [if_neg e] at h0 ⊢
    have := h.mem (k - 1) (by simp at hk; omega) h0
    rw [show c + 1 + (k - 1) = c + k by omega] at this
    exact this⟩
theorem ByI.pos {m c : Nat} {by_ : List Int} {p : List (Nat × Nat)} {x : Int} (h : ByI m (c + 1) by_ p) : ByI m c (x :: by_) ((x.toNat, c) :: p) := ⟨by have := h.len; simp; omega, fun k hk h0 => by
  rw [gd_cons] at h0 ⊢
  by_cases e : k = 0
  · subst e; rw [if_pos rfl]; exact List.mem_cons_self ..
  · rw [if_neg e] at h0 ⊢
    have := h.mem (k - 1) (by simp at hk; omega) h0
    rw [show c + 1 + (k - 1) = c + k by omega] at this
    exact List.mem_cons_of_mem _ this⟩
def Bo (n : Nat) (A M X Y : Mx) : Prop := ∃ P : Mx, (∀ i j, i < n → X i j = mm n P A i j) ∧ ∀ i j, i < n → Y i j = mm n P M i j
theorem Bo.start (n : Nat) (A M : Mx) : Bo n A M A M := ⟨unitM, fun i j h => (unit_mm A h).symm, fun i j h => (unit_mm M h).symm⟩
theorem elim_congr {n d : Nat} {w : Nat → UInt8} {R R' : Mx} (h : ∀ i j, i < n → R i j = R' i j) (hd : d < n) : ∀ i j, i < n → elimM w d R i j = elimM w d R' i j := fun i j hi => by
  unfold elimM
  rw [h i j hi, h d j hd]
theorem Bo.elim {n d : Nat} {w : Nat → UInt8} {A M X Y X' Y' : Mx} (h : Bo n A M X Y) (hd : d < n) (hX : ∀ i j, i < n → X' i j = elimM w d X i j) (hY : ∀ i j, i < n → Y' i j = elimM w d Y i j) : Bo n A M X' Y' := by
  obtain ⟨P, h1, h2⟩ := h
  exact ⟨elimM w d P, fun i j hi => by rw [hX i j hi, elim_congr h1 hd i j hi, mm_elim], fun i j hi => by rw [hY i j hi, elim_congr h2 hd i j hi, mm_elim]⟩
theorem red_mate {n m k : Nat} {A M : Mx} : ∀ (c : Nat) (X Y : List (List UInt8)) (used : List Bool) (by_ : List Int) (p : List (Nat × Nat)), c ≤ m → Rect n m X → Rect n k Y → Bo n A M (mxL X) (mxL Y) → Rd n m (mxL X) c p → UsI n m c used by_ p → ByI m c by_ p →
    ∃ p', Rect n m (redGo c X Y used by_).1 ∧ Rect n k (redGo c X Y used by_).2.1 ∧ Bo n A M (mxL (redGo c X Y used by_).1) (mxL (redGo c X Y used by_).2.1) ∧ Rd n m (mxL (redGo c X Y used by_).1) 0 p' ∧ ByI m 0 (redGo c X Y used by_).2.2 p'
  | 0, X, Y, used, by_, p, _, h1, h2, h3, h4, _, h5 => ⟨p, h1, h2, h3, h4, h5⟩
  | c + 1, X, Y, used, by_, p, hc, h1, h2, h3, h4, hu, h5 => by
    unfold redGo
    by_cases hn : lastR X used c X.length < 0
    · rw [if_pos hn]
      refine red_mate c X Y used _ p (by omega) h1 h2 h3 (h4.none fun i hi hni => lastR_neg hn i (by rw [h1.1]; exact hi) ((hu.us i hi).2 hni)) ⟨hu.len, hu.us, ?_⟩ (h5.neg hn)
      rw [List.filter_cons_of_neg (by simp; omega)]; exact hu.cnt
    · rw [if_neg hn]
      obtain ⟨q1, q2, q3⟩ := lastR_pos hn
      generalize hL : lastR X used c X.length = L at q1 q2 q3 hn ⊢
      have ht : L.toNat < n := by rw [← h1.1]; exact q1
      have e : ∀ i j, i < n → mxL (offR X X c L.toNat) i j = elimM (fun i => gmul (mxL X i c) (ginv (mxL X L.toNat c))) L.toNat (mxL X) i j := fun i j hi => offR_mx h1 ht q3 hi j
      have e' : ∀ i j, i < n → mxL (offR X Y c L.toNat) i j = elimM (fun i => gmul (mxL X i c) (ginv (mxL X L.toNat c))) L.toNat (mxL Y) i j := fun i j hi => offR_mx h2 ht q3 hi j
      have hnu : ¬ L.toNat ∈ p.map Prod.fst := (hu.us _ ht).1 q2
      have r := h4.some (by omega) ht hnu q3
      have r2 : Rd n m (mxL (offR X X c L.toNat)) c ((L.toNat, c) :: p) :=
        ⟨fun q hq => by
          obtain ⟨k1, k2, k3, k4, k5⟩ := r.piv q hq
          exact ⟨k1, k2, k3, by rw [e _ _ k1]; exact k4, fun i hi hne => by rw [e i _ hi]; exact k5 i hi hne⟩, r.nd, fun i hi hni j j1 j2 => by rw [e i j hi]; exact r.zero i hi hni j j1 j2⟩
      refine red_mate c _ _ _ _ ((L.toNat, c) :: p) (by omega) (offR_rect h1) (offR_rect h2) (h3.elim ht e e') r2 ⟨by simp [hu.len], fun i hi => ?_, ?_⟩ h5.pos
      · rw [gd_set2 (by rw [hu.len]; exact ht), List.map_cons, List.mem_cons]
        by_cases ei : L.toNat = i
        · rw [if_pos ei]
          constructor
          · intro hh; simp at hh
          · intro hh; exact absurd (.inl ei.symm) hh
        · rw [if_neg ei, hu.us i hi]
          constructor
          · intro hh h5; rcases h5 with h5 | h5
            · exact ei h5.symm
            · exact hh h5
          · intro hh h5; exact hh (.inr h5)
      · rw [List.filter_cons_of_pos (by simp; omega), List.length_cons, List.length_cons, hu.cnt]
open Go.RowKit
theorem red_start {n m : Nat} {X : Mx} : UsI n m m (List.replicate n false) [] [] := ⟨by simp, fun i hi => by simp [gd, List.getElem?_replicate, hi], rfl⟩
theorem red_rank {a mate : LL} {n m : Nat} (h : Okm a n m) : Rect n m (redL a mate).1 ∧ RankIs n m (mxL a) ((redL a mate).2.2.filter fun x => decide (0 ≤ x)).length := by
  unfold redL
  rw [h.wid, h.len]
  obtain ⟨p, h1, h2, h3, h4⟩ := red_law (A := mxL a) m a mate (List.replicate n false) [] [] (Nat.le_refl _) h.rect (RE.refl n _) (Rd.start n m _) (red_start (X := mxL a))
  exact ⟨h1, by rw [h4]; exact h3.rank h2⟩
structure CtI (b : List Int) (c k : Int) : Prop where
  lo : 0 ≤ c
  hi : c ≤ b.length
  eq : k = (((b.take c.toNat).filter fun x => decide (0 ≤ x)).length : Int)
theorem CtI.start {b : List Int} : CtI b 0 0 := ⟨by omega, by omega, rfl⟩
theorem CtI.k {b : List Int} {c k : Int} (h : CtI b c k) : 0 ≤ k ∧ k ≤ c := by
  have h0 := h.lo
  have h1 := h.hi
  have := List.length_filter_le (fun x : Int => decide (0 ≤ x)) (b.take c.toNat)
  rw [List.length_take] at this
  rw [h.eq]; omega
theorem take_gd {b : List Int} {c : Int} (h0 : 0 ≤ c) (h : c < b.length) : b.take (c + 1).toNat = b.take c.toNat ++ [gd 0 b c.toNat] := by
  rw [show (c + 1).toNat = c.toNat + 1 by omega, List.take_add_one, gd_get (d := (0 : Int)) (by omega)]; rfl
theorem CtI.yes {b : List Int} {c k : Int} (h : CtI b c k) (hc : c < b.length) (hg : 0 ≤ gd 0 b c.toNat) : CtI b (c + 1) (k + 1) := by
  have h0 := h.lo
  refine ⟨by omega, by omega, ?_⟩
  rw [take_gd h0 hc, List.filter_append, List.length_append, h.eq]
  simp [hg]
theorem CtI.no {b : List Int} {c k : Int} (h : CtI b c k) (hc : c < b.length) (hg : gd 0 b c.toNat < 0) : CtI b (c + 1) k := by
  have h0 := h.lo
  refine ⟨by omega, by omega, ?_⟩
  rw [take_gd h0 hc, List.filter_append, List.length_append, h.eq, List.filter_cons_of_neg (by simp; omega)]
  rfl
theorem CtI.fin {b : List Int} {c k : Int} (h : CtI b c k) (hc : b.length ≤ c) : k = ((b.filter fun x => decide (0 ≤ x)).length : Int) := by
  rw [h.eq, List.take_of_length_le (by omega)]
theorem rank_red {a mate : LL} (h : mchk a = 0) {k c : Int} (hk : CtI (redL a mate).2.2 c k) (hc : (redL a mate).2.2.length ≤ c) : (k, (0 : Int)) = rankL a := by
  have ho := Okm.of h
  obtain ⟨r, e, hr⟩ := rank_ok ho
  rw [e, hk.fin hc, hr.uniq (red_rank (mate := mate) ho).2]
theorem red_by {a mate : LL} (h : mchk a = 0) (hm : Rect a.length (gd [] mate 0).length mate) : (redL a mate).2.2.length ≤ 16 := by
  have ho := Okm.of h
  unfold redL
  obtain ⟨p, h1, h2, h3, h4, h5⟩ := red_mate (A := mxL a) (M := mxL mate) (gd [] a 0).length a mate (List.replicate a.length false) [] [] (Nat.le_refl _) ho.rect hm (Bo.start _ _ _) (Rd.start _ _ _) (red_start (X := mxL a)) ⟨by simp, fun k hk => by simp at hk⟩
  have := h5.len
  have := ho.m16
  omega
theorem rank_chk {a : LL} (h : ¬ mchk a = 0) : ((0 : Int), mchk a) = rankL a := by unfold rankL; rw [if_pos h]
def i_17_0 (a : (List (List UInt8))) (c : Int) (n : Int) : Prop := CtI (redL a a).2.2 c n
def k_17 : Con Tc Tc.dn := ⟨17, [.ty .llU8], fun x => (fun (a : (List (List UInt8))) => True) x.1, [.cInt, .cInt], fun x => (fun (a : (List (List UInt8))) => rankL a) x.1⟩
theorem k_17_v (a : (List (List UInt8))) : True ∧ (¬mchk a = (0 : Int) → ((0 : Int), mchk a) = rankL a) ∧ (mchk a = (0 : Int) → (mchk a = (0 : Int) ∧ mchk a = (0 : Int) ∧ a.length = a.length) ∧ i_17_0 a (0 : Int) (0 : Int) ∧ ∀ (x x_1 : Int), i_17_0 a x x_1 → (x < (↑(redGo (gd [] a (0 : Nat)).length a a (List.replicate a.length false) []).snd.snd.length : Int) → ((0 : Int) ≤ x ∧ x < (↑(redGo (gd [] a (0 : Nat)).length a a (List.replicate a.length false) []).snd.snd.length : Int)) ∧ ((0 : Int) ≤ gd (0 : Int) (redGo (gd [] a (0 : Nat)).length a a (List.replicate a.length false) []).snd.snd x.toNat → I64 (x_1 + (1 : Int)) ∧ I64 (x + (1 : Int)) ∧ i_17_0 a (x + (1 : Int)) (x_1 + (1 : Int)) ∧ ((↑(redGo (gd [] a (0 : Nat)).length a a (List.replicate a.length false) []).snd.snd.length : Int) - (x + (1 : Int))).toNat < ((↑(redGo (gd [] a (0 : Nat)).length a a (List.replicate a.length false) []).snd.snd.length : Int) - x).toNat) ∧ (gd (0 : Int) (redGo (gd [] a (0 : Nat)).length a a (List.replicate a.length false) []).snd.snd x.toNat < (0 : Int) → I64 (x + (1 : Int)) ∧ i_17_0 a (x + (1 : Int)) x_1 ∧ ((↑(redGo (gd [] a (0 : Nat)).length a a (List.replicate a.length false) []).snd.snd.length : Int) - (x + (1 : Int))).toNat < ((↑(redGo (gd [] a (0 : Nat)).length a a (List.replicate a.length false) []).snd.snd.length : Int) - x).toNat)) ∧ ((↑(redGo (gd [] a (0 : Nat)).length a a (List.replicate a.length false) []).snd.snd.length : Int) ≤ x → (x_1, (0 : Int)) = rankL a)) := by
  simp only [show redGo (gd [] a 0).length a a (List.replicate a.length false) [] = redL a a from rfl, i_17_0, I64]
  refine ⟨trivial, rank_chk, fun h => ⟨⟨h, h, trivial⟩, CtI.start, fun c n hI => ?_⟩⟩
  have hb := red_by (a := a) (mate := a) h (Okm.of h).rect
  have h0 := hI.lo
  have hk := hI.k
  have hh := hI.hi
  exact ⟨fun hc => ⟨⟨h0, hc⟩, fun hp => ⟨by omega, by omega, hI.yes hc hp, by omega⟩, fun hn => ⟨by omega, hI.no hc hn, by omega⟩⟩, fun hc => rank_red h hI hc⟩
theorem k_17_ok : k_17.Ok Try.prog tD := con_ok tD_ok (Δ := [k_22, k_38]) ⟨k_22_ok, k_38_ok, trivial⟩ (Ω := []) trivial k_17 F17_ok F17_call (fun _ => []) (fun _ => trivial) 0 (fun x => (fun (a : (List (List UInt8))) => (fun k => bif Nat.beq k 0 then some (.inv [.sl 9 .cInt, .sl 8 .cInt] (fun zo zv => (fun (c : Int) (n : Int) => i_17_0 a c n) zv.1 zv.2.1) (fun zo zv => (fun (c : Int) (n : Int) => (((redL a a).2.2.length : Int) - c).toNat) zv.1 zv.2.1)) else none)) x.1) fun x hp => Eq.mp (by kernel_rfl) (k_17_v x.1)
open Go.RowKit
def smR (a : List (List UInt8)) (col : Int) (j : Nat) : List UInt8 := (gd [] a j).take col.toNat ++ (gd [] a j).drop (col + 1).toNat
def smF (a : List (List UInt8)) (row col : Int) (i : Nat) : List (List UInt8) := ((List.range i).filter fun j : Nat => !decide (((j : Nat) : Int) = row)).map (smR a col)
theorem smF_yes {a : List (List UInt8)} {row col : Int} {i : Nat} (h : (i : Int) ≠ row) : smF a row col (i + 1) = smF a row col i ++ [smR a col i] := by
  unfold smF
  rw [List.range_succ, List.filter_append, List.map_append]
  simp [h]
theorem smF_no {a : List (List UInt8)} {row col : Int} {i : Nat} (h : (i : Int) = row) : smF a row col (i + 1) = smF a row col i := by
  unfold smF
  rw [List.range_succ, List.filter_append, List.map_append]
  simp [h]
structure SmI (a : List (List UInt8)) (row col i : Int) (K : RwL) (A : ArL) : Prop where
  lo : 0 ≤ i
  hi : i ≤ a.length
  few : (K.length : Int) ≤ i
  st : StI K A (smF a row col i.toNat)
theorem SmI.start {a : List (List UInt8)} {row col : Int} {A : ArL} : SmI a row col 0 [] A := ⟨by omega, by omega, by simp, StI.nil⟩
theorem SmI.yes {a : List (List UInt8)} {row col i : Int} {K : RwL} {A : ArL} {id : Nat} (h : SmI a row col i K A) (hi : i < a.length) (hr : i ≠ row) (hid : ¬ hasA A id) : SmI a row col (i + 1) (K ++ [Row.at UInt8 id (smR a col i.toNat).length]) ((id, smR a col i.toNat) :: A) := by
  have h0 := h.lo
  have h1 := h.few
  refine ⟨by omega, by omega, by simp; omega, ?_⟩
  rw [show (i + 1).toNat = i.toNat + 1 by omega, smF_yes (by omega)]
  exact h.st.snoc hid
theorem SmI.no {a : List (List UInt8)} {row col i : Int} {K : RwL} {A : ArL} (h : SmI a row col i K A) (hi : i < a.length) (hr : i = row) : SmI a row col (i + 1) K A := by
  have h0 := h.lo
  have h1 := h.few
  refine ⟨by omega, by omega, by omega, ?_⟩
  rw [show (i + 1).toNat = i.toNat + 1 by omega, smF_no (by omega)]
  exact h.st
theorem SmI.fin {a : List (List UInt8)} {row col i : Int} {K : RwL} {A : ArL} (h : SmI a row col i K A) (hi : a.length ≤ i) : (∀ x : Row UInt8, x ∈ K → x.ok A ∧ x.kd ≠ RK.nil) ∧ List.map (fun x => x.get A) K = smF a row col a.length := by
  have := h.st.fin
  rw [show i.toNat = a.length by have := h.hi; omega] at this
  exact this
def i_45_0 (a : (List (List UInt8))) (row : Int) (col : Int) (i : Int) (K : (List (Row UInt8))) (A : (List (Nat × List UInt8))) : Prop := SmI a row col i K A
def k_45 : Con Tc Tc.dn := ⟨45, [.ty .llU8, .ty .cInt, .ty .cInt], fun x => (fun (a : (List (List UInt8))) (row : Int) (col : Int) => a.length ≤ 16 ∧ 0 ≤ col ∧ col < 16 ∧ ∀ r, r ∈ a → col < r.length ∧ r.length ≤ 16) x.1 x.2.1 x.2.2.1, [.llU8], fun x => (fun (a : (List (List UInt8))) (row : Int) (col : Int) => smF a row col a.length) x.1 x.2.1 x.2.2.1⟩
theorem k_45_v (a : (List (List UInt8))) (row : Int) (col : Int) (hp : a.length ≤ 16 ∧ 0 ≤ col ∧ col < 16 ∧ ∀ r, r ∈ a → col < r.length ∧ r.length ≤ 16) : i_45_0 a row col (0 : Int) [] [] ∧ ∀ (x : Int) (x_1 : List (Row UInt8)) (x_2 : List (Nat × List UInt8)), i_45_0 a row col x x_1 x_2 → (x < (↑a.length : Int) → (¬x = row → ((0 : Int) ≤ x ∧ x < (↑a.length : Int)) ∧ ((0 : Int) ≤ col ∧ col ≤ (↑(gd [] a x.toNat).length : Int)) ∧ ((0 : Nat) + (List.take col.toNat (gd [] a x.toNat)).length) * (1 : Nat) ≤ (140737488355328 : Nat) ∧ ((0 : Int) ≤ x ∧ x < (↑a.length : Int)) ∧ I64 (col + (1 : Int)) ∧ ((0 : Int) ≤ col + (1 : Int) ∧ col + (1 : Int) ≤ (↑(gd [] a x.toNat).length : Int)) ∧ (([] ++ List.take col.toNat (gd [] a x.toNat)).length + (List.drop (col + (1 : Int)).toNat (gd [] a x.toNat)).length) * (1 : Nat) ≤ (140737488355328 : Nat) ∧ ∀ (id : Nat), ¬hasA x_2 id → (x_1.length + (1 : Nat)) * (24 : Nat) ≤ (140737488355328 : Nat) ∧ I64 (x + (1 : Int)) ∧ i_45_0 a row col (x + (1 : Int)) (x_1 ++ [Row.at UInt8 id ([] ++ List.take col.toNat (gd [] a x.toNat) ++ List.drop (col + (1 : Int)).toNat (gd [] a x.toNat)).length]) ((id, [] ++ List.take col.toNat (gd [] a x.toNat) ++ List.drop (col + (1 : Int)).toNat (gd [] a x.toNat)) :: x_2) ∧ ((↑a.length : Int) - (x + (1 : Int))).toNat < ((↑a.length : Int) - x).toNat) ∧ (x = row → I64 (x + (1 : Int)) ∧ i_45_0 a row col (x + (1 : Int)) x_1 x_2 ∧ ((↑a.length : Int) - (x + (1 : Int))).toNat < ((↑a.length : Int) - x).toNat)) ∧ ((↑a.length : Int) ≤ x → (∀ (x : Row UInt8), x ∈ x_1 → x.ok x_2 ∧ x.kd ≠ RK.nil) ∧ List.map (fun x => x.get x_2) x_1 = smF a row col a.length) := by
  have hm : ∀ x : Int, 0 ≤ x → x < a.length → col < (gd [] a x.toNat).length ∧ (gd [] a x.toNat).length ≤ 16 := fun x h0 h1 => hp.2.2.2 _ (gd_mem (by omega))
  have hs := @SmI.start a row col
  have hy := @SmI.yes a row col
  have hn := @SmI.no a row col
  have hf := @SmI.fin a row col
  have hl := @SmI.lo a row col
  have hw := @SmI.few a row col
  obtain ⟨p1, p2, p3, p4⟩ := hp
  clear p4
  unfold smR at hy
  simp only [List.nil_append, List.length_append, List.length_take, List.length_drop] at *
  (repeat' (first | apply And.intro | intro _)) <;> first | assumption | trivial | omega | (grind [i_45_0, I64]) | trace_state
theorem k_45_ok : k_45.Ok Try.prog tD := con_ok tD_ok (Δ := []) trivial (Ω := []) trivial k_45 F45_ok F45_call (fun _ => []) (fun _ => trivial) 0 (fun x => (fun (a : (List (List UInt8))) (row : Int) (col : Int) => (fun k => bif Nat.beq k 0 then some (.inv [.sl 8 .cInt, .ow 7 .rU8, .ar .cU8] (fun zo zv => (fun (i : Int) (K : (List (Row UInt8))) (A : (List (Nat × List UInt8))) => i_45_0 a row col i K A) zv.1 zv.2.1 zv.2.2.1) (fun zo zv => (fun (i : Int) (K : (List (Row UInt8))) (A : (List (Nat × List UInt8))) => ((a.length : Int) - i).toNat) zv.1 zv.2.1 zv.2.2.1)) else none)) x.1 x.2.1 x.2.2.1) fun x hp => Eq.mp (by kernel_rfl) (k_45_v x.1 x.2.1 x.2.2.1 hp)
open Go.RowKit
theorem skip_lt {p i n : Nat} (h : i < n) : skip p i < n + 1 := by unfold skip; split <;> omega
theorem part_rank {n m p q : Nat} {A X : Mx} (hp : p ≤ n) (hq : q ≤ m) (hX : ∀ i j, i < n → j < m → X i j = A (skip p i) (skip q j)) {r s : Nat} (hr : RankIs (n + 1) (m + 1) A r) (hs : RankIs n m X s) : s ≤ r ∧ r ≤ s + 2 := by
  constructor
  · refine hs.min r ?_
    have h1 := hr.thr.rows (f := skip p) (n' := n) fun i hi => skip_lt hi
    have h2 := h1.turn.rows (f := skip q) (n' := m) fun i hi => skip_lt hi
    exact h2.turn.congr hX
  · refine hr.min (s + 2) ?_
    have h1 : Thr n m s fun i j => A (skip p i) (skip q j) := hs.thr.congr fun i j hi hj => (hX i j hi hj).symm
    have h2 := (Thr.one_row (A := fun i j => A (skip p j) i) h1.turn hq).turn
    exact Thr.one_row (A := A) h2 hp
theorem smF_lo {a : LL} {row col : Int} : ∀ {i : Nat}, (i : Int) ≤ row → smF a row col i = (List.range i).map fun k => smR a col (skip row.toNat k)
  | 0, _ => rfl
  | i + 1, h => by
    rw [smF_yes (by omega), smF_lo (by omega), List.range_succ, List.map_append]
    congr 1
    show _ = [smR a col (skip row.toNat i)]
    unfold skip
    rw [if_pos (by omega)]
theorem smF_hi {a : LL} {row col : Int} (h0 : 0 ≤ row) : ∀ i : Nat, smF a row col (row.toNat + 1 + i) = (List.range (row.toNat + i)).map fun k => smR a col (skip row.toNat k)
  | 0 => by
    show smF a row col (row.toNat + 1) = _
    rw [smF_no (by omega), smF_lo (by omega)]; rfl
  | i + 1 => by
    show smF a row col (row.toNat + 1 + i + 1) = (List.range (row.toNat + i + 1)).map _
    rw [smF_yes (by omega), smF_hi h0 i, List.range_succ, List.map_append]
    congr 1
    show _ = [smR a col (skip row.toNat (row.toNat + i))]
    unfold skip
    rw [if_neg (by omega)]
    congr 2; omega
theorem smR_len {a : LL} {col : Int} {j : Nat} (h0 : 0 ≤ col) (h : col < (gd [] a j).length) : (smR a col j).length + 1 = (gd [] a j).length := by
  unfold smR
  rw [List.length_append, List.length_take, List.length_drop]; omega
theorem smR_gd {a : LL} {col : Int} {j k : Nat} (h0 : 0 ≤ col) (h : col < (gd [] a j).length) : gd 0 (smR a col j) k = gd 0 (gd [] a j) (skip col.toNat k) := by
  unfold smR skip
  generalize gd [] a j = r at h ⊢
  unfold gd
  by_cases hk : k < col.toNat
  · rw [if_pos hk, List.getElem?_append_left (by rw [List.length_take]; omega), List.getElem?_take_of_lt hk]
  · rw [if_neg hk, List.getElem?_append_right (by rw [List.length_take]; omega), List.length_take, List.getElem?_drop]
    congr 2; omega
structure PaI (a : LL) (row col : Int) : Prop where
  chk : mchk a = 0
  r0 : 0 ≤ row
  r1 : row < a.length
  c0 : 0 ≤ col
  c1 : col < (gd [] a 0).length
  n2 : 2 ≤ a.length
  m2 : 2 ≤ (gd [] a 0).length
theorem PaI.pre {a : LL} {row col : Int} (h : PaI a row col) : a.length ≤ 16 ∧ 0 ≤ col ∧ col < 16 ∧ ∀ r, r ∈ a → col < r.length ∧ r.length ≤ 16 := by
  have ho := Okm.of h.chk
  have := h.c0
  have h1 := h.c1
  have h2 := ho.m16
  refine ⟨ho.n16, by omega, by omega, fun r hr => ?_⟩
  rw [ho.rect.2 r hr]; omega
theorem PaI.law {a : LL} {row col : Int} (h : PaI a row col) : mchk (smF a row col a.length) = 0 ∧ ((rankL (smF a row col a.length)).1 ≤ (rankL a).1 ∧ (rankL a).1 - 2 ≤ (rankL (smF a row col a.length)).1) := by
  have ho := Okm.of h.chk
  have e0 := h.r0
  have e1 := h.r1
  have e2 := h.c0
  have e3 := h.c1
  have e4 := h.n2
  have e5 := h.m2
  have e6 := ho.n16
  have e7 := ho.m16
  obtain ⟨n, hn⟩ : ∃ n, a.length = n + 1 := ⟨a.length - 1, by omega⟩
  obtain ⟨m, hm⟩ : ∃ m, (gd [] a 0).length = m + 1 := ⟨(gd [] a 0).length - 1, by omega⟩
  have es : smF a row col a.length = (List.range n).map fun k => smR a col (skip row.toNat k) := by
    have := smF_hi (a := a) (col := col) e0 (n - row.toNat)
    rw [show row.toNat + 1 + (n - row.toNat) = a.length by omega, show row.toNat + (n - row.toNat) = n by omega] at this
    exact this
  rw [hn, hm] at ho
  have hrow : ∀ k, k < n → (gd [] a (skip row.toNat k)).length = m + 1 := fun k hk => ho.rect.row (skip_lt hk)
  have hR : Okm (smF a row col a.length) n m := by
    refine ⟨⟨by rw [es]; simp, fun r hr => ?_⟩, by omega, by omega, by omega, by omega⟩
    rw [es] at hr
    obtain ⟨k, hk, rfl⟩ := List.mem_map.1 hr
    have h1 := hrow k (List.mem_range.1 hk)
    have := smR_len (a := a) (j := skip row.toNat k) e2 (by omega)
    omega
  have hX : ∀ i j, i < n → j < m → mxL (smF a row col a.length) i j = mxL a (skip row.toNat i) (skip col.toNat j) := fun i j hi hj => by
    have : gd [] (smF a row col a.length) i = smR a col (skip row.toNat i) := by
      rw [es]
      show ((List.map _ _)[i]?).getD [] = _
      rw [List.getElem?_map, List.getElem?_range hi]; rfl
    unfold mxL
    rw [this]
    have h1 := hrow i hi
    exact smR_gd e2 (by omega)
  obtain ⟨r, q1, q2⟩ := rank_ok ho
  obtain ⟨s, k1, k2⟩ := rank_ok hR
  have := part_rank (by omega) (by omega) hX q2 k2
  rw [q1, k1]
  exact ⟨hR.chk, by simp only; omega, by simp only; omega⟩
def rbB (a : LL) (row col rank : Int) : Bool := decide (row < 0 ∨ (a.length : Int) ≤ row ∨ col < 0 ∨ ((gd [] a 0).length : Int) ≤ col ∨ a.length < 2 ∨ (gd [] a 0).length < 2 ∨ ((rankL (smF a row col a.length)).1 ≤ rank ∧ rank - 2 ≤ (rankL (smF a row col a.length)).1))
theorem rbB_true {a : LL} {row col : Int} (h : mchk a = 0) : rbB a row col (rankL a).1 = true := by
  unfold rbB
  rw [decide_eq_true_eq]
  by_cases h1 : row < 0 ∨ (a.length : Int) ≤ row ∨ col < 0 ∨ ((gd [] a 0).length : Int) ≤ col ∨ a.length < 2 ∨ (gd [] a 0).length < 2
  · rcases h1 with h1 | h1 | h1 | h1 | h1 | h1
    · exact .inl h1
    · exact .inr (.inl h1)
    · exact .inr (.inr (.inl h1))
    · exact .inr (.inr (.inr (.inl h1)))
    · exact .inr (.inr (.inr (.inr (.inl h1))))
    · exact .inr (.inr (.inr (.inr (.inr (.inl h1)))))
  · have hP : PaI a row col := ⟨h, by omega, by omega, by omega, by omega, by omega, by omega⟩
    exact .inr (.inr (.inr (.inr (.inr (.inr hP.law.2)))))
structure DnI (n : Nat) (i : Int) (at_ : List Int) : Prop where
  lo : -1 ≤ i
  hi : i < n
  eq : at_ = (List.range ((n : Int) - 1 - i).toNat).map fun j : Nat => (n : Int) - 1 - (j : Int)
theorem DnI.start {n : Nat} : DnI n ((n : Int) - 1) [] := ⟨by omega, by omega, by rw [show ((n : Int) - 1 - ((n : Int) - 1)).toNat = 0 by omega]; rfl⟩
theorem DnI.step {n : Nat} {i : Int} {at_ : List Int} (h : DnI n i at_) (hi : 0 ≤ i) : DnI n (i - 1) (at_ ++ [i]) := by
  have h1 := h.hi
  refine ⟨by omega, by omega, ?_⟩
  rw [show ((n : Int) - 1 - (i - 1)).toNat = ((n : Int) - 1 - i).toNat + 1 by omega, List.range_succ, List.map_append, ← h.eq]
  congr 1
  show [i] = [(n : Int) - 1 - (((n : Int) - 1 - i).toNat : Int)]
  congr 1; omega
theorem DnI.len {n : Nat} {i : Int} {at_ : List Int} (h : DnI n i at_) : (at_.length : Int) = n - 1 - i := by
  rw [h.eq]; have := h.hi; simp; omega
theorem DnI.fin {n : Nat} {i : Int} {at_ : List Int} (h : DnI n i at_) (hi : i < 0) : at_ = (List.range n).map fun j : Nat => (n : Int) - 1 - (j : Int) := by
  rw [h.eq, show i = -1 by have := h.lo; omega, show ((n : Int) - 1 - -1).toNat = n by omega]
theorem perm_law {a : LL} (h : mchk a = 0) {i : Int} {at_ : List Int} (hd : DnI a.length i at_) (hi : i < 0) : (rowsL a at_).2 = 0 ∧ (rankL (rowsL a at_).1).2 = 0 ∧ (rankL (rowsL a at_).1).1 = (rankL a).1 := by
  have ho := Okm.of h
  have e := hd.fin hi
  subst e
  generalize hn : a.length = n at ho
  generalize hm : (gd [] a 0).length = m at ho
  have n0 := ho.n0
  have n16 := ho.n16
  have er : rowsL a ((List.range n).map fun j : Nat => (n : Int) - 1 - (j : Int)) = ((List.range n).map fun j : Nat => gd [] a (n - 1 - j), 0) := by
    unfold rowsL
    rw [if_neg (by rw [h]; simp), if_neg (by simp; omega), if_neg (by simp; omega), if_pos]
    · congr 1
      rw [List.map_map]
      refine List.map_congr_left fun j hj => ?_
      have := List.mem_range.1 hj
      show gd [] a ((n : Int) - 1 - j).toNat = _
      congr 1; omega
    · intro x hx
      obtain ⟨j, hj, rfl⟩ := List.mem_map.1 hx
      have := List.mem_range.1 hj
      omega
  rw [er]
  have hg : ∀ j, j < n → gd [] ((List.range n).map fun j : Nat => gd [] a (n - 1 - j)) j = gd [] a (n - 1 - j) := fun j hj => by
    show ((List.map _ _)[j]?).getD [] = _
    rw [List.getElem?_map, List.getElem?_range hj]; rfl
  have hb : Okm ((List.range n).map fun j : Nat => gd [] a (n - 1 - j)) n m := by
    refine ⟨⟨by simp, fun r hr => ?_⟩, ho.n0, ho.n16, ho.m0, ho.m16⟩
    obtain ⟨j, hj, rfl⟩ := List.mem_map.1 hr
    have := List.mem_range.1 hj
    exact ho.rect.row (by omega)
  obtain ⟨r, q1, q2⟩ := rank_ok ho
  obtain ⟨s, k1, k2⟩ := rank_ok hb
  have k3 : RankIs n m (fun i j => mxL a (n - 1 - i) j) s := by
    have ee : ∀ i j, i < n → j < m → mxL ((List.range n).map fun j : Nat => gd [] a (n - 1 - j)) i j = mxL a (n - 1 - i) j := fun i j hi hj => by
      unfold mxL; rw [hg i hi]
    exact ⟨k2.thr.congr fun i j hi hj => (ee i j hi hj).symm, fun k hk => k2.min k (hk.congr ee)⟩
  have := rank_perm (f := fun i => n - 1 - i) (g := fun i => n - 1 - i) (fun i hi => by show n - 1 - i < n; omega) (fun i hi => ⟨by show n - 1 - i < n; omega, by show n - 1 - (n - 1 - i) = i; omega⟩) q2 k3
  rw [k1, q1, this]
  exact ⟨rfl, rfl, rfl⟩
def k_28 : Con Tc Tc.dn := ⟨28, [.ty .llU8, .ty .cInt, .ty .cInt, .ty .cInt], fun x => (fun (a : (List (List UInt8))) (row : Int) (col : Int) (rank : Int) => mchk a = 0 ∧ -1000 ≤ rank ∧ rank ≤ 1000) x.1 x.2.1 x.2.2.1 x.2.2.2.1, [.cBool], fun x => (fun (a : (List (List UInt8))) (row : Int) (col : Int) (rank : Int) => rbB a row col rank) x.1 x.2.1 x.2.2.1 x.2.2.2.1⟩
abbrev z28_1 (a : (List (List UInt8))) (row : Int) := ((0 : Int) ≤ row ∧ row < (↑a.length : Int))
abbrev z28_0 (a : (List (List UInt8))) (row : Int) (col : Int) := ((((z28_1 a row) ∧ (0 : Int) ≤ col) ∧ col < (↑(gd [] a (Int.toNat (0 : Int))).length : Int)) ∧ (2 : Int) ≤ (↑a.length : Int) → (((z28_1 a row) ∧ (0 : Int) ≤ col) ∧ col < (↑(gd [] a (Int.toNat (0 : Int))).length : Int)) ∧ (2 : Int) ≤ (↑a.length : Int))
theorem k_28_v (a : (List (List UInt8))) (row : Int) (col : Int) (rank : Int) (hp : mchk a = 0 ∧ -1000 ≤ rank ∧ rank ≤ 1000) : ((0 : Int) ≤ row → (0 : Int) ≤ row) ∧ ((0 : Int) ≤ row → (0 : Int) ≤ row) ∧ ((0 : Int) ≤ row → (0 : Int) ≤ row) ∧ ((0 : Int) ≤ row → (0 : Int) ≤ row) ∧ ((0 : Int) ≤ row ∧ row < (↑a.length : Int) → (0 : Int) ≤ row ∧ row < (↑a.length : Int)) ∧ ((0 : Int) ≤ row ∧ row < (↑a.length : Int) → (0 : Int) ≤ row ∧ row < (↑a.length : Int)) ∧ ((z28_1 a row) ∧ (0 : Int) ≤ col → (z28_1 a row) ∧ (0 : Int) ≤ col) ∧ ((z28_1 a row) ∧ (0 : Int) ≤ col → (0 : Int) ≤ (0 : Int) ∧ (0 : Int) < (↑a.length : Int)) ∧ ((z28_1 a row) ∧ (0 : Int) ≤ col → (z28_1 a row) ∧ (0 : Int) ≤ col) ∧ ((z28_1 a row) ∧ (0 : Int) ≤ col → (z28_1 a row) ∧ (0 : Int) ≤ col) ∧ ((z28_1 a row) ∧ (0 : Int) ≤ col → (z28_1 a row) ∧ (0 : Int) ≤ col) ∧ ((z28_1 a row) ∧ (0 : Int) ≤ col → (z28_1 a row) ∧ (0 : Int) ≤ col) ∧ ((z28_1 a row) ∧ (0 : Int) ≤ col → (z28_1 a row) ∧ (0 : Int) ≤ col) ∧ (((z28_1 a row) ∧ (0 : Int) ≤ col) ∧ col < (↑(gd [] a (Int.toNat (0 : Int))).length : Int) → ((z28_1 a row) ∧ (0 : Int) ≤ col) ∧ col < (↑(gd [] a (Int.toNat (0 : Int))).length : Int)) ∧ (((z28_1 a row) ∧ (0 : Int) ≤ col) ∧ col < (↑(gd [] a (Int.toNat (0 : Int))).length : Int) → ((z28_1 a row) ∧ (0 : Int) ≤ col) ∧ col < (↑(gd [] a (Int.toNat (0 : Int))).length : Int)) ∧ (((z28_1 a row) ∧ (0 : Int) ≤ col) ∧ col < (↑(gd [] a (Int.toNat (0 : Int))).length : Int) → ((z28_1 a row) ∧ (0 : Int) ≤ col) ∧ col < (↑(gd [] a (Int.toNat (0 : Int))).length : Int)) ∧ (z28_0 a row col) ∧ ((((z28_1 a row) ∧ (0 : Int) ≤ col) ∧ col < (↑(gd [] a (Int.toNat (0 : Int))).length : Int)) ∧ (2 : Int) ≤ (↑a.length : Int) → (0 : Int) ≤ (0 : Int) ∧ (0 : Int) < (↑a.length : Int)) ∧ (z28_0 a row col) ∧ (z28_0 a row col) ∧ (z28_0 a row col) ∧ (z28_0 a row col) ∧ (((((row < (0 : Int) ∨ (↑a.length : Int) ≤ row) ∨ col < (0 : Int)) ∨ (↑(gd [] a (Int.toNat (0 : Int))).length : Int) ≤ col) ∨ (↑a.length : Int) < (2 : Int)) ∨ (↑(gd [] a (Int.toNat (0 : Int))).length : Int) < (2 : Int) → true = rbB a row col rank) ∧ (((((z28_1 a row) ∧ (0 : Int) ≤ col) ∧ col < (↑(gd [] a (Int.toNat (0 : Int))).length : Int)) ∧ (2 : Int) ≤ (↑a.length : Int)) ∧ (2 : Int) ≤ (↑(gd [] a (Int.toNat (0 : Int))).length : Int) → (a.length ≤ (16 : Nat) ∧ (0 : Int) ≤ col ∧ col < (16 : Int) ∧ ∀ (r : List UInt8), r ∈ a → col < (↑r.length : Int) ∧ r.length ≤ (16 : Nat)) ∧ True ∧ ((rankL (smF a row col a.length)).fst ≤ rank → (rankL (smF a row col a.length)).fst ≤ rank) ∧ ((rankL (smF a row col a.length)).fst ≤ rank → I64 (rank - (2 : Int))) ∧ ((rankL (smF a row col a.length)).fst ≤ rank → (rankL (smF a row col a.length)).fst ≤ rank) ∧ ((rankL (smF a row col a.length)).fst ≤ rank → (rankL (smF a row col a.length)).fst ≤ rank) ∧ ((rankL (smF a row col a.length)).fst ≤ rank → (rankL (smF a row col a.length)).fst ≤ rank) ∧ (decide ((rankL (smF a row col a.length)).fst ≤ rank) && decide (rank - (2 : Int) ≤ (rankL (smF a row col a.length)).fst)) = rbB a row col rank) := by
  delta z28_1 z28_0
  have h1 := (Okm.of hp.1).n0
  have h2 := (Okm.of hp.1).n16
  have h3 := (Okm.of hp.1).m16
  have h4 := @PaI.pre a row col
  have h5 := @PaI.law a row col
  have h10 : ∀ r, r ∈ a → r.length = (gd [] a 0).length := (Okm.of hp.1).rect.2
  have h6 : 0 ≤ row ∧ row < a.length → 0 ≤ col ∧ col < (gd [] a 0).length → 2 ≤ (a.length : Int) → 2 ≤ ((gd [] a 0).length : Int) → PaI a row col := fun q1 q2 q3 q4 => ⟨hp.1, q1.1, q1.2, q2.1, q2.2, by omega, by omega⟩
  obtain ⟨p1, p2, p3⟩ := hp
  simp only [show Int.toNat 0 = 0 from rfl]
  (repeat' (first | apply And.intro | intro _)) <;> first | assumption | trivial | omega | (grind [rbB, I64]) | trace_state
theorem k_28_ok : k_28.Ok Try.prog tD := con_ok tD_ok (Δ := [k_45, k_17]) ⟨k_45_ok, k_17_ok, trivial⟩ (Ω := []) trivial k_28 F28_ok F28_call (fun _ => []) (fun _ => trivial) 0 (fun x => (fun (a : (List (List UInt8))) (row : Int) (col : Int) (rank : Int) => (fun _ => none)) x.1 x.2.1 x.2.2.1 x.2.2.2.1) fun x hp => Eq.mp (by kernel_rfl) (k_28_v x.1 x.2.1 x.2.2.1 x.2.2.2.1 hp)
def i_8_0 (a : (List (List UInt8))) (i : Int) (at_ : (List Int)) : Prop := DnI a.length i at_
def k_8 : Con Tc Tc.dn := ⟨8, [.ty .llU8, .ty .cInt, .ty .cInt], fun x => (fun (a : (List (List UInt8))) (row : Int) (col : Int) => True) x.1 x.2.1 x.2.2.1, [.cBool], fun x => (fun (a : (List (List UInt8))) (row : Int) (col : Int) => true) x.1 x.2.1 x.2.2.1⟩
theorem k_8_v (a : (List (List UInt8))) (row : Int) (col : Int) : True ∧ True ∧ (true = !true → false = true) ∧ (true = !false → (¬(rankL a).snd = (0 : Int) → ((rankL a).fst == (0 : Int)) = true) ∧ ((rankL a).snd = (0 : Int) → I64 ((↑a.length : Int) - (1 : Int)) ∧ i_8_0 a ((↑a.length : Int) - (1 : Int)) [] ∧ ∀ (x : Int) (x_1 : List Int), i_8_0 a x x_1 → ((0 : Int) ≤ x → (x_1.length + (1 : Nat)) * (8 : Nat) ≤ (140737488355328 : Nat) ∧ I64 (x - (1 : Int)) ∧ i_8_0 a (x - (1 : Int)) (x_1 ++ [x]) ∧ (x - (1 : Int) + (1 : Int)).toNat < (x + (1 : Int)).toNat) ∧ (x < (0 : Int) → True ∧ True ∧ ((rowsL a x_1).snd = (0 : Int) → (rowsL a x_1).snd = (0 : Int)) ∧ ((rowsL a x_1).snd = (0 : Int) → (rowsL a x_1).snd = (0 : Int)) ∧ ((rowsL a x_1).snd = (0 : Int) ∧ (rankL (rowsL a x_1).fst).snd = (0 : Int) → (rowsL a x_1).snd = (0 : Int) ∧ (rankL (rowsL a x_1).fst).snd = (0 : Int)) ∧ ((rowsL a x_1).snd = (0 : Int) ∧ (rankL (rowsL a x_1).fst).snd = (0 : Int) → (rowsL a x_1).snd = (0 : Int) ∧ (rankL (rowsL a x_1).fst).snd = (0 : Int)) ∧ ((rowsL a x_1).snd = (0 : Int) ∧ (rankL (rowsL a x_1).fst).snd = (0 : Int) → (rowsL a x_1).snd = (0 : Int) ∧ (rankL (rowsL a x_1).fst).snd = (0 : Int)) ∧ (((rowsL a x_1).snd = (0 : Int) ∧ (rankL (rowsL a x_1).fst).snd = (0 : Int)) ∧ (rankL (rowsL a x_1).fst).fst = (rankL a).fst → ((rowsL a x_1).snd = (0 : Int) ∧ (rankL (rowsL a x_1).fst).snd = (0 : Int)) ∧ (rankL (rowsL a x_1).fst).fst = (rankL a).fst) ∧ (((rowsL a x_1).snd = (0 : Int) ∧ (rankL (rowsL a x_1).fst).snd = (0 : Int)) ∧ (rankL (rowsL a x_1).fst).fst = (rankL a).fst → ((rowsL a x_1).snd = (0 : Int) ∧ (rankL (rowsL a x_1).fst).snd = (0 : Int)) ∧ (rankL (rowsL a x_1).fst).fst = (rankL a).fst) ∧ (((rowsL a x_1).snd = (0 : Int) ∧ (rankL (rowsL a x_1).fst).snd = (0 : Int)) ∧ (rankL (rowsL a x_1).fst).fst = (rankL a).fst → ((rowsL a x_1).snd = (0 : Int) ∧ (rankL (rowsL a x_1).fst).snd = (0 : Int)) ∧ (rankL (rowsL a x_1).fst).fst = (rankL a).fst) ∧ (((rowsL a x_1).snd = (0 : Int) ∧ (rankL (rowsL a x_1).fst).snd = (0 : Int)) ∧ (rankL (rowsL a x_1).fst).fst = (rankL a).fst → ((rowsL a x_1).snd = (0 : Int) ∧ (rankL (rowsL a x_1).fst).snd = (0 : Int)) ∧ (rankL (rowsL a x_1).fst).fst = (rankL a).fst) ∧ (((rowsL a x_1).snd = (0 : Int) ∧ (rankL (rowsL a x_1).fst).snd = (0 : Int)) ∧ (rankL (rowsL a x_1).fst).fst = (rankL a).fst → mchk a = (0 : Int) ∧ (-1000 : Int) ≤ (rankL a).fst ∧ (rankL a).fst ≤ (1000 : Int)) ∧ (((rowsL a x_1).snd = (0 : Int) ∧ (rankL (rowsL a x_1).fst).snd = (0 : Int)) ∧ (rankL (rowsL a x_1).fst).fst = (rankL a).fst → ((rowsL a x_1).snd = (0 : Int) ∧ (rankL (rowsL a x_1).fst).snd = (0 : Int)) ∧ (rankL (rowsL a x_1).fst).fst = (rankL a).fst) ∧ ((rowsL a x_1).snd == (0 : Int) && (rankL (rowsL a x_1).fst).snd == (0 : Int) && (rankL (rowsL a x_1).fst).fst == (rankL a).fst && rbB a row col (rankL a).fst) = true))) := by
  have h1 := @rank_err a
  have h2 := @rank_zero a
  have h3 := @DnI.start a.length
  have h4 := @DnI.step a.length
  have h5 := @DnI.len a.length
  have h6 := @perm_law a
  have h7 := @rbB_true a row col
  have h8 : mchk a = 0 → (0 ≤ (rankL a).1 ∧ (rankL a).1 ≤ 16) ∧ a.length ≤ 16 ∧ 0 < a.length := fun h => by
    obtain ⟨r, e, e2⟩ := rank_ok (Okm.of h)
    have := e2.le
    have := (Okm.of h).n16
    rw [e]
    exact ⟨⟨by simp only; omega, by simp only; omega⟩, (Okm.of h).n16, (Okm.of h).n0⟩
  have h9 := @DnI.lo a.length
  (repeat' (first | apply And.intro | intro _)) <;> first | assumption | trivial | omega | (grind [i_8_0, I64]) | trace_state
theorem k_8_ok : k_8.Ok Try.prog tD := con_ok tD_ok (Δ := [k_14, k_24, k_20, k_28]) ⟨k_14_ok, k_24_ok, k_20_ok, k_28_ok, trivial⟩ (Ω := []) trivial k_8 F8_ok F8_call (fun _ => []) (fun _ => trivial) 0 (fun x => (fun (a : (List (List UInt8))) (row : Int) (col : Int) => (fun k => bif Nat.beq k 0 then some (.inv [.sl 10 .cInt, .ow 9 .cInt] (fun zo zv => (fun (i : Int) (at_ : (List Int)) => i_8_0 a i at_) zv.1 zv.2.1) (fun zo zv => (fun (i : Int) (at_ : (List Int)) => (i + 1).toNat) zv.1 zv.2.1)) else none)) x.1 x.2.1 x.2.2.1) fun x hp => Eq.mp (by kernel_rfl) (k_8_v x.1 x.2.1 x.2.2.1)
theorem MatrixParts_walk {w : World} (a : (List (List UInt8))) (Aa : Option Addr) (na ca : Nat) (ra : GoT.rep w w.heap.size [.slice Aa na ca] a) (row : Int) (wrow : (Lit.int .i64 row).wf = true) (col : Int) (wcol : (Lit.int .i64 col).wf = true) : Calls Try.prog 8 #[.slice Aa na ca, I row, I col] w fun e w' => e = .returned (.bool true) ∧ Below w.heap.size w w' := by
  have rrow : GoT.rep w w.heap.size [I row] row := ⟨rfl, i64_bd wrow⟩
  have rcol : GoT.rep w w.heap.size [I col] col := ⟨rfl, i64_bd wcol⟩
  have hf : Fn Try.prog 8 [(tD.en .llU8 a).av tD.toTE N0, (tD.en .cInt row).av tD.toTE N0, (tD.en .cInt col).av tD.toTE N0] (.v (.bool true)) := k_8_ok.2 (a, row, col, ()) N0 trivial
  exact fn_law (vs := [.slice Aa na ca, I row, I col]) hf trivial (.cons (arg_one tD_ok (t := .llU8) rfl ((LG.list (LG.list LG.u8)).av ra)) (.cons (arg_one tD_ok (t := .cInt) rfl (LG.i64.av rrow)) (.cons (arg_one tD_ok (t := .cInt) rfl (LG.i64.av rcol)) .nil)))
end Go.Proofs.Ytjfakndleagacaa
