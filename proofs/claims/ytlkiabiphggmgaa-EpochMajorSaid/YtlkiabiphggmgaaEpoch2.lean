/- Contracts of package epoch: a turn. No condition. -/
import Derived.Test.YtlkiabiphggmgaaEpoch
import Derived.Outline
import Derived.Lib.SliceRun
import Derived.Deep.RegionHeld3
namespace Go.Proofs.Ytlkiabiphggmgaa
set_option linter.unusedSimpArgs false
set_option linter.unusedVariables false
open Go.ChangeShapes Go.WideShapes Go.ChangeAt Go.RowKit
open Go.ChangeMaps (open_string shut_string)
set_option maxRecDepth 100000 in
set_option maxHeartbeats 2000000 in
theorem eclone_any (l : List Epoch) (A : Option Addr) (n c : Nat) (w : World) (hr : GoT.rep w w.heap.size [.slice A n c] l) (h0 : 0 < n) (h64 : n ≤ 64) :
    Calls Try.prog 22 #[.slice A n c] w fun e w' => ∃ v bs, bs = w.heap.size ∧ bs ≤ w'.heap.size ∧ e = .returned v ∧ w'.ownsRow bs 25 2 v l.length (l.flatMap Epoch.F.enc) ∧ Below w.heap.size w w' := by
  have Hr := Lib.hid hr
  obtain ⟨ln0, l1, l2⟩ := rep_len hr
  have ln := Lib.hid ln0
  obtain ⟨b, off, x, rfl, -⟩ := Epoch.get hr 0 h0
  clear hr
  have hq : (w.alloc (.cells #[] 25)).ownsRow w.heap.size 25 2 (.slice (some ⟨w.heap.size, 0, none⟩) 0 0) 0 [] := World.ownsRow_lit w #[] 0 (Nat.le_refl _) (by decide) (by simp)
  have q22 : ∀ (w : World) (a : Option Addr) (n c n' c' : Nat), (binOp .eql 22 (.slice a n c) (.slice none n' c')).run Try.prog w = .ok (.bool a.isNone) w := fun w a n c n' c' => Lib.run_eql_slice_nil w _ _ a n c n' c' Try.underlying22
  have b0 := Below.refl w.heap.size w
  have HK := Known.nil w
  go_enter Try.func22, Try.ntmps22
  go_wp2_with (first | (at_builtin; refine wpList_append_list Epoch.F rfl _ _ 22 rfl w.heap.size 25 Try.underlying22 16 Epoch.info _ [] l rfl hq _ _ _ rfl ?src ?sz (by decide) (by simp) ?rest; (case src => exact src_rep Epoch.F _ Epoch.flat (GoT.step Hr.out (by (repeat' (first | (with_reducible exact Below.refl _ _) | (with_reducible assumption) | (with_reducible refine ba ?_ _) | (with_reducible refine bdr ?_) | (with_reducible refine below_rg ?_ _ _) | (with_reducible refine bset ?_ _ ?_ _) | (refine bt ?_ (by assumption)) | (simp; done) | (simp; omega)))))); (case sz => (have := ln.out; simp only [List.length_nil]; omega)); intro v' w1 ho hg))
  go_ret
  have hw1 : w.heap.size ≤ w1.heap.size := (bgr (ba (Below.refl w.heap.size w) _) hg (fun k hk => by cases hk; exact Nat.le_refl _)).size
  exact ⟨_, _, rfl, hw1, rfl, (by simpa using ho : w1.ownsRow w.heap.size 25 (GoT.size Epoch) v' l.length (l.flatMap Epoch.F.enc)), bgr (ba (Below.refl _ _) _) hg (fun k hk => by cases hk; exact Nat.le_refl _)⟩
def TurnR (w w' : World) (p : List Epoch × Int) (e : Ending) : Prop := ∃ A n c, e = .returned (.tuple #[.slice A n c, I p.2]) ∧ GoT.rep w' w'.heap.size [.slice A n c] p.1 ∧ Below w.heap.size w w'
theorem rep_nil {α : Type} [GoT α] (w : World) (B : Nat) : GoT.rep w B [.slice none 0 0] ([] : List α) := ⟨none, 0, 0, rfl, rfl, Nat.le_refl _, by decide, .inl rfl⟩
theorem TurnR.good {w w' : World} {p : List Epoch × Int} {xs : List Epoch} {v : Value} {A : Option Addr} {n c : Nat} (h : p = (xs, 0)) (hv : v = .slice A n c) (hr : GoT.rep w' w'.heap.size [.slice A n c] xs) (hb : Below w.heap.size w w') : TurnR w w' p (.returned (.tuple #[v, I 0])) := by
  subst h
  subst hv
  exact ⟨A, n, c, rfl, hr, hb⟩
theorem TurnR.bad {w w' : World} {p : List Epoch × Int} {e : Int} (h : p = ([], e)) (hb : Below w.heap.size w w') : TurnR w w' p (.returned (.tuple #[.slice none 0 0, I e])) := by
  subst h
  exact ⟨none, 0, 0, rfl, rep_nil _ _, hb⟩
set_option maxRecDepth 100000 in
set_option maxHeartbeats 4000000 in
theorem eturn_any (l : List Epoch) (node : Int) (A : Option Addr) (n c : Nat) (w : World) (hr : GoT.rep w w.heap.size [.slice A n c] l) :
    Calls Try.prog 8 #[.slice A n c, I node] w fun e w' => TurnR w w' (Epoch.turnP l node) e := by
  have Hr := Lib.hid hr
  obtain ⟨ln0, l1, l2⟩ := rep_len hr
  have ln := Lib.hid ln0
  clear hr ln0
  by_cases h0 : Epoch.checkP l = 0
  · have h64 : n ≤ 64 := by have := ln.out; have := Epoch.check_len h0; omega
    by_cases hn0 : n = 0
    · subst hn0
      have hv := Lib.hid (show Epoch.turnP l node = ([], 5) by unfold Epoch.turnP; rw [if_pos h0, if_pos ln.out.symm])
      have b0 := Below.refl w.heap.size w
      have HK := Known.nil w
      go_enter Try.func8, Try.ntmps8
      go_wp2_with (first | (go_at_call 15; (refine ( echeck_any l _ _ _ _ (GoT.step Hr.out (by (repeat' (first | (with_reducible exact Below.refl _ _) | (with_reducible assumption) | (with_reducible refine ba ?_ _) | (with_reducible refine bdr ?_) | (with_reducible refine below_rg ?_ _ _) | (with_reducible refine bset ?_ _ ?_ _) | (refine bt ?_ (by assumption)) | (simp; done) | (simp; omega)))))).mono ?_); rintro e w1 ⟨rfl, b1⟩; have b9 : Below w.heap.size w _ := bt (by (repeat' (first | (with_reducible exact Below.refl _ _) | (with_reducible assumption) | (with_reducible refine ba ?_ _) | (with_reducible refine bdr ?_) | (with_reducible refine below_rg ?_ _ _) | (with_reducible refine bset ?_ _ ?_ _) | (refine bt ?_ (by assumption)) | (simp; done) | (simp; omega)))) b1; have HK' := Known.step b1 (by (repeat' (first | (with_reducible exact HK) | (with_reducible apply Known.drew) | (with_reducible apply Known.alloc) | (with_reducible apply Known.allocO) | (with_reducible apply Known.setCell)))); replace b0 := b9; clear b9 b1; (try clear kn); (try clear c0 f0 hz); replace HK := HK'; clear HK'; ((try simp only [World.size_alloc, World.size_setCell, World.size_drew] at HK); have kn := HK; simp [Known, setL, NeAll] at kn); obtain ⟨c0, f0⟩ := bcell b0; have hz := b0.size))
      go_ret2
      exact TurnR.bad hv.out (by (repeat' (first | (with_reducible exact Below.refl _ _) | (with_reducible assumption) | (with_reducible refine ba ?_ _) | (with_reducible refine bdr ?_) | (with_reducible refine below_rg ?_ _ _) | (with_reducible refine bset ?_ _ ?_ _) | (refine bt ?_ (by assumption)) | (simp; done) | (simp; omega))))
    by_cases hnode : node < 0 ∨ 12 ≤ node
    · have hv := Lib.hid (show Epoch.turnP l node = ([], 3) by unfold Epoch.turnP; rw [if_pos h0, if_neg (by have := ln.out; omega), if_pos hnode])
      rcases hnode with hnode | hnode
      · have b0 := Below.refl w.heap.size w
        have HK := Known.nil w
        go_enter Try.func8, Try.ntmps8
        go_wp2_with (first | (go_at_call 15; (refine ( echeck_any l _ _ _ _ (GoT.step Hr.out (by (repeat' (first | (with_reducible exact Below.refl _ _) | (with_reducible assumption) | (with_reducible refine ba ?_ _) | (with_reducible refine bdr ?_) | (with_reducible refine below_rg ?_ _ _) | (with_reducible refine bset ?_ _ ?_ _) | (refine bt ?_ (by assumption)) | (simp; done) | (simp; omega)))))).mono ?_); rintro e w1 ⟨rfl, b1⟩; have b9 : Below w.heap.size w _ := bt (by (repeat' (first | (with_reducible exact Below.refl _ _) | (with_reducible assumption) | (with_reducible refine ba ?_ _) | (with_reducible refine bdr ?_) | (with_reducible refine below_rg ?_ _ _) | (with_reducible refine bset ?_ _ ?_ _) | (refine bt ?_ (by assumption)) | (simp; done) | (simp; omega)))) b1; have HK' := Known.step b1 (by (repeat' (first | (with_reducible exact HK) | (with_reducible apply Known.drew) | (with_reducible apply Known.alloc) | (with_reducible apply Known.allocO) | (with_reducible apply Known.setCell)))); replace b0 := b9; clear b9 b1; (try clear kn); (try clear c0 f0 hz); replace HK := HK'; clear HK'; ((try simp only [World.size_alloc, World.size_setCell, World.size_drew] at HK); have kn := HK; simp [Known, setL, NeAll] at kn); obtain ⟨c0, f0⟩ := bcell b0; have hz := b0.size))
        go_ret2
        exact TurnR.bad hv.out (by (repeat' (first | (with_reducible exact Below.refl _ _) | (with_reducible assumption) | (with_reducible refine ba ?_ _) | (with_reducible refine bdr ?_) | (with_reducible refine below_rg ?_ _ _) | (with_reducible refine bset ?_ _ ?_ _) | (refine bt ?_ (by assumption)) | (simp; done) | (simp; omega))))
      · have h2 : ¬ node < 0 := by omega
        have b0 := Below.refl w.heap.size w
        have HK := Known.nil w
        go_enter Try.func8, Try.ntmps8
        go_wp2_with (first | (go_at_call 15; (refine ( echeck_any l _ _ _ _ (GoT.step Hr.out (by (repeat' (first | (with_reducible exact Below.refl _ _) | (with_reducible assumption) | (with_reducible refine ba ?_ _) | (with_reducible refine bdr ?_) | (with_reducible refine below_rg ?_ _ _) | (with_reducible refine bset ?_ _ ?_ _) | (refine bt ?_ (by assumption)) | (simp; done) | (simp; omega)))))).mono ?_); rintro e w1 ⟨rfl, b1⟩; have b9 : Below w.heap.size w _ := bt (by (repeat' (first | (with_reducible exact Below.refl _ _) | (with_reducible assumption) | (with_reducible refine ba ?_ _) | (with_reducible refine bdr ?_) | (with_reducible refine below_rg ?_ _ _) | (with_reducible refine bset ?_ _ ?_ _) | (refine bt ?_ (by assumption)) | (simp; done) | (simp; omega)))) b1; have HK' := Known.step b1 (by (repeat' (first | (with_reducible exact HK) | (with_reducible apply Known.drew) | (with_reducible apply Known.alloc) | (with_reducible apply Known.allocO) | (with_reducible apply Known.setCell)))); replace b0 := b9; clear b9 b1; (try clear kn); (try clear c0 f0 hz); replace HK := HK'; clear HK'; ((try simp only [World.size_alloc, World.size_setCell, World.size_drew] at HK); have kn := HK; simp [Known, setL, NeAll] at kn); obtain ⟨c0, f0⟩ := bcell b0; have hz := b0.size))
        go_ret2
        exact TurnR.bad hv.out (by (repeat' (first | (with_reducible exact Below.refl _ _) | (with_reducible assumption) | (with_reducible refine ba ?_ _) | (with_reducible refine bdr ?_) | (with_reducible refine below_rg ?_ _ _) | (with_reducible refine bset ?_ _ ?_ _) | (refine bt ?_ (by assumption)) | (simp; done) | (simp; omega))))
    obtain ⟨m, rfl⟩ : ∃ m : Nat, node = (m : Int) := ⟨node.toNat, by omega⟩
    have hm : m < 12 := by omega
    have hm2 : ¬ (m : Int) < 0 := by omega
    have hm3 : ¬ (12 : Int) ≤ (m : Int) := by omega
    by_cases hn64 : n = 64
    · subst hn64
      have hv := Lib.hid (show Epoch.turnP l m = ([], 2) by unfold Epoch.turnP; rw [if_pos h0, if_neg (by have := ln.out; omega), if_neg hnode, if_pos ln.out.symm])
      have b0 := Below.refl w.heap.size w
      have HK := Known.nil w
      go_enter Try.func8, Try.ntmps8
      go_wp2_with (first | (go_at_call 15; (refine ( echeck_any l _ _ _ _ (GoT.step Hr.out (by (repeat' (first | (with_reducible exact Below.refl _ _) | (with_reducible assumption) | (with_reducible refine ba ?_ _) | (with_reducible refine bdr ?_) | (with_reducible refine below_rg ?_ _ _) | (with_reducible refine bset ?_ _ ?_ _) | (refine bt ?_ (by assumption)) | (simp; done) | (simp; omega)))))).mono ?_); rintro e w1 ⟨rfl, b1⟩; have b9 : Below w.heap.size w _ := bt (by (repeat' (first | (with_reducible exact Below.refl _ _) | (with_reducible assumption) | (with_reducible refine ba ?_ _) | (with_reducible refine bdr ?_) | (with_reducible refine below_rg ?_ _ _) | (with_reducible refine bset ?_ _ ?_ _) | (refine bt ?_ (by assumption)) | (simp; done) | (simp; omega)))) b1; have HK' := Known.step b1 (by (repeat' (first | (with_reducible exact HK) | (with_reducible apply Known.drew) | (with_reducible apply Known.alloc) | (with_reducible apply Known.allocO) | (with_reducible apply Known.setCell)))); replace b0 := b9; clear b9 b1; (try clear kn); (try clear c0 f0 hz); replace HK := HK'; clear HK'; ((try simp only [World.size_alloc, World.size_setCell, World.size_drew] at HK); have kn := HK; simp [Known, setL, NeAll] at kn); obtain ⟨c0, f0⟩ := bcell b0; have hz := b0.size))
      go_ret2
      exact TurnR.bad hv.out (by (repeat' (first | (with_reducible exact Below.refl _ _) | (with_reducible assumption) | (with_reducible refine ba ?_ _) | (with_reducible refine bdr ?_) | (with_reducible refine below_rg ?_ _ _) | (with_reducible refine bset ?_ _ ?_ _) | (refine bt ?_ (by assumption)) | (simp; done) | (simp; omega))))
    obtain ⟨q, rfl⟩ : ∃ q, n = q + 1 := ⟨n - 1, by omega⟩
    obtain ⟨b, off, y, rfl, hb, hok, -, hx, -, d0, d1⟩ := Epoch.get Hr.out q (by omega)
    have hL := Lib.hid (Epoch.lastM_get ln.out.symm hx)
    have hy := y.members.lt
    obtain ⟨z, hz⟩ : ∃ z : U64, z = U64.of (y.members.n ^^^ 2 ^ m) := ⟨_, rfl⟩
    have hnx := Lib.hid (show Epoch.next l m = ⟨(q : Int) + 1 + 1, z⟩ by unfold Epoch.next; rw [hL.out, hz, ← ln.out]; simp)
    have hxor : bits .xor .u64 (y.members.n : Int) (IntKind.u64.wrap (2 ^ m)) = (z.n : Int) := by
      rw [xor_pow (by omega) hy, hz, U64.of_n (Nat.xor_lt_two_pow (n := 64) hy (Nat.pow_lt_pow_right (by decide) (by omega)))]
    have hq64 : ¬ (q : Int) + 1 = 64 := by omega
    have hv0 := Lib.hid (show Epoch.turnP l m = if Epoch.rightE l ⟨(q : Int) + 1 + 1, z⟩ = 0 then (l ++ [⟨(q : Int) + 1 + 1, z⟩], 0) else ([], Epoch.rightE l ⟨(q : Int) + 1 + 1, z⟩) by
      unfold Epoch.turnP; rw [if_pos h0, if_neg (by have := ln.out; omega), if_neg hnode, if_neg (by have := ln.out; omega), hnx.out])
    have hoks := Lib.hid (show ∀ x, x ∈ l ++ [⟨(q : Int) + 1 + 1, z⟩] → x.ok by
      intro x hx
      rcases List.mem_append.1 hx with h | h
      · exact (list_open Epoch.F.enc _ Epoch.flat Hr.out).2.2.2.1 x h
      · rw [List.mem_singleton.1 h]; show _ ∧ _; constructor <;> (simp only; omega))
    clear hx hok hL hz hnx
    have b0 := Below.refl w.heap.size w
    have HK := Known.nil w
    go_enter Try.func8, Try.ntmps8
    go_wp2_with (first | (go_at_call 15; (refine ( echeck_any l _ _ _ _ (GoT.step Hr.out (by (repeat' (first | (with_reducible exact Below.refl _ _) | (with_reducible assumption) | (with_reducible refine ba ?_ _) | (with_reducible refine bdr ?_) | (with_reducible refine below_rg ?_ _ _) | (with_reducible refine bset ?_ _ ?_ _) | (refine bt ?_ (by assumption)) | (simp; done) | (simp; omega)))))).mono ?_); rintro e w1 ⟨rfl, b1⟩; have b9 : Below w.heap.size w _ := bt (by (repeat' (first | (with_reducible exact Below.refl _ _) | (with_reducible assumption) | (with_reducible refine ba ?_ _) | (with_reducible refine bdr ?_) | (with_reducible refine below_rg ?_ _ _) | (with_reducible refine bset ?_ _ ?_ _) | (refine bt ?_ (by assumption)) | (simp; done) | (simp; omega)))) b1; have HK' := Known.step b1 (by (repeat' (first | (with_reducible exact HK) | (with_reducible apply Known.drew) | (with_reducible apply Known.alloc) | (with_reducible apply Known.allocO) | (with_reducible apply Known.setCell)))); replace b0 := b9; clear b9 b1; (try clear kn); (try clear c0 f0 hz); replace HK := HK'; clear HK'; ((try simp only [World.size_alloc, World.size_setCell, World.size_drew] at HK); have kn := HK; simp [Known, setL, NeAll] at kn); obtain ⟨c0, f0⟩ := bcell b0; have hz := b0.size))
    have e1 : w1.cell? ⟨b, off + q * 2 + 1, none⟩ = some (.int .u64 (y.members.n : Int)) := (c0 _ _ hb).trans d1
    have hb1 : b < w1.heap.size := Nat.lt_of_lt_of_le hb hz
    have i1 : (0 : Int) ≤ (q : Int) := by omega
    have i2 : (q : Int) < (q : Int) + 1 := by omega
    have i3 : IntKind.i64.wrap ((q : Int) + 1 - 1) = (q : Int) := by rw [IntKind.wrap_i64]; omega
    have i4 : IntKind.i64.wrap (((q + 1 : Nat) : Int) - 1) = (q : Int) := by rw [IntKind.wrap_i64]; omega
    have i5 : IntKind.i64.wrap (q : Int) = (q : Int) := by rw [IntKind.wrap_i64]; omega
    have i7 : IntKind.i64.wrap ((q : Int) + 1 + 1) = (q : Int) + 1 + 1 := by rw [IntKind.wrap_i64]; omega
    have i6 : wrap64 (q : Int) = (q : Int) := by rw [wrap64]; omega
    apply held_join (R := fun (W : World) (Bj : Nat) => Known W ((Bj, [I ((q : Int) + 1 + 1), .int .u64 (z.n : Int)]) :: []) ∧ Below w.heap.size w W)
    · go_region_held3 (fun w' => w'.cell? ⟨b, off + q * 2 + 1, none⟩ = some (.int .u64 (y.members.n : Int))) ((first | ((repeat' (first | (apply And.intro) | (with_reducible assumption) | (rw [World.cell?_alloc_new]; (first | rfl | (simp; done))) | (with_reducible refine (World.cell?_alloc_lt _ _ _ ?_).trans ?_) | (with_reducible refine (World.cell?_setCell_far _ _ _ _ ?_).trans ?_) | (rw [show ∀ (v : World) (p : Addr), v.drew.cell? p = v.cell? p from fun _ _ => rfl])  | (simp only [World.size_alloc, World.size_setCell, World.size_drew, ne_eq]; omega) | omega | (simp [*]; done))); done) | (go_keep; done))) (first | fail)
      all_goals first | (refine ⟨rfl, ex_gen (t := w1.heap.size) ?_⟩; intro Bj hBj; rw [← hBj]; refine ⟨rfl, ?_, ?_⟩; (focus (subst hBj; refine Known.via (by (repeat' (first | (with_reducible exact HK) | (with_reducible apply Known.drew) | (with_reducible apply Known.alloc) | (with_reducible apply Known.allocO) | (with_reducible apply Known.setCell) | fail))) (fun HKx => ?_); (try simp only [List.toList_toArray, List.set] at HKx); first | (with_reducible exact HKx) | (simp only [setL, ↓reduceIte, if_true, List.set] at HKx; with_reducible exact HKx) | (simp [setL, List.set] at HKx; with_reducible exact HKx))); (focus (subst hBj; (repeat' (first | (with_reducible exact Below.refl _ _) | (with_reducible assumption) | (with_reducible refine ba ?_ _) | (with_reducible refine bdr ?_) | (with_reducible refine below_rg ?_ _ _) | (with_reducible refine bset ?_ _ ?_ _) | (refine bt ?_ (by assumption)) | (simp; done) | (simp; omega))); (repeat' (first | omega | (simp only [World.size_alloc, World.size_setCell, World.size_drew]; omega))); done)))
    intro wj Bj hRj
    obtain ⟨HK', b0'⟩ := hRj
    skip
    (replace HK := HK'; replace b0 := b0'; clear HK' b0'; (try clear kn); (try clear c0 f0 hz); ((try simp only [World.size_alloc, World.size_setCell, World.size_drew] at HK); have kn := HK; simp [Known, setL, NeAll] at kn); obtain ⟨c0, f0⟩ := bcell b0; have hz := b0.size)
    clear hxor i1 i2 i3 i4 i5 i6 i7 hq64 hm2 hm3 e1
    go_wp2_with (fail)
    (go_at_call 21; (refine ( eright_any l ⟨(q : Int) + 1 + 1, z⟩ _ _ _ _ (GoT.step Hr.out (by (repeat' (first | (with_reducible exact Below.refl _ _) | (with_reducible assumption) | (with_reducible refine ba ?_ _) | (with_reducible refine bdr ?_) | (with_reducible refine below_rg ?_ _ _) | (with_reducible refine bset ?_ _ ?_ _) | (refine bt ?_ (by assumption)) | (simp; done) | (simp; omega))))) h64).mono ?_); rintro e w1 ⟨rfl, b1⟩; have b9 : Below w.heap.size w _ := bt (by (repeat' (first | (with_reducible exact Below.refl _ _) | (with_reducible assumption) | (with_reducible refine ba ?_ _) | (with_reducible refine bdr ?_) | (with_reducible refine below_rg ?_ _ _) | (with_reducible refine bset ?_ _ ?_ _) | (refine bt ?_ (by assumption)) | (simp; done) | (simp; omega)))) b1; have HK' := Known.step b1 (by (repeat' (first | (with_reducible exact HK) | (with_reducible apply Known.drew) | (with_reducible apply Known.alloc) | (with_reducible apply Known.allocO) | (with_reducible apply Known.setCell)))); replace b0 := b9; clear b9 b1; (try clear kn); (try clear c0 f0 hz); replace HK := HK'; clear HK'; ((try simp only [World.size_alloc, World.size_setCell, World.size_drew] at HK); have kn := HK; simp [Known, setL, NeAll] at kn); obtain ⟨c0, f0⟩ := bcell b0; have hz := b0.size)
    go_wp2_with (fail)
    · go_ret2
      (try simp only [wi_iff, wi_iffF, bne_iff_ne, beq_iff_eq, Bool.not_eq_true', bne_eq_false_iff_eq, beq_eq_false_iff_ne, ne_eq, Bool.not_eq_true, Bool.not_eq_false', Bool.not_true, Bool.not_false, decide_eq_true_eq, decide_eq_false_iff_not, Bool.and_eq_true, Bool.or_eq_true, Bool.and_eq_false_imp, Bool.or_eq_false_iff] at *)
      exact TurnR.bad (by rw [hv0.out, if_neg (by assumption)]) (by (repeat' (first | (with_reducible exact Below.refl _ _) | (with_reducible assumption) | (with_reducible refine ba ?_ _) | (with_reducible refine bdr ?_) | (with_reducible refine below_rg ?_ _ _) | (with_reducible refine bset ?_ _ ?_ _) | (refine bt ?_ (by assumption)) | (simp; done) | (simp; omega))))
    · have hll : l.length ≤ 64 := by have := ln.out; omega
      have hBj : Bj < w1.heap.size := HK.1.1
      have hwz : w.heap.size ≤ w1.heap.size := hz
      obtain ⟨i0, z0, hi0, hz0, hs0, hb0, hc0⟩ := Epoch.info
      go_region_law (first | (go_simp; (go_at_call 22; (refine ( eclone_any l _ _ _ _ (GoT.step Hr.out (by (repeat' (first | (with_reducible exact Below.refl _ _) | (with_reducible assumption) | (with_reducible refine ba ?_ _) | (with_reducible refine bdr ?_) | (with_reducible refine below_rg ?_ _ _) | (with_reducible refine bset ?_ _ ?_ _) | (refine bt ?_ (by assumption)) | (simp; done) | (simp; omega))))) (Nat.succ_pos q) h64).mono ?_); rintro e w1 ⟨v, bs, hbs, hbs2, rfl, ho, b1⟩; have b9 : Below w.heap.size w _ := bt (by (repeat' (first | (with_reducible exact Below.refl _ _) | (with_reducible assumption) | (with_reducible refine ba ?_ _) | (with_reducible refine bdr ?_) | (with_reducible refine below_rg ?_ _ _) | (with_reducible refine bset ?_ _ ?_ _) | (refine bt ?_ (by assumption)) | (simp; done) | (simp; omega)))) b1; have HK' := Known.step b1 (by (repeat' (first | (with_reducible exact HK) | (with_reducible apply Known.drew) | (with_reducible apply Known.alloc) | (with_reducible apply Known.allocO) | (with_reducible apply Known.setCell)))); replace b0 := b9; clear b9 b1; (try clear kn); (try clear c0 f0 hz); replace HK := HK'; clear HK'; ((try simp only [World.size_alloc, World.size_setCell, World.size_drew] at HK); have kn := HK; simp [Known, setL, NeAll] at kn); obtain ⟨c0, f0⟩ := bcell b0; have hz := b0.size; (have hlt := grow_here ho; (try simp only [World.size_alloc, World.size_drew, World.size_setCell] at hbs)))) | (refine step_append_lies _ rfl _ _ 22 rfl (bs) 25 i0 z0 _ 16 Try.underlying22 hi0 hz0 hs0 hb0 hc0 Epoch.F.pos _ (List.length (l)) ((l).flatMap Epoch.F.enc) rfl ?_ _ 1 _ (Epoch.F.enc (⟨(q : Int) + 1 + 1, z⟩)) rfl ?_ ?_ ?_ (by decide) ?_ ?_ ?_ _ rfl ?_; (focus ((repeat' (first  | (with_reducible refine World.ownsRow.alloc ?_ _) | (with_reducible refine World.ownsRow.drew ?_) | (with_reducible refine Row.set _ _ _ ?_ ?_) | (intro hh; have hh2 := hlt _ hh; (try simp only [World.size_alloc, World.size_setCell, World.size_drew] at hh2); omega) | (exact ho))))); (focus (first | rfl | (simp; done))); (focus (exact news_one Epoch.F (⟨(q : Int) + 1 + 1, z⟩) (by (repeat' (first | (with_reducible exact HK) | (with_reducible apply Known.drew) | (with_reducible apply Known.alloc) | (with_reducible apply Known.allocO) | (with_reducible apply Known.setCell)))) (by first | rfl | (simp; done)) (by first | rfl | (simp; done)))); (focus (exact fun u hu => Epoch.F.one _ u hu)); (focus (unfold maxLen; omega)); (focus (omega)); (focus (first | omega | (simp only [World.size_alloc, World.size_setCell, World.size_drew]; done) | (simp only [World.size_alloc, World.size_setCell, World.size_drew]; omega))); intro g cap w1 ho2 hg2 hat2 hlt2; have HK1 := Known.grow hg2 (by (repeat' (first | (with_reducible exact HK) | (with_reducible apply Known.drew) | (with_reducible apply Known.alloc) | (with_reducible apply Known.allocO) | (with_reducible apply Known.setCell)))); have HK' := HK1 (by intro b vs hm hr; have hh2 := hlt _ hr; (try have hh3 := hlt0 _ hr); simp only [List.mem_cons, Prod.mk.injEq, List.not_mem_nil, or_false, setL] at hm; (try simp only [World.size_alloc, World.size_setCell, World.size_drew] at hm hh2); omega); clear HK1; have b9 : Below w.heap.size w w1 := bgr (by (repeat' (first | (with_reducible exact Below.refl _ _) | (with_reducible assumption) | (with_reducible refine ba ?_ _) | (with_reducible refine bdr ?_) | (with_reducible refine below_rg ?_ _ _) | (with_reducible refine bset ?_ _ ?_ _) | (refine bt ?_ (by assumption)) | (simp; done) | (simp; omega)))) hg2 (fun k hk => by have := hlt k hk; omega); replace b0 := b9; clear b9; (try clear kn); (try clear c0 f0 hz); replace HK := HK'; clear HK'; replace ho := row_snoc Epoch.F ho2; clear ho2 hg2 hlt; ((try simp only [World.size_alloc, World.size_setCell, World.size_drew] at HK); have kn := HK; simp [Known, setL, NeAll] at kn); obtain ⟨c0, f0⟩ := bcell b0; have hz := b0.size))
      all_goals
        go_wp2_with (fail)
        go_ret2
        obtain ⟨A2, c2, hv2, hr2⟩ := owns_rep Epoch.F.enc ho Epoch.F.len (fun x hx _ _ => Epoch.rep (hoks.out x hx))
        (try simp only [wi_iff, wi_iffF, bne_iff_ne, beq_iff_eq, Bool.not_eq_true', bne_eq_false_iff_eq, beq_eq_false_iff_ne, ne_eq, Bool.not_eq_true, Bool.not_eq_false', Bool.not_true, Bool.not_false, decide_eq_true_eq, decide_eq_false_iff_not, Bool.and_eq_true, Bool.or_eq_true, Bool.and_eq_false_imp, Bool.or_eq_false_iff] at *)
        exact TurnR.good (by rw [hv0.out, if_pos (by assumption)]) hv2 hr2 (by (repeat' (first | (with_reducible exact Below.refl _ _) | (with_reducible assumption) | (with_reducible refine ba ?_ _) | (with_reducible refine bdr ?_) | (with_reducible refine below_rg ?_ _ _) | (with_reducible refine bset ?_ _ ?_ _) | (refine bt ?_ (by assumption)) | (simp; done) | (simp; omega))))
  · have hv := Lib.hid (show Epoch.turnP l node = ([], Epoch.checkP l) by unfold Epoch.turnP; rw [if_neg h0])
    have b0 := Below.refl w.heap.size w
    have HK := Known.nil w
    go_enter Try.func8, Try.ntmps8
    go_wp2_with (first | (go_at_call 15; (refine ( echeck_any l _ _ _ _ (GoT.step Hr.out (by (repeat' (first | (with_reducible exact Below.refl _ _) | (with_reducible assumption) | (with_reducible refine ba ?_ _) | (with_reducible refine bdr ?_) | (with_reducible refine below_rg ?_ _ _) | (with_reducible refine bset ?_ _ ?_ _) | (refine bt ?_ (by assumption)) | (simp; done) | (simp; omega)))))).mono ?_); rintro e w1 ⟨rfl, b1⟩; have b9 : Below w.heap.size w _ := bt (by (repeat' (first | (with_reducible exact Below.refl _ _) | (with_reducible assumption) | (with_reducible refine ba ?_ _) | (with_reducible refine bdr ?_) | (with_reducible refine below_rg ?_ _ _) | (with_reducible refine bset ?_ _ ?_ _) | (refine bt ?_ (by assumption)) | (simp; done) | (simp; omega)))) b1; have HK' := Known.step b1 (by (repeat' (first | (with_reducible exact HK) | (with_reducible apply Known.drew) | (with_reducible apply Known.alloc) | (with_reducible apply Known.allocO) | (with_reducible apply Known.setCell)))); replace b0 := b9; clear b9 b1; (try clear kn); (try clear c0 f0 hz); replace HK := HK'; clear HK'; ((try simp only [World.size_alloc, World.size_setCell, World.size_drew] at HK); have kn := HK; simp [Known, setL, NeAll] at kn); obtain ⟨c0, f0⟩ := bcell b0; have hz := b0.size))
    go_ret2
    exact TurnR.bad hv.out (by (repeat' (first | (with_reducible exact Below.refl _ _) | (with_reducible assumption) | (with_reducible refine ba ?_ _) | (with_reducible refine bdr ?_) | (with_reducible refine below_rg ?_ _ _) | (with_reducible refine bset ?_ _ ?_ _) | (refine bt ?_ (by assumption)) | (simp; done) | (simp; omega))))
end Go.Proofs.Ytlkiabiphggmgaa
