/- Contracts of what the reference says of epochs, second part. No condition. -/
import Derived.Test.YtlkiabiphggmgaaEpoch3
import Derived.Outline
import Derived.Deep.RegionHeld3
namespace Go.Proofs.Ytlkiabiphggmgaa
set_option linter.unusedSimpArgs false
set_option linter.unusedVariables false
open Go.ChangeShapes Go.WideShapes Go.ChangeAt Go.RowKit
open Go.ChangeMaps (open_string shut_string)
def Epoch.sameB (l m : List Epoch) : Bool := decide (l = m)
theorem same_step {x y : Epoch} {a b : List Epoch} : Epoch.sameB (x :: a) (y :: b) = if x.no = y.no ∧ (x.members.n : Int) = y.members.n then Epoch.sameB a b else false := by
  unfold Epoch.sameB
  by_cases h : x = y
  · subst h; rw [if_pos ⟨rfl, rfl⟩, decide_eq_decide]; simp
  · rw [if_neg (fun ⟨h1, h2⟩ => h (Epoch.ext h1 (U64.ext (by omega))))]
    exact decide_eq_false fun e => h (List.cons.inj e).1
theorem inc_nat (a : Nat) : Value.int .i64 ((a : Int) + 1) = I ((a + 1 : Nat) : Int) := by push_cast; rfl
set_option maxRecDepth 100000 in
set_option maxHeartbeats 2000000 in
theorem rsame_any (l m : List Epoch) (A B : Option Addr) (n c n' c' : Nat) (w : World) (hr : GoT.rep w w.heap.size [.slice A n c] l) (hs : GoT.rep w w.heap.size [.slice B n' c'] m) :
    Calls Try.prog 16 #[.slice A n c, .slice B n' c'] w fun e w' => e = .returned (.bool (Epoch.sameB l m)) ∧ Below w.heap.size w w' := by
  have Hr := Lib.hid hr
  have Hs := Lib.hid hs
  obtain ⟨ln0, l1, l2⟩ := rep_len hr
  obtain ⟨lm0, l3, l4⟩ := rep_len hs
  have ln := Lib.hid ln0
  have lm := Lib.hid lm0
  clear hr ln0 hs lm0
  by_cases hne : n = n'
  · subst hne
    have b0 := Below.refl w.heap.size w
    have HK := Known.nil w
    go_enter Try.func16, Try.ntmps16
    go_wp2_with (fail)
    go_loopw [5] (fun i wr => ∃ k : Nat, k ≤ n ∧ i = I k ∧ Hid (Epoch.sameB l m = Epoch.sameB (l.drop k) (m.drop k)) ∧ Below w.heap.size w wr) (fun i _ => (n - intOf i).toNat)
    case atStart => exact ⟨0, by omega, rfl, Lib.hid (by simp), by (repeat' (first | (with_reducible exact Below.refl _ _) | (with_reducible assumption) | (with_reducible refine ba ?_ _) | (with_reducible refine bdr ?_) | (with_reducible refine below_rg ?_ _ _) | (with_reducible refine bset ?_ _ ?_ _) | (refine bt ?_ (by assumption)) | (simp; done) | (simp; omega)))⟩
    case round =>
      obtain ⟨k, hk, rfl, hE, b0⟩ := hrel
      have HK := Known.nil wr
      by_cases hlt : k < n
      · obtain ⟨b, off, x, rfl, hb, -, -, -, hd, d0, d1⟩ := Epoch.get Hr.out k hlt
        obtain ⟨b', off', y, rfl, hb', -, -, -, hd', d2, d3⟩ := Epoch.get Hs.out k hlt
        have hE := Lib.hid (hE.out.trans (by rw [hd, hd', same_step]))
        have hn1 : (k : Int) < (n : Int) := by omega
        clear hd hd'
        (((try simp only [World.size_alloc, World.size_setCell, World.size_drew] at HK); have kn := HK; simp [Known, setL, NeAll] at kn); obtain ⟨c0, f0⟩ := bcell b0; have hz := b0.size)
        have h3 : ¬ x.no = y.no ∨ (x.no = y.no ∧ ¬ x.members.n = y.members.n) ∨ (x.no = y.no ∧ x.members.n = y.members.n) := by omega
        have h6 : (((x.members.n : Int) = y.members.n) ↔ x.members.n = y.members.n) := by omega
        have h7 := Lib.hid h6
        clear h6
        rcases h3 with h3 | ⟨h3, h4⟩ | ⟨h3, h4⟩
        rotate_left
        · have h11 : ((x.members.n : Int) == (y.members.n : Int)) = false := by simpa using (by omega : ¬ (x.members.n : Int) = y.members.n)
          go_wp2_with (fail)
          have e0 : wr.cell? ⟨b, off + k * 2, none⟩ = some (I x.no) := (c0 _ _ hb).trans d0
          have e1 : wr.cell? ⟨b, off + k * 2 + 1, none⟩ = some (.int .u64 (x.members.n : Int)) := (c0 _ _ hb).trans d1
          have e2 : wr.cell? ⟨b', off' + k * 2, none⟩ = some (I y.no) := (c0 _ _ hb').trans d2
          have e3 : wr.cell? ⟨b', off' + k * 2 + 1, none⟩ = some (.int .u64 (y.members.n : Int)) := (c0 _ _ hb').trans d3
          go_region_held3 (fun w' => w'.cell? ⟨b, off + k * 2, none⟩ = some (I x.no) ∧ w'.cell? ⟨b, off + k * 2 + 1, none⟩ = some (.int .u64 (x.members.n : Int)) ∧ w'.cell? ⟨b', off' + k * 2, none⟩ = some (I y.no) ∧ w'.cell? ⟨b', off' + k * 2 + 1, none⟩ = some (.int .u64 (y.members.n : Int))) ((first | ((repeat' (first | (apply And.intro) | (with_reducible assumption) | (rw [World.cell?_alloc_new]; (first | rfl | (simp; done))) | (with_reducible refine (World.cell?_alloc_lt _ _ _ ?_).trans ?_) | (with_reducible refine (World.cell?_setCell_far _ _ _ _ ?_).trans ?_) | (rw [show ∀ (v : World) (p : Addr), v.drew.cell? p = v.cell? p from fun _ _ => rfl])  | (simp only [World.size_alloc, World.size_setCell, World.size_drew, ne_eq]; omega) | omega | (simp [*]; done))); done) | (go_keep; done))) (first | fail)
          all_goals (refine know_q (w0 := w) (by (repeat' (first | (with_reducible exact HK) | (with_reducible apply Known.drew) | (with_reducible apply Known.alloc) | (with_reducible apply Known.allocO) | (with_reducible apply Known.setCell) | fail))) (by (repeat' (first | (with_reducible exact Below.refl _ _) | (with_reducible assumption) | (with_reducible refine ba ?_ _) | (with_reducible refine bdr ?_) | (with_reducible refine below_rg ?_ _ _) | (with_reducible refine bset ?_ _ ?_ _) | (refine bt ?_ (by assumption)) | (simp; done) | (simp; omega)))) (fun HK' b0' => ?_); replace HK := HK'; replace b0 := b0'; clear HK' b0'; (try clear kn); (try clear c0 f0 hz); ((try simp only [World.size_alloc, World.size_setCell, World.size_drew] at HK); have kn := HK; simp [Known, setL, NeAll] at kn); obtain ⟨c0, f0⟩ := bcell b0; have hz := b0.size)
          go_wp2_with (fail)
          all_goals
            first
            | (go_roundw
               case rel => exact ⟨k + 1, by omega, by go_num, Lib.hid (by rw [hE.out]; simp), by (repeat' (first | (with_reducible exact Below.refl _ _) | (with_reducible assumption) | (with_reducible refine ba ?_ _) | (with_reducible refine bdr ?_) | (with_reducible refine below_rg ?_ _ _) | (with_reducible refine bset ?_ _ ?_ _) | (refine bt ?_ (by assumption)) | (simp; done) | (simp; omega)))⟩
               case measure => simp [intOf]; omega)
            | ((refine bodyPost_K rfl (fun K HK => ?_)); (simp [results, Try.results16, go_sem, *]); (refine HK.out _ ⟨rb ?_, by (repeat' (first | (with_reducible exact Below.refl _ _) | (with_reducible assumption) | (with_reducible refine ba ?_ _) | (with_reducible refine bdr ?_) | (with_reducible refine below_rg ?_ _ _) | (with_reducible refine bset ?_ _ ?_ _) | (refine bt ?_ (by assumption)) | (simp; done) | (simp; omega)))⟩); (clear HK K); (try simp only [wi_iff, wi_iffF, bne_iff_ne, beq_iff_eq, Bool.not_eq_true', bne_eq_false_iff_eq, beq_eq_false_iff_ne, ne_eq, Bool.not_eq_true, Bool.not_eq_false', Bool.not_true, Bool.not_false, decide_eq_true_eq, decide_eq_false_iff_not, Bool.and_eq_true, Bool.or_eq_true, Bool.and_eq_false_imp, Bool.or_eq_false_iff] at *); (rw [hE.out]; rw [if_neg (by first | exact fun h => h3 h.1 | exact fun h => h4 (h7.out.1 h.2))]))
        · obtain rfl : x = y := Epoch.ext h3 (U64.ext h4)
          go_wp2_with (fail)
          have e0 : wr.cell? ⟨b, off + k * 2, none⟩ = some (I x.no) := (c0 _ _ hb).trans d0
          have e1 : wr.cell? ⟨b, off + k * 2 + 1, none⟩ = some (.int .u64 (x.members.n : Int)) := (c0 _ _ hb).trans d1
          have e2 : wr.cell? ⟨b', off' + k * 2, none⟩ = some (I x.no) := (c0 _ _ hb').trans d2
          have e3 : wr.cell? ⟨b', off' + k * 2 + 1, none⟩ = some (.int .u64 (x.members.n : Int)) := (c0 _ _ hb').trans d3
          go_region_held3 (fun w' => w'.cell? ⟨b, off + k * 2, none⟩ = some (I x.no) ∧ w'.cell? ⟨b, off + k * 2 + 1, none⟩ = some (.int .u64 (x.members.n : Int)) ∧ w'.cell? ⟨b', off' + k * 2, none⟩ = some (I x.no) ∧ w'.cell? ⟨b', off' + k * 2 + 1, none⟩ = some (.int .u64 (x.members.n : Int))) ((first | ((repeat' (first | (apply And.intro) | (with_reducible assumption) | (rw [World.cell?_alloc_new]; (first | rfl | (simp; done))) | (with_reducible refine (World.cell?_alloc_lt _ _ _ ?_).trans ?_) | (with_reducible refine (World.cell?_setCell_far _ _ _ _ ?_).trans ?_) | (rw [show ∀ (v : World) (p : Addr), v.drew.cell? p = v.cell? p from fun _ _ => rfl])  | (simp only [World.size_alloc, World.size_setCell, World.size_drew, ne_eq]; omega) | omega | (simp [*]; done))); done) | (go_keep; done))) (first | fail)
          all_goals (refine know_q (w0 := w) (by (repeat' (first | (with_reducible exact HK) | (with_reducible apply Known.drew) | (with_reducible apply Known.alloc) | (with_reducible apply Known.allocO) | (with_reducible apply Known.setCell) | fail))) (by (repeat' (first | (with_reducible exact Below.refl _ _) | (with_reducible assumption) | (with_reducible refine ba ?_ _) | (with_reducible refine bdr ?_) | (with_reducible refine below_rg ?_ _ _) | (with_reducible refine bset ?_ _ ?_ _) | (refine bt ?_ (by assumption)) | (simp; done) | (simp; omega)))) (fun HK' b0' => ?_); replace HK := HK'; replace b0 := b0'; clear HK' b0'; (try clear kn); (try clear c0 f0 hz); ((try simp only [World.size_alloc, World.size_setCell, World.size_drew] at HK); have kn := HK; simp [Known, setL, NeAll] at kn); obtain ⟨c0, f0⟩ := bcell b0; have hz := b0.size)
          go_wp2_with (fail)
          all_goals
            first
            | (go_roundw
               case rel => exact ⟨k + 1, by omega, by go_num, Lib.hid (by rw [hE.out]; simp), by (repeat' (first | (with_reducible exact Below.refl _ _) | (with_reducible assumption) | (with_reducible refine ba ?_ _) | (with_reducible refine bdr ?_) | (with_reducible refine below_rg ?_ _ _) | (with_reducible refine bset ?_ _ ?_ _) | (refine bt ?_ (by assumption)) | (simp; done) | (simp; omega)))⟩
               case measure => simp [intOf]; omega)
            | ((refine bodyPost_K rfl (fun K HK => ?_)); (simp [results, Try.results16, go_sem, *]); (refine HK.out _ ⟨rb ?_, by (repeat' (first | (with_reducible exact Below.refl _ _) | (with_reducible assumption) | (with_reducible refine ba ?_ _) | (with_reducible refine bdr ?_) | (with_reducible refine below_rg ?_ _ _) | (with_reducible refine bset ?_ _ ?_ _) | (refine bt ?_ (by assumption)) | (simp; done) | (simp; omega)))⟩); (clear HK K); (try simp only [wi_iff, wi_iffF, bne_iff_ne, beq_iff_eq, Bool.not_eq_true', bne_eq_false_iff_eq, beq_eq_false_iff_ne, ne_eq, Bool.not_eq_true, Bool.not_eq_false', Bool.not_true, Bool.not_false, decide_eq_true_eq, decide_eq_false_iff_not, Bool.and_eq_true, Bool.or_eq_true, Bool.and_eq_false_imp, Bool.or_eq_false_iff] at *); (rw [hE.out]; rw [if_neg (by first | exact fun h => h3 h.1 | exact fun h => h4 (h7.out.1 h.2))]))
        · skip
          go_wp2_with (fail)
          have e0 : wr.cell? ⟨b, off + k * 2, none⟩ = some (I x.no) := (c0 _ _ hb).trans d0
          have e1 : wr.cell? ⟨b, off + k * 2 + 1, none⟩ = some (.int .u64 (x.members.n : Int)) := (c0 _ _ hb).trans d1
          have e2 : wr.cell? ⟨b', off' + k * 2, none⟩ = some (I y.no) := (c0 _ _ hb').trans d2
          have e3 : wr.cell? ⟨b', off' + k * 2 + 1, none⟩ = some (.int .u64 (y.members.n : Int)) := (c0 _ _ hb').trans d3
          go_region_held3 (fun w' => w'.cell? ⟨b, off + k * 2, none⟩ = some (I x.no) ∧ w'.cell? ⟨b, off + k * 2 + 1, none⟩ = some (.int .u64 (x.members.n : Int)) ∧ w'.cell? ⟨b', off' + k * 2, none⟩ = some (I y.no) ∧ w'.cell? ⟨b', off' + k * 2 + 1, none⟩ = some (.int .u64 (y.members.n : Int))) ((first | ((repeat' (first | (apply And.intro) | (with_reducible assumption) | (rw [World.cell?_alloc_new]; (first | rfl | (simp; done))) | (with_reducible refine (World.cell?_alloc_lt _ _ _ ?_).trans ?_) | (with_reducible refine (World.cell?_setCell_far _ _ _ _ ?_).trans ?_) | (rw [show ∀ (v : World) (p : Addr), v.drew.cell? p = v.cell? p from fun _ _ => rfl])  | (simp only [World.size_alloc, World.size_setCell, World.size_drew, ne_eq]; omega) | omega | (simp [*]; done))); done) | (go_keep; done))) (first | fail)
          all_goals (refine know_q (w0 := w) (by (repeat' (first | (with_reducible exact HK) | (with_reducible apply Known.drew) | (with_reducible apply Known.alloc) | (with_reducible apply Known.allocO) | (with_reducible apply Known.setCell) | fail))) (by (repeat' (first | (with_reducible exact Below.refl _ _) | (with_reducible assumption) | (with_reducible refine ba ?_ _) | (with_reducible refine bdr ?_) | (with_reducible refine below_rg ?_ _ _) | (with_reducible refine bset ?_ _ ?_ _) | (refine bt ?_ (by assumption)) | (simp; done) | (simp; omega)))) (fun HK' b0' => ?_); replace HK := HK'; replace b0 := b0'; clear HK' b0'; (try clear kn); (try clear c0 f0 hz); ((try simp only [World.size_alloc, World.size_setCell, World.size_drew] at HK); have kn := HK; simp [Known, setL, NeAll] at kn); obtain ⟨c0, f0⟩ := bcell b0; have hz := b0.size)
          go_wp2_with (fail)
          all_goals
            first
            | (go_roundw
               case rel => exact ⟨k + 1, by omega, by go_num, Lib.hid (by rw [hE.out]; simp), by (repeat' (first | (with_reducible exact Below.refl _ _) | (with_reducible assumption) | (with_reducible refine ba ?_ _) | (with_reducible refine bdr ?_) | (with_reducible refine below_rg ?_ _ _) | (with_reducible refine bset ?_ _ ?_ _) | (refine bt ?_ (by assumption)) | (simp; done) | (simp; omega)))⟩
               case measure => simp [intOf]; omega)
            | ((refine bodyPost_K rfl (fun K HK => ?_)); (simp [results, Try.results16, go_sem, *]); (refine HK.out _ ⟨rb ?_, by (repeat' (first | (with_reducible exact Below.refl _ _) | (with_reducible assumption) | (with_reducible refine ba ?_ _) | (with_reducible refine bdr ?_) | (with_reducible refine below_rg ?_ _ _) | (with_reducible refine bset ?_ _ ?_ _) | (refine bt ?_ (by assumption)) | (simp; done) | (simp; omega)))⟩); (clear HK K); (try simp only [wi_iff, wi_iffF, bne_iff_ne, beq_iff_eq, Bool.not_eq_true', bne_eq_false_iff_eq, beq_eq_false_iff_ne, ne_eq, Bool.not_eq_true, Bool.not_eq_false', Bool.not_true, Bool.not_false, decide_eq_true_eq, decide_eq_false_iff_not, Bool.and_eq_true, Bool.or_eq_true, Bool.and_eq_false_imp, Bool.or_eq_false_iff] at *); (rw [hE.out]; rw [if_neg (by first | exact fun h => h3 h.1 | exact fun h => h4 (h7.out.1 h.2))]))
      · obtain rfl : k = n := by omega
        have hs := Lib.hid (show Epoch.sameB l m = true by rw [hE.out, show l.drop k = [] by rw [ln.out, List.drop_length], show m.drop k = [] by rw [lm.out, List.drop_length]]; rfl)
        (((try simp only [World.size_alloc, World.size_setCell, World.size_drew] at HK); have kn := HK; simp [Known, setL, NeAll] at kn); obtain ⟨c0, f0⟩ := bcell b0; have hz := b0.size)
        go_wp2_with (fail)
        all_goals
          refine bodyPost_K rfl (fun K HK => ?_)
          simp [results, Try.results16, go_sem, *]
          refine HK.out _ ⟨rb ?_, by (repeat' (first | (with_reducible exact Below.refl _ _) | (with_reducible assumption) | (with_reducible refine ba ?_ _) | (with_reducible refine bdr ?_) | (with_reducible refine below_rg ?_ _ _) | (with_reducible refine bset ?_ _ ?_ _) | (refine bt ?_ (by assumption)) | (simp; done) | (simp; omega)))⟩
          clear HK K
          (try simp only [wi_iff, wi_iffF, bne_iff_ne, beq_iff_eq, Bool.not_eq_true', bne_eq_false_iff_eq, beq_eq_false_iff_ne, ne_eq, Bool.not_eq_true, Bool.not_eq_false', Bool.not_true, Bool.not_false, decide_eq_true_eq, decide_eq_false_iff_not, Bool.and_eq_true, Bool.or_eq_true, Bool.and_eq_false_imp, Bool.or_eq_false_iff] at *)
          exact hs.out.symm
  · have hv := Lib.hid (show Epoch.sameB l m = false from decide_eq_false fun e => hne (by have := congrArg List.length e; have := ln.out; have := lm.out; omega))
    have hn : ¬ (n : Int) = (n' : Int) := by omega
    have b0 := Below.refl w.heap.size w
    have HK := Known.nil w
    go_enter Try.func16, Try.ntmps16
    go_wp2_with (fail)
    all_goals
      refine bodyPost_K rfl (fun K HK => ?_)
      simp [results, Try.results16, go_sem, *]
      refine HK.out _ ⟨rb ?_, by (repeat' (first | (with_reducible exact Below.refl _ _) | (with_reducible assumption) | (with_reducible refine ba ?_ _) | (with_reducible refine bdr ?_) | (with_reducible refine below_rg ?_ _ _) | (with_reducible refine bset ?_ _ ?_ _) | (refine bt ?_ (by assumption)) | (simp; done) | (simp; omega)))⟩
      clear HK K
      (try simp only [wi_iff, wi_iffF, bne_iff_ne, beq_iff_eq, Bool.not_eq_true', bne_eq_false_iff_eq, beq_eq_false_iff_ne, ne_eq, Bool.not_eq_true, Bool.not_eq_false', Bool.not_true, Bool.not_false, decide_eq_true_eq, decide_eq_false_iff_not, Bool.and_eq_true, Bool.or_eq_true, Bool.and_eq_false_imp, Bool.or_eq_false_iff] at *)
      exact hv.out.symm
set_option maxRecDepth 100000 in
set_option maxHeartbeats 4000000 in
theorem rmajor_any (x : Epoch) (s : U64) (w : World) : Calls Try.prog 18 #[x.v, .int .u64 (s.n : Int)] w fun e w' => e = .returned (.bool (x.majorB s.n)) ∧ Below w.heap.size w w' := by
  have b0 := Below.refl w.heap.size w
  have HK := Known.nil w
  go_enter Try.func18, Try.ntmps18
  go_wp2_with (first | (go_at_call 20; (with_reducible refine (inSet_any _ _ (by omega) _).mono ?_); rintro e w1 ⟨rfl, rfl⟩))
  go_loopw [7, 5, 6] (fun i t u wr => ∃ (k a b : Nat), k ≤ 64 ∧ i = I k ∧ t = I a ∧ u = I b ∧ Known wr [(w.heap.size, [I x.no, .int .u64 (x.members.n : Int)])] ∧ Hid (a = cnt k (x.members.n &&& s.n)) ∧ Hid (a + b = cnt k x.members.n) ∧ Below w.heap.size w wr) (fun i _ _ _ => (64 - intOf i).toNat)
  case atStart => exact ⟨0, 0, 0, by omega, rfl, rfl, rfl, (by first | exact HK | exact HK.2.2 | exact HK.2.2.2.2 | exact HK.2.2.2.2.2.2 | (refine Known.via (by (repeat' (first | (with_reducible exact HK) | (with_reducible apply Known.drew) | (with_reducible apply Known.alloc) | (with_reducible apply Known.allocO) | (with_reducible apply Known.setCell)))) (fun HKx => ?_); (first | (simp only [setL, ↓reduceIte, if_true, List.set] at HKx; first | exact HKx | exact HKx.2.2 | exact HKx.2.2.2.2 | exact HKx.2.2.2.2.2.2 | exact HKx.2.2.2.2.2.2.2.2 | exact HKx.2.2.2.2.2.2.2.2.2.2) | (simp [setL, kn, List.set] at HKx; first | exact HKx | exact HKx.2.2 | exact HKx.2.2.2.2 | exact HKx.2.2.2.2.2.2 | exact HKx.2.2.2.2.2.2.2.2 | exact HKx.2.2.2.2.2.2.2.2.2.2) | (simp [setL, List.set] at HKx; first | exact HKx | exact HKx.2.2 | exact HKx.2.2.2.2 | exact HKx.2.2.2.2.2.2 | exact HKx.2.2.2.2.2.2.2.2 | exact HKx.2.2.2.2.2.2.2.2.2.2))) | exact Known.to (by (repeat' (first | (with_reducible exact HK) | (with_reducible apply Known.drew) | (with_reducible apply Known.alloc) | (with_reducible apply Known.allocO) | (with_reducible apply Known.setCell)))) (by first | rfl | (simp [setL]; done))), Lib.hid rfl, Lib.hid rfl, by (repeat' (first | (with_reducible exact Below.refl _ _) | (with_reducible assumption) | (with_reducible refine ba ?_ _) | (with_reducible refine bdr ?_) | (with_reducible refine below_rg ?_ _ _) | (with_reducible refine bset ?_ _ ?_ _) | (refine bt ?_ (by assumption)) | (simp; done) | (simp; omega)))⟩
  case round =>
    obtain ⟨k, a, b, hk, rfl, rfl, rfl, HK, hA, hB, b0⟩ := hrel
    have ha : a ≤ 64 ∧ b ≤ 64 := by have := hA.out; have := hB.out; have := cnt_le k x.members.n; omega
    obtain ⟨ha1, ha2⟩ := ha
    by_cases hlt : k < 64
    · have hn1 : (k : Int) < 64 := by omega
      have hA2 := Lib.hid (show cnt (k + 1) (x.members.n &&& s.n) = a + _ by rw [cnt, ← hA.out, and_step])
      have hB2 := Lib.hid (show cnt (k + 1) x.members.n = a + b + _ by rw [cnt, ← hB.out])
      (((try simp only [World.size_alloc, World.size_setCell, World.size_drew] at HK); have kn := HK; simp [Known, setL, NeAll] at kn); obtain ⟨c0, f0⟩ := bcell b0; have hz := b0.size)
      go_wp2_with (first | (go_at_call 20; (with_reducible refine (inSet_any _ _ (by omega) _).mono ?_); rintro e w1 ⟨rfl, rfl⟩))
      all_goals
        go_roundw
        case rel =>
          refine ⟨k + 1, ?_⟩
          apply Exists.intro
          apply Exists.intro
          refine ⟨by omega, by go_num, by first | exact inc_nat _ | rfl, by first | exact inc_nat _ | rfl, (by first | exact HK | exact HK.2.2 | exact HK.2.2.2.2 | exact HK.2.2.2.2.2.2 | (refine Known.via (by (repeat' (first | (with_reducible exact HK) | (with_reducible apply Known.drew) | (with_reducible apply Known.alloc) | (with_reducible apply Known.allocO) | (with_reducible apply Known.setCell)))) (fun HKx => ?_); (first | (simp only [setL, ↓reduceIte, if_true, List.set] at HKx; first | exact HKx | exact HKx.2.2 | exact HKx.2.2.2.2 | exact HKx.2.2.2.2.2.2 | exact HKx.2.2.2.2.2.2.2.2 | exact HKx.2.2.2.2.2.2.2.2.2.2) | (simp [setL, kn, List.set] at HKx; first | exact HKx | exact HKx.2.2 | exact HKx.2.2.2.2 | exact HKx.2.2.2.2.2.2 | exact HKx.2.2.2.2.2.2.2.2 | exact HKx.2.2.2.2.2.2.2.2.2.2) | (simp [setL, List.set] at HKx; first | exact HKx | exact HKx.2.2 | exact HKx.2.2.2.2 | exact HKx.2.2.2.2.2.2 | exact HKx.2.2.2.2.2.2.2.2 | exact HKx.2.2.2.2.2.2.2.2.2.2))) | exact Known.to (by (repeat' (first | (with_reducible exact HK) | (with_reducible apply Known.drew) | (with_reducible apply Known.alloc) | (with_reducible apply Known.allocO) | (with_reducible apply Known.setCell)))) (by first | rfl | (simp [setL]; done))), ?_, ?_, by (repeat' (first | (with_reducible exact Below.refl _ _) | (with_reducible assumption) | (with_reducible refine ba ?_ _) | (with_reducible refine bdr ?_) | (with_reducible refine below_rg ?_ _ _) | (with_reducible refine bset ?_ _ ?_ _) | (refine bt ?_ (by assumption)) | (simp; done) | (simp; omega)))⟩
          · refine Lib.hid ?_; rw [hA2.out]; (try simp only [wi_iff, wi_iffF, bne_iff_ne, beq_iff_eq, Bool.not_eq_true', bne_eq_false_iff_eq, beq_eq_false_iff_ne, ne_eq, Bool.not_eq_true, Bool.not_eq_false', Bool.not_true, Bool.not_false, decide_eq_true_eq, decide_eq_false_iff_not, Bool.and_eq_true, Bool.or_eq_true, Bool.and_eq_false_imp, Bool.or_eq_false_iff] at *); clear hA hB hA2 hB2; (try clear c0); (try clear f0); (try clear d0); (try clear d1); (try clear d2); (try clear d3); (try clear d4); (try clear d5); (try clear e0); (try clear e1); (try clear e2); (try clear e3); (try clear hz); (try clear kn); (try clear Hr); (try clear ln); ((try simp only [decide_eq_true_eq]); (repeat' (first | rfl | (rw [if_pos (by first | assumption | omega | (simp [*]; done) | fail)]) | (rw [if_neg (by first | assumption | omega | (simp [*]; done) | fail)]) | split | fail)); all_goals (first | done | rfl | (exfalso; omega) | (simp; done) | (simp; omega) | (simp_all; done) | (simp_all; omega) | (rw [Bool.eq_iff_iff]; simp; done) | (rw [Bool.eq_iff_iff]; simp; omega) | (ext <;> (first | rfl | (simp; done) | (simp; omega) | omega | (simp_all; done) | fail)) | (simp_all [wi]; done) | (simp_all [wi]; omega) | simp_all))
          · refine Lib.hid ?_; rw [hB2.out]; (try simp only [wi_iff, wi_iffF, bne_iff_ne, beq_iff_eq, Bool.not_eq_true', bne_eq_false_iff_eq, beq_eq_false_iff_ne, ne_eq, Bool.not_eq_true, Bool.not_eq_false', Bool.not_true, Bool.not_false, decide_eq_true_eq, decide_eq_false_iff_not, Bool.and_eq_true, Bool.or_eq_true, Bool.and_eq_false_imp, Bool.or_eq_false_iff] at *); clear hA hB hA2 hB2; (try clear c0); (try clear f0); (try clear d0); (try clear d1); (try clear d2); (try clear d3); (try clear d4); (try clear d5); (try clear e0); (try clear e1); (try clear e2); (try clear e3); (try clear hz); (try clear kn); (try clear Hr); (try clear ln); (first | omega | (simp_all; done) | (simp_all; omega))
        case measure => simp [intOf]; omega
    · obtain rfl : k = 64 := by omega
      have hv := Lib.hid (Epoch.major_iff (x := x) (s := s.n) (a := a) (b := b) (by rw [pop_eq]; exact hA.out) (by rw [pop_eq]; exact hB.out))
      (((try simp only [World.size_alloc, World.size_setCell, World.size_drew] at HK); have kn := HK; simp [Known, setL, NeAll] at kn); obtain ⟨c0, f0⟩ := bcell b0; have hz := b0.size)
      go_wp2_with (first | (go_at_call 20; (with_reducible refine (inSet_any _ _ (by omega) _).mono ?_); rintro e w1 ⟨rfl, rfl⟩))
      all_goals
        refine bodyPost_K rfl (fun K HK => ?_)
        simp [results, Try.results18, go_sem, *]
        refine HK.out _ ⟨rb ?_, by (repeat' (first | (with_reducible exact Below.refl _ _) | (with_reducible assumption) | (with_reducible refine ba ?_ _) | (with_reducible refine bdr ?_) | (with_reducible refine below_rg ?_ _ _) | (with_reducible refine bset ?_ _ ?_ _) | (refine bt ?_ (by assumption)) | (simp; done) | (simp; omega)))⟩
        clear HK K
        (try simp only [wi_iff, wi_iffF, bne_iff_ne, beq_iff_eq, Bool.not_eq_true', bne_eq_false_iff_eq, beq_eq_false_iff_ne, ne_eq, Bool.not_eq_true, Bool.not_eq_false', Bool.not_true, Bool.not_false, decide_eq_true_eq, decide_eq_false_iff_not, Bool.and_eq_true, Bool.or_eq_true, Bool.and_eq_false_imp, Bool.or_eq_false_iff] at *)
        rw [hv.out]
end Go.Proofs.Ytlkiabiphggmgaa
