/- Contracts of what the reference says of epochs, third part: what is common, and a turn. No condition. -/
import Derived.Test.YtlkiabiphggmgaaEpoch4
import Derived.Outline
import Derived.Deep.RegionHeld3
import Derived.Lib.SliceRun
namespace Go.Proofs.Ytlkiabiphggmgaa
set_option linter.unusedSimpArgs false
set_option linter.unusedVariables false
open Go.ChangeShapes Go.WideShapes Go.ChangeAt Go.RowKit
open Go.ChangeMaps (open_string shut_string)
theorem common_mod {l : List Epoch} (n : Nat) (h : l ≠ []) : Epoch.commonGo 0 l 0 % 2 ^ (n + 1) = if Epoch.everyB n l true = true then Epoch.commonGo 0 l 0 % 2 ^ n + 2 ^ n else Epoch.commonGo 0 l 0 % 2 ^ n := by
  rw [Epoch.common_every n h, Epoch.mod_step]
set_option maxRecDepth 100000 in
set_option maxHeartbeats 4000000 in
theorem rcommon_any (l : List Epoch) (A : Option Addr) (n c : Nat) (w : World) (hr : GoT.rep w w.heap.size [.slice A n c] l) (h0 : Epoch.checkP l = 0) :
    Calls Try.prog 13 #[.slice A n c] w fun e w' => e = .returned (.int .u64 (Epoch.commonGo 0 l 0 : Int)) ∧ Below w.heap.size w w' := by
  have Hr := Lib.hid hr
  obtain ⟨ln0, l1, l2⟩ := rep_len hr
  have ln := Lib.hid ln0
  clear hr ln0
  by_cases hn0 : n = 0
  · subst hn0
    have hv := Lib.hid (show Epoch.commonGo 0 l 0 = 0 by rw [List.eq_nil_of_length_eq_zero ln.out.symm]; rfl)
    have b0 := Below.refl w.heap.size w
    have HK := Known.nil w
    go_enter Try.func13, Try.ntmps13
    go_wp2_with (first | (go_at_call 20; (with_reducible refine (inSet_any _ _ (by omega) _).mono ?_); rintro e w1 ⟨rfl, rfl⟩))
    go_loopw [4, 3] (fun i t wr => i = I 0 ∧ t = .int .u64 0 ∧ Below w.heap.size w wr) (fun i _ _ => 0)
    case atStart => exact ⟨rfl, rfl, by (repeat' (first | (with_reducible exact Below.refl _ _) | (with_reducible assumption) | (with_reducible refine ba ?_ _) | (with_reducible refine bdr ?_) | (with_reducible refine below_rg ?_ _ _) | (with_reducible refine bset ?_ _ ?_ _) | (refine bt ?_ (by assumption)) | (simp; done) | (simp; omega)))⟩
    case round =>
      obtain ⟨rfl, rfl, b0⟩ := hrel
      have HK := Known.nil wr
      (((try simp only [World.size_alloc, World.size_setCell, World.size_drew] at HK); have kn := HK; simp [Known, setL, NeAll] at kn); obtain ⟨c0, f0⟩ := bcell b0; have hz := b0.size)
      go_wp2_with (first | (go_at_call 20; (with_reducible refine (inSet_any _ _ (by omega) _).mono ?_); rintro e w1 ⟨rfl, rfl⟩))
      all_goals
        go_ret
        exact ⟨by rw [hv.out]; rfl, by (repeat' (first | (with_reducible exact Below.refl _ _) | (with_reducible assumption) | (with_reducible refine ba ?_ _) | (with_reducible refine bdr ?_) | (with_reducible refine below_rg ?_ _ _) | (with_reducible refine bset ?_ _ ?_ _) | (refine bt ?_ (by assumption)) | (simp; done) | (simp; omega)))⟩
  have hne := Lib.hid (show l ≠ [] by rintro rfl; exact hn0 ln.out)
  have hC := Lib.hid (Epoch.common_lt h0)
  have hnp : (0 : Int) < (n : Int) := by omega
  have hnp2 : 0 < n := by omega
  clear h0
  have b0 := Below.refl w.heap.size w
  have HK := Known.nil w
  go_enter Try.func13, Try.ntmps13
  go_wp2_with (first | (go_at_call 20; (with_reducible refine (inSet_any _ _ (by omega) _).mono ?_); rintro e w1 ⟨rfl, rfl⟩))
  go_loopw [4, 3] (fun i t wr => ∃ (k s : Nat), k ≤ 12 ∧ i = I k ∧ t = .int .u64 (s : Int) ∧ Hid (s = Epoch.commonGo 0 l 0 % 2 ^ k) ∧ s < 2 ^ k ∧ Below w.heap.size w wr) (fun i _ _ => (12 - intOf i).toNat)
  case atStart => exact ⟨0, 0, by omega, rfl, rfl, Lib.hid (by simp [Nat.mod_one]), by decide, by (repeat' (first | (with_reducible exact Below.refl _ _) | (with_reducible assumption) | (with_reducible refine ba ?_ _) | (with_reducible refine bdr ?_) | (with_reducible refine below_rg ?_ _ _) | (with_reducible refine bset ?_ _ ?_ _) | (refine bt ?_ (by assumption)) | (simp; done) | (simp; omega)))⟩
  case round =>
    obtain ⟨k, s, hk, rfl, rfl, hE, hs, b0⟩ := hrel
    have HK := Known.nil wr
    by_cases hlt : k < 12
    · have hn1 : (k : Int) < 12 := by omega
      have hk2 : 2 ^ k ≤ 2 ^ 12 := Nat.pow_le_pow_right (by decide) (by omega)
      have hor := Lib.hid (@add_pow s k (by omega) (by omega))
      have hstep := Lib.hid (common_mod k hne.out)
      have hlt2 : s < 2 ^ (k + 1) := by rw [Nat.pow_succ]; omega
      have hlt3 : s + 2 ^ k < 2 ^ (k + 1) := by rw [Nat.pow_succ]; omega
      have HS := Lib.hid (And.intro hlt2 hlt3)
      clear hlt2 hlt3 hs hk2
      (((try simp only [World.size_alloc, World.size_setCell, World.size_drew] at HK); have kn := HK; simp [Known, setL, NeAll] at kn); obtain ⟨c0, f0⟩ := bcell b0; have hz := b0.size)
      go_wp2_with (first | (go_at_call 20; (with_reducible refine (inSet_any _ _ (by omega) _).mono ?_); rintro e w1 ⟨rfl, rfl⟩))
      obtain ⟨wo, rfl⟩ : ∃ v : World, v = wr := ⟨_, rfl⟩
      go_loopw [6, 5] (fun i t wr => ∃ (j : Nat) (f : Bool), j ≤ n ∧ i = I j ∧ t = .bool f ∧ Hid (Epoch.everyB k l true = Epoch.everyB k (l.drop j) f) ∧ Below w.heap.size w wr) (fun i _ _ => (n - intOf i).toNat)
      case atStart => exact ⟨0, true, by omega, rfl, rfl, Lib.hid rfl, by (repeat' (first | (with_reducible exact Below.refl _ _) | (with_reducible assumption) | (with_reducible refine ba ?_ _) | (with_reducible refine bdr ?_) | (with_reducible refine below_rg ?_ _ _) | (with_reducible refine bset ?_ _ ?_ _) | (refine bt ?_ (by assumption)) | (simp; done) | (simp; omega)))⟩
      case round =>
        clear HK b0 kn c0 f0 hz
        obtain ⟨j, f, hj, rfl, rfl, hF, b0⟩ := hrel
        have HK := Known.nil wr
        by_cases hlj : j < n
        · obtain ⟨b, off, x, rfl, hb, -, -, -, hd, d0, d1⟩ := Epoch.get Hr.out j hlj
          have hF := Lib.hid (hF.out.trans (congrArg (fun z => Epoch.everyB k z f) hd))
          have hn2 : (j : Int) < (n : Int) := by omega
          obtain ⟨bt, hbt⟩ : ∃ bt : Bool, decide (x.members.n / 2 ^ k % 2 = 1) = bt := ⟨_, rfl⟩
          clear hd
          (((try simp only [World.size_alloc, World.size_setCell, World.size_drew] at HK); have kn := HK; simp [Known, setL, NeAll] at kn); obtain ⟨c0, f0⟩ := bcell b0; have hz := b0.size)
          cases f
          all_goals
            go_wp2_with (first | (go_at_call 20; (with_reducible refine (inSet_any _ _ (by omega) _).mono ?_); rintro e w1 ⟨rfl, rfl⟩))
            all_goals
              go_roundw
              case rel =>
                refine ⟨j + 1, ?_⟩
                apply Exists.intro
                refine ⟨by omega, by go_num, by with_reducible rfl, ?_, by (repeat' (first | (with_reducible exact Below.refl _ _) | (with_reducible assumption) | (with_reducible refine ba ?_ _) | (with_reducible refine bdr ?_) | (with_reducible refine below_rg ?_ _ _) | (with_reducible refine bset ?_ _ ?_ _) | (refine bt ?_ (by assumption)) | (simp; done) | (simp; omega)))⟩
                refine Lib.hid ?_
                rw [hF.out]
                simp only [Epoch.everyB, hbt, Bool.true_and, Bool.false_and]
              case measure => simp [intOf]; omega
        · obtain rfl : j = n := by omega
          have hF := Lib.hid (hF.out.trans (by rw [ln.out, List.drop_length]; rfl : _ = f))
          (((try simp only [World.size_alloc, World.size_setCell, World.size_drew] at HK); have kn := HK; simp [Known, setL, NeAll] at kn); obtain ⟨c0, f0⟩ := bcell b0; have hz := b0.size)
          cases f
          · have hG := Lib.hid (hstep.out.trans (by rw [hF.out, if_neg (by decide)]))
            go_wp2_with (first | (go_at_call 20; (with_reducible refine (inSet_any _ _ (by omega) _).mono ?_); rintro e w1 ⟨rfl, rfl⟩))
            go_roundw
            case rel => exact ⟨k + 1, s, by omega, by go_num, rfl, Lib.hid (by rw [hG.out, hE.out]), HS.out.1, by (repeat' (first | (with_reducible exact Below.refl _ _) | (with_reducible assumption) | (with_reducible refine ba ?_ _) | (with_reducible refine bdr ?_) | (with_reducible refine below_rg ?_ _ _) | (with_reducible refine bset ?_ _ ?_ _) | (refine bt ?_ (by assumption)) | (simp; done) | (simp; omega)))⟩
            case measure => simp [intOf]; omega
          · have hG := Lib.hid (hstep.out.trans (by rw [hF.out, if_pos rfl]))
            go_wp2_with (first | (go_at_call 20; (with_reducible refine (inSet_any _ _ (by omega) _).mono ?_); rintro e w1 ⟨rfl, rfl⟩))
            go_roundw
            case rel => exact ⟨k + 1, s + 2 ^ k, by omega, by go_num, by rw [hor.out], Lib.hid (by rw [hG.out, hE.out]), HS.out.2, by (repeat' (first | (with_reducible exact Below.refl _ _) | (with_reducible assumption) | (with_reducible refine ba ?_ _) | (with_reducible refine bdr ?_) | (with_reducible refine below_rg ?_ _ _) | (with_reducible refine bset ?_ _ ?_ _) | (refine bt ?_ (by assumption)) | (simp; done) | (simp; omega)))⟩
            case measure => simp [intOf]; omega
    · obtain rfl : k = 12 := by omega
      have hx := Lib.hid (show Epoch.commonGo 0 l 0 = s by rw [hE.out, Nat.mod_eq_of_lt hC.out])
      (((try simp only [World.size_alloc, World.size_setCell, World.size_drew] at HK); have kn := HK; simp [Known, setL, NeAll] at kn); obtain ⟨c0, f0⟩ := bcell b0; have hz := b0.size)
      go_wp2_with (first | (go_at_call 20; (with_reducible refine (inSet_any _ _ (by omega) _).mono ?_); rintro e w1 ⟨rfl, rfl⟩))
      all_goals
        go_ret
        exact ⟨by rw [hx.out]; rfl, by (repeat' (first | (with_reducible exact Below.refl _ _) | (with_reducible assumption) | (with_reducible refine ba ?_ _) | (with_reducible refine bdr ?_) | (with_reducible refine below_rg ?_ _ _) | (with_reducible refine bset ?_ _ ?_ _) | (refine bt ?_ (by assumption)) | (simp; done) | (simp; omega)))⟩
theorem sub_pow {s k : Nat} (h : 2 ^ k ≤ s) (hs : s < 2 ^ 64) (hk : k < 64) : IntKind.u64.wrap ((s : Int) - IntKind.u64.wrap (2 ^ k)) = ((s - 2 ^ k : Nat) : Int) := by
  rw [u64_pow hk, IntKind.wrap_u64]
  generalize (2 : Nat) ^ k = p at *
  omega
set_option maxRecDepth 100000 in
set_option maxHeartbeats 4000000 in
theorem rturn_any (l : List Epoch) (node : Int) (A : Option Addr) (n c : Nat) (w : World) (hr : GoT.rep w w.heap.size [.slice A n c] l) :
    Calls Try.prog 11 #[.slice A n c, I node] w fun e w' => TurnR w w' (Epoch.turnP l node) e := by
  have Hr := Lib.hid hr
  obtain ⟨ln0, l1, l2⟩ := rep_len hr
  have ln := Lib.hid ln0
  clear hr ln0
  by_cases h0 : Epoch.checkP l = 0
  · have h64 : n ≤ 64 := by have := ln.out; have := Epoch.check_len h0; omega
    by_cases hn0 : n = 0
    · subst hn0
      have hv := Lib.hid (show Epoch.turnP l node = ([], 5) by unfold Epoch.turnP; rw [if_pos h0, if_pos ln.out.symm])
      have b0 := Below.refl w.heap.size w
      have HK := Known.nil w
      go_enter Try.func11, Try.ntmps11
      go_wp2_with (first | (go_at_call 12; (refine ( rcheck_any l _ _ _ _ (GoT.step Hr.out (by (repeat' (first | (with_reducible exact Below.refl _ _) | (with_reducible assumption) | (with_reducible refine ba ?_ _) | (with_reducible refine bdr ?_) | (with_reducible refine below_rg ?_ _ _) | (with_reducible refine bset ?_ _ ?_ _) | (refine bt ?_ (by assumption)) | (simp; done) | (simp; omega)))))).mono ?_); rintro e w1 ⟨rfl, b1⟩; have b9 : Below w.heap.size w _ := bt (by (repeat' (first | (with_reducible exact Below.refl _ _) | (with_reducible assumption) | (with_reducible refine ba ?_ _) | (with_reducible refine bdr ?_) | (with_reducible refine below_rg ?_ _ _) | (with_reducible refine bset ?_ _ ?_ _) | (refine bt ?_ (by assumption)) | (simp; done) | (simp; omega)))) b1; have HK' := Known.step b1 (by (repeat' (first | (with_reducible exact HK) | (with_reducible apply Known.drew) | (with_reducible apply Known.alloc) | (with_reducible apply Known.allocO) | (with_reducible apply Known.setCell)))); replace b0 := b9; clear b9 b1; (try clear kn); (try clear c0 f0 hz); replace HK := HK'; clear HK'; ((try simp only [World.size_alloc, World.size_setCell, World.size_drew] at HK); have kn := HK; simp [Known, setL, NeAll] at kn); obtain ⟨c0, f0⟩ := bcell b0; have hz := b0.size) | (go_at_call 20; (with_reducible refine (inSet_any _ _ (by omega) _).mono ?_); rintro e w1 ⟨rfl, rfl⟩))
      go_ret2
      exact TurnR.bad hv.out (by (repeat' (first | (with_reducible exact Below.refl _ _) | (with_reducible assumption) | (with_reducible refine ba ?_ _) | (with_reducible refine bdr ?_) | (with_reducible refine below_rg ?_ _ _) | (with_reducible refine bset ?_ _ ?_ _) | (refine bt ?_ (by assumption)) | (simp; done) | (simp; omega))))
    by_cases hnode : node < 0 ∨ 12 ≤ node
    · have hv := Lib.hid (show Epoch.turnP l node = ([], 3) by unfold Epoch.turnP; rw [if_pos h0, if_neg (by have := ln.out; omega), if_pos hnode])
      rcases hnode with hnode | hnode
      · have b0 := Below.refl w.heap.size w
        have HK := Known.nil w
        go_enter Try.func11, Try.ntmps11
        go_wp2_with (first | (go_at_call 12; (refine ( rcheck_any l _ _ _ _ (GoT.step Hr.out (by (repeat' (first | (with_reducible exact Below.refl _ _) | (with_reducible assumption) | (with_reducible refine ba ?_ _) | (with_reducible refine bdr ?_) | (with_reducible refine below_rg ?_ _ _) | (with_reducible refine bset ?_ _ ?_ _) | (refine bt ?_ (by assumption)) | (simp; done) | (simp; omega)))))).mono ?_); rintro e w1 ⟨rfl, b1⟩; have b9 : Below w.heap.size w _ := bt (by (repeat' (first | (with_reducible exact Below.refl _ _) | (with_reducible assumption) | (with_reducible refine ba ?_ _) | (with_reducible refine bdr ?_) | (with_reducible refine below_rg ?_ _ _) | (with_reducible refine bset ?_ _ ?_ _) | (refine bt ?_ (by assumption)) | (simp; done) | (simp; omega)))) b1; have HK' := Known.step b1 (by (repeat' (first | (with_reducible exact HK) | (with_reducible apply Known.drew) | (with_reducible apply Known.alloc) | (with_reducible apply Known.allocO) | (with_reducible apply Known.setCell)))); replace b0 := b9; clear b9 b1; (try clear kn); (try clear c0 f0 hz); replace HK := HK'; clear HK'; ((try simp only [World.size_alloc, World.size_setCell, World.size_drew] at HK); have kn := HK; simp [Known, setL, NeAll] at kn); obtain ⟨c0, f0⟩ := bcell b0; have hz := b0.size) | (go_at_call 20; (with_reducible refine (inSet_any _ _ (by omega) _).mono ?_); rintro e w1 ⟨rfl, rfl⟩))
        go_ret2
        exact TurnR.bad hv.out (by (repeat' (first | (with_reducible exact Below.refl _ _) | (with_reducible assumption) | (with_reducible refine ba ?_ _) | (with_reducible refine bdr ?_) | (with_reducible refine below_rg ?_ _ _) | (with_reducible refine bset ?_ _ ?_ _) | (refine bt ?_ (by assumption)) | (simp; done) | (simp; omega))))
      · have h2 : ¬ node < 0 := by omega
        have h3 : (11 : Int) < node := by omega
        have b0 := Below.refl w.heap.size w
        have HK := Known.nil w
        go_enter Try.func11, Try.ntmps11
        go_wp2_with (first | (go_at_call 12; (refine ( rcheck_any l _ _ _ _ (GoT.step Hr.out (by (repeat' (first | (with_reducible exact Below.refl _ _) | (with_reducible assumption) | (with_reducible refine ba ?_ _) | (with_reducible refine bdr ?_) | (with_reducible refine below_rg ?_ _ _) | (with_reducible refine bset ?_ _ ?_ _) | (refine bt ?_ (by assumption)) | (simp; done) | (simp; omega)))))).mono ?_); rintro e w1 ⟨rfl, b1⟩; have b9 : Below w.heap.size w _ := bt (by (repeat' (first | (with_reducible exact Below.refl _ _) | (with_reducible assumption) | (with_reducible refine ba ?_ _) | (with_reducible refine bdr ?_) | (with_reducible refine below_rg ?_ _ _) | (with_reducible refine bset ?_ _ ?_ _) | (refine bt ?_ (by assumption)) | (simp; done) | (simp; omega)))) b1; have HK' := Known.step b1 (by (repeat' (first | (with_reducible exact HK) | (with_reducible apply Known.drew) | (with_reducible apply Known.alloc) | (with_reducible apply Known.allocO) | (with_reducible apply Known.setCell)))); replace b0 := b9; clear b9 b1; (try clear kn); (try clear c0 f0 hz); replace HK := HK'; clear HK'; ((try simp only [World.size_alloc, World.size_setCell, World.size_drew] at HK); have kn := HK; simp [Known, setL, NeAll] at kn); obtain ⟨c0, f0⟩ := bcell b0; have hz := b0.size) | (go_at_call 20; (with_reducible refine (inSet_any _ _ (by omega) _).mono ?_); rintro e w1 ⟨rfl, rfl⟩))
        go_ret2
        exact TurnR.bad hv.out (by (repeat' (first | (with_reducible exact Below.refl _ _) | (with_reducible assumption) | (with_reducible refine ba ?_ _) | (with_reducible refine bdr ?_) | (with_reducible refine below_rg ?_ _ _) | (with_reducible refine bset ?_ _ ?_ _) | (refine bt ?_ (by assumption)) | (simp; done) | (simp; omega))))
    obtain ⟨m, rfl⟩ : ∃ m : Nat, node = (m : Int) := ⟨node.toNat, by omega⟩
    have hm : m < 12 := by omega
    have hm2 : ¬ (m : Int) < 0 := by omega
    have hm3 : ¬ (11 : Int) < (m : Int) := by omega
    by_cases hn64 : n = 64
    · subst hn64
      have hv := Lib.hid (show Epoch.turnP l m = ([], 2) by unfold Epoch.turnP; rw [if_pos h0, if_neg (by have := ln.out; omega), if_neg hnode, if_pos ln.out.symm])
      have b0 := Below.refl w.heap.size w
      have HK := Known.nil w
      go_enter Try.func11, Try.ntmps11
      go_wp2_with (first | (go_at_call 12; (refine ( rcheck_any l _ _ _ _ (GoT.step Hr.out (by (repeat' (first | (with_reducible exact Below.refl _ _) | (with_reducible assumption) | (with_reducible refine ba ?_ _) | (with_reducible refine bdr ?_) | (with_reducible refine below_rg ?_ _ _) | (with_reducible refine bset ?_ _ ?_ _) | (refine bt ?_ (by assumption)) | (simp; done) | (simp; omega)))))).mono ?_); rintro e w1 ⟨rfl, b1⟩; have b9 : Below w.heap.size w _ := bt (by (repeat' (first | (with_reducible exact Below.refl _ _) | (with_reducible assumption) | (with_reducible refine ba ?_ _) | (with_reducible refine bdr ?_) | (with_reducible refine below_rg ?_ _ _) | (with_reducible refine bset ?_ _ ?_ _) | (refine bt ?_ (by assumption)) | (simp; done) | (simp; omega)))) b1; have HK' := Known.step b1 (by (repeat' (first | (with_reducible exact HK) | (with_reducible apply Known.drew) | (with_reducible apply Known.alloc) | (with_reducible apply Known.allocO) | (with_reducible apply Known.setCell)))); replace b0 := b9; clear b9 b1; (try clear kn); (try clear c0 f0 hz); replace HK := HK'; clear HK'; ((try simp only [World.size_alloc, World.size_setCell, World.size_drew] at HK); have kn := HK; simp [Known, setL, NeAll] at kn); obtain ⟨c0, f0⟩ := bcell b0; have hz := b0.size) | (go_at_call 20; (with_reducible refine (inSet_any _ _ (by omega) _).mono ?_); rintro e w1 ⟨rfl, rfl⟩))
      go_ret2
      exact TurnR.bad hv.out (by (repeat' (first | (with_reducible exact Below.refl _ _) | (with_reducible assumption) | (with_reducible refine ba ?_ _) | (with_reducible refine bdr ?_) | (with_reducible refine below_rg ?_ _ _) | (with_reducible refine bset ?_ _ ?_ _) | (refine bt ?_ (by assumption)) | (simp; done) | (simp; omega))))
    obtain ⟨q, rfl⟩ : ∃ q, n = q + 1 := ⟨n - 1, by omega⟩
    obtain ⟨b, off, y, rfl, hb, hok, -, hx, -, d0, d1⟩ := Epoch.get Hr.out q (by omega)
    have hL := Lib.hid (Epoch.lastM_get ln.out.symm hx)
    have hy := y.members.lt
    have hyl : y.members.n < 4096 := by have := Epoch.last_le h0; rw [hL.out] at this; omega
    obtain ⟨z, hz⟩ : ∃ z : U64, z = U64.of (y.members.n ^^^ 2 ^ m) := ⟨_, rfl⟩
    have hlt := Epoch.next_lt h0 hm
    rw [hL.out] at hlt
    have hzn : z.n = y.members.n ^^^ 2 ^ m := by rw [hz, U64.of_n (by omega)]
    have hnx := Lib.hid (show Epoch.next l m = ⟨(q : Int) + 1 + 1, z⟩ by unfold Epoch.next; rw [hL.out, hz, ← ln.out]; simp)
    have hq64 : ¬ (q : Int) + 1 = 64 := by omega
    have hv0 := Lib.hid (show Epoch.turnP l m = if z.n = 0 then ([], 8) else (l ++ [⟨(q : Int) + 1 + 1, z⟩], 0) by
      unfold Epoch.turnP; rw [if_pos h0, if_neg (by have := ln.out; omega), if_neg hnode, if_neg (by have := ln.out; omega), Epoch.right_next h0 hm, hL.out, ← hzn, hnx.out]
      by_cases e : z.n = 0
      · rw [if_pos e, if_neg (by decide), if_pos e]
      · rw [if_neg e, if_pos rfl, if_neg e])
    have hoks := Lib.hid (show ∀ x, x ∈ l ++ [⟨(q : Int) + 1 + 1, z⟩] → x.ok by
      intro x hx
      rcases List.mem_append.1 hx with h | h
      · exact (list_open Epoch.F.enc _ Epoch.flat Hr.out).2.2.2.1 x h
      · rw [List.mem_singleton.1 h]; show _ ∧ _; constructor <;> (simp only; omega))
    have hll : l.length ≤ 64 := by have := ln.out; omega
    have hflip := flip_key hm hyl
    clear hx hok hL hz hnx hlt
    by_cases hbit : y.members.n / 2 ^ m % 2 = 1
    · rw [if_pos hbit, ← hzn] at hflip
      have hop : IntKind.u64.wrap ((y.members.n : Int) - IntKind.u64.wrap (2 ^ m)) = (z.n : Int) := by rw [sub_pow hflip.1 hy (by omega), hflip.2]
      clear hflip hzn hyl hy
      have b0 := Below.refl w.heap.size w
      have HK := Known.nil w
      go_enter Try.func11, Try.ntmps11
      go_wp2_with (first | (go_at_call 12; (refine ( rcheck_any l _ _ _ _ (GoT.step Hr.out (by (repeat' (first | (with_reducible exact Below.refl _ _) | (with_reducible assumption) | (with_reducible refine ba ?_ _) | (with_reducible refine bdr ?_) | (with_reducible refine below_rg ?_ _ _) | (with_reducible refine bset ?_ _ ?_ _) | (refine bt ?_ (by assumption)) | (simp; done) | (simp; omega)))))).mono ?_); rintro e w1 ⟨rfl, b1⟩; have b9 : Below w.heap.size w _ := bt (by (repeat' (first | (with_reducible exact Below.refl _ _) | (with_reducible assumption) | (with_reducible refine ba ?_ _) | (with_reducible refine bdr ?_) | (with_reducible refine below_rg ?_ _ _) | (with_reducible refine bset ?_ _ ?_ _) | (refine bt ?_ (by assumption)) | (simp; done) | (simp; omega)))) b1; have HK' := Known.step b1 (by (repeat' (first | (with_reducible exact HK) | (with_reducible apply Known.drew) | (with_reducible apply Known.alloc) | (with_reducible apply Known.allocO) | (with_reducible apply Known.setCell)))); replace b0 := b9; clear b9 b1; (try clear kn); (try clear c0 f0 hz); replace HK := HK'; clear HK'; ((try simp only [World.size_alloc, World.size_setCell, World.size_drew] at HK); have kn := HK; simp [Known, setL, NeAll] at kn); obtain ⟨c0, f0⟩ := bcell b0; have hz := b0.size) | (at_builtin; refine lit_base (GoT.size Epoch) (fun bs hbs hown0 => ?_); refine wpList_append_list Epoch.F rfl _ _ 22 rfl bs 25 Try.underlying22 16 Epoch.info _ [] (l) rfl hown0 _ _ _ rfl ?_ ?_ (by decide) ?_ ?_; (focus (exact src_rep Epoch.F _ Epoch.flat (GoT.step Hr.out (by (repeat' (first | (with_reducible exact Below.refl _ _) | (with_reducible assumption) | (with_reducible refine ba ?_ _) | (with_reducible refine bdr ?_) | (with_reducible refine below_rg ?_ _ _) | (with_reducible refine bset ?_ _ ?_ _) | (refine bt ?_ (by assumption)) | (simp; done) | (simp; omega))))))); (focus ((try simp only [List.length_nil, Nat.zero_add]); omega)); (focus (rw [hbs]; simp)); intro v' w1 ho hg; have HKx := grown_lit hg (by (repeat' (first | (with_reducible exact HK) | (with_reducible apply Known.drew) | (with_reducible apply Known.alloc) | (with_reducible apply Known.allocO) | (with_reducible apply Known.setCell)))); have b9 := below_chain (w := w) (by (repeat' (first | (with_reducible exact Below.refl _ _) | (with_reducible assumption) | (with_reducible refine ba ?_ _) | (with_reducible refine bdr ?_) | (with_reducible refine below_rg ?_ _ _) | (with_reducible refine bset ?_ _ ?_ _) | (refine bt ?_ (by assumption)) | (simp; done) | (simp; omega)))) HKx.2; have hbs2 := HKx.2.size; rw [← hbs] at hbs2; have hbs3 := b9.1.size; rw [← hbs] at hbs3; (try simp only [List.nil_append] at ho); have hlt := grow_here ho; (try simp only [World.size_alloc, World.size_setCell, World.size_drew] at hbs); replace b0 := b9.2; clear b9; (try clear kn); (try clear c0 f0 hz); replace HK := HKx.1; clear HKx; ((try simp only [World.size_alloc, World.size_setCell, World.size_drew] at HK); have kn := HK; simp [Known, setL, NeAll] at kn); obtain ⟨c0, f0⟩ := bcell b0; have hz := b0.size) | (at_builtin; refine wpList_append_list Epoch.F rfl _ _ 22 rfl (bs) 25 Try.underlying22 16 Epoch.info _ (l) [⟨(q : Int) + 1 + 1, z⟩] rfl ?_ _ _ _ rfl ?_ ?_ (by decide) ?_ ?_; (focus ((repeat' (first  | (with_reducible refine World.ownsRow.alloc ?_ _) | (with_reducible refine World.ownsRow.drew ?_) | (with_reducible refine Row.set _ _ _ ?_ ?_) | (intro hh; have hh2 := hlt _ hh; (try simp only [World.size_alloc, World.size_setCell, World.size_drew] at hh2); omega) | (exact ho))))); (focus (exact src_one Epoch.F (⟨(q : Int) + 1 + 1, z⟩) (by (repeat' (first | (with_reducible exact HK) | (with_reducible apply Known.drew) | (with_reducible apply Known.alloc) | (with_reducible apply Known.allocO) | (with_reducible apply Known.setCell)))) (by first | rfl | (simp; done)) (by first | rfl | (simp; done)))); (focus ((try simp only [List.length_cons, List.length_nil]); omega)); (focus ((try simp only [World.size_alloc, World.size_setCell, World.size_drew]); omega)); intro v' w1 ho2 hg2; have HK1 := Known.grow hg2 (by (repeat' (first | (with_reducible exact HK) | (with_reducible apply Known.drew) | (with_reducible apply Known.alloc) | (with_reducible apply Known.allocO) | (with_reducible apply Known.setCell)))); have HK' := HK1 (by intro b vs hm hr; have hh2 := hlt _ hr; (try have hh3 := hlt0 _ hr); simp only [List.mem_cons, Prod.mk.injEq, List.not_mem_nil, or_false, setL] at hm; (try simp only [World.size_alloc, World.size_setCell, World.size_drew] at hm hh2); omega); clear HK1; have b9 : Below w.heap.size w w1 := bgr (by (repeat' (first | (with_reducible exact Below.refl _ _) | (with_reducible assumption) | (with_reducible refine ba ?_ _) | (with_reducible refine bdr ?_) | (with_reducible refine below_rg ?_ _ _) | (with_reducible refine bset ?_ _ ?_ _) | (refine bt ?_ (by assumption)) | (simp; done) | (simp; omega)))) hg2 (fun k hk => by have := hlt k hk; omega); replace b0 := b9; clear b9; (try clear kn); (try clear c0 f0 hz); replace HK := HK'; clear HK'; replace ho := ho2; clear ho2 hg2 hlt; ((try simp only [World.size_alloc, World.size_setCell, World.size_drew] at HK); have kn := HK; simp [Known, setL, NeAll] at kn); obtain ⟨c0, f0⟩ := bcell b0; have hz := b0.size) | (go_at_call 20; (with_reducible refine (inSet_any _ _ (by omega) _).mono ?_); rintro e w1 ⟨rfl, rfl⟩))
      all_goals
        first
        | (go_ret2
           (try simp only [wi_iff, wi_iffF, bne_iff_ne, beq_iff_eq, Bool.not_eq_true', bne_eq_false_iff_eq, beq_eq_false_iff_ne, ne_eq, Bool.not_eq_true, Bool.not_eq_false', Bool.not_true, Bool.not_false, decide_eq_true_eq, decide_eq_false_iff_not, Bool.and_eq_true, Bool.or_eq_true, Bool.and_eq_false_imp, Bool.or_eq_false_iff] at *)
           exact TurnR.bad (by rw [hv0.out, if_pos (show z.n = 0 by clear hop; omega)]) (by (repeat' (first | (with_reducible exact Below.refl _ _) | (with_reducible assumption) | (with_reducible refine ba ?_ _) | (with_reducible refine bdr ?_) | (with_reducible refine below_rg ?_ _ _) | (with_reducible refine bset ?_ _ ?_ _) | (refine bt ?_ (by assumption)) | (simp; done) | (simp; omega)))))
        | (go_ret2
           obtain ⟨A2, c2, hv2, hr2⟩ := owns_rep Epoch.F.enc ho Epoch.F.len (fun x hx _ _ => Epoch.rep (hoks.out x hx))
           (try simp only [wi_iff, wi_iffF, bne_iff_ne, beq_iff_eq, Bool.not_eq_true', bne_eq_false_iff_eq, beq_eq_false_iff_ne, ne_eq, Bool.not_eq_true, Bool.not_eq_false', Bool.not_true, Bool.not_false, decide_eq_true_eq, decide_eq_false_iff_not, Bool.and_eq_true, Bool.or_eq_true, Bool.and_eq_false_imp, Bool.or_eq_false_iff] at *)
           exact TurnR.good (by rw [hv0.out, if_neg (show ¬ z.n = 0 by clear hop; omega)]) hv2 hr2 (by (repeat' (first | (with_reducible exact Below.refl _ _) | (with_reducible assumption) | (with_reducible refine ba ?_ _) | (with_reducible refine bdr ?_) | (with_reducible refine below_rg ?_ _ _) | (with_reducible refine bset ?_ _ ?_ _) | (refine bt ?_ (by assumption)) | (simp; done) | (simp; omega)))))
    · rw [if_neg hbit, ← hzn] at hflip
      have hop : IntKind.u64.wrap ((y.members.n : Int) + IntKind.u64.wrap (2 ^ m)) = (z.n : Int) := by rw [add_pow (by rw [hflip]; exact z.lt) (by omega), hflip]
      clear hflip hzn hyl hy
      have b0 := Below.refl w.heap.size w
      have HK := Known.nil w
      go_enter Try.func11, Try.ntmps11
      go_wp2_with (first | (go_at_call 12; (refine ( rcheck_any l _ _ _ _ (GoT.step Hr.out (by (repeat' (first | (with_reducible exact Below.refl _ _) | (with_reducible assumption) | (with_reducible refine ba ?_ _) | (with_reducible refine bdr ?_) | (with_reducible refine below_rg ?_ _ _) | (with_reducible refine bset ?_ _ ?_ _) | (refine bt ?_ (by assumption)) | (simp; done) | (simp; omega)))))).mono ?_); rintro e w1 ⟨rfl, b1⟩; have b9 : Below w.heap.size w _ := bt (by (repeat' (first | (with_reducible exact Below.refl _ _) | (with_reducible assumption) | (with_reducible refine ba ?_ _) | (with_reducible refine bdr ?_) | (with_reducible refine below_rg ?_ _ _) | (with_reducible refine bset ?_ _ ?_ _) | (refine bt ?_ (by assumption)) | (simp; done) | (simp; omega)))) b1; have HK' := Known.step b1 (by (repeat' (first | (with_reducible exact HK) | (with_reducible apply Known.drew) | (with_reducible apply Known.alloc) | (with_reducible apply Known.allocO) | (with_reducible apply Known.setCell)))); replace b0 := b9; clear b9 b1; (try clear kn); (try clear c0 f0 hz); replace HK := HK'; clear HK'; ((try simp only [World.size_alloc, World.size_setCell, World.size_drew] at HK); have kn := HK; simp [Known, setL, NeAll] at kn); obtain ⟨c0, f0⟩ := bcell b0; have hz := b0.size) | (at_builtin; refine lit_base (GoT.size Epoch) (fun bs hbs hown0 => ?_); refine wpList_append_list Epoch.F rfl _ _ 22 rfl bs 25 Try.underlying22 16 Epoch.info _ [] (l) rfl hown0 _ _ _ rfl ?_ ?_ (by decide) ?_ ?_; (focus (exact src_rep Epoch.F _ Epoch.flat (GoT.step Hr.out (by (repeat' (first | (with_reducible exact Below.refl _ _) | (with_reducible assumption) | (with_reducible refine ba ?_ _) | (with_reducible refine bdr ?_) | (with_reducible refine below_rg ?_ _ _) | (with_reducible refine bset ?_ _ ?_ _) | (refine bt ?_ (by assumption)) | (simp; done) | (simp; omega))))))); (focus ((try simp only [List.length_nil, Nat.zero_add]); omega)); (focus (rw [hbs]; simp)); intro v' w1 ho hg; have HKx := grown_lit hg (by (repeat' (first | (with_reducible exact HK) | (with_reducible apply Known.drew) | (with_reducible apply Known.alloc) | (with_reducible apply Known.allocO) | (with_reducible apply Known.setCell)))); have b9 := below_chain (w := w) (by (repeat' (first | (with_reducible exact Below.refl _ _) | (with_reducible assumption) | (with_reducible refine ba ?_ _) | (with_reducible refine bdr ?_) | (with_reducible refine below_rg ?_ _ _) | (with_reducible refine bset ?_ _ ?_ _) | (refine bt ?_ (by assumption)) | (simp; done) | (simp; omega)))) HKx.2; have hbs2 := HKx.2.size; rw [← hbs] at hbs2; have hbs3 := b9.1.size; rw [← hbs] at hbs3; (try simp only [List.nil_append] at ho); have hlt := grow_here ho; (try simp only [World.size_alloc, World.size_setCell, World.size_drew] at hbs); replace b0 := b9.2; clear b9; (try clear kn); (try clear c0 f0 hz); replace HK := HKx.1; clear HKx; ((try simp only [World.size_alloc, World.size_setCell, World.size_drew] at HK); have kn := HK; simp [Known, setL, NeAll] at kn); obtain ⟨c0, f0⟩ := bcell b0; have hz := b0.size) | (at_builtin; refine wpList_append_list Epoch.F rfl _ _ 22 rfl (bs) 25 Try.underlying22 16 Epoch.info _ (l) [⟨(q : Int) + 1 + 1, z⟩] rfl ?_ _ _ _ rfl ?_ ?_ (by decide) ?_ ?_; (focus ((repeat' (first  | (with_reducible refine World.ownsRow.alloc ?_ _) | (with_reducible refine World.ownsRow.drew ?_) | (with_reducible refine Row.set _ _ _ ?_ ?_) | (intro hh; have hh2 := hlt _ hh; (try simp only [World.size_alloc, World.size_setCell, World.size_drew] at hh2); omega) | (exact ho))))); (focus (exact src_one Epoch.F (⟨(q : Int) + 1 + 1, z⟩) (by (repeat' (first | (with_reducible exact HK) | (with_reducible apply Known.drew) | (with_reducible apply Known.alloc) | (with_reducible apply Known.allocO) | (with_reducible apply Known.setCell)))) (by first | rfl | (simp; done)) (by first | rfl | (simp; done)))); (focus ((try simp only [List.length_cons, List.length_nil]); omega)); (focus ((try simp only [World.size_alloc, World.size_setCell, World.size_drew]); omega)); intro v' w1 ho2 hg2; have HK1 := Known.grow hg2 (by (repeat' (first | (with_reducible exact HK) | (with_reducible apply Known.drew) | (with_reducible apply Known.alloc) | (with_reducible apply Known.allocO) | (with_reducible apply Known.setCell)))); have HK' := HK1 (by intro b vs hm hr; have hh2 := hlt _ hr; (try have hh3 := hlt0 _ hr); simp only [List.mem_cons, Prod.mk.injEq, List.not_mem_nil, or_false, setL] at hm; (try simp only [World.size_alloc, World.size_setCell, World.size_drew] at hm hh2); omega); clear HK1; have b9 : Below w.heap.size w w1 := bgr (by (repeat' (first | (with_reducible exact Below.refl _ _) | (with_reducible assumption) | (with_reducible refine ba ?_ _) | (with_reducible refine bdr ?_) | (with_reducible refine below_rg ?_ _ _) | (with_reducible refine bset ?_ _ ?_ _) | (refine bt ?_ (by assumption)) | (simp; done) | (simp; omega)))) hg2 (fun k hk => by have := hlt k hk; omega); replace b0 := b9; clear b9; (try clear kn); (try clear c0 f0 hz); replace HK := HK'; clear HK'; replace ho := ho2; clear ho2 hg2 hlt; ((try simp only [World.size_alloc, World.size_setCell, World.size_drew] at HK); have kn := HK; simp [Known, setL, NeAll] at kn); obtain ⟨c0, f0⟩ := bcell b0; have hz := b0.size) | (go_at_call 20; (with_reducible refine (inSet_any _ _ (by omega) _).mono ?_); rintro e w1 ⟨rfl, rfl⟩))
      all_goals
        first
        | (go_ret2
           (try simp only [wi_iff, wi_iffF, bne_iff_ne, beq_iff_eq, Bool.not_eq_true', bne_eq_false_iff_eq, beq_eq_false_iff_ne, ne_eq, Bool.not_eq_true, Bool.not_eq_false', Bool.not_true, Bool.not_false, decide_eq_true_eq, decide_eq_false_iff_not, Bool.and_eq_true, Bool.or_eq_true, Bool.and_eq_false_imp, Bool.or_eq_false_iff] at *)
           exact TurnR.bad (by rw [hv0.out, if_pos (show z.n = 0 by clear hop; omega)]) (by (repeat' (first | (with_reducible exact Below.refl _ _) | (with_reducible assumption) | (with_reducible refine ba ?_ _) | (with_reducible refine bdr ?_) | (with_reducible refine below_rg ?_ _ _) | (with_reducible refine bset ?_ _ ?_ _) | (refine bt ?_ (by assumption)) | (simp; done) | (simp; omega)))))
        | (go_ret2
           obtain ⟨A2, c2, hv2, hr2⟩ := owns_rep Epoch.F.enc ho Epoch.F.len (fun x hx _ _ => Epoch.rep (hoks.out x hx))
           (try simp only [wi_iff, wi_iffF, bne_iff_ne, beq_iff_eq, Bool.not_eq_true', bne_eq_false_iff_eq, beq_eq_false_iff_ne, ne_eq, Bool.not_eq_true, Bool.not_eq_false', Bool.not_true, Bool.not_false, decide_eq_true_eq, decide_eq_false_iff_not, Bool.and_eq_true, Bool.or_eq_true, Bool.and_eq_false_imp, Bool.or_eq_false_iff] at *)
           exact TurnR.good (by rw [hv0.out, if_neg (show ¬ z.n = 0 by clear hop; omega)]) hv2 hr2 (by (repeat' (first | (with_reducible exact Below.refl _ _) | (with_reducible assumption) | (with_reducible refine ba ?_ _) | (with_reducible refine bdr ?_) | (with_reducible refine below_rg ?_ _ _) | (with_reducible refine bset ?_ _ ?_ _) | (refine bt ?_ (by assumption)) | (simp; done) | (simp; omega)))))
  · have hv := Lib.hid (show Epoch.turnP l node = ([], Epoch.checkP l) by unfold Epoch.turnP; rw [if_neg h0])
    have b0 := Below.refl w.heap.size w
    have HK := Known.nil w
    go_enter Try.func11, Try.ntmps11
    go_wp2_with (first | (go_at_call 12; (refine ( rcheck_any l _ _ _ _ (GoT.step Hr.out (by (repeat' (first | (with_reducible exact Below.refl _ _) | (with_reducible assumption) | (with_reducible refine ba ?_ _) | (with_reducible refine bdr ?_) | (with_reducible refine below_rg ?_ _ _) | (with_reducible refine bset ?_ _ ?_ _) | (refine bt ?_ (by assumption)) | (simp; done) | (simp; omega)))))).mono ?_); rintro e w1 ⟨rfl, b1⟩; have b9 : Below w.heap.size w _ := bt (by (repeat' (first | (with_reducible exact Below.refl _ _) | (with_reducible assumption) | (with_reducible refine ba ?_ _) | (with_reducible refine bdr ?_) | (with_reducible refine below_rg ?_ _ _) | (with_reducible refine bset ?_ _ ?_ _) | (refine bt ?_ (by assumption)) | (simp; done) | (simp; omega)))) b1; have HK' := Known.step b1 (by (repeat' (first | (with_reducible exact HK) | (with_reducible apply Known.drew) | (with_reducible apply Known.alloc) | (with_reducible apply Known.allocO) | (with_reducible apply Known.setCell)))); replace b0 := b9; clear b9 b1; (try clear kn); (try clear c0 f0 hz); replace HK := HK'; clear HK'; ((try simp only [World.size_alloc, World.size_setCell, World.size_drew] at HK); have kn := HK; simp [Known, setL, NeAll] at kn); obtain ⟨c0, f0⟩ := bcell b0; have hz := b0.size) | (go_at_call 20; (with_reducible refine (inSet_any _ _ (by omega) _).mono ?_); rintro e w1 ⟨rfl, rfl⟩))
    go_ret2
    exact TurnR.bad hv.out (by (repeat' (first | (with_reducible exact Below.refl _ _) | (with_reducible assumption) | (with_reducible refine ba ?_ _) | (with_reducible refine bdr ?_) | (with_reducible refine below_rg ?_ _ _) | (with_reducible refine bset ?_ _ ?_ _) | (refine bt ?_ (by assumption)) | (simp; done) | (simp; omega))))
end Go.Proofs.Ytlkiabiphggmgaa
