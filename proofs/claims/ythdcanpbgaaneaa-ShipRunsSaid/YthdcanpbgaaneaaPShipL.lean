/- How the laws of ships take their arguments apart. No condition. -/
import Derived.Test.YthdcanpbgaaneaaPAvLaw
import Derived.Test.YthdcanpbgaaneaaPShipA
namespace Go.Proofs.Ythdcanpbgaaneaa
set_option linter.unusedSimpArgs false
set_option linter.unusedVariables false
instance : GoT Ship := GoT.via (fun x => (x.first, x.second, x.log, x.sent, x.applied, x.known, x.there, x.back))
theorem opens_i64 : Opens Try.prog 3 Int := GoT_i64 Try.underlying3 (by kernel_rfl)
theorem opens_str : Opens Try.prog 9 ByteArray := GoT_str Try.underlying9 (by kernel_rfl)
theorem opens_Act : Opens Try.prog 28 Act := Opens.via (opens_struct Try.underlying28 rfl (by kernel_rfl) (opens_cons opens_i64 rfl (opens_cons opens_i64 rfl (opens_last opens_str rfl)))) _ (fun p => ⟨p.1, p.2.1, p.2.2⟩) (fun _ => rfl)
theorem opens_LAct : Opens Try.prog 37 (List Act) := opens_slice Try.underlying37 (by kernel_rfl) opens_Act (by decide)
theorem opens_Record : Opens Try.prog 62 Record := Opens.via (opens_struct Try.underlying62 rfl (by kernel_rfl) (opens_cons opens_i64 rfl (opens_last opens_str rfl))) _ (fun p => ⟨p.1, p.2⟩) (fun _ => rfl)
theorem opens_LRecord : Opens Try.prog 23 (List Record) := opens_slice Try.underlying23 (by kernel_rfl) opens_Record (by decide)
theorem opens_Lstr : Opens Try.prog 22 (List ByteArray) := opens_slice Try.underlying22 (by kernel_rfl) opens_str (by decide)
theorem opens_Li64 : Opens Try.prog 24 (List Int) := opens_slice Try.underlying24 (by kernel_rfl) opens_i64 (by decide)
theorem opens_Ship : Opens Try.prog 26 Ship := Opens.via (opens_struct Try.underlying26 rfl (by kernel_rfl) (opens_cons opens_Lstr rfl (opens_cons opens_Lstr rfl (opens_cons opens_LRecord rfl (opens_cons opens_i64 rfl (opens_cons opens_i64 rfl (opens_cons opens_i64 rfl (opens_cons opens_Li64 rfl (opens_last opens_Li64 rfl))))))))) _ (fun p => ⟨p.1, p.2.1, p.2.2.1, p.2.2.2.1, p.2.2.2.2.1, p.2.2.2.2.2.1, p.2.2.2.2.2.2.1, p.2.2.2.2.2.2.2⟩) (fun _ => rfl)
theorem rep_strs {w : World} {A : Option Addr} {n c : Nat} {xs : List ByteArray} (h : GoT.rep w w.heap.size [.slice A n c] xs) : Rep (E0 w fun b => b < w.heap.size) (.slice A n c) (.lst 1 (xs.map cZ)) :=
  rep_list (fun x : ByteArray => [.string x]) (fun x => x.size ≤ 9223372036854775807) (fun h => h) (fun _ => rfl) (by intro x v hv; simp at hv; subst hv; exact ⟨rfl, rfl⟩) h
theorem rep_ints {w : World} {A : Option Addr} {n c : Nat} {xs : List Int} (h : GoT.rep w w.heap.size [.slice A n c] xs) : Rep (E0 w fun b => b < w.heap.size) (.slice A n c) (.lst 1 (xs.map cI)) :=
  rep_list (fun x : Int => [I x]) (fun x => -9223372036854775808 ≤ x ∧ x ≤ 9223372036854775807) (fun h => h) (fun _ => rfl) (by intro x v hv; simp at hv; subst hv; exact ⟨rfl, rfl⟩) h
theorem rep_recs {w : World} {A : Option Addr} {n c : Nat} {xs : List Record} (h : GoT.rep w w.heap.size [.slice A n c] xs) : Rep (E0 w fun b => b < w.heap.size) (.slice A n c) (.lst 2 (xs.map Record.cs)) :=
  rep_list (fun x : Record => [I x.block, .string x.data]) _ Record.flat (fun _ => rfl) (by intro x v hv; simp at hv; rcases hv with rfl | rfl <;> exact ⟨rfl, rfl⟩) h
theorem Ship.av {w : World} {cs : List Value} {s : Ship} (h : GoT.rep w w.heap.size cs s) :
    Rep (E0 w fun b => b < w.heap.size) (.agg cs.toArray) (.agg [.lst 1 (s.first.map cZ), .lst 1 (s.second.map cZ), .lst 2 (s.log.map Record.cs), VI s.sent, VI s.applied, VI s.known, .lst 1 (s.there.map cI), .lst 1 (s.back.map cI)]) ∧
      (s.first.length ≤ 9223372036854775807 ∧ s.second.length ≤ 9223372036854775807 ∧ s.log.length ≤ 9223372036854775807 ∧ s.there.length ≤ 9223372036854775807 ∧ s.back.length ≤ 9223372036854775807) := by
  obtain ⟨c0, r0, rfl, h0, c1, r1, rfl, h1, c2, r2, rfl, h2, c3, r3, rfl, h3, c4, r4, rfl, h4, c5, r5, rfl, h5, c6, r6, rfl, h6, h7⟩ := h
  obtain ⟨A0, n0, k0, rfl, g0⟩ := h0
  obtain ⟨A1, n1, k1, rfl, g1⟩ := h1
  obtain ⟨A2, n2, k2, rfl, g2⟩ := h2
  obtain ⟨rfl, _⟩ := h3
  obtain ⟨rfl, _⟩ := h4
  obtain ⟨rfl, _⟩ := h5
  obtain ⟨A6, n6, k6, rfl, g6⟩ := h6
  obtain ⟨A7, n7, k7, rfl, g7⟩ := h7
  refine ⟨?_, ?_⟩
  · exact R2.agg (.cons (rep_strs ⟨_, _, _, rfl, g0⟩) (.cons (rep_strs ⟨_, _, _, rfl, g1⟩) (.cons (rep_recs ⟨_, _, _, rfl, g2⟩) (.cons (.v rfl) (.cons (.v rfl) (.cons (.v rfl) (.cons (rep_ints ⟨_, _, _, rfl, g6⟩) (.cons (rep_ints ⟨_, _, _, rfl, g7⟩) .nil))))))))
  · have := g0.1; have := g0.2.1; have := g0.2.2.1; have := g1.1; have := g1.2.1; have := g1.2.2.1; have := g2.1; have := g2.2.1; have := g2.2.2.1; have := g6.1; have := g6.2.1; have := g6.2.2.1; have := g7.1; have := g7.2.1; have := g7.2.2.1
    dsimp only at *
    omega
end Go.Proofs.Ythdcanpbgaaneaa
