/- Contracts of the field in one form for every byte: what a logarithm, an inverse, a quotient return, errors too. No condition. -/
import Derived.Test.YtbmfcffdnpnonaaField
namespace Go.Proofs.Ytbmfcffdnpnonaa
open Go.ChangeShapes Go.WideShapes Go.ChangeAt Go.RowKit
open Go.ChangeMaps (open_string shut_string)
def logN (a : UInt8) : Int := if a = 0 then 0 else lg a
def errZ (a : UInt8) : Int := if a = 0 then 5 else 0
def invN (a : UInt8) : UInt8 := if a = 0 then 0 else ginv a
def divN (a b : UInt8) : UInt8 := if b = 0 then 0 else gmul a (ginv b)
theorem log_any (a : UInt8) (w : World) : Calls Try.prog 9 #[B a] w fun e w' => e = .returned (.tuple #[I (logN a), I (errZ a)]) ∧ Below w.heap.size w w' := by
  unfold logN errZ
  by_cases ha : a = 0
  · subst ha; exact log_zero w
  · rw [if_neg ha, if_neg ha]; exact log_some a ha w
theorem inverse_any (a : UInt8) (w : World) : Calls Try.prog 10 #[B a] w fun e w' => e = .returned (.tuple #[B (invN a), I (errZ a)]) ∧ Below w.heap.size w w' := by
  unfold invN errZ
  by_cases ha : a = 0
  · subst ha; exact inverse_zero w
  · rw [if_neg ha, if_neg ha]; exact inverse_some a ha w
theorem divide_any (a b : UInt8) (w : World) : Calls Try.prog 11 #[B a, B b] w fun e w' => e = .returned (.tuple #[B (divN a b), I (errZ b)]) ∧ Below w.heap.size w w' := by
  unfold divN errZ
  by_cases ha : b = 0
  · subst ha; exact divide_zero a w
  · rw [if_neg ha, if_neg ha]; exact divide_some a b ha w
theorem logOf_any (a : UInt8) (w : World) : Calls Try.prog 12 #[B a] w fun e w' => e = .returned (.tuple #[I (logN a), I (errZ a)]) ∧ w = w' := by
  unfold logN errZ
  by_cases ha : a = 0
  · subst ha; exact logOf_zero w
  · rw [if_neg ha, if_neg ha]; exact logOf_some a ha w
theorem quot_any (a b : UInt8) (w : World) : Calls Try.prog 13 #[B a, B b] w fun e w' => e = .returned (.tuple #[B (divN a b), I (errZ b)]) ∧ w = w' := by
  unfold divN errZ
  by_cases ha : b = 0
  · subst ha; exact quot_zero a w
  · rw [if_neg ha, if_neg ha]; exact quot_some a b ha w
theorem quot_1 (b : UInt8) (w : World) : Calls Try.prog 13 #[.int .u8 1, B b] w fun e w' => e = .returned (.tuple #[B (invN b), I (errZ b)]) ∧ w = w' := by
  have h := quot_any 1 b w
  rwa [show divN 1 b = invN b by unfold divN invN; split <;> simp [one_gmul]] at h
end Go.Proofs.Ytbmfcffdnpnonaa
