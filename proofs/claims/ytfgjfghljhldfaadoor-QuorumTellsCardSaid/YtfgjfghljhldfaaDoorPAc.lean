/- The code of the program's functions as operations upon abstract values, checked against the program. No condition. -/
import Derived.Test.YtfgjfghljhldfaaDoorRows
import Derived.Test.YtfgjfghljhldfaaDoorPAvRun
set_option maxRecDepth 100000
namespace Go.Proofs.YtfgjfghljhldfaaDoor
/-- supercargolaw.QuorumTells -/
def F3r0 : List AOper := [⟨some 6, .mov (.c (.v (.bool false))), none⟩]
def F3r1 : List AOper := [⟨some 22, .mov (.s 0), none⟩,
  ⟨some 23, .mov (.s 2), none⟩,
  ⟨some 24, .call (.c (.fn 9 [])) [.s 22, .s 23], none⟩,
  ⟨some 21, .mov (.s 24), none⟩,
  ⟨some 25, .ext 0 (.s 21), none⟩,
  ⟨some 26, .ext 1 (.s 21), none⟩,
  ⟨some 7, .mov (.s 25), none⟩,
  ⟨some 8, .mov (.s 26), none⟩]
def F3r2 : List AOper := [⟨some 28, .mov (.s 0), none⟩,
  ⟨some 29, .mov (.s 1), none⟩,
  ⟨some 30, .mov (.s 2), none⟩,
  ⟨some 31, .call (.c (.fn 10 [])) [.s 28, .s 29, .s 30], none⟩,
  ⟨some 27, .mov (.s 31), none⟩,
  ⟨some 32, .ext 0 (.s 27), none⟩,
  ⟨some 33, .ext 1 (.s 27), none⟩,
  ⟨some 9, .mov (.s 32), none⟩,
  ⟨some 10, .mov (.s 33), none⟩]
def F3r3 : List AOper := [⟨some 35, .mov (.s 0), none⟩,
  ⟨some 36, .mov (.s 1), none⟩,
  ⟨some 37, .call (.c (.fn 11 [])) [.s 35, .s 36], none⟩,
  ⟨some 34, .mov (.s 37), none⟩,
  ⟨some 38, .ext 0 (.s 34), none⟩,
  ⟨some 39, .ext 1 (.s 34), none⟩,
  ⟨some 11, .mov (.s 38), none⟩,
  ⟨some 12, .mov (.s 39), none⟩]
def F3r4 : List AOper := [⟨some 41, .mov (.s 0), none⟩,
  ⟨some 42, .mov (.s 1), none⟩,
  ⟨some 43, .call (.c (.fn 12 [])) [.s 41, .s 42], none⟩,
  ⟨some 40, .mov (.s 43), none⟩,
  ⟨some 44, .ext 0 (.s 40), none⟩,
  ⟨some 45, .ext 1 (.s 40), none⟩,
  ⟨some 13, .mov (.s 44), none⟩,
  ⟨some 14, .mov (.s 45), none⟩]
def F3r5 : List AOper := [⟨some 47, .mov (.s 0), none⟩,
  ⟨some 48, .mov (.s 2), none⟩,
  ⟨some 49, .call (.c (.fn 13 [])) [.s 47, .s 48], none⟩,
  ⟨some 46, .mov (.s 49), none⟩,
  ⟨some 50, .ext 0 (.s 46), none⟩,
  ⟨some 51, .ext 1 (.s 46), none⟩,
  ⟨some 15, .mov (.s 50), none⟩,
  ⟨some 16, .mov (.s 51), none⟩]
def F3r6 : List AOper := [⟨some 52, .mov (.s 0), none⟩,
  ⟨some 53, .mov (.s 1), none⟩,
  ⟨some 54, .call (.c (.fn 14 [])) [.s 52, .s 53], none⟩,
  ⟨some 17, .mov (.s 54), none⟩]
def F3r7 : List AOper := [⟨some 55, .mov (.s 17), none⟩,
  ⟨some 18, .mov (.s 55), none⟩,
  ⟨some 19, .mov (.c (.v (.int .i64 0))), none⟩,
  ⟨some 20, .mov (.c (.v (.int .i64 0))), none⟩]
def F3r8 : List AOper := [⟨some 56, .mov (.s 17), none⟩,
  ⟨some 57, .bin false .eql (.s 56) (.c (.v (.int .i64 0))), none⟩]
def F3r9 : List AOper := [⟨some 58, .mov (.s 16), none⟩,
  ⟨some 59, .mov (.s 0), none⟩,
  ⟨some 60, .mov (.s 1), none⟩,
  ⟨some 61, .call (.c (.fn 15 [])) [.s 59, .s 60], none⟩,
  ⟨some 62, .mov (.s 0), none⟩,
  ⟨some 63, .mov (.s 1), none⟩,
  ⟨some 64, .call (.c (.fn 16 [])) [.s 62, .s 63], none⟩,
  ⟨some 18, .mov (.s 58), none⟩,
  ⟨some 19, .mov (.s 61), none⟩,
  ⟨some 20, .mov (.s 64), none⟩]
def F3r10 : List AOper := [⟨some 65, .call (.c (.fn 17 [])) [], none⟩,
  ⟨some 66, .mov (.s 65), none⟩,
  ⟨some 67, .mov (.s 0), some (66, true)⟩,
  ⟨some 68, .mov (.s 1), some (66, true)⟩,
  ⟨some 69, .call (.c (.fn 18 [])) [.s 67, .s 68], some (66, true)⟩,
  ⟨some 70, .mov (.s 17), some (66, true)⟩,
  ⟨some 71, .bin false .eql (.s 69) (.s 70), some (66, true)⟩,
  ⟨some 72, .pick (.s 66) (.s 71) (.c (.v (.bool false))), none⟩,
  ⟨some 73, .mov (.s 72), none⟩,
  ⟨some 74, .mov (.s 7), some (73, true)⟩,
  ⟨some 75, .mov (.s 15), some (73, true)⟩,
  ⟨some 76, .bin false .eql (.s 74) (.s 75), some (73, true)⟩,
  ⟨some 77, .pick (.s 73) (.s 76) (.c (.v (.bool false))), none⟩,
  ⟨some 78, .mov (.s 77), none⟩,
  ⟨some 79, .mov (.s 8), some (78, true)⟩,
  ⟨some 80, .mov (.s 16), some (78, true)⟩,
  ⟨some 81, .bin false .eql (.s 79) (.s 80), some (78, true)⟩,
  ⟨some 82, .pick (.s 78) (.s 81) (.c (.v (.bool false))), none⟩,
  ⟨some 83, .mov (.s 82), none⟩,
  ⟨some 84, .mov (.s 9), some (83, true)⟩,
  ⟨some 85, .mov (.s 18), some (83, true)⟩,
  ⟨some 86, .bin false .eql (.s 85) (.c (.v (.int .i64 0))), some (83, true)⟩,
  ⟨some 87, .mov (.s 86), some (83, true)⟩,
  ⟨some 88, .mov (.s 15), some (87, true)⟩,
  ⟨some 89, .mov (.s 1), some (87, true)⟩,
  ⟨some 90, .bin false .geq (.s 88) (.s 89), some (87, true)⟩,
  ⟨some 91, .pick (.s 87) (.s 90) (.c (.v (.bool false))), some (83, true)⟩,
  ⟨some 92, .bin true .eql (.s 84) (.s 91), some (83, true)⟩,
  ⟨some 93, .pick (.s 83) (.s 92) (.c (.v (.bool false))), none⟩,
  ⟨some 94, .mov (.s 93), none⟩,
  ⟨some 95, .mov (.s 10), some (94, true)⟩,
  ⟨some 96, .mov (.s 18), some (94, true)⟩,
  ⟨some 97, .bin false .eql (.s 95) (.s 96), some (94, true)⟩,
  ⟨some 98, .pick (.s 94) (.s 97) (.c (.v (.bool false))), none⟩,
  ⟨some 99, .mov (.s 98), none⟩,
  ⟨some 100, .mov (.s 11), some (99, true)⟩,
  ⟨some 101, .mov (.s 19), some (99, true)⟩,
  ⟨some 102, .bin false .eql (.s 100) (.s 101), some (99, true)⟩,
  ⟨some 103, .pick (.s 99) (.s 102) (.c (.v (.bool false))), none⟩,
  ⟨some 104, .mov (.s 103), none⟩,
  ⟨some 105, .mov (.s 12), some (104, true)⟩,
  ⟨some 106, .mov (.s 17), some (104, true)⟩,
  ⟨some 107, .bin false .eql (.s 105) (.s 106), some (104, true)⟩,
  ⟨some 108, .pick (.s 104) (.s 107) (.c (.v (.bool false))), none⟩,
  ⟨some 109, .mov (.s 108), none⟩,
  ⟨some 110, .mov (.s 13), some (109, true)⟩,
  ⟨some 111, .mov (.s 20), some (109, true)⟩,
  ⟨some 112, .bin false .eql (.s 110) (.s 111), some (109, true)⟩,
  ⟨some 113, .pick (.s 109) (.s 112) (.c (.v (.bool false))), none⟩,
  ⟨some 114, .mov (.s 113), none⟩,
  ⟨some 115, .mov (.s 14), some (114, true)⟩,
  ⟨some 116, .mov (.s 17), some (114, true)⟩,
  ⟨some 117, .bin false .eql (.s 115) (.s 116), some (114, true)⟩,
  ⟨some 118, .pick (.s 114) (.s 117) (.c (.v (.bool false))), none⟩,
  ⟨some 6, .mov (.s 118), none⟩]
def F3 : AFn := ⟨119, [.tmp 6],
  .seq (.reg F3r0 none)
  (.seq (.reg F3r1 none)
  (.seq (.reg F3r2 none)
  (.seq (.reg F3r3 none)
  (.seq (.reg F3r4 none)
  (.seq (.reg F3r5 none)
  (.seq (.reg F3r6 none)
  (.seq (.reg F3r7 none)
  (.seq (.seq (.reg F3r8 none)
  (.cond (.s 57)
    (.reg F3r9 none)
    (.skip)))
  (.seq (.reg F3r10 none)
  (.ret))))))))))⟩
theorem F3_ok : cFunc Tryd.prog 3 = some F3 := by kernel_rfl
/-- quorum.Sum -/
def F9r0 : List AOper := [⟨some 4, .mov (.c (.v (.int .i64 0))), none⟩,
  ⟨some 5, .mov (.c (.v (.int .i64 0))), none⟩]
def F9r1 : List AOper := [⟨some 9, .mov (.s 0), none⟩,
  ⟨some 10, .call (.c (.fn 20 [])) [.s 9], none⟩,
  ⟨some 8, .mov (.s 10), none⟩,
  ⟨some 11, .ext 0 (.s 8), none⟩,
  ⟨some 12, .ext 1 (.s 8), none⟩,
  ⟨some 6, .mov (.s 11), none⟩,
  ⟨some 7, .mov (.s 12), none⟩]
def F9r2 : List AOper := [⟨some 13, .mov (.s 7), none⟩,
  ⟨some 14, .bin false .neq (.s 13) (.c (.v (.int .i64 0))), none⟩]
def F9r3 : List AOper := [⟨some 15, .mov (.s 7), none⟩,
  ⟨some 4, .mov (.c (.v (.int .i64 0))), none⟩,
  ⟨some 5, .mov (.s 15), none⟩]
def F9r4 : List AOper := [⟨some 16, .mov (.s 1), none⟩,
  ⟨some 17, .call (.c (.fn 21 [])) [.s 16], none⟩,
  ⟨some 18, .mov (.s 0), none⟩,
  ⟨some 19, .len false (.s 18), none⟩,
  ⟨some 20, .bin false .gtr (.s 17) (.s 19), none⟩]
def F9r5 : List AOper := [⟨some 4, .mov (.c (.v (.int .i64 0))), none⟩,
  ⟨some 5, .mov (.c (.v (.int .i64 3))), none⟩]
def F9r6 : List AOper := [⟨some 21, .mov (.s 1), none⟩,
  ⟨some 22, .bin false .neq (.s 21) (.c (.v (.int .u64 0))), none⟩]
def F9r7 : List AOper := [⟨some 27, .mov (.s 4), none⟩,
  ⟨some 28, .mov (.s 0), none⟩,
  ⟨some 29, .mov (.s 1), none⟩,
  ⟨some 30, .call (.c (.fn 22 [])) [.s 29], none⟩,
  ⟨some 31, .iad 1 (.s 28) (.s 30), none⟩,
  ⟨some 32, .load none (.s 31), none⟩,
  ⟨some 33, .bin false .add (.s 27) (.s 32), none⟩,
  ⟨some 4, .mov (.s 33), none⟩]
def F9r8 : List AOper := [⟨some 23, .mov (.s 1), none⟩,
  ⟨some 24, .mov (.s 1), none⟩,
  ⟨some 25, .bin false .sub (.s 24) (.c (.v (.int .u64 1))), none⟩,
  ⟨some 26, .bin false .and (.s 23) (.s 25), none⟩,
  ⟨some 1, .mov (.s 26), none⟩]
def F9r9 : List AOper := [⟨some 34, .mov (.s 4), none⟩,
  ⟨some 4, .mov (.s 34), none⟩,
  ⟨some 5, .mov (.c (.v (.int .i64 0))), none⟩]
def F9 : AFn := ⟨35, [.tmp 4, .tmp 5],
  .seq (.reg F9r0 none)
  (.seq (.seq (.reg F9r1 none)
  (.seq (.reg F9r2 none)
  (.cond (.s 14)
    (.seq (.reg F9r3 none)
    (.ret))
    (.skip))))
  (.seq (.seq (.reg F9r4 none)
  (.cond (.s 20)
    (.seq (.reg F9r5 none)
    (.ret))
    (.skip)))
  (.seq (.block 0 (
    .loop (
      .seq (.seq (.reg F9r6 none)
      (.cond (.s 22)
        (.skip)
        (.exit 0)))
      (.seq (.block 1 (
        .reg F9r7 none))
      (.reg F9r8 none)))))
  (.seq (.reg F9r9 none)
  (.ret)))))⟩
theorem F9_ok : cFunc Tryd.prog 9 = some F9 := by kernel_rfl
theorem F9_call : callable Tryd.prog 9 = true := by kernel_rfl
/-- quorum.Enough -/
def F10r0 : List AOper := [⟨some 6, .mov (.c (.v (.bool false))), none⟩,
  ⟨some 7, .mov (.c (.v (.int .i64 0))), none⟩]
def F10r1 : List AOper := [⟨some 11, .mov (.s 0), none⟩,
  ⟨some 12, .mov (.s 1), none⟩,
  ⟨some 13, .call (.c (.fn 18 [])) [.s 11, .s 12], none⟩,
  ⟨some 8, .mov (.s 13), none⟩]
def F10r2 : List AOper := [⟨some 14, .mov (.s 8), none⟩,
  ⟨some 15, .bin false .neq (.s 14) (.c (.v (.int .i64 0))), none⟩]
def F10r3 : List AOper := [⟨some 16, .mov (.s 8), none⟩,
  ⟨some 6, .mov (.c (.v (.bool false))), none⟩,
  ⟨some 7, .mov (.s 16), none⟩]
def F10r4 : List AOper := [⟨some 18, .mov (.s 0), none⟩,
  ⟨some 19, .mov (.s 2), none⟩,
  ⟨some 20, .call (.c (.fn 9 [])) [.s 18, .s 19], none⟩,
  ⟨some 17, .mov (.s 20), none⟩,
  ⟨some 21, .ext 0 (.s 17), none⟩,
  ⟨some 22, .ext 1 (.s 17), none⟩,
  ⟨some 9, .mov (.s 21), none⟩,
  ⟨some 10, .mov (.s 22), none⟩]
def F10r5 : List AOper := [⟨some 23, .mov (.s 10), none⟩,
  ⟨some 24, .bin false .eql (.s 23) (.c (.v (.int .i64 0))), none⟩,
  ⟨some 25, .mov (.s 24), none⟩,
  ⟨some 26, .mov (.s 9), some (25, true)⟩,
  ⟨some 27, .mov (.s 1), some (25, true)⟩,
  ⟨some 28, .bin false .geq (.s 26) (.s 27), some (25, true)⟩,
  ⟨some 29, .pick (.s 25) (.s 28) (.c (.v (.bool false))), none⟩,
  ⟨some 30, .mov (.s 10), none⟩,
  ⟨some 6, .mov (.s 29), none⟩,
  ⟨some 7, .mov (.s 30), none⟩]
def F10 : AFn := ⟨31, [.tmp 6, .tmp 7],
  .seq (.reg F10r0 none)
  (.seq (.seq (.reg F10r1 none)
  (.seq (.reg F10r2 none)
  (.cond (.s 15)
    (.seq (.reg F10r3 none)
    (.ret))
    (.skip))))
  (.seq (.reg F10r4 none)
  (.seq (.reg F10r5 none)
  (.ret))))⟩
theorem F10_ok : cFunc Tryd.prog 10 = some F10 := by kernel_rfl
theorem F10_call : callable Tryd.prog 10 = true := by kernel_rfl
/-- quorum.Least -/
def F11r0 : List AOper := [⟨some 4, .mov (.c (.v (.int .i64 0))), none⟩,
  ⟨some 5, .mov (.c (.v (.int .i64 0))), none⟩]
def F11r1 : List AOper := [⟨some 7, .mov (.s 0), none⟩,
  ⟨some 8, .mov (.s 1), none⟩,
  ⟨some 9, .call (.c (.fn 18 [])) [.s 7, .s 8], none⟩,
  ⟨some 6, .mov (.s 9), none⟩]
def F11r2 : List AOper := [⟨some 10, .mov (.s 6), none⟩,
  ⟨some 11, .bin false .neq (.s 10) (.c (.v (.int .i64 0))), none⟩]
def F11r3 : List AOper := [⟨some 12, .mov (.s 6), none⟩,
  ⟨some 4, .mov (.c (.v (.int .i64 0))), none⟩,
  ⟨some 5, .mov (.s 12), none⟩]
def F11r4 : List AOper := [⟨some 13, .mov (.s 0), none⟩,
  ⟨some 14, .mov (.s 1), none⟩,
  ⟨some 15, .call (.c (.fn 23 [])) [.s 13, .s 14], none⟩,
  ⟨some 4, .mov (.s 15), none⟩,
  ⟨some 5, .mov (.c (.v (.int .i64 0))), none⟩]
def F11 : AFn := ⟨16, [.tmp 4, .tmp 5],
  .seq (.reg F11r0 none)
  (.seq (.seq (.reg F11r1 none)
  (.seq (.reg F11r2 none)
  (.cond (.s 11)
    (.seq (.reg F11r3 none)
    (.ret))
    (.skip))))
  (.seq (.reg F11r4 none)
  (.ret)))⟩
theorem F11_ok : cFunc Tryd.prog 11 = some F11 := by kernel_rfl
theorem F11_call : callable Tryd.prog 11 = true := by kernel_rfl
/-- quorum.Spare -/
def F12r0 : List AOper := [⟨some 4, .mov (.c (.v (.int .i64 0))), none⟩,
  ⟨some 5, .mov (.c (.v (.int .i64 0))), none⟩]
def F12r1 : List AOper := [⟨some 9, .mov (.s 0), none⟩,
  ⟨some 10, .mov (.s 1), none⟩,
  ⟨some 11, .call (.c (.fn 18 [])) [.s 9, .s 10], none⟩,
  ⟨some 6, .mov (.s 11), none⟩]
def F12r2 : List AOper := [⟨some 12, .mov (.s 6), none⟩,
  ⟨some 13, .bin false .neq (.s 12) (.c (.v (.int .i64 0))), none⟩]
def F12r3 : List AOper := [⟨some 14, .mov (.s 6), none⟩,
  ⟨some 4, .mov (.c (.v (.int .i64 0))), none⟩,
  ⟨some 5, .mov (.s 14), none⟩]
def F12r4 : List AOper := [⟨some 16, .mov (.s 0), none⟩,
  ⟨some 17, .call (.c (.fn 20 [])) [.s 16], none⟩,
  ⟨some 15, .mov (.s 17), none⟩,
  ⟨some 18, .ext 0 (.s 15), none⟩,
  ⟨some 19, .ext 1 (.s 15), none⟩,
  ⟨some 7, .mov (.s 18), none⟩,
  ⟨some 8, .mov (.s 19), none⟩]
def F12r5 : List AOper := [⟨some 20, .mov (.s 0), none⟩,
  ⟨some 21, .mov (.s 7), none⟩,
  ⟨some 22, .mov (.s 1), none⟩,
  ⟨some 23, .bin false .sub (.s 21) (.s 22), none⟩,
  ⟨some 24, .bin false .add (.s 23) (.c (.v (.int .i64 1))), none⟩,
  ⟨some 25, .call (.c (.fn 23 [])) [.s 20, .s 24], none⟩,
  ⟨some 26, .bin false .sub (.s 25) (.c (.v (.int .i64 1))), none⟩,
  ⟨some 4, .mov (.s 26), none⟩,
  ⟨some 5, .mov (.c (.v (.int .i64 0))), none⟩]
def F12 : AFn := ⟨27, [.tmp 4, .tmp 5],
  .seq (.reg F12r0 none)
  (.seq (.seq (.reg F12r1 none)
  (.seq (.reg F12r2 none)
  (.cond (.s 13)
    (.seq (.reg F12r3 none)
    (.ret))
    (.skip))))
  (.seq (.reg F12r4 none)
  (.seq (.reg F12r5 none)
  (.ret))))⟩
theorem F12_ok : cFunc Tryd.prog 12 = some F12 := by kernel_rfl
theorem F12_call : callable Tryd.prog 12 = true := by kernel_rfl
/-- supercargoref.SumNo -/
def F13r0 : List AOper := [⟨some 4, .mov (.c (.v (.int .i64 0))), none⟩,
  ⟨some 5, .mov (.c (.v (.int .i64 0))), none⟩]
def F13r1 : List AOper := [⟨some 9, .mov (.s 0), none⟩,
  ⟨some 10, .call (.c (.fn 24 [])) [.s 9], none⟩,
  ⟨some 8, .mov (.s 10), none⟩,
  ⟨some 11, .ext 0 (.s 8), none⟩,
  ⟨some 12, .ext 1 (.s 8), none⟩,
  ⟨some 6, .mov (.s 11), none⟩,
  ⟨some 7, .mov (.s 12), none⟩]
def F13r2 : List AOper := [⟨some 13, .mov (.s 7), none⟩,
  ⟨some 14, .bin false .eql (.s 13) (.c (.v (.int .i64 0))), none⟩,
  ⟨some 15, .mov (.s 14), none⟩,
  ⟨some 16, .mov (.s 1), some (15, true)⟩,
  ⟨some 17, .mov (.s 0), some (15, true)⟩,
  ⟨some 18, .len false (.s 17), some (15, true)⟩,
  ⟨some 19, .bin false .shl (.c (.v (.int .u64 1))) (.s 18), some (15, true)⟩,
  ⟨some 20, .bin false .geq (.s 16) (.s 19), some (15, true)⟩,
  ⟨some 21, .pick (.s 15) (.s 20) (.c (.v (.bool false))), none⟩]
def F13r3 : List AOper := [⟨some 7, .mov (.c (.v (.int .i64 3))), none⟩]
def F13r4 : List AOper := [⟨some 22, .mov (.s 7), none⟩,
  ⟨some 23, .bin false .neq (.s 22) (.c (.v (.int .i64 0))), none⟩]
def F13r5 : List AOper := [⟨some 24, .mov (.s 7), none⟩,
  ⟨some 4, .mov (.c (.v (.int .i64 0))), none⟩,
  ⟨some 5, .mov (.s 24), none⟩]
def F13r6 : List AOper := [⟨some 25, .mov (.s 0), none⟩,
  ⟨some 26, .mov (.s 1), none⟩,
  ⟨some 27, .call (.c (.fn 25 [])) [.s 25, .s 26], none⟩,
  ⟨some 4, .mov (.s 27), none⟩,
  ⟨some 5, .mov (.c (.v (.int .i64 0))), none⟩]
def F13 : AFn := ⟨28, [.tmp 4, .tmp 5],
  .seq (.reg F13r0 none)
  (.seq (.reg F13r1 none)
  (.seq (.seq (.reg F13r2 none)
  (.cond (.s 21)
    (.reg F13r3 none)
    (.skip)))
  (.seq (.seq (.reg F13r4 none)
  (.cond (.s 23)
    (.seq (.reg F13r5 none)
    (.ret))
    (.skip)))
  (.seq (.reg F13r6 none)
  (.ret)))))⟩
theorem F13_ok : cFunc Tryd.prog 13 = some F13 := by kernel_rfl
theorem F13_call : callable Tryd.prog 13 = true := by kernel_rfl
/-- supercargoref.QuorumCheck -/
def F14r0 : List AOper := [⟨some 4, .mov (.c (.v (.int .i64 0))), none⟩]
def F14r1 : List AOper := [⟨some 8, .mov (.s 0), none⟩,
  ⟨some 9, .call (.c (.fn 24 [])) [.s 8], none⟩,
  ⟨some 7, .mov (.s 9), none⟩,
  ⟨some 10, .ext 0 (.s 7), none⟩,
  ⟨some 11, .ext 1 (.s 7), none⟩,
  ⟨some 5, .mov (.s 10), none⟩,
  ⟨some 6, .mov (.s 11), none⟩]
def F14r2 : List AOper := [⟨some 12, .mov (.s 6), none⟩,
  ⟨some 13, .bin false .neq (.s 12) (.c (.v (.int .i64 0))), none⟩]
def F14r3 : List AOper := [⟨some 14, .mov (.s 6), none⟩,
  ⟨some 4, .mov (.s 14), none⟩]
def F14r4 : List AOper := [⟨some 15, .mov (.s 1), none⟩,
  ⟨some 16, .bin false .lss (.s 15) (.c (.v (.int .i64 1))), none⟩,
  ⟨some 17, .mov (.s 16), none⟩,
  ⟨some 18, .mov (.s 1), some (17, false)⟩,
  ⟨some 19, .mov (.s 5), some (17, false)⟩,
  ⟨some 20, .bin false .gtr (.s 18) (.s 19), some (17, false)⟩,
  ⟨some 21, .pick (.s 17) (.c (.v (.bool true))) (.s 20), none⟩]
def F14r5 : List AOper := [⟨some 4, .mov (.c (.v (.int .i64 3))), none⟩]
def F14r6 : List AOper := [⟨some 22, .mov (.s 1), none⟩,
  ⟨some 23, .bin false .mul (.s 22) (.c (.v (.int .i64 2))), none⟩,
  ⟨some 24, .mov (.s 5), none⟩,
  ⟨some 25, .bin false .leq (.s 23) (.s 24), none⟩]
def F14r7 : List AOper := [⟨some 4, .mov (.c (.v (.int .i64 4))), none⟩]
def F14r8 : List AOper := [⟨some 4, .mov (.c (.v (.int .i64 0))), none⟩]
def F14 : AFn := ⟨26, [.tmp 4],
  .seq (.reg F14r0 none)
  (.seq (.reg F14r1 none)
  (.seq (.seq (.reg F14r2 none)
  (.cond (.s 13)
    (.seq (.reg F14r3 none)
    (.ret))
    (.skip)))
  (.seq (.seq (.reg F14r4 none)
  (.cond (.s 21)
    (.seq (.reg F14r5 none)
    (.ret))
    (.skip)))
  (.seq (.seq (.reg F14r6 none)
  (.cond (.s 25)
    (.seq (.reg F14r7 none)
    (.ret))
    (.skip)))
  (.seq (.reg F14r8 none)
  (.ret))))))⟩
theorem F14_ok : cFunc Tryd.prog 14 = some F14 := by kernel_rfl
theorem F14_call : callable Tryd.prog 14 = true := by kernel_rfl
/-- supercargoref.LeastOf -/
def F15r0 : List AOper := [⟨some 4, .mov (.c (.v (.int .i64 0))), none⟩]
def F15r1 : List AOper := [⟨some 7, .mov (.s 0), none⟩,
  ⟨some 8, .len false (.s 7), none⟩,
  ⟨some 5, .mov (.s 8), none⟩]
def F15r2 : List AOper := [⟨some 6, .mov (.c (.v (.int .u64 0))), none⟩]
def F15r3 : List AOper := [⟨some 9, .mov (.s 6), none⟩,
  ⟨some 10, .mov (.s 0), none⟩,
  ⟨some 11, .len false (.s 10), none⟩,
  ⟨some 12, .bin false .shl (.c (.v (.int .u64 1))) (.s 11), none⟩,
  ⟨some 13, .bin false .lss (.s 9) (.s 12), none⟩]
def F15r4 : List AOper := [⟨some 16, .mov (.s 0), none⟩,
  ⟨some 17, .mov (.s 6), none⟩,
  ⟨some 18, .call (.c (.fn 25 [])) [.s 16, .s 17], none⟩,
  ⟨some 19, .mov (.s 1), none⟩,
  ⟨some 20, .bin false .geq (.s 18) (.s 19), none⟩,
  ⟨some 21, .mov (.s 20), none⟩,
  ⟨some 22, .mov (.s 6), some (21, true)⟩,
  ⟨some 23, .call (.c (.fn 19 [])) [.s 22], some (21, true)⟩,
  ⟨some 24, .mov (.s 5), some (21, true)⟩,
  ⟨some 25, .bin false .lss (.s 23) (.s 24), some (21, true)⟩,
  ⟨some 26, .pick (.s 21) (.s 25) (.c (.v (.bool false))), none⟩]
def F15r5 : List AOper := [⟨some 27, .mov (.s 6), none⟩,
  ⟨some 28, .call (.c (.fn 19 [])) [.s 27], none⟩,
  ⟨some 5, .mov (.s 28), none⟩]
def F15r6 : List AOper := [⟨some 14, .mov (.s 6), none⟩,
  ⟨some 15, .bin false .add (.s 14) (.c (.v (.int .u64 1))), none⟩,
  ⟨some 6, .mov (.s 15), none⟩]
def F15r7 : List AOper := [⟨some 29, .mov (.s 5), none⟩,
  ⟨some 4, .mov (.s 29), none⟩]
def F15 : AFn := ⟨30, [.tmp 4],
  .seq (.reg F15r0 none)
  (.seq (.reg F15r1 none)
  (.seq (.seq (.reg F15r2 none)
  (.block 0 (
    .loop (
      .seq (.seq (.reg F15r3 none)
      (.cond (.s 13)
        (.skip)
        (.exit 0)))
      (.seq (.block 1 (
        .seq (.reg F15r4 none)
        (.cond (.s 26)
          (.reg F15r5 none)
          (.skip))))
      (.reg F15r6 none))))))
  (.seq (.reg F15r7 none)
  (.ret))))⟩
theorem F15_ok : cFunc Tryd.prog 15 = some F15 := by kernel_rfl
theorem F15_call : callable Tryd.prog 15 = true := by kernel_rfl
/-- supercargoref.SpareOf -/
def F16r0 : List AOper := [⟨some 4, .mov (.c (.v (.int .i64 0))), none⟩]
def F16r1 : List AOper := [⟨some 7, .mov (.s 0), none⟩,
  ⟨some 8, .len false (.s 7), none⟩,
  ⟨some 5, .mov (.s 8), none⟩]
def F16r2 : List AOper := [⟨some 6, .mov (.c (.v (.int .u64 0))), none⟩]
def F16r3 : List AOper := [⟨some 9, .mov (.s 6), none⟩,
  ⟨some 10, .mov (.s 0), none⟩,
  ⟨some 11, .len false (.s 10), none⟩,
  ⟨some 12, .bin false .shl (.c (.v (.int .u64 1))) (.s 11), none⟩,
  ⟨some 13, .bin false .lss (.s 9) (.s 12), none⟩]
def F16r4 : List AOper := [⟨some 16, .mov (.s 0), none⟩,
  ⟨some 17, .mov (.s 6), none⟩,
  ⟨some 18, .call (.c (.fn 25 [])) [.s 16, .s 17], none⟩,
  ⟨some 19, .mov (.s 1), none⟩,
  ⟨some 20, .bin false .lss (.s 18) (.s 19), none⟩,
  ⟨some 21, .mov (.s 20), none⟩,
  ⟨some 22, .mov (.s 0), some (21, true)⟩,
  ⟨some 23, .len false (.s 22), some (21, true)⟩,
  ⟨some 24, .mov (.s 6), some (21, true)⟩,
  ⟨some 25, .call (.c (.fn 19 [])) [.s 24], some (21, true)⟩,
  ⟨some 26, .bin false .sub (.s 23) (.s 25), some (21, true)⟩,
  ⟨some 27, .bin false .sub (.s 26) (.c (.v (.int .i64 1))), some (21, true)⟩,
  ⟨some 28, .mov (.s 5), some (21, true)⟩,
  ⟨some 29, .bin false .lss (.s 27) (.s 28), some (21, true)⟩,
  ⟨some 30, .pick (.s 21) (.s 29) (.c (.v (.bool false))), none⟩]
def F16r5 : List AOper := [⟨some 31, .mov (.s 0), none⟩,
  ⟨some 32, .len false (.s 31), none⟩,
  ⟨some 33, .mov (.s 6), none⟩,
  ⟨some 34, .call (.c (.fn 19 [])) [.s 33], none⟩,
  ⟨some 35, .bin false .sub (.s 32) (.s 34), none⟩,
  ⟨some 36, .bin false .sub (.s 35) (.c (.v (.int .i64 1))), none⟩,
  ⟨some 5, .mov (.s 36), none⟩]
def F16r6 : List AOper := [⟨some 14, .mov (.s 6), none⟩,
  ⟨some 15, .bin false .add (.s 14) (.c (.v (.int .u64 1))), none⟩,
  ⟨some 6, .mov (.s 15), none⟩]
def F16r7 : List AOper := [⟨some 37, .mov (.s 5), none⟩,
  ⟨some 4, .mov (.s 37), none⟩]
def F16 : AFn := ⟨38, [.tmp 4],
  .seq (.reg F16r0 none)
  (.seq (.reg F16r1 none)
  (.seq (.seq (.reg F16r2 none)
  (.block 0 (
    .loop (
      .seq (.seq (.reg F16r3 none)
      (.cond (.s 13)
        (.skip)
        (.exit 0)))
      (.seq (.block 1 (
        .seq (.reg F16r4 none)
        (.cond (.s 30)
          (.reg F16r5 none)
          (.skip))))
      (.reg F16r6 none))))))
  (.seq (.reg F16r7 none)
  (.ret))))⟩
theorem F16_ok : cFunc Tryd.prog 16 = some F16 := by kernel_rfl
theorem F16_call : callable Tryd.prog 16 = true := by kernel_rfl
/-- supercargolaw.quorumBegun -/
def F17r0 : List AOper := [⟨some 0, .mov (.c (.v (.bool false))), none⟩]
def F17r1 : List AOper := [⟨some 12, .bsl 1 4 [.v (.int .i64 0)] [(0, .c (.v (.int .i64 3))), (1, .c (.v (.int .i64 1))), (2, .c (.v (.int .i64 1))), (3, .c (.v (.int .i64 2)))], none⟩,
  ⟨some 1, .mov (.s 12), none⟩]
def F17r2 : List AOper := [⟨some 14, .mov (.s 1), none⟩,
  ⟨some 15, .call (.c (.fn 9 [])) [.s 14, .c (.v (.int .u64 5))], none⟩,
  ⟨some 13, .mov (.s 15), none⟩,
  ⟨some 16, .ext 0 (.s 13), none⟩,
  ⟨some 17, .ext 1 (.s 13), none⟩,
  ⟨some 2, .mov (.s 16), none⟩,
  ⟨some 3, .mov (.s 17), none⟩]
def F17r3 : List AOper := [⟨some 19, .mov (.s 1), none⟩,
  ⟨some 20, .call (.c (.fn 10 [])) [.s 19, .c (.v (.int .i64 4)), .c (.v (.int .u64 9))], none⟩,
  ⟨some 18, .mov (.s 20), none⟩,
  ⟨some 21, .ext 0 (.s 18), none⟩,
  ⟨some 22, .ext 1 (.s 18), none⟩,
  ⟨some 4, .mov (.s 21), none⟩,
  ⟨some 5, .mov (.s 22), none⟩]
def F17r4 : List AOper := [⟨some 24, .mov (.s 1), none⟩,
  ⟨some 25, .call (.c (.fn 11 [])) [.s 24, .c (.v (.int .i64 4))], none⟩,
  ⟨some 23, .mov (.s 25), none⟩,
  ⟨some 26, .ext 0 (.s 23), none⟩,
  ⟨some 27, .ext 1 (.s 23), none⟩,
  ⟨some 6, .mov (.s 26), none⟩,
  ⟨some 7, .mov (.s 27), none⟩]
def F17r5 : List AOper := [⟨some 29, .mov (.s 1), none⟩,
  ⟨some 30, .call (.c (.fn 12 [])) [.s 29, .c (.v (.int .i64 4))], none⟩,
  ⟨some 28, .mov (.s 30), none⟩,
  ⟨some 31, .ext 0 (.s 28), none⟩,
  ⟨some 32, .ext 1 (.s 28), none⟩,
  ⟨some 8, .mov (.s 31), none⟩,
  ⟨some 9, .mov (.s 32), none⟩]
def F17r6 : List AOper := [⟨some 34, .mov (.s 1), none⟩,
  ⟨some 35, .call (.c (.fn 9 [])) [.s 34, .c (.v (.int .u64 16))], none⟩,
  ⟨some 33, .mov (.s 35), none⟩,
  ⟨some 36, .ext 0 (.s 33), none⟩,
  ⟨some 37, .ext 1 (.s 33), none⟩,
  ⟨some 10, .mov (.s 36), none⟩,
  ⟨some 11, .mov (.s 37), none⟩]
def F17r7 : List AOper := [⟨some 38, .mov (.s 2), none⟩,
  ⟨some 39, .bin false .eql (.s 38) (.c (.v (.int .i64 4))), none⟩,
  ⟨some 40, .mov (.s 39), none⟩,
  ⟨some 41, .mov (.s 3), some (40, true)⟩,
  ⟨some 42, .bin false .eql (.s 41) (.c (.v (.int .i64 0))), some (40, true)⟩,
  ⟨some 43, .pick (.s 40) (.s 42) (.c (.v (.bool false))), none⟩,
  ⟨some 44, .mov (.s 43), none⟩,
  ⟨some 45, .mov (.s 4), some (44, true)⟩,
  ⟨some 46, .pick (.s 44) (.s 45) (.c (.v (.bool false))), none⟩,
  ⟨some 47, .mov (.s 46), none⟩,
  ⟨some 48, .mov (.s 5), some (47, true)⟩,
  ⟨some 49, .bin false .eql (.s 48) (.c (.v (.int .i64 0))), some (47, true)⟩,
  ⟨some 50, .pick (.s 47) (.s 49) (.c (.v (.bool false))), none⟩,
  ⟨some 51, .mov (.s 50), none⟩,
  ⟨some 52, .mov (.s 6), some (51, true)⟩,
  ⟨some 53, .bin false .eql (.s 52) (.c (.v (.int .i64 2))), some (51, true)⟩,
  ⟨some 54, .pick (.s 51) (.s 53) (.c (.v (.bool false))), none⟩,
  ⟨some 55, .mov (.s 54), none⟩,
  ⟨some 56, .mov (.s 7), some (55, true)⟩,
  ⟨some 57, .bin false .eql (.s 56) (.c (.v (.int .i64 0))), some (55, true)⟩,
  ⟨some 58, .pick (.s 55) (.s 57) (.c (.v (.bool false))), none⟩,
  ⟨some 59, .mov (.s 58), none⟩,
  ⟨some 60, .mov (.s 8), some (59, true)⟩,
  ⟨some 61, .bin false .eql (.s 60) (.c (.v (.int .i64 1))), some (59, true)⟩,
  ⟨some 62, .pick (.s 59) (.s 61) (.c (.v (.bool false))), none⟩,
  ⟨some 63, .mov (.s 62), none⟩,
  ⟨some 64, .mov (.s 9), some (63, true)⟩,
  ⟨some 65, .bin false .eql (.s 64) (.c (.v (.int .i64 0))), some (63, true)⟩,
  ⟨some 66, .pick (.s 63) (.s 65) (.c (.v (.bool false))), none⟩,
  ⟨some 67, .mov (.s 66), none⟩,
  ⟨some 68, .mov (.s 11), some (67, true)⟩,
  ⟨some 69, .bin false .eql (.s 68) (.c (.v (.int .i64 3))), some (67, true)⟩,
  ⟨some 70, .pick (.s 67) (.s 69) (.c (.v (.bool false))), none⟩,
  ⟨some 71, .mov (.s 70), none⟩,
  ⟨some 72, .mov (.s 1), some (71, true)⟩,
  ⟨some 73, .call (.c (.fn 18 [])) [.s 72, .c (.v (.int .i64 3))], some (71, true)⟩,
  ⟨some 74, .bin false .eql (.s 73) (.c (.v (.int .i64 4))), some (71, true)⟩,
  ⟨some 75, .pick (.s 71) (.s 74) (.c (.v (.bool false))), none⟩,
  ⟨some 0, .mov (.s 75), none⟩]
def F17 : AFn := ⟨76, [.tmp 0],
  .seq (.reg F17r0 none)
  (.seq (.reg F17r1 none)
  (.seq (.reg F17r2 none)
  (.seq (.reg F17r3 none)
  (.seq (.reg F17r4 none)
  (.seq (.reg F17r5 none)
  (.seq (.reg F17r6 none)
  (.seq (.reg F17r7 none)
  (.ret))))))))⟩
theorem F17_ok : cFunc Tryd.prog 17 = some F17 := by kernel_rfl
theorem F17_call : callable Tryd.prog 17 = true := by kernel_rfl
/-- quorum.Check -/
def F18r0 : List AOper := [⟨some 4, .mov (.c (.v (.int .i64 0))), none⟩]
def F18r1 : List AOper := [⟨some 8, .mov (.s 0), none⟩,
  ⟨some 9, .call (.c (.fn 20 [])) [.s 8], none⟩,
  ⟨some 7, .mov (.s 9), none⟩,
  ⟨some 10, .ext 0 (.s 7), none⟩,
  ⟨some 11, .ext 1 (.s 7), none⟩,
  ⟨some 5, .mov (.s 10), none⟩,
  ⟨some 6, .mov (.s 11), none⟩]
def F18r2 : List AOper := [⟨some 13, .mov (.s 6), none⟩,
  ⟨some 14, .bin false .neq (.s 13) (.c (.v (.int .i64 0))), none⟩,
  ⟨some 12, .mov (.s 14), none⟩]
def F18r3 : List AOper := [⟨some 15, .mov (.s 6), none⟩,
  ⟨some 4, .mov (.s 15), none⟩]
def F18r4 : List AOper := [⟨some 17, .mov (.s 1), none⟩,
  ⟨some 18, .bin false .lss (.s 17) (.c (.v (.int .i64 1))), none⟩,
  ⟨some 19, .mov (.s 18), none⟩,
  ⟨some 20, .mov (.s 1), some (19, false)⟩,
  ⟨some 21, .mov (.s 5), some (19, false)⟩,
  ⟨some 22, .bin false .gtr (.s 20) (.s 21), some (19, false)⟩,
  ⟨some 23, .pick (.s 19) (.c (.v (.bool true))) (.s 22), none⟩,
  ⟨some 16, .mov (.s 23), none⟩]
def F18r5 : List AOper := [⟨some 4, .mov (.c (.v (.int .i64 3))), none⟩]
def F18r6 : List AOper := [⟨some 25, .mov (.s 1), none⟩,
  ⟨some 26, .bin false .mul (.c (.v (.int .i64 2))) (.s 25), none⟩,
  ⟨some 27, .mov (.s 5), none⟩,
  ⟨some 28, .bin false .leq (.s 26) (.s 27), none⟩,
  ⟨some 24, .mov (.s 28), none⟩]
def F18r7 : List AOper := [⟨some 4, .mov (.c (.v (.int .i64 4))), none⟩]
def F18r8 : List AOper := [⟨some 4, .mov (.c (.v (.int .i64 0))), none⟩]
def F18 : AFn := ⟨29, [.tmp 4],
  .seq (.reg F18r0 none)
  (.seq (.reg F18r1 none)
  (.seq (.block 0 (
    .seq (.reg F18r2 none)
    (.cond (.s 12)
      (.seq (.reg F18r3 none)
      (.ret))
      (.seq (.reg F18r4 none)
      (.cond (.s 16)
        (.seq (.reg F18r5 none)
        (.ret))
        (.seq (.reg F18r6 none)
        (.cond (.s 24)
          (.seq (.reg F18r7 none)
          (.ret))
          (.skip))))))))
  (.seq (.reg F18r8 none)
  (.ret))))⟩
theorem F18_ok : cFunc Tryd.prog 18 = some F18 := by kernel_rfl
theorem F18_call : callable Tryd.prog 18 = true := by kernel_rfl
/-- supercargoref.SizeOf -/
def F19r0 : List AOper := [⟨some 2, .mov (.c (.v (.int .i64 0))), none⟩]
def F19r1 : List AOper := [⟨some 3, .mov (.c (.v (.int .i64 0))), none⟩]
def F19r2 : List AOper := [⟨some 4, .mov (.c (.v (.int .i64 0))), none⟩]
def F19r3 : List AOper := [⟨some 5, .mov (.s 4), none⟩,
  ⟨some 6, .bin false .lss (.s 5) (.c (.v (.int .i64 64))), none⟩]
def F19r4 : List AOper := [⟨some 9, .mov (.s 0), none⟩,
  ⟨some 10, .mov (.s 4), none⟩,
  ⟨some 11, .call (.c (.fn 26 [])) [.s 9, .s 10], none⟩]
def F19r5 : List AOper := [⟨some 12, .mov (.s 3), none⟩,
  ⟨some 13, .bin false .add (.s 12) (.c (.v (.int .i64 1))), none⟩,
  ⟨some 3, .mov (.s 13), none⟩]
def F19r6 : List AOper := [⟨some 7, .mov (.s 4), none⟩,
  ⟨some 8, .bin false .add (.s 7) (.c (.v (.int .i64 1))), none⟩,
  ⟨some 4, .mov (.s 8), none⟩]
def F19r7 : List AOper := [⟨some 14, .mov (.s 3), none⟩,
  ⟨some 2, .mov (.s 14), none⟩]
def F19 : AFn := ⟨15, [.tmp 2],
  .seq (.reg F19r0 none)
  (.seq (.reg F19r1 none)
  (.seq (.seq (.reg F19r2 none)
  (.block 0 (
    .loop (
      .seq (.seq (.reg F19r3 none)
      (.cond (.s 6)
        (.skip)
        (.exit 0)))
      (.seq (.block 1 (
        .seq (.reg F19r4 none)
        (.cond (.s 11)
          (.reg F19r5 none)
          (.skip))))
      (.reg F19r6 none))))))
  (.seq (.reg F19r7 none)
  (.ret))))⟩
theorem F19_ok : cFunc Tryd.prog 19 = some F19 := by kernel_rfl
theorem F19_call : callable Tryd.prog 19 = true := by kernel_rfl
/-- quorum.nodes -/
def F20r0 : List AOper := [⟨some 2, .mov (.c (.v (.int .i64 0))), none⟩,
  ⟨some 3, .mov (.c (.v (.int .i64 0))), none⟩]
def F20r1 : List AOper := [⟨some 7, .mov (.s 0), none⟩,
  ⟨some 8, .len false (.s 7), none⟩,
  ⟨some 9, .bin false .eql (.s 8) (.c (.v (.int .i64 0))), none⟩,
  ⟨some 6, .mov (.s 9), none⟩]
def F20r2 : List AOper := [⟨some 2, .mov (.c (.v (.int .i64 0))), none⟩,
  ⟨some 3, .mov (.c (.v (.int .i64 8))), none⟩]
def F20r3 : List AOper := [⟨some 11, .mov (.s 0), none⟩,
  ⟨some 12, .len false (.s 11), none⟩,
  ⟨some 13, .bin false .gtr (.s 12) (.c (.v (.int .i64 12))), none⟩,
  ⟨some 10, .mov (.s 13), none⟩]
def F20r4 : List AOper := [⟨some 2, .mov (.c (.v (.int .i64 0))), none⟩,
  ⟨some 3, .mov (.c (.v (.int .i64 2))), none⟩]
def F20r5 : List AOper := [⟨some 14, .mov (.s 0), none⟩,
  ⟨some 15, .len false (.s 14), none⟩,
  ⟨some 16, .mov (.c (.v (.int .i64 0))), none⟩]
def F20r6 : List AOper := [⟨some 17, .bin false .lss (.s 16) (.s 15), none⟩]
def F20r7 : List AOper := [⟨some 18, .iad 1 (.s 14) (.s 16), none⟩,
  ⟨some 19, .load none (.s 18), none⟩,
  ⟨some 5, .mov (.s 19), none⟩]
def F20r8 : List AOper := [⟨some 20, .mov (.s 5), none⟩,
  ⟨some 21, .bin false .lss (.s 20) (.c (.v (.int .i64 0))), none⟩,
  ⟨some 22, .mov (.s 21), none⟩,
  ⟨some 23, .mov (.s 5), some (22, false)⟩,
  ⟨some 24, .bin false .gtr (.s 23) (.c (.v (.int .i64 100))), some (22, false)⟩,
  ⟨some 25, .pick (.s 22) (.c (.v (.bool true))) (.s 24), none⟩]
def F20r9 : List AOper := [⟨some 2, .mov (.c (.v (.int .i64 0))), none⟩,
  ⟨some 3, .mov (.c (.v (.int .i64 3))), none⟩]
def F20r10 : List AOper := [⟨some 26, .mov (.s 2), none⟩,
  ⟨some 27, .mov (.s 5), none⟩,
  ⟨some 28, .bin false .add (.s 26) (.s 27), none⟩,
  ⟨some 2, .mov (.s 28), none⟩]
def F20r11 : List AOper := [⟨some 29, .bin false .add (.s 16) (.c (.v (.int .i64 1))), none⟩,
  ⟨some 16, .mov (.s 29), none⟩]
def F20r12 : List AOper := [⟨some 30, .mov (.s 2), none⟩,
  ⟨some 2, .mov (.s 30), none⟩,
  ⟨some 3, .mov (.c (.v (.int .i64 0))), none⟩]
def F20 : AFn := ⟨31, [.tmp 2, .tmp 3],
  .seq (.reg F20r0 none)
  (.seq (.block 0 (
    .seq (.reg F20r1 none)
    (.cond (.s 6)
      (.seq (.reg F20r2 none)
      (.ret))
      (.seq (.reg F20r3 none)
      (.cond (.s 10)
        (.seq (.reg F20r4 none)
        (.ret))
        (.skip))))))
  (.seq (.seq (.reg F20r5 none)
  (.block 1 (
    .loop (
      .seq (.reg F20r6 none)
      (.seq (.cond (.s 17)
        (.skip)
        (.exit 1))
      (.seq (.block 2 (
        .seq (.reg F20r7 none)
        (.seq (.seq (.reg F20r8 none)
        (.cond (.s 25)
          (.seq (.reg F20r9 none)
          (.ret))
          (.skip)))
        (.reg F20r10 none))))
      (.reg F20r11 none)))))))
  (.seq (.reg F20r12 none)
  (.ret))))⟩
theorem F20_ok : cFunc Tryd.prog 20 = some F20 := by kernel_rfl
theorem F20_call : callable Tryd.prog 20 = true := by kernel_rfl
/-- math/bits.Len64 -/
def F21r0 : List AOper := [⟨some 2, .mov (.c (.v (.int .i64 0))), none⟩]
def F21r1 : List AOper := [⟨some 3, .mov (.s 0), none⟩,
  ⟨some 4, .bin false .geq (.s 3) (.c (.v (.int .u64 4294967296))), none⟩]
def F21r2 : List AOper := [⟨some 5, .mov (.s 0), none⟩,
  ⟨some 6, .bin false .shr (.s 5) (.c (.v (.int .u64 32))), none⟩,
  ⟨some 0, .mov (.s 6), none⟩]
def F21r3 : List AOper := [⟨some 2, .mov (.c (.v (.int .i64 32))), none⟩]
def F21r4 : List AOper := [⟨some 7, .mov (.s 0), none⟩,
  ⟨some 8, .bin false .geq (.s 7) (.c (.v (.int .u64 65536))), none⟩]
def F21r5 : List AOper := [⟨some 9, .mov (.s 0), none⟩,
  ⟨some 10, .bin false .shr (.s 9) (.c (.v (.int .u64 16))), none⟩,
  ⟨some 0, .mov (.s 10), none⟩]
def F21r6 : List AOper := [⟨some 11, .mov (.s 2), none⟩,
  ⟨some 12, .bin false .add (.s 11) (.c (.v (.int .i64 16))), none⟩,
  ⟨some 2, .mov (.s 12), none⟩]
def F21r7 : List AOper := [⟨some 13, .mov (.s 0), none⟩,
  ⟨some 14, .bin false .geq (.s 13) (.c (.v (.int .u64 256))), none⟩]
def F21r8 : List AOper := [⟨some 15, .mov (.s 0), none⟩,
  ⟨some 16, .bin false .shr (.s 15) (.c (.v (.int .u64 8))), none⟩,
  ⟨some 0, .mov (.s 16), none⟩]
def F21r9 : List AOper := [⟨some 17, .mov (.s 2), none⟩,
  ⟨some 18, .bin false .add (.s 17) (.c (.v (.int .i64 8))), none⟩,
  ⟨some 2, .mov (.s 18), none⟩]
def F21r10 : List AOper := [⟨some 19, .mov (.s 2), none⟩,
  ⟨some 20, .mov (.s 0), none⟩,
  ⟨some 21, .conv .u8 (.s 20), none⟩,
  ⟨some 22, .six (.c (.v (.string ⟨#[0, 1, 2, 2, 3, 3, 3, 3, 4, 4, 4, 4, 4, 4, 4, 4, 5, 5, 5, 5, 5, 5, 5, 5, 5, 5, 5, 5, 5, 5, 5, 5, 6, 6, 6, 6, 6, 6, 6, 6, 6, 6, 6, 6, 6, 6, 6, 6, 6, 6, 6, 6, 6, 6, 6, 6, 6, 6, 6, 6, 6, 6, 6, 6, 7, 7, 7, 7, 7, 7, 7, 7, 7, 7, 7, 7, 7, 7, 7, 7, 7, 7, 7, 7, 7, 7, 7, 7, 7, 7, 7, 7, 7, 7, 7, 7, 7, 7, 7, 7, 7, 7, 7, 7, 7, 7, 7, 7, 7, 7, 7, 7, 7, 7, 7, 7, 7, 7, 7, 7, 7, 7, 7, 7, 7, 7, 7, 7, 8, 8, 8, 8, 8, 8, 8, 8, 8, 8, 8, 8, 8, 8, 8, 8, 8, 8, 8, 8, 8, 8, 8, 8, 8, 8, 8, 8, 8, 8, 8, 8, 8, 8, 8, 8, 8, 8, 8, 8, 8, 8, 8, 8, 8, 8, 8, 8, 8, 8, 8, 8, 8, 8, 8, 8, 8, 8, 8, 8, 8, 8, 8, 8, 8, 8, 8, 8, 8, 8, 8, 8, 8, 8, 8, 8, 8, 8, 8, 8, 8, 8, 8, 8, 8, 8, 8, 8, 8, 8, 8, 8, 8, 8, 8, 8, 8, 8, 8, 8, 8, 8, 8, 8, 8, 8, 8, 8, 8, 8, 8, 8, 8, 8, 8, 8, 8, 8, 8, 8, 8, 8, 8, 8, 8, 8, 8, 8]⟩))) (.s 21), none⟩,
  ⟨some 23, .conv .i64 (.s 22), none⟩,
  ⟨some 24, .bin false .add (.s 19) (.s 23), none⟩,
  ⟨some 2, .mov (.s 24), none⟩]
def F21 : AFn := ⟨25, [.tmp 2],
  .seq (.reg F21r0 none)
  (.seq (.seq (.reg F21r1 none)
  (.cond (.s 4)
    (.seq (.reg F21r2 none)
    (.reg F21r3 none))
    (.skip)))
  (.seq (.seq (.reg F21r4 none)
  (.cond (.s 8)
    (.seq (.reg F21r5 none)
    (.reg F21r6 none))
    (.skip)))
  (.seq (.seq (.reg F21r7 none)
  (.cond (.s 14)
    (.seq (.reg F21r8 none)
    (.reg F21r9 none))
    (.skip)))
  (.seq (.reg F21r10 none)
  (.ret)))))⟩
theorem F21_ok : cFunc Tryd.prog 21 = some F21 := by kernel_rfl
theorem F21_call : callable Tryd.prog 21 = true := by kernel_rfl
/-- math/bits.TrailingZeros64 -/
def F22r0 : List AOper := [⟨some 2, .mov (.c (.v (.int .i64 0))), none⟩]
def F22r1 : List AOper := [⟨some 3, .mov (.s 0), none⟩,
  ⟨some 4, .bin false .eql (.s 3) (.c (.v (.int .u64 0))), none⟩]
def F22r2 : List AOper := [⟨some 2, .mov (.c (.v (.int .i64 64))), none⟩]
def F22r3 : List AOper := [⟨some 5, .mov (.s 0), none⟩,
  ⟨some 6, .mov (.s 0), none⟩,
  ⟨some 7, .un .neg (.s 6), none⟩,
  ⟨some 8, .bin false .and (.s 5) (.s 7), none⟩,
  ⟨some 9, .bin false .mul (.s 8) (.c (.v (.int .u64 285870213051353865))), none⟩,
  ⟨some 10, .bin false .shr (.s 9) (.c (.v (.int .u64 58))), none⟩,
  ⟨some 11, .iap 1 64 (.c (.pim [.v (.int .u8 0), .v (.int .u8 1), .v (.int .u8 56), .v (.int .u8 2), .v (.int .u8 57), .v (.int .u8 49), .v (.int .u8 28), .v (.int .u8 3), .v (.int .u8 61), .v (.int .u8 58), .v (.int .u8 42), .v (.int .u8 50), .v (.int .u8 38), .v (.int .u8 29), .v (.int .u8 17), .v (.int .u8 4), .v (.int .u8 62), .v (.int .u8 47), .v (.int .u8 59), .v (.int .u8 36), .v (.int .u8 45), .v (.int .u8 43), .v (.int .u8 51), .v (.int .u8 22), .v (.int .u8 53), .v (.int .u8 39), .v (.int .u8 33), .v (.int .u8 30), .v (.int .u8 24), .v (.int .u8 18), .v (.int .u8 12), .v (.int .u8 5), .v (.int .u8 63), .v (.int .u8 55), .v (.int .u8 48), .v (.int .u8 27), .v (.int .u8 60), .v (.int .u8 41), .v (.int .u8 37), .v (.int .u8 16), .v (.int .u8 46), .v (.int .u8 35), .v (.int .u8 44), .v (.int .u8 21), .v (.int .u8 52), .v (.int .u8 32), .v (.int .u8 23), .v (.int .u8 11), .v (.int .u8 54), .v (.int .u8 26), .v (.int .u8 40), .v (.int .u8 15), .v (.int .u8 34), .v (.int .u8 20), .v (.int .u8 31), .v (.int .u8 10), .v (.int .u8 25), .v (.int .u8 14), .v (.int .u8 19), .v (.int .u8 9), .v (.int .u8 13), .v (.int .u8 8), .v (.int .u8 7), .v (.int .u8 6)] 0)) (.s 10), none⟩,
  ⟨some 12, .load none (.s 11), none⟩,
  ⟨some 13, .conv .i64 (.s 12), none⟩,
  ⟨some 2, .mov (.s 13), none⟩]
def F22 : AFn := ⟨14, [.tmp 2],
  .seq (.reg F22r0 none)
  (.seq (.seq (.reg F22r1 none)
  (.cond (.s 4)
    (.seq (.reg F22r2 none)
    (.ret))
    (.skip)))
  (.seq (.reg F22r3 none)
  (.ret)))⟩
theorem F22_ok : cFunc Tryd.prog 22 = some F22 := by kernel_rfl
theorem F22_call : callable Tryd.prog 22 = true := by kernel_rfl
/-- quorum.heaviest -/
def F23r0 : List AOper := [⟨some 4, .mov (.c (.v (.int .i64 0))), none⟩]
def F23r1 : List AOper := [⟨some 7, .mov (.s 0), none⟩,
  ⟨some 8, .call (.c (.fn 27 [])) [.s 7], none⟩,
  ⟨some 5, .mov (.s 8), none⟩]
def F23r2 : List AOper := [⟨some 9, .mov (.s 5), none⟩,
  ⟨some 10, .call (.c (.fn 28 [])) [.s 9, .c (.fn 29 [])], none⟩]
def F23r3 : List AOper := [⟨some 6, .mov (.c (.v (.int .i64 0))), none⟩]
def F23r4 : List AOper := [⟨some 11, .mov (.s 1), none⟩,
  ⟨some 12, .bin false .gtr (.s 11) (.c (.v (.int .i64 0))), none⟩]
def F23r5 : List AOper := [⟨some 13, .mov (.s 1), none⟩,
  ⟨some 14, .mov (.s 5), none⟩,
  ⟨some 15, .mov (.s 6), none⟩,
  ⟨some 16, .iad 1 (.s 14) (.s 15), none⟩,
  ⟨some 17, .load none (.s 16), none⟩,
  ⟨some 18, .bin false .sub (.s 13) (.s 17), none⟩,
  ⟨some 1, .mov (.s 18), none⟩]
def F23r6 : List AOper := [⟨some 19, .mov (.s 6), none⟩,
  ⟨some 20, .bin false .add (.s 19) (.c (.v (.int .i64 1))), none⟩,
  ⟨some 6, .mov (.s 20), none⟩]
def F23r7 : List AOper := [⟨some 21, .mov (.s 6), none⟩,
  ⟨some 4, .mov (.s 21), none⟩]
def F23 : AFn := ⟨22, [.tmp 4],
  .seq (.reg F23r0 none)
  (.seq (.reg F23r1 none)
  (.seq (.reg F23r2 none)
  (.seq (.reg F23r3 none)
  (.seq (.block 0 (
    .loop (
      .seq (.seq (.reg F23r4 none)
      (.cond (.s 12)
        (.skip)
        (.exit 0)))
      (.block 1 (
        .seq (.reg F23r5 none)
        (.reg F23r6 none))))))
  (.seq (.reg F23r7 none)
  (.ret))))))⟩
theorem F23_ok : cFunc Tryd.prog 23 = some F23 := by kernel_rfl
theorem F23_call : callable Tryd.prog 23 = true := by kernel_rfl
/-- supercargoref.WeightsCheck -/
def F24r0 : List AOper := [⟨some 2, .mov (.c (.v (.int .i64 0))), none⟩,
  ⟨some 3, .mov (.c (.v (.int .i64 0))), none⟩]
def F24r1 : List AOper := [⟨some 6, .mov (.s 0), none⟩,
  ⟨some 7, .len false (.s 6), none⟩,
  ⟨some 8, .bin false .eql (.s 7) (.c (.v (.int .i64 0))), none⟩]
def F24r2 : List AOper := [⟨some 2, .mov (.c (.v (.int .i64 0))), none⟩,
  ⟨some 3, .mov (.c (.v (.int .i64 8))), none⟩]
def F24r3 : List AOper := [⟨some 9, .mov (.s 0), none⟩,
  ⟨some 10, .len false (.s 9), none⟩,
  ⟨some 11, .bin false .gtr (.s 10) (.c (.v (.int .i64 12))), none⟩]
def F24r4 : List AOper := [⟨some 2, .mov (.c (.v (.int .i64 0))), none⟩,
  ⟨some 3, .mov (.c (.v (.int .i64 2))), none⟩]
def F24r5 : List AOper := [⟨some 4, .mov (.c (.v (.int .i64 0))), none⟩]
def F24r6 : List AOper := [⟨some 5, .mov (.c (.v (.int .i64 0))), none⟩]
def F24r7 : List AOper := [⟨some 12, .mov (.s 5), none⟩,
  ⟨some 13, .mov (.s 0), none⟩,
  ⟨some 14, .len false (.s 13), none⟩,
  ⟨some 15, .bin false .lss (.s 12) (.s 14), none⟩]
def F24r8 : List AOper := [⟨some 18, .mov (.s 0), none⟩,
  ⟨some 19, .mov (.s 5), none⟩,
  ⟨some 20, .iad 1 (.s 18) (.s 19), none⟩,
  ⟨some 21, .load none (.s 20), none⟩,
  ⟨some 22, .bin false .lss (.s 21) (.c (.v (.int .i64 0))), none⟩,
  ⟨some 23, .mov (.s 22), none⟩,
  ⟨some 24, .mov (.s 0), some (23, false)⟩,
  ⟨some 25, .mov (.s 5), some (23, false)⟩,
  ⟨some 26, .iad 1 (.s 24) (.s 25), some (23, false)⟩,
  ⟨some 27, .load none (.s 26), some (23, false)⟩,
  ⟨some 28, .bin false .gtr (.s 27) (.c (.v (.int .i64 100))), some (23, false)⟩,
  ⟨some 29, .pick (.s 23) (.c (.v (.bool true))) (.s 28), none⟩]
def F24r9 : List AOper := [⟨some 2, .mov (.c (.v (.int .i64 0))), none⟩,
  ⟨some 3, .mov (.c (.v (.int .i64 3))), none⟩]
def F24r10 : List AOper := [⟨some 30, .mov (.s 4), none⟩,
  ⟨some 31, .mov (.s 0), none⟩,
  ⟨some 32, .mov (.s 5), none⟩,
  ⟨some 33, .iad 1 (.s 31) (.s 32), none⟩,
  ⟨some 34, .load none (.s 33), none⟩,
  ⟨some 35, .bin false .add (.s 30) (.s 34), none⟩,
  ⟨some 4, .mov (.s 35), none⟩]
def F24r11 : List AOper := [⟨some 16, .mov (.s 5), none⟩,
  ⟨some 17, .bin false .add (.s 16) (.c (.v (.int .i64 1))), none⟩,
  ⟨some 5, .mov (.s 17), none⟩]
def F24r12 : List AOper := [⟨some 36, .mov (.s 4), none⟩,
  ⟨some 2, .mov (.s 36), none⟩,
  ⟨some 3, .mov (.c (.v (.int .i64 0))), none⟩]
def F24 : AFn := ⟨37, [.tmp 2, .tmp 3],
  .seq (.reg F24r0 none)
  (.seq (.seq (.reg F24r1 none)
  (.cond (.s 8)
    (.seq (.reg F24r2 none)
    (.ret))
    (.skip)))
  (.seq (.seq (.reg F24r3 none)
  (.cond (.s 11)
    (.seq (.reg F24r4 none)
    (.ret))
    (.skip)))
  (.seq (.reg F24r5 none)
  (.seq (.seq (.reg F24r6 none)
  (.block 0 (
    .loop (
      .seq (.seq (.reg F24r7 none)
      (.cond (.s 15)
        (.skip)
        (.exit 0)))
      (.seq (.block 1 (
        .seq (.seq (.reg F24r8 none)
        (.cond (.s 29)
          (.seq (.reg F24r9 none)
          (.ret))
          (.skip)))
        (.reg F24r10 none)))
      (.reg F24r11 none))))))
  (.seq (.reg F24r12 none)
  (.ret))))))⟩
theorem F24_ok : cFunc Tryd.prog 24 = some F24 := by kernel_rfl
theorem F24_call : callable Tryd.prog 24 = true := by kernel_rfl
/-- supercargoref.SumOf -/
def F25r0 : List AOper := [⟨some 4, .mov (.c (.v (.int .i64 0))), none⟩]
def F25r1 : List AOper := [⟨some 5, .mov (.c (.v (.int .i64 0))), none⟩]
def F25r2 : List AOper := [⟨some 6, .mov (.c (.v (.int .i64 0))), none⟩]
def F25r3 : List AOper := [⟨some 7, .mov (.s 6), none⟩,
  ⟨some 8, .mov (.s 0), none⟩,
  ⟨some 9, .len false (.s 8), none⟩,
  ⟨some 10, .bin false .lss (.s 7) (.s 9), none⟩]
def F25r4 : List AOper := [⟨some 13, .mov (.s 1), none⟩,
  ⟨some 14, .mov (.s 6), none⟩,
  ⟨some 15, .call (.c (.fn 26 [])) [.s 13, .s 14], none⟩]
def F25r5 : List AOper := [⟨some 16, .mov (.s 5), none⟩,
  ⟨some 17, .mov (.s 0), none⟩,
  ⟨some 18, .mov (.s 6), none⟩,
  ⟨some 19, .iad 1 (.s 17) (.s 18), none⟩,
  ⟨some 20, .load none (.s 19), none⟩,
  ⟨some 21, .bin false .add (.s 16) (.s 20), none⟩,
  ⟨some 5, .mov (.s 21), none⟩]
def F25r6 : List AOper := [⟨some 11, .mov (.s 6), none⟩,
  ⟨some 12, .bin false .add (.s 11) (.c (.v (.int .i64 1))), none⟩,
  ⟨some 6, .mov (.s 12), none⟩]
def F25r7 : List AOper := [⟨some 22, .mov (.s 5), none⟩,
  ⟨some 4, .mov (.s 22), none⟩]
def F25 : AFn := ⟨23, [.tmp 4],
  .seq (.reg F25r0 none)
  (.seq (.reg F25r1 none)
  (.seq (.seq (.reg F25r2 none)
  (.block 0 (
    .loop (
      .seq (.seq (.reg F25r3 none)
      (.cond (.s 10)
        (.skip)
        (.exit 0)))
      (.seq (.block 1 (
        .seq (.reg F25r4 none)
        (.cond (.s 15)
          (.reg F25r5 none)
          (.skip))))
      (.reg F25r6 none))))))
  (.seq (.reg F25r7 none)
  (.ret))))⟩
theorem F25_ok : cFunc Tryd.prog 25 = some F25 := by kernel_rfl
theorem F25_call : callable Tryd.prog 25 = true := by kernel_rfl
/-- supercargoref.InSet -/
def F26r0 : List AOper := [⟨some 4, .mov (.c (.v (.bool false))), none⟩]
def F26r1 : List AOper := [⟨some 5, .mov (.s 0), none⟩,
  ⟨some 6, .mov (.s 1), none⟩,
  ⟨some 7, .bin false .shr (.s 5) (.s 6), none⟩,
  ⟨some 8, .bin false .rem (.s 7) (.c (.v (.int .u64 2))), none⟩,
  ⟨some 9, .bin false .eql (.s 8) (.c (.v (.int .u64 1))), none⟩,
  ⟨some 4, .mov (.s 9), none⟩]
def F26 : AFn := ⟨10, [.tmp 4],
  .seq (.reg F26r0 none)
  (.seq (.reg F26r1 none)
  (.ret))⟩
theorem F26_ok : cFunc Tryd.prog 26 = some F26 := by kernel_rfl
theorem F26_call : callable Tryd.prog 26 = true := by kernel_rfl
/-- slices.Clone[[]int,int] -/
def F27r0 : List AOper := [⟨some 2, .mov (.c .emp), none⟩]
def F27r1 : List AOper := [⟨some 3, .mov (.s 0), none⟩,
  ⟨some 4, .isn .sl false (.s 3), none⟩]
def F27r2 : List AOper := [⟨some 2, .mov (.c .emp), none⟩]
def F27r3 : List AOper := [⟨some 5, .bsl 1 0 [.v (.int .i64 0)] [], none⟩,
  ⟨some 6, .mov (.s 0), none⟩,
  ⟨some 7, .app 1 8 (.s 5) (.s 6), none⟩,
  ⟨some 2, .mov (.s 7), none⟩]
def F27 : AFn := ⟨8, [.tmp 2],
  .seq (.reg F27r0 none)
  (.seq (.seq (.reg F27r1 none)
  (.cond (.s 4)
    (.seq (.reg F27r2 none)
    (.ret))
    (.skip)))
  (.seq (.reg F27r3 none)
  (.ret)))⟩
theorem F27_ok : cFunc Tryd.prog 27 = some F27 := by kernel_rfl
theorem F27_call : callable Tryd.prog 27 = true := by kernel_rfl
/-- slices.SortFunc[[]int,int] -/
def F28r0 : List AOper := [⟨some 5, .mov (.s 0), none⟩,
  ⟨some 6, .len false (.s 5), none⟩,
  ⟨some 4, .mov (.s 6), none⟩]
def F28r1 : List AOper := [⟨some 7, .mov (.s 0), none⟩,
  ⟨some 8, .mov (.s 4), none⟩,
  ⟨some 9, .mov (.s 4), none⟩,
  ⟨some 10, .conv .u64 (.s 9), none⟩,
  ⟨some 11, .call (.c (.fn 31 [])) [.s 10], none⟩,
  ⟨some 12, .mov (.s 1), none⟩,
  ⟨some 13, .call (.c (.fn 30 [])) [.s 7, .c (.v (.int .i64 0)), .s 8, .s 11, .s 12], none⟩]
def F28 : AFn := ⟨14, [],
  .seq (.reg F28r0 none)
  (.reg F28r1 none)⟩
theorem F28_ok : cFunc Tryd.prog 28 = some F28 := by kernel_rfl
theorem F28_call : callable Tryd.prog 28 = true := by kernel_rfl
/-- quorum.heaviest$1 -/
def F29r0 : List AOper := [⟨some 4, .mov (.c (.v (.int .i64 0))), none⟩]
def F29r1 : List AOper := [⟨some 5, .mov (.s 1), none⟩,
  ⟨some 6, .mov (.s 0), none⟩,
  ⟨some 7, .bin false .sub (.s 5) (.s 6), none⟩,
  ⟨some 4, .mov (.s 7), none⟩]
def F29 : AFn := ⟨8, [.tmp 4],
  .seq (.reg F29r0 none)
  (.seq (.reg F29r1 none)
  (.ret))⟩
theorem F29_ok : cFunc Tryd.prog 29 = some F29 := by kernel_rfl
theorem F29_call : callable Tryd.prog 29 = true := by kernel_rfl
/-- slices.pdqsortCmpFunc[int] -/
def F30r0 : List AOper := [⟨some 10, .mov (.c (.v (.bool true))), none⟩]
def F30r1 : List AOper := [⟨some 11, .mov (.c (.v (.bool true))), none⟩]
def F30r2 : List AOper := [⟨some 21, .mov (.s 2), none⟩,
  ⟨some 22, .mov (.s 1), none⟩,
  ⟨some 23, .bin false .sub (.s 21) (.s 22), none⟩,
  ⟨some 12, .mov (.s 23), none⟩]
def F30r3 : List AOper := [⟨some 24, .mov (.s 12), none⟩,
  ⟨some 25, .bin false .leq (.s 24) (.c (.v (.int .i64 12))), none⟩]
def F30r4 : List AOper := [⟨some 26, .mov (.s 0), none⟩,
  ⟨some 27, .mov (.s 1), none⟩,
  ⟨some 28, .mov (.s 2), none⟩,
  ⟨some 29, .mov (.s 4), none⟩,
  ⟨some 30, .call (.c (.fn 32 [])) [.s 26, .s 27, .s 28, .s 29], none⟩]
def F30r5 : List AOper := [⟨some 31, .mov (.s 3), none⟩,
  ⟨some 32, .bin false .eql (.s 31) (.c (.v (.int .i64 0))), none⟩]
def F30r6 : List AOper := [⟨some 33, .mov (.s 0), none⟩,
  ⟨some 34, .mov (.s 1), none⟩,
  ⟨some 35, .mov (.s 2), none⟩,
  ⟨some 36, .mov (.s 4), none⟩,
  ⟨some 37, .call (.c (.fn 33 [])) [.s 33, .s 34, .s 35, .s 36], none⟩]
def F30r7 : List AOper := [⟨some 38, .mov (.s 10), none⟩,
  ⟨some 39, .un .not (.s 38), none⟩]
def F30r8 : List AOper := [⟨some 40, .mov (.s 0), none⟩,
  ⟨some 41, .mov (.s 1), none⟩,
  ⟨some 42, .mov (.s 2), none⟩,
  ⟨some 43, .mov (.s 4), none⟩,
  ⟨some 44, .call (.c (.fn 34 [])) [.s 40, .s 41, .s 42, .s 43], none⟩]
def F30r9 : List AOper := [⟨some 45, .mov (.s 3), none⟩,
  ⟨some 46, .bin false .sub (.s 45) (.c (.v (.int .i64 1))), none⟩,
  ⟨some 3, .mov (.s 46), none⟩]
def F30r10 : List AOper := [⟨some 48, .mov (.s 0), none⟩,
  ⟨some 49, .mov (.s 1), none⟩,
  ⟨some 50, .mov (.s 2), none⟩,
  ⟨some 51, .mov (.s 4), none⟩,
  ⟨some 52, .call (.c (.fn 35 [])) [.s 48, .s 49, .s 50, .s 51], none⟩,
  ⟨some 47, .mov (.s 52), none⟩,
  ⟨some 53, .ext 0 (.s 47), none⟩,
  ⟨some 54, .ext 1 (.s 47), none⟩,
  ⟨some 13, .mov (.s 53), none⟩,
  ⟨some 14, .mov (.s 54), none⟩]
def F30r11 : List AOper := [⟨some 55, .mov (.s 14), none⟩,
  ⟨some 56, .bin false .eql (.s 55) (.c (.v (.int .i64 2))), none⟩]
def F30r12 : List AOper := [⟨some 57, .mov (.s 0), none⟩,
  ⟨some 58, .mov (.s 1), none⟩,
  ⟨some 59, .mov (.s 2), none⟩,
  ⟨some 60, .mov (.s 4), none⟩,
  ⟨some 61, .call (.c (.fn 36 [])) [.s 57, .s 58, .s 59, .s 60], none⟩]
def F30r13 : List AOper := [⟨some 62, .mov (.s 2), none⟩,
  ⟨some 63, .bin false .sub (.s 62) (.c (.v (.int .i64 1))), none⟩,
  ⟨some 64, .mov (.s 13), none⟩,
  ⟨some 65, .mov (.s 1), none⟩,
  ⟨some 66, .bin false .sub (.s 64) (.s 65), none⟩,
  ⟨some 67, .bin false .sub (.s 63) (.s 66), none⟩,
  ⟨some 13, .mov (.s 67), none⟩]
def F30r14 : List AOper := [⟨some 14, .mov (.c (.v (.int .i64 1))), none⟩]
def F30r15 : List AOper := [⟨some 68, .mov (.s 10), none⟩,
  ⟨some 69, .mov (.s 68), none⟩,
  ⟨some 70, .mov (.s 11), some (69, true)⟩,
  ⟨some 71, .pick (.s 69) (.s 70) (.c (.v (.bool false))), none⟩,
  ⟨some 72, .mov (.s 71), none⟩,
  ⟨some 73, .mov (.s 14), some (72, true)⟩,
  ⟨some 74, .bin false .eql (.s 73) (.c (.v (.int .i64 1))), some (72, true)⟩,
  ⟨some 75, .pick (.s 72) (.s 74) (.c (.v (.bool false))), none⟩]
def F30r16 : List AOper := [⟨some 76, .mov (.s 0), none⟩,
  ⟨some 77, .mov (.s 1), none⟩,
  ⟨some 78, .mov (.s 2), none⟩,
  ⟨some 79, .mov (.s 4), none⟩,
  ⟨some 80, .call (.c (.fn 37 [])) [.s 76, .s 77, .s 78, .s 79], none⟩]
def F30r17 : List AOper := [⟨some 81, .mov (.s 1), none⟩,
  ⟨some 82, .bin false .gtr (.s 81) (.c (.v (.int .i64 0))), none⟩,
  ⟨some 83, .mov (.s 82), none⟩,
  ⟨some 84, .mov (.s 4), some (83, true)⟩,
  ⟨some 85, .mov (.s 0), some (83, true)⟩,
  ⟨some 86, .mov (.s 1), some (83, true)⟩,
  ⟨some 87, .bin false .sub (.s 86) (.c (.v (.int .i64 1))), some (83, true)⟩,
  ⟨some 88, .iad 1 (.s 85) (.s 87), some (83, true)⟩,
  ⟨some 89, .load none (.s 88), some (83, true)⟩,
  ⟨some 90, .mov (.s 0), some (83, true)⟩,
  ⟨some 91, .mov (.s 13), some (83, true)⟩,
  ⟨some 92, .iad 1 (.s 90) (.s 91), some (83, true)⟩,
  ⟨some 93, .load none (.s 92), some (83, true)⟩,
  ⟨some 94, .call (.s 84) [.s 89, .s 93], some (83, true)⟩,
  ⟨some 95, .bin false .lss (.s 94) (.c (.v (.int .i64 0))), some (83, true)⟩,
  ⟨some 96, .un .not (.s 95), some (83, true)⟩,
  ⟨some 97, .pick (.s 83) (.s 96) (.c (.v (.bool false))), none⟩]
def F30r18 : List AOper := [⟨some 98, .mov (.s 0), none⟩,
  ⟨some 99, .mov (.s 1), none⟩,
  ⟨some 100, .mov (.s 2), none⟩,
  ⟨some 101, .mov (.s 13), none⟩,
  ⟨some 102, .mov (.s 4), none⟩,
  ⟨some 103, .call (.c (.fn 38 [])) [.s 98, .s 99, .s 100, .s 101, .s 102], none⟩,
  ⟨some 15, .mov (.s 103), none⟩]
def F30r19 : List AOper := [⟨some 104, .mov (.s 15), none⟩,
  ⟨some 1, .mov (.s 104), none⟩]
def F30r20 : List AOper := [⟨some 106, .mov (.s 0), none⟩,
  ⟨some 107, .mov (.s 1), none⟩,
  ⟨some 108, .mov (.s 2), none⟩,
  ⟨some 109, .mov (.s 13), none⟩,
  ⟨some 110, .mov (.s 4), none⟩,
  ⟨some 111, .call (.c (.fn 39 [])) [.s 106, .s 107, .s 108, .s 109, .s 110], none⟩,
  ⟨some 105, .mov (.s 111), none⟩,
  ⟨some 112, .ext 0 (.s 105), none⟩,
  ⟨some 113, .ext 1 (.s 105), none⟩,
  ⟨some 16, .mov (.s 112), none⟩,
  ⟨some 17, .mov (.s 113), none⟩]
def F30r21 : List AOper := [⟨some 114, .mov (.s 17), none⟩,
  ⟨some 11, .mov (.s 114), none⟩]
def F30r22 : List AOper := [⟨some 115, .mov (.s 16), none⟩,
  ⟨some 116, .mov (.s 1), none⟩,
  ⟨some 117, .bin false .sub (.s 115) (.s 116), none⟩,
  ⟨some 118, .mov (.s 2), none⟩,
  ⟨some 119, .mov (.s 16), none⟩,
  ⟨some 120, .bin false .sub (.s 118) (.s 119), none⟩,
  ⟨some 18, .mov (.s 117), none⟩,
  ⟨some 19, .mov (.s 120), none⟩]
def F30r23 : List AOper := [⟨some 121, .mov (.s 12), none⟩,
  ⟨some 122, .bin false .quo (.s 121) (.c (.v (.int .i64 8))), none⟩,
  ⟨some 20, .mov (.s 122), none⟩]
def F30r24 : List AOper := [⟨some 123, .mov (.s 18), none⟩,
  ⟨some 124, .mov (.s 19), none⟩,
  ⟨some 125, .bin false .lss (.s 123) (.s 124), none⟩]
def F30r25 : List AOper := [⟨some 126, .mov (.s 18), none⟩,
  ⟨some 127, .mov (.s 20), none⟩,
  ⟨some 128, .bin false .geq (.s 126) (.s 127), none⟩,
  ⟨some 10, .mov (.s 128), none⟩]
def F30r26 : List AOper := [⟨some 129, .mov (.s 0), none⟩,
  ⟨some 130, .mov (.s 1), none⟩,
  ⟨some 131, .mov (.s 16), none⟩,
  ⟨some 132, .mov (.s 3), none⟩,
  ⟨some 133, .mov (.s 4), none⟩,
  ⟨some 134, .call (.c (.fn 30 [])) [.s 129, .s 130, .s 131, .s 132, .s 133], none⟩]
def F30r27 : List AOper := [⟨some 135, .mov (.s 16), none⟩,
  ⟨some 136, .bin false .add (.s 135) (.c (.v (.int .i64 1))), none⟩,
  ⟨some 1, .mov (.s 136), none⟩]
def F30r28 : List AOper := [⟨some 137, .mov (.s 19), none⟩,
  ⟨some 138, .mov (.s 20), none⟩,
  ⟨some 139, .bin false .geq (.s 137) (.s 138), none⟩,
  ⟨some 10, .mov (.s 139), none⟩]
def F30r29 : List AOper := [⟨some 140, .mov (.s 0), none⟩,
  ⟨some 141, .mov (.s 16), none⟩,
  ⟨some 142, .bin false .add (.s 141) (.c (.v (.int .i64 1))), none⟩,
  ⟨some 143, .mov (.s 2), none⟩,
  ⟨some 144, .mov (.s 3), none⟩,
  ⟨some 145, .mov (.s 4), none⟩,
  ⟨some 146, .call (.c (.fn 30 [])) [.s 140, .s 142, .s 143, .s 144, .s 145], none⟩]
def F30r30 : List AOper := [⟨some 147, .mov (.s 16), none⟩,
  ⟨some 2, .mov (.s 147), none⟩]
def F30 : AFn := ⟨148, [],
  .seq (.reg F30r0 none)
  (.seq (.reg F30r1 none)
  (.block 0 (
    .loop (
      .block 1 (
        .seq (.reg F30r2 none)
        (.seq (.seq (.reg F30r3 none)
        (.cond (.s 25)
          (.seq (.reg F30r4 none)
          (.ret))
          (.skip)))
        (.seq (.seq (.reg F30r5 none)
        (.cond (.s 32)
          (.seq (.reg F30r6 none)
          (.ret))
          (.skip)))
        (.seq (.seq (.reg F30r7 none)
        (.cond (.s 39)
          (.seq (.reg F30r8 none)
          (.reg F30r9 none))
          (.skip)))
        (.seq (.reg F30r10 none)
        (.seq (.seq (.reg F30r11 none)
        (.cond (.s 56)
          (.seq (.reg F30r12 none)
          (.seq (.reg F30r13 none)
          (.reg F30r14 none)))
          (.skip)))
        (.seq (.seq (.reg F30r15 none)
        (.cond (.s 75)
          (.seq (.reg F30r16 none)
          (.cond (.s 80)
            (.ret)
            (.skip)))
          (.skip)))
        (.seq (.seq (.reg F30r17 (some [[], [0], [1, 0], [2, 1, 0], [2, 1, 0], [2, 1, 0], [5, 2, 1, 0], [4, 6, 2, 1, 0, 5], [7, 2, 4, 6, 1, 0, 5], [2, 1, 0], [2, 1, 0], [9, 10, 2, 1, 0], [11, 2, 9, 10, 1, 0], [3, 8, 12, 2, 1, 0, 7, 4, 6, 5, 11, 9, 10], [13, 2, 3, 8, 12, 1, 0, 7, 4, 6, 5, 11, 9, 10], [14, 2, 13, 3, 8, 12, 1, 0, 7, 4, 6, 5, 11, 9, 10], [2, 15, 1, 0, 14, 13, 3, 8, 12, 7, 4, 6, 5, 11, 9, 10]]))
        (.cond (.s 97)
          (.seq (.reg F30r18 none)
          (.seq (.reg F30r19 none)
          (.exit 1)))
          (.skip)))
        (.seq (.reg F30r20 none)
        (.seq (.reg F30r21 none)
        (.seq (.reg F30r22 none)
        (.seq (.reg F30r23 none)
        (.seq (.reg F30r24 none)
        (.cond (.s 125)
          (.seq (.reg F30r25 none)
          (.seq (.reg F30r26 none)
          (.reg F30r27 none)))
          (.seq (.reg F30r28 none)
          (.seq (.reg F30r29 none)
          (.reg F30r30 none)))))))))))))))))))))⟩
theorem F30_ok : cFunc Tryd.prog 30 = some F30 := by kernel_rfl
theorem F30_call : callable Tryd.prog 30 = true := by kernel_rfl
/-- math/bits.Len -/
def F31r0 : List AOper := [⟨some 2, .mov (.c (.v (.int .i64 0))), none⟩]
def F31r1 : List AOper := [⟨some 3, .mov (.s 0), none⟩,
  ⟨some 4, .conv .u32 (.s 3), none⟩,
  ⟨some 5, .call (.c (.fn 40 [])) [.s 4], none⟩,
  ⟨some 2, .mov (.s 5), none⟩]
def F31r2 : List AOper := [⟨some 6, .mov (.s 0), none⟩,
  ⟨some 7, .call (.c (.fn 21 [])) [.s 6], none⟩,
  ⟨some 2, .mov (.s 7), none⟩]
def F31 : AFn := ⟨8, [.tmp 2],
  .seq (.reg F31r0 none)
  (.seq (.cond (.c (.v (.bool false)))
    (.seq (.reg F31r1 none)
    (.ret))
    (.skip))
  (.seq (.reg F31r2 none)
  (.ret)))⟩
theorem F31_ok : cFunc Tryd.prog 31 = some F31 := by kernel_rfl
theorem F31_call : callable Tryd.prog 31 = true := by kernel_rfl
/-- slices.insertionSortCmpFunc[int] -/
def F32r0 : List AOper := [⟨some 10, .mov (.s 1), none⟩,
  ⟨some 11, .bin false .add (.s 10) (.c (.v (.int .i64 1))), none⟩,
  ⟨some 8, .mov (.s 11), none⟩]
def F32r1 : List AOper := [⟨some 12, .mov (.s 8), none⟩,
  ⟨some 13, .mov (.s 2), none⟩,
  ⟨some 14, .bin false .lss (.s 12) (.s 13), none⟩]
def F32r2 : List AOper := [⟨some 17, .mov (.s 8), none⟩,
  ⟨some 9, .mov (.s 17), none⟩]
def F32r3 : List AOper := [⟨some 18, .mov (.s 9), none⟩,
  ⟨some 19, .mov (.s 1), none⟩,
  ⟨some 20, .bin false .gtr (.s 18) (.s 19), none⟩,
  ⟨some 21, .mov (.s 20), none⟩,
  ⟨some 22, .mov (.s 3), some (21, true)⟩,
  ⟨some 23, .mov (.s 0), some (21, true)⟩,
  ⟨some 24, .mov (.s 9), some (21, true)⟩,
  ⟨some 25, .iad 1 (.s 23) (.s 24), some (21, true)⟩,
  ⟨some 26, .load none (.s 25), some (21, true)⟩,
  ⟨some 27, .mov (.s 0), some (21, true)⟩,
  ⟨some 28, .mov (.s 9), some (21, true)⟩,
  ⟨some 29, .bin false .sub (.s 28) (.c (.v (.int .i64 1))), some (21, true)⟩,
  ⟨some 30, .iad 1 (.s 27) (.s 29), some (21, true)⟩,
  ⟨some 31, .load none (.s 30), some (21, true)⟩,
  ⟨some 32, .call (.s 22) [.s 26, .s 31], some (21, true)⟩,
  ⟨some 33, .bin false .lss (.s 32) (.c (.v (.int .i64 0))), some (21, true)⟩,
  ⟨some 34, .pick (.s 21) (.s 33) (.c (.v (.bool false))), none⟩]
def F32r4 : List AOper := [⟨some 37, .mov (.s 0), none⟩,
  ⟨some 38, .mov (.s 9), none⟩,
  ⟨some 39, .mov (.s 0), none⟩,
  ⟨some 40, .mov (.s 9), none⟩,
  ⟨some 41, .bin false .sub (.s 40) (.c (.v (.int .i64 1))), none⟩,
  ⟨some 42, .mov (.s 0), none⟩,
  ⟨some 43, .mov (.s 9), none⟩,
  ⟨some 44, .bin false .sub (.s 43) (.c (.v (.int .i64 1))), none⟩,
  ⟨some 45, .iad 1 (.s 42) (.s 44), none⟩,
  ⟨some 46, .load none (.s 45), none⟩,
  ⟨some 47, .mov (.s 0), none⟩,
  ⟨some 48, .mov (.s 9), none⟩,
  ⟨some 49, .iad 1 (.s 47) (.s 48), none⟩,
  ⟨some 50, .load none (.s 49), none⟩,
  ⟨some 51, .iad 1 (.s 37) (.s 38), none⟩,
  ⟨none, .store 1 (.s 51) (.s 46), none⟩,
  ⟨some 52, .iad 1 (.s 39) (.s 41), none⟩,
  ⟨none, .store 1 (.s 52) (.s 50), none⟩]
def F32r5 : List AOper := [⟨some 35, .mov (.s 9), none⟩,
  ⟨some 36, .bin false .sub (.s 35) (.c (.v (.int .i64 1))), none⟩,
  ⟨some 9, .mov (.s 36), none⟩]
def F32r6 : List AOper := [⟨some 15, .mov (.s 8), none⟩,
  ⟨some 16, .bin false .add (.s 15) (.c (.v (.int .i64 1))), none⟩,
  ⟨some 8, .mov (.s 16), none⟩]
def F32 : AFn := ⟨53, [],
  .seq (.reg F32r0 none)
  (.block 0 (
    .loop (
      .seq (.seq (.reg F32r1 none)
      (.cond (.s 14)
        (.skip)
        (.exit 0)))
      (.seq (.block 1 (
        .seq (.reg F32r2 none)
        (.block 2 (
          .loop (
            .seq (.seq (.reg F32r3 (some [[], [], [0, 1], [2, 0, 1], [3, 2, 0, 1], [3, 2, 0, 1], [3, 2, 0, 1], [5, 6, 3, 2, 0, 1], [7, 3, 5, 6, 2, 0, 1], [3, 2, 0, 1], [3, 2, 0, 1], [10, 3, 2, 0, 1], [9, 11, 3, 2, 0, 1, 10], [12, 3, 9, 11, 2, 0, 1, 10], [4, 8, 13, 3, 2, 0, 1, 7, 5, 6, 12, 9, 11, 10], [14, 3, 4, 8, 13, 2, 0, 1, 7, 5, 6, 12, 9, 11, 10], [3, 15, 2, 0, 1, 14, 4, 8, 13, 7, 5, 6, 12, 9, 11, 10]]))
            (.cond (.s 34)
              (.skip)
              (.exit 2)))
            (.seq (.block 3 (
              .reg F32r4 (some [[], [], [], [], [3], [], [], [6], [5, 7, 6], [8, 5, 7, 6], [], [], [10, 11], [12, 10, 11], [0, 1, 5, 6, 7, 8, 9, 13, 12, 10, 11], [14, 9, 0, 1, 5, 6, 7, 8, 13, 12, 10, 11], [2, 4, 0, 1, 3, 5, 6, 7, 8, 9, 10, 11, 12, 13, 14, 15], [16, 13, 15, 0, 1, 2, 3, 4, 5, 6, 7, 8, 9, 10, 11, 12, 14]])))
            (.reg F32r5 none)))))))
      (.reg F32r6 none)))))⟩
theorem F32_ok : cFunc Tryd.prog 32 = some F32 := by kernel_rfl
theorem F32_call : callable Tryd.prog 32 = true := by kernel_rfl
end Go.Proofs.YtfgjfghljhldfaaDoor
