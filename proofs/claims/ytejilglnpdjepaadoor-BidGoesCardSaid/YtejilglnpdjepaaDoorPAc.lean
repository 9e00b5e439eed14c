/- The code of the program's functions as operations upon abstract values, checked against the program. No condition. -/
import Derived.Test.YtejilglnpdjepaaDoorRows
import Derived.Test.YtejilglnpdjepaaDoorPAvRun
set_option maxRecDepth 100000
namespace Go.Proofs.YtejilglnpdjepaaDoor
/-- supercargolaw.BidGoes -/
def F7r0 : List AOper := [⟨some 4, .box 2 (.s 0), none⟩,
  ⟨some 6, .box 8 (.s 2), none⟩,
  ⟨some 7, .box 6 (.s 3), none⟩,
  ⟨some 8, .mov (.c (.v (.bool false))), none⟩]
def F7r1 : List AOper := [⟨some 17, .load (some 2) (.s 4), none⟩,
  ⟨some 18, .mov (.s 1), none⟩,
  ⟨some 19, .load (some 8) (.s 6), none⟩,
  ⟨some 20, .load (some 6) (.s 7), none⟩,
  ⟨some 21, .call (.c (.fn 16 [])) [.s 17, .s 18, .s 19, .s 20], none⟩,
  ⟨some 16, .mov (.s 21), none⟩,
  ⟨some 22, .ext 0 (.s 16), none⟩,
  ⟨some 23, .ext 1 (.s 16), none⟩,
  ⟨some 24, .ext 2 (.s 16), none⟩,
  ⟨some 9, .new [.v (.int .i64 0), .v (.int .i64 0), .v (.string ⟨#[]⟩), .v (.string ⟨#[]⟩), .v (.int .i64 0), .v (.int .i64 0), .v (.string ⟨#[]⟩), .v (.int .u64 0)], none⟩,
  ⟨none, .store 8 (.s 9) (.s 22), none⟩,
  ⟨some 10, .mov (.s 23), none⟩,
  ⟨some 11, .mov (.s 24), none⟩]
def F7r2 : List AOper := [⟨some 25, .call (.c (.fn 10 [])) [], none⟩,
  ⟨some 26, .un .not (.s 25), none⟩]
def F7r3 : List AOper := [⟨some 8, .mov (.c (.v (.bool false))), none⟩]
def F7r4 : List AOper := [⟨some 27, .mov (.s 11), none⟩,
  ⟨some 28, .bin false .neq (.s 27) (.c (.v (.int .i64 0))), none⟩]
def F7r5 : List AOper := [⟨some 29, .mov (.s 10), none⟩,
  ⟨some 30, .len false (.s 29), none⟩,
  ⟨some 31, .bin false .eql (.s 30) (.c (.v (.int .i64 0))), none⟩,
  ⟨some 8, .mov (.s 31), none⟩]
def F7r6 : List AOper := [⟨some 32, .fad 1 (.s 9), none⟩,
  ⟨some 33, .load none (.s 32), none⟩,
  ⟨some 34, .fad 1 (.s 6), none⟩,
  ⟨some 35, .load none (.s 34), none⟩,
  ⟨some 36, .bin false .eql (.s 33) (.s 35), none⟩]
def F7r7 : List AOper := [⟨some 37, .mov (.s 10), none⟩,
  ⟨some 38, .len false (.s 37), none⟩,
  ⟨some 39, .bin false .eql (.s 38) (.c (.v (.int .i64 0))), none⟩,
  ⟨some 40, .mov (.s 39), none⟩,
  ⟨some 41, .fad 3 (.s 9), some (40, true)⟩,
  ⟨some 42, .load none (.s 41), some (40, true)⟩,
  ⟨some 43, .fad 3 (.s 6), some (40, true)⟩,
  ⟨some 44, .load none (.s 43), some (40, true)⟩,
  ⟨some 45, .bin false .eql (.s 42) (.s 44), some (40, true)⟩,
  ⟨some 46, .pick (.s 40) (.s 45) (.c (.v (.bool false))), none⟩,
  ⟨some 8, .mov (.s 46), none⟩]
def F7r8 : List AOper := [⟨some 48, .fad 0 (.s 4), none⟩,
  ⟨some 49, .load none (.s 48), none⟩,
  ⟨some 50, .fad 1 (.s 4), none⟩,
  ⟨some 51, .load none (.s 50), none⟩,
  ⟨some 52, .fad 7 (.s 6), none⟩,
  ⟨some 53, .load none (.s 52), none⟩,
  ⟨some 54, .fad 2 (.s 7), none⟩,
  ⟨some 55, .load none (.s 54), none⟩,
  ⟨some 56, .bin false .shl (.c (.v (.int .u64 1))) (.s 55), none⟩,
  ⟨some 57, .bin false .or (.s 53) (.s 56), none⟩,
  ⟨some 58, .call (.c (.fn 23 [])) [.s 49, .s 51, .s 57], none⟩,
  ⟨some 47, .mov (.s 58), none⟩,
  ⟨some 59, .ext 0 (.s 47), none⟩,
  ⟨some 60, .ext 1 (.s 47), none⟩,
  ⟨some 12, .mov (.s 59), none⟩,
  ⟨some 13, .mov (.s 60), none⟩]
def F7r9 : List AOper := [⟨some 61, .mov (.s 13), none⟩,
  ⟨some 62, .bin false .neq (.s 61) (.c (.v (.int .i64 0))), none⟩,
  ⟨some 63, .mov (.s 62), none⟩,
  ⟨some 64, .mov (.s 12), some (63, false)⟩,
  ⟨some 65, .un .not (.s 64), some (63, false)⟩,
  ⟨some 66, .pick (.s 63) (.c (.v (.bool true))) (.s 65), none⟩,
  ⟨some 67, .mov (.s 66), none⟩,
  ⟨some 68, .fad 1 (.s 9), some (67, false)⟩,
  ⟨some 69, .load none (.s 68), some (67, false)⟩,
  ⟨some 70, .fad 1 (.s 6), some (67, false)⟩,
  ⟨some 71, .load none (.s 70), some (67, false)⟩,
  ⟨some 72, .bin false .add (.s 71) (.c (.v (.int .i64 1))), some (67, false)⟩,
  ⟨some 73, .bin false .neq (.s 69) (.s 72), some (67, false)⟩,
  ⟨some 74, .pick (.s 67) (.c (.v (.bool true))) (.s 73), none⟩,
  ⟨some 75, .mov (.s 74), none⟩,
  ⟨some 76, .fad 2 (.s 9), some (75, false)⟩,
  ⟨some 77, .load none (.s 76), some (75, false)⟩,
  ⟨some 78, .fad 2 (.s 6), some (75, false)⟩,
  ⟨some 79, .load none (.s 78), some (75, false)⟩,
  ⟨some 80, .bin false .neq (.s 77) (.s 79), some (75, false)⟩,
  ⟨some 81, .pick (.s 75) (.c (.v (.bool true))) (.s 80), none⟩,
  ⟨some 82, .mov (.s 81), none⟩,
  ⟨some 83, .fad 0 (.s 9), some (82, false)⟩,
  ⟨some 84, .load none (.s 83), some (82, false)⟩,
  ⟨some 85, .fad 0 (.s 6), some (82, false)⟩,
  ⟨some 86, .load none (.s 85), some (82, false)⟩,
  ⟨some 87, .bin false .neq (.s 84) (.s 86), some (82, false)⟩,
  ⟨some 88, .pick (.s 82) (.c (.v (.bool true))) (.s 87), none⟩]
def F7r10 : List AOper := [⟨some 8, .mov (.c (.v (.bool false))), none⟩]
def F7r11 : List AOper := [⟨some 89, .fad 1 (.s 6), none⟩,
  ⟨some 90, .load none (.s 89), none⟩,
  ⟨some 91, .bin false .eql (.s 90) (.c (.v (.int .i64 2))), none⟩]
def F7r12 : List AOper := [⟨some 92, .fad 3 (.s 9), none⟩,
  ⟨some 93, .load none (.s 92), none⟩,
  ⟨some 94, .fad 3 (.s 6), none⟩,
  ⟨some 95, .load none (.s 94), none⟩,
  ⟨some 96, .bin false .eql (.s 93) (.s 95), none⟩,
  ⟨some 97, .mov (.s 96), none⟩,
  ⟨some 98, .mov (.s 10), some (97, true)⟩,
  ⟨some 99, .len false (.s 98), some (97, true)⟩,
  ⟨some 100, .bin false .eql (.s 99) (.c (.v (.int .i64 0))), some (97, true)⟩,
  ⟨some 101, .pick (.s 97) (.s 100) (.c (.v (.bool false))), none⟩,
  ⟨some 8, .mov (.s 101), none⟩]
def F7r13 : List AOper := [⟨some 102, .fad 4 (.s 6), none⟩,
  ⟨some 103, .load (some 3) (.s 102), none⟩,
  ⟨some 14, .new [.v (.int .i64 0), .v (.int .i64 0), .v (.string ⟨#[]⟩)], none⟩,
  ⟨none, .store 3 (.s 14) (.s 103), none⟩]
def F7r14 : List AOper := [⟨some 104, .fad 0 (.s 14), none⟩,
  ⟨some 105, .load (some 2) (.s 104), none⟩,
  ⟨some 106, .fad 3 (.s 7), none⟩,
  ⟨some 107, .fad 0 (.s 106), none⟩,
  ⟨some 108, .load (some 2) (.s 107), none⟩,
  ⟨some 109, .call (.c (.fn 22 [])) [.s 105, .s 108], none⟩]
def F7r15 : List AOper := [⟨some 110, .fad 3 (.s 7), none⟩,
  ⟨some 111, .load (some 3) (.s 110), none⟩,
  ⟨none, .store 3 (.s 14) (.s 111), none⟩]
def F7r16 : List AOper := [⟨some 112, .fad 2 (.s 14), none⟩,
  ⟨some 113, .load none (.s 112), none⟩,
  ⟨some 15, .mov (.s 113), none⟩]
def F7r17 : List AOper := [⟨some 114, .fad 0 (.s 14), none⟩,
  ⟨some 115, .load (some 2) (.s 114), none⟩,
  ⟨some 116, .agg [.v (.int .i64 0), .v (.int .i64 0)] [], none⟩,
  ⟨some 117, .eqs false 2 [(0, .int), (1, .int)] (.s 115) (.s 116), none⟩]
def F7r18 : List AOper := [⟨some 118, .fad 2 (.s 6), none⟩,
  ⟨some 119, .load none (.s 118), none⟩,
  ⟨some 15, .mov (.s 119), none⟩]
def F7r19 : List AOper := [⟨some 120, .fad 3 (.s 9), none⟩,
  ⟨some 121, .load none (.s 120), none⟩,
  ⟨some 122, .mov (.s 15), none⟩,
  ⟨some 123, .bin false .eql (.s 121) (.s 122), none⟩,
  ⟨some 124, .mov (.s 123), none⟩,
  ⟨some 125, .mov (.s 10), some (124, true)⟩,
  ⟨some 126, .len false (.s 125), some (124, true)⟩,
  ⟨some 127, .fad 0 (.s 4), some (124, true)⟩,
  ⟨some 128, .load none (.s 127), some (124, true)⟩,
  ⟨some 129, .len false (.s 128), some (124, true)⟩,
  ⟨some 130, .bin false .eql (.s 126) (.s 129), some (124, true)⟩,
  ⟨some 131, .pick (.s 124) (.s 130) (.c (.v (.bool false))), none⟩,
  ⟨some 132, .mov (.s 131), none⟩,
  ⟨some 133, .mov (.s 10), some (132, true)⟩,
  ⟨some 134, .len false (.s 133), some (132, true)⟩,
  ⟨some 135, .bin false .gtr (.s 134) (.c (.v (.int .i64 0))), some (132, true)⟩,
  ⟨some 136, .pick (.s 132) (.s 135) (.c (.v (.bool false))), none⟩,
  ⟨some 137, .mov (.s 136), none⟩,
  ⟨some 138, .mov (.s 10), some (137, true)⟩,
  ⟨some 139, .iad 6 (.s 138) (.c (.v (.int .i64 0))), some (137, true)⟩,
  ⟨some 140, .fad 3 (.s 139), some (137, true)⟩,
  ⟨some 141, .load (some 3) (.s 140), some (137, true)⟩,
  ⟨some 142, .fad 0 (.s 6), some (137, true)⟩,
  ⟨some 143, .load none (.s 142), some (137, true)⟩,
  ⟨some 144, .mov (.s 1), some (137, true)⟩,
  ⟨some 145, .call (.c (.fn 24 [])) [.s 143, .s 144], some (137, true)⟩,
  ⟨some 146, .mov (.s 15), some (137, true)⟩,
  ⟨some 147, .agg [.v (.int .i64 0), .v (.int .i64 0), .v (.string ⟨#[]⟩)] [(0, (2, .s 145)), (2, (1, .s 146))], some (137, true)⟩,
  ⟨some 148, .eqs false 3 [(0, .int), (1, .int), (2, .str)] (.s 141) (.s 147), some (137, true)⟩,
  ⟨some 149, .pick (.s 137) (.s 148) (.c (.v (.bool false))), none⟩,
  ⟨some 8, .mov (.s 149), none⟩]
def F7 : AFn := ⟨150, [.tmp 8],
  .seq (.reg F7r0 none)
  (.seq (.reg F7r1 none)
  (.seq (.seq (.reg F7r2 none)
  (.cond (.s 26)
    (.seq (.reg F7r3 none)
    (.ret))
    (.skip)))
  (.seq (.seq (.reg F7r4 none)
  (.cond (.s 28)
    (.seq (.reg F7r5 none)
    (.ret))
    (.skip)))
  (.seq (.seq (.reg F7r6 none)
  (.cond (.s 36)
    (.seq (.reg F7r7 none)
    (.ret))
    (.skip)))
  (.seq (.reg F7r8 (some [[], [0], [], [2], [], [4], [], [6], [7, 6], [5, 8, 4, 7, 6], [1, 3, 9, 0, 2, 5, 8, 4, 7, 6], [10, 1, 3, 9, 0, 2, 5, 8, 4, 7, 6], [11, 10, 1, 3, 9, 0, 2, 5, 8, 4, 7, 6], [11, 10, 1, 3, 9, 0, 2, 5, 8, 4, 7, 6], [12, 10, 0, 1, 2, 3, 4, 5, 6, 7, 8, 9, 11], [13, 14, 0, 1, 2, 3, 4, 5, 6, 7, 8, 9, 10, 11, 12]]))
  (.seq (.seq (.reg F7r9 none)
  (.cond (.s 88)
    (.seq (.reg F7r10 none)
    (.ret))
    (.skip)))
  (.seq (.seq (.reg F7r11 none)
  (.cond (.s 91)
    (.seq (.reg F7r12 none)
    (.ret))
    (.skip)))
  (.seq (.reg F7r13 none)
  (.seq (.seq (.reg F7r14 none)
  (.cond (.s 109)
    (.reg F7r15 none)
    (.skip)))
  (.seq (.reg F7r16 none)
  (.seq (.seq (.reg F7r17 none)
  (.cond (.s 117)
    (.reg F7r18 none)
    (.skip)))
  (.seq (.reg F7r19 (some [[], [0], [], [1, 2, 0], [3, 1, 2, 0], [4, 3, 1, 2, 0], [5, 4, 3, 1, 2, 0], [4, 3, 1, 2, 0], [7, 4, 3, 1, 2, 0], [8, 4, 7, 3, 1, 2, 0], [6, 9, 4, 5, 3, 1, 2, 0, 8, 7], [4, 10, 3, 1, 2, 0, 6, 9, 5, 8, 7], [11, 4, 10, 3, 1, 2, 0, 6, 9, 5, 8, 7], [12, 11, 4, 10, 3, 1, 2, 0, 6, 9, 5, 8, 7], [13, 12, 11, 4, 10, 3, 1, 2, 0, 6, 9, 5, 8, 7], [14, 12, 13, 11, 4, 10, 3, 1, 2, 0, 6, 9, 5, 8, 7], [12, 15, 11, 4, 10, 3, 1, 2, 0, 6, 9, 5, 8, 7, 14, 13], [16, 12, 15, 11, 4, 10, 3, 1, 2, 0, 6, 9, 5, 8, 7, 14, 13], [17, 16, 12, 15, 11, 4, 10, 3, 1, 2, 0, 6, 9, 5, 8, 7, 14, 13], [18, 17, 16, 12, 15, 11, 4, 10, 3, 1, 2, 0, 6, 9, 5, 8, 7, 14, 13], [19, 17, 18, 16, 12, 15, 11, 4, 10, 3, 1, 2, 0, 6, 9, 5, 8, 7, 14, 13], [20, 17, 19, 18, 16, 12, 15, 11, 4, 10, 3, 1, 2, 0, 6, 9, 5, 8, 7, 14, 13], [17, 16, 12, 15, 11, 4, 10, 3, 1, 2, 0, 6, 9, 5, 8, 7, 14, 13], [22, 17, 16, 12, 15, 11, 4, 10, 3, 1, 2, 0, 6, 9, 5, 8, 7, 14, 13], [17, 16, 12, 15, 11, 4, 10, 3, 1, 2, 0, 6, 9, 5, 8, 7, 14, 13], [23, 24, 17, 22, 16, 12, 15, 11, 4, 10, 3, 1, 2, 0, 6, 9, 5, 8, 7, 14, 13], [17, 16, 12, 15, 11, 4, 10, 3, 1, 2, 0, 6, 9, 5, 8, 7, 14, 13], [25, 26, 17, 23, 24, 22, 16, 12, 15, 11, 4, 10, 3, 1, 2, 0, 6, 9, 5, 8, 7, 14, 13], [21, 27, 17, 20, 19, 18, 16, 12, 15, 11, 4, 10, 3, 1, 2, 0, 6, 9, 5, 8, 7, 14, 13, 25, 26, 23, 24, 22], [17, 28, 16, 12, 15, 11, 4, 10, 3, 1, 2, 0, 6, 9, 5, 8, 7, 14, 13, 21, 27, 20, 19, 18, 25, 26, 23, 24, 22], [29, 25, 0, 1, 2, 3, 4, 5, 6, 7, 8, 9, 10, 11, 12, 13, 14, 15, 16, 17, 18, 19, 20, 21, 22, 23, 24, 26, 27, 28]]))
  (.ret)))))))))))))⟩
theorem F7_ok : cFunc Tryd.prog 7 = some F7 := by kernel_rfl
/-- seat.Serve -/
def F8r0 : List AOper := [⟨some 2, .box 5 (.s 0), none⟩,
  ⟨some 3, .box 6 (.s 1), none⟩,
  ⟨some 4, .new [.v (.int .i64 0), .v (.int .i64 0), .v (.int .i64 0), .v (.int .i64 0), .v (.string ⟨#[]⟩)], none⟩,
  ⟨some 5, .mov (.c .emp), none⟩,
  ⟨some 6, .mov (.c (.v (.int .i64 0))), none⟩]
def F8r1 : List AOper := [⟨some 9, .load (some 5) (.s 2), none⟩,
  ⟨some 10, .call (.c (.fn 13 [])) [.s 9], none⟩,
  ⟨some 7, .mov (.s 10), none⟩]
def F8r2 : List AOper := [⟨some 11, .mov (.s 7), none⟩,
  ⟨some 12, .bin false .eql (.s 11) (.c (.v (.int .i64 0))), none⟩]
def F8r3 : List AOper := [⟨some 13, .load (some 6) (.s 3), none⟩,
  ⟨some 14, .call (.c (.fn 11 [])) [.s 13], none⟩,
  ⟨some 7, .mov (.s 14), none⟩]
def F8r4 : List AOper := [⟨some 15, .mov (.s 7), none⟩,
  ⟨some 16, .bin false .neq (.s 15) (.c (.v (.int .i64 0))), none⟩]
def F8r5 : List AOper := [⟨some 17, .agg [.v (.int .i64 0), .v (.int .i64 0), .v (.int .i64 0), .v (.int .i64 0), .v (.string ⟨#[]⟩)] [], none⟩,
  ⟨some 18, .mov (.s 7), none⟩,
  ⟨none, .store 5 (.s 4) (.s 17), none⟩,
  ⟨some 5, .mov (.c .emp), none⟩,
  ⟨some 6, .mov (.s 18), none⟩]
def F8r6 : List AOper := [⟨some 19, .fad 1 (.s 3), none⟩,
  ⟨some 20, .load none (.s 19), none⟩,
  ⟨some 21, .fad 2 (.s 3), none⟩,
  ⟨some 22, .load none (.s 21), none⟩,
  ⟨some 23, .agg [.v (.int .i64 0), .v (.int .i64 0), .v (.int .i64 0), .v (.int .i64 0), .v (.int .i64 0), .v (.string ⟨#[]⟩)] [(1, (1, .s 20)), (2, (1, .s 22))], none⟩,
  ⟨some 8, .new [.v (.int .i64 0), .v (.int .i64 0), .v (.int .i64 0), .v (.int .i64 0), .v (.int .i64 0), .v (.string ⟨#[]⟩)], none⟩,
  ⟨none, .store 6 (.s 8) (.s 23), none⟩]
def F8r7 : List AOper := [⟨some 26, .fad 0 (.s 3), none⟩,
  ⟨some 27, .load none (.s 26), none⟩,
  ⟨some 28, .bin false .eql (.s 27) (.c (.v (.int .i64 1))), none⟩,
  ⟨some 29, .mov (.s 28), none⟩,
  ⟨some 30, .fad 0 (.s 2), some (29, true)⟩,
  ⟨some 31, .load (some 2) (.s 30), some (29, true)⟩,
  ⟨some 32, .fad 3 (.s 3), some (29, true)⟩,
  ⟨some 33, .fad 0 (.s 32), some (29, true)⟩,
  ⟨some 34, .load (some 2) (.s 33), some (29, true)⟩,
  ⟨some 35, .call (.c (.fn 22 [])) [.s 31, .s 34], some (29, true)⟩,
  ⟨some 36, .pick (.s 29) (.s 35) (.c (.v (.bool false))), none⟩,
  ⟨some 25, .mov (.s 36), none⟩]
def F8r8 : List AOper := [⟨some 37, .fad 3 (.s 3), none⟩,
  ⟨some 38, .fad 0 (.s 37), none⟩,
  ⟨some 39, .load (some 2) (.s 38), none⟩,
  ⟨some 40, .fad 0 (.s 2), none⟩,
  ⟨none, .store 2 (.s 40) (.s 39), none⟩]
def F8r9 : List AOper := [⟨some 41, .fad 2 (.s 2), none⟩,
  ⟨some 42, .load (some 3) (.s 41), none⟩,
  ⟨some 43, .fad 0 (.s 8), none⟩,
  ⟨none, .store 1 (.s 43) (.c (.v (.int .i64 2))), none⟩,
  ⟨some 44, .fad 3 (.s 8), none⟩,
  ⟨none, .store 3 (.s 44) (.s 42), none⟩]
def F8r10 : List AOper := [⟨some 46, .fad 0 (.s 3), none⟩,
  ⟨some 47, .load none (.s 46), none⟩,
  ⟨some 48, .bin false .eql (.s 47) (.c (.v (.int .i64 3))), none⟩,
  ⟨some 49, .mov (.s 48), none⟩,
  ⟨some 50, .fad 3 (.s 3), some (49, true)⟩,
  ⟨some 51, .fad 0 (.s 50), some (49, true)⟩,
  ⟨some 52, .load (some 2) (.s 51), some (49, true)⟩,
  ⟨some 53, .fad 0 (.s 2), some (49, true)⟩,
  ⟨some 54, .load (some 2) (.s 53), some (49, true)⟩,
  ⟨some 55, .call (.c (.fn 22 [])) [.s 52, .s 54], some (49, true)⟩,
  ⟨some 56, .un .not (.s 55), some (49, true)⟩,
  ⟨some 57, .pick (.s 49) (.s 56) (.c (.v (.bool false))), none⟩,
  ⟨some 45, .mov (.s 57), none⟩]
def F8r11 : List AOper := [⟨some 58, .fad 3 (.s 3), none⟩,
  ⟨some 59, .fad 0 (.s 58), none⟩,
  ⟨some 60, .load (some 2) (.s 59), none⟩,
  ⟨some 61, .fad 3 (.s 3), none⟩,
  ⟨some 62, .load (some 3) (.s 61), none⟩,
  ⟨some 63, .fad 0 (.s 2), none⟩,
  ⟨none, .store 2 (.s 63) (.s 60), none⟩,
  ⟨some 64, .fad 2 (.s 2), none⟩,
  ⟨none, .store 3 (.s 64) (.s 62), none⟩]
def F8r12 : List AOper := [⟨some 65, .fad 3 (.s 3), none⟩,
  ⟨some 66, .fad 0 (.s 65), none⟩,
  ⟨some 67, .load (some 2) (.s 66), none⟩,
  ⟨some 68, .fad 0 (.s 8), none⟩,
  ⟨none, .store 1 (.s 68) (.c (.v (.int .i64 4))), none⟩,
  ⟨some 69, .fad 3 (.s 8), none⟩,
  ⟨some 70, .fad 0 (.s 69), none⟩,
  ⟨none, .store 2 (.s 70) (.s 67), none⟩]
def F8r13 : List AOper := [⟨some 24, .load (some 5) (.s 2), none⟩,
  ⟨none, .store 5 (.s 4) (.s 24), none⟩,
  ⟨some 5, .mov (.c .emp), none⟩,
  ⟨some 6, .mov (.c (.v (.int .i64 0))), none⟩]
def F8r14 : List AOper := [⟨some 71, .load (some 5) (.s 2), none⟩,
  ⟨some 72, .load (some 6) (.s 8), none⟩,
  ⟨some 73, .bsl 6 1 [.v (.int .i64 0), .v (.int .i64 0), .v (.int .i64 0), .v (.int .i64 0), .v (.int .i64 0), .v (.string ⟨#[]⟩)] [(0, .s 72)], none⟩,
  ⟨none, .store 5 (.s 4) (.s 71), none⟩,
  ⟨some 5, .mov (.s 73), none⟩,
  ⟨some 6, .mov (.c (.v (.int .i64 0))), none⟩]
def F8 : AFn := ⟨74, [.cell 4 (some 5), .tmp 5, .tmp 6],
  .seq (.reg F8r0 none)
  (.seq (.reg F8r1 none)
  (.seq (.seq (.reg F8r2 none)
  (.cond (.s 12)
    (.reg F8r3 none)
    (.skip)))
  (.seq (.seq (.reg F8r4 none)
  (.cond (.s 16)
    (.seq (.reg F8r5 none)
    (.ret))
    (.skip)))
  (.seq (.reg F8r6 none)
  (.seq (.block 0 (
    .seq (.reg F8r7 none)
    (.cond (.s 25)
      (.seq (.reg F8r8 none)
      (.reg F8r9 (some [[], [0], [], [2], [0, 1, 2, 3], [4, 1, 3, 0, 2]])))
      (.seq (.reg F8r10 none)
      (.cond (.s 45)
        (.seq (.reg F8r11 (some [[], [0], [1, 0], [], [3], [0, 1, 2], [5, 2, 0, 1], [0, 1, 2, 3, 4, 5, 6], [7, 4, 6, 0, 1, 2, 3, 5]]))
        (.reg F8r12 (some [[], [0], [1, 0], [], [3], [0, 1, 2, 3, 4], [5, 0, 1, 2, 3, 4], [6, 2, 4, 0, 1, 3, 5]])))
        (.seq (.reg F8r13 none)
        (.ret)))))))
  (.seq (.reg F8r14 (some [[], [], [1], [0], [2, 3, 0, 1], [4, 0, 1, 2, 3]]))
  (.ret)))))))⟩
theorem F8_ok : cFunc Tryd.prog 8 = some F8 := by kernel_rfl
theorem F8_call : callable Tryd.prog 8 = true := by kernel_rfl
/-- supercargolaw.seatBegun -/
def F10r0 : List AOper := [⟨some 0, .mov (.c (.v (.bool false))), none⟩]
def F10r1 : List AOper := [⟨some 20, .agg [.v (.int .i64 0), .v (.int .i64 0), .v (.int .i64 0), .v (.int .i64 0), .v (.string ⟨#[]⟩)] [], none⟩,
  ⟨some 21, .call (.c (.fn 26 [])) [.c (.v (.int .i64 4)), .c (.v (.int .i64 1)), .c (.v (.int .i64 7))], none⟩,
  ⟨some 22, .call (.c (.fn 8 [])) [.s 20, .s 21], none⟩,
  ⟨some 19, .mov (.s 22), none⟩,
  ⟨some 23, .ext 0 (.s 19), none⟩,
  ⟨some 24, .ext 1 (.s 19), none⟩,
  ⟨some 25, .ext 2 (.s 19), none⟩,
  ⟨some 1, .new [.v (.int .i64 0), .v (.int .i64 0), .v (.int .i64 0), .v (.int .i64 0), .v (.string ⟨#[]⟩)], none⟩,
  ⟨none, .store 5 (.s 1) (.s 23), none⟩,
  ⟨some 2, .mov (.s 24), none⟩,
  ⟨some 3, .mov (.s 25), none⟩]
def F10r2 : List AOper := [⟨some 27, .load (some 5) (.s 1), none⟩,
  ⟨some 28, .call (.c (.fn 27 [])) [.c (.v (.int .i64 7)), .c (.v (.int .i64 4)), .c (.v (.string ⟨#[118]⟩))], none⟩,
  ⟨some 29, .agg [.v (.int .i64 0), .v (.int .i64 0), .v (.int .i64 0), .v (.int .i64 0), .v (.int .i64 0), .v (.string ⟨#[]⟩)] [(0, (1, .c (.v (.int .i64 3)))), (1, (1, .c (.v (.int .i64 4)))), (2, (1, .c (.v (.int .i64 1)))), (3, (3, .s 28))], none⟩,
  ⟨some 30, .call (.c (.fn 8 [])) [.s 27, .s 29], none⟩,
  ⟨some 26, .mov (.s 30), none⟩,
  ⟨some 31, .ext 0 (.s 26), none⟩,
  ⟨some 32, .ext 1 (.s 26), none⟩,
  ⟨some 33, .ext 2 (.s 26), none⟩,
  ⟨some 4, .new [.v (.int .i64 0), .v (.int .i64 0), .v (.int .i64 0), .v (.int .i64 0), .v (.string ⟨#[]⟩)], none⟩,
  ⟨none, .store 5 (.s 4) (.s 31), none⟩,
  ⟨some 5, .mov (.s 32), none⟩,
  ⟨some 6, .mov (.s 33), none⟩]
def F10r3 : List AOper := [⟨some 35, .load (some 5) (.s 4), none⟩,
  ⟨some 36, .call (.c (.fn 26 [])) [.c (.v (.int .i64 2)), .c (.v (.int .i64 1)), .c (.v (.int .i64 7))], none⟩,
  ⟨some 37, .call (.c (.fn 8 [])) [.s 35, .s 36], none⟩,
  ⟨some 34, .mov (.s 37), none⟩,
  ⟨some 38, .ext 0 (.s 34), none⟩,
  ⟨some 39, .ext 1 (.s 34), none⟩,
  ⟨some 40, .ext 2 (.s 34), none⟩,
  ⟨some 7, .new [.v (.int .i64 0), .v (.int .i64 0), .v (.int .i64 0), .v (.int .i64 0), .v (.string ⟨#[]⟩)], none⟩,
  ⟨none, .store 5 (.s 7) (.s 38), none⟩,
  ⟨some 8, .mov (.s 39), none⟩,
  ⟨some 9, .mov (.s 40), none⟩]
def F10r4 : List AOper := [⟨some 42, .call (.c (.fn 28 [])) [], none⟩,
  ⟨some 43, .call (.c (.fn 17 [])) [.s 42, .c (.v (.int .i64 2)), .c (.v (.int .i64 9)), .c (.v (.string ⟨#[111, 119, 110]⟩))], none⟩,
  ⟨some 41, .mov (.s 43), none⟩,
  ⟨some 44, .ext 0 (.s 41), none⟩,
  ⟨some 45, .ext 1 (.s 41), none⟩,
  ⟨some 46, .ext 2 (.s 41), none⟩,
  ⟨some 10, .new [.v (.int .i64 0), .v (.int .i64 0), .v (.string ⟨#[]⟩), .v (.string ⟨#[]⟩), .v (.int .i64 0), .v (.int .i64 0), .v (.string ⟨#[]⟩), .v (.int .u64 0)], none⟩,
  ⟨none, .store 8 (.s 10) (.s 44), none⟩,
  ⟨some 11, .mov (.s 45), none⟩,
  ⟨some 12, .mov (.s 46), none⟩]
def F10r5 : List AOper := [⟨some 48, .call (.c (.fn 28 [])) [], none⟩,
  ⟨some 49, .load (some 8) (.s 10), none⟩,
  ⟨some 50, .call (.c (.fn 27 [])) [.c (.v (.int .i64 7)), .c (.v (.int .i64 4)), .c (.v (.string ⟨#[118]⟩))], none⟩,
  ⟨some 51, .agg [.v (.int .i64 0), .v (.int .i64 0), .v (.int .i64 0), .v (.int .i64 0), .v (.int .i64 0), .v (.string ⟨#[]⟩)] [(0, (1, .c (.v (.int .i64 2)))), (1, (1, .c (.v (.int .i64 2)))), (2, (1, .c (.v (.int .i64 0)))), (3, (3, .s 50))], none⟩,
  ⟨some 52, .call (.c (.fn 16 [])) [.s 48, .c (.v (.int .i64 2)), .s 49, .s 51], none⟩,
  ⟨some 47, .mov (.s 52), none⟩,
  ⟨some 53, .ext 0 (.s 47), none⟩,
  ⟨some 54, .ext 1 (.s 47), none⟩,
  ⟨some 55, .ext 2 (.s 47), none⟩,
  ⟨some 13, .new [.v (.int .i64 0), .v (.int .i64 0), .v (.string ⟨#[]⟩), .v (.string ⟨#[]⟩), .v (.int .i64 0), .v (.int .i64 0), .v (.string ⟨#[]⟩), .v (.int .u64 0)], none⟩,
  ⟨none, .store 8 (.s 13) (.s 53), none⟩,
  ⟨some 14, .mov (.s 54), none⟩,
  ⟨some 15, .mov (.s 55), none⟩]
def F10r6 : List AOper := [⟨some 57, .call (.c (.fn 28 [])) [], none⟩,
  ⟨some 58, .load (some 8) (.s 13), none⟩,
  ⟨some 59, .agg [.v (.int .i64 0), .v (.int .i64 0), .v (.int .i64 0), .v (.int .i64 0), .v (.int .i64 0), .v (.string ⟨#[]⟩)] [(0, (1, .c (.v (.int .i64 2)))), (1, (1, .c (.v (.int .i64 2)))), (2, (1, .c (.v (.int .i64 2))))], none⟩,
  ⟨some 60, .call (.c (.fn 16 [])) [.s 57, .c (.v (.int .i64 2)), .s 58, .s 59], none⟩,
  ⟨some 56, .mov (.s 60), none⟩,
  ⟨some 61, .ext 0 (.s 56), none⟩,
  ⟨some 62, .ext 1 (.s 56), none⟩,
  ⟨some 63, .ext 2 (.s 56), none⟩,
  ⟨some 16, .new [.v (.int .i64 0), .v (.int .i64 0), .v (.string ⟨#[]⟩), .v (.string ⟨#[]⟩), .v (.int .i64 0), .v (.int .i64 0), .v (.string ⟨#[]⟩), .v (.int .u64 0)], none⟩,
  ⟨none, .store 8 (.s 16) (.s 61), none⟩,
  ⟨some 17, .mov (.s 62), none⟩,
  ⟨some 18, .mov (.s 63), none⟩]
def F10r7 : List AOper := [⟨some 64, .mov (.s 3), none⟩,
  ⟨some 65, .bin false .eql (.s 64) (.c (.v (.int .i64 0))), none⟩,
  ⟨some 66, .mov (.s 65), none⟩,
  ⟨some 67, .fad 0 (.s 1), some (66, true)⟩,
  ⟨some 68, .load (some 2) (.s 67), some (66, true)⟩,
  ⟨some 69, .call (.c (.fn 24 [])) [.c (.v (.int .i64 7)), .c (.v (.int .i64 4))], some (66, true)⟩,
  ⟨some 70, .eqs false 2 [(0, .int), (1, .int)] (.s 68) (.s 69), some (66, true)⟩,
  ⟨some 71, .pick (.s 66) (.s 70) (.c (.v (.bool false))), none⟩,
  ⟨some 72, .mov (.s 71), none⟩,
  ⟨some 73, .mov (.s 2), some (72, true)⟩,
  ⟨some 74, .len false (.s 73), some (72, true)⟩,
  ⟨some 75, .bin false .eql (.s 74) (.c (.v (.int .i64 1))), some (72, true)⟩,
  ⟨some 76, .pick (.s 72) (.s 75) (.c (.v (.bool false))), none⟩,
  ⟨some 77, .mov (.s 76), none⟩,
  ⟨some 78, .mov (.s 2), some (77, true)⟩,
  ⟨some 79, .iad 6 (.s 78) (.c (.v (.int .i64 0))), some (77, true)⟩,
  ⟨some 80, .fad 0 (.s 79), some (77, true)⟩,
  ⟨some 81, .load none (.s 80), some (77, true)⟩,
  ⟨some 82, .bin false .eql (.s 81) (.c (.v (.int .i64 2))), some (77, true)⟩,
  ⟨some 83, .pick (.s 77) (.s 82) (.c (.v (.bool false))), none⟩,
  ⟨some 84, .mov (.s 83), none⟩,
  ⟨some 85, .mov (.s 6), some (84, true)⟩,
  ⟨some 86, .bin false .eql (.s 85) (.c (.v (.int .i64 0))), some (84, true)⟩,
  ⟨some 87, .pick (.s 84) (.s 86) (.c (.v (.bool false))), none⟩,
  ⟨some 88, .mov (.s 87), none⟩,
  ⟨some 89, .fad 2 (.s 4), some (88, true)⟩,
  ⟨some 90, .load (some 3) (.s 89), some (88, true)⟩,
  ⟨some 91, .call (.c (.fn 27 [])) [.c (.v (.int .i64 7)), .c (.v (.int .i64 4)), .c (.v (.string ⟨#[118]⟩))], some (88, true)⟩,
  ⟨some 92, .eqs false 3 [(0, .int), (1, .int), (2, .str)] (.s 90) (.s 91), some (88, true)⟩,
  ⟨some 93, .pick (.s 88) (.s 92) (.c (.v (.bool false))), none⟩,
  ⟨some 94, .mov (.s 93), none⟩,
  ⟨some 95, .mov (.s 5), some (94, true)⟩,
  ⟨some 96, .len false (.s 95), some (94, true)⟩,
  ⟨some 97, .bin false .eql (.s 96) (.c (.v (.int .i64 1))), some (94, true)⟩,
  ⟨some 98, .pick (.s 94) (.s 97) (.c (.v (.bool false))), none⟩,
  ⟨some 99, .mov (.s 98), none⟩,
  ⟨some 100, .mov (.s 5), some (99, true)⟩,
  ⟨some 101, .iad 6 (.s 100) (.c (.v (.int .i64 0))), some (99, true)⟩,
  ⟨some 102, .load (some 6) (.s 101), some (99, true)⟩,
  ⟨some 103, .call (.c (.fn 24 [])) [.c (.v (.int .i64 7)), .c (.v (.int .i64 4))], some (99, true)⟩,
  ⟨some 104, .agg [.v (.int .i64 0), .v (.int .i64 0), .v (.string ⟨#[]⟩)] [(0, (2, .s 103))], some (99, true)⟩,
  ⟨some 105, .agg [.v (.int .i64 0), .v (.int .i64 0), .v (.int .i64 0), .v (.int .i64 0), .v (.int .i64 0), .v (.string ⟨#[]⟩)] [(0, (1, .c (.v (.int .i64 4)))), (1, (1, .c (.v (.int .i64 4)))), (2, (1, .c (.v (.int .i64 1)))), (3, (3, .s 104))], some (99, true)⟩,
  ⟨some 106, .eqs false 6 [(0, .int), (1, .int), (2, .int), (3, .int), (4, .int), (5, .str)] (.s 102) (.s 105), some (99, true)⟩,
  ⟨some 107, .pick (.s 99) (.s 106) (.c (.v (.bool false))), none⟩,
  ⟨some 108, .mov (.s 107), none⟩,
  ⟨some 109, .mov (.s 9), some (108, true)⟩,
  ⟨some 110, .bin false .eql (.s 109) (.c (.v (.int .i64 0))), some (108, true)⟩,
  ⟨some 111, .pick (.s 108) (.s 110) (.c (.v (.bool false))), none⟩,
  ⟨some 112, .mov (.s 111), none⟩,
  ⟨some 113, .load (some 5) (.s 7), some (112, true)⟩,
  ⟨some 114, .load (some 5) (.s 4), some (112, true)⟩,
  ⟨some 115, .eqs false 5 [(0, .int), (1, .int), (2, .int), (3, .int), (4, .str)] (.s 113) (.s 114), some (112, true)⟩,
  ⟨some 116, .pick (.s 112) (.s 115) (.c (.v (.bool false))), none⟩,
  ⟨some 117, .mov (.s 116), none⟩,
  ⟨some 118, .mov (.s 8), some (117, true)⟩,
  ⟨some 119, .len false (.s 118), some (117, true)⟩,
  ⟨some 120, .bin false .eql (.s 119) (.c (.v (.int .i64 0))), some (117, true)⟩,
  ⟨some 121, .pick (.s 117) (.s 120) (.c (.v (.bool false))), none⟩,
  ⟨some 122, .mov (.s 121), none⟩,
  ⟨some 123, .mov (.s 12), some (122, true)⟩,
  ⟨some 124, .bin false .eql (.s 123) (.c (.v (.int .i64 0))), some (122, true)⟩,
  ⟨some 125, .pick (.s 122) (.s 124) (.c (.v (.bool false))), none⟩,
  ⟨some 126, .mov (.s 125), none⟩,
  ⟨some 127, .mov (.s 11), some (126, true)⟩,
  ⟨some 128, .len false (.s 127), some (126, true)⟩,
  ⟨some 129, .bin false .eql (.s 128) (.c (.v (.int .i64 3))), some (126, true)⟩,
  ⟨some 130, .pick (.s 126) (.s 129) (.c (.v (.bool false))), none⟩,
  ⟨some 131, .mov (.s 130), none⟩,
  ⟨some 132, .mov (.s 15), some (131, true)⟩,
  ⟨some 133, .bin false .eql (.s 132) (.c (.v (.int .i64 0))), some (131, true)⟩,
  ⟨some 134, .pick (.s 131) (.s 133) (.c (.v (.bool false))), none⟩,
  ⟨some 135, .mov (.s 134), none⟩,
  ⟨some 136, .fad 1 (.s 13), some (135, true)⟩,
  ⟨some 137, .load none (.s 136), some (135, true)⟩,
  ⟨some 138, .bin false .eql (.s 137) (.c (.v (.int .i64 1))), some (135, true)⟩,
  ⟨some 139, .pick (.s 135) (.s 138) (.c (.v (.bool false))), none⟩,
  ⟨some 140, .mov (.s 139), none⟩,
  ⟨some 141, .mov (.s 18), some (140, true)⟩,
  ⟨some 142, .bin false .eql (.s 141) (.c (.v (.int .i64 0))), some (140, true)⟩,
  ⟨some 143, .pick (.s 140) (.s 142) (.c (.v (.bool false))), none⟩,
  ⟨some 144, .mov (.s 143), none⟩,
  ⟨some 145, .fad 3 (.s 16), some (144, true)⟩,
  ⟨some 146, .load none (.s 145), some (144, true)⟩,
  ⟨some 147, .bin false .eql (.s 146) (.c (.v (.string ⟨#[118]⟩))), some (144, true)⟩,
  ⟨some 148, .pick (.s 144) (.s 147) (.c (.v (.bool false))), none⟩,
  ⟨some 149, .mov (.s 148), none⟩,
  ⟨some 150, .mov (.s 17), some (149, true)⟩,
  ⟨some 151, .len false (.s 150), some (149, true)⟩,
  ⟨some 152, .bin false .eql (.s 151) (.c (.v (.int .i64 3))), some (149, true)⟩,
  ⟨some 153, .pick (.s 149) (.s 152) (.c (.v (.bool false))), none⟩,
  ⟨some 154, .mov (.s 153), none⟩,
  ⟨some 155, .mov (.s 17), some (154, true)⟩,
  ⟨some 156, .iad 6 (.s 155) (.c (.v (.int .i64 1))), some (154, true)⟩,
  ⟨some 157, .fad 3 (.s 156), some (154, true)⟩,
  ⟨some 158, .load (some 3) (.s 157), some (154, true)⟩,
  ⟨some 159, .call (.c (.fn 27 [])) [.c (.v (.int .i64 9)), .c (.v (.int .i64 2)), .c (.v (.string ⟨#[118]⟩))], some (154, true)⟩,
  ⟨some 160, .eqs false 3 [(0, .int), (1, .int), (2, .str)] (.s 158) (.s 159), some (154, true)⟩,
  ⟨some 161, .pick (.s 154) (.s 160) (.c (.v (.bool false))), none⟩,
  ⟨some 0, .mov (.s 161), none⟩]
def F10 : AFn := ⟨162, [.tmp 0],
  .seq (.reg F10r0 none)
  (.seq (.reg F10r1 none)
  (.seq (.reg F10r2 (some [[], [], [1], [0, 2, 1], [3, 0, 2, 1], [4, 3, 0, 2, 1], [4, 3, 0, 2, 1], [4, 3, 0, 2, 1], [], [8, 5, 3, 0, 1, 2, 4], [6, 9, 0, 1, 2, 3, 4, 5, 8], [7, 10, 0, 1, 2, 3, 4, 5, 6, 8, 9]]))
  (.seq (.reg F10r3 (some [[], [], [0, 1], [2, 0, 1], [3, 2, 0, 1], [3, 2, 0, 1], [3, 2, 0, 1], [], [7, 4, 2, 0, 1, 3], [5, 8, 0, 1, 2, 3, 4, 7], [6, 9, 0, 1, 2, 3, 4, 5, 7, 8]]))
  (.seq (.reg F10r4 none)
  (.seq (.reg F10r5 (some [[], [], [0], [2, 0], [0, 1, 3, 2], [4, 0, 1, 3, 2], [5, 4, 0, 1, 3, 2], [5, 4, 0, 1, 3, 2], [5, 4, 0, 1, 3, 2], [], [9, 6, 4, 0, 1, 2, 3, 5], [7, 10, 0, 1, 2, 3, 4, 5, 6, 9], [8, 11, 0, 1, 2, 3, 4, 5, 6, 7, 9, 10]]))
  (.seq (.reg F10r6 (some [[], [], [], [0, 1, 2], [3, 0, 1, 2], [4, 3, 0, 1, 2], [4, 3, 0, 1, 2], [4, 3, 0, 1, 2], [], [8, 5, 3, 0, 1, 2, 4], [6, 9, 0, 1, 2, 3, 4, 5, 8], [7, 10, 0, 1, 2, 3, 4, 5, 6, 8, 9]]))
  (.seq (.reg F10r7 (some [[], [0], [1, 0], [2, 1, 0], [3, 2, 1, 0], [2, 1, 0], [4, 5, 2, 3, 1, 0], [2, 6, 1, 0, 4, 5, 3], [7, 5, 2, 6, 1, 0, 4, 3], [8, 7, 5, 2, 6, 1, 0, 4, 3], [9, 8, 7, 5, 2, 6, 1, 0, 4, 3], [10, 8, 9, 7, 5, 2, 6, 1, 0, 4, 3], [8, 11, 7, 5, 2, 6, 1, 0, 4, 3, 10, 9], [12, 8, 11, 7, 5, 2, 6, 1, 0, 4, 3, 10, 9], [13, 12, 8, 11, 7, 5, 2, 6, 1, 0, 4, 3, 10, 9], [14, 13, 12, 8, 11, 7, 5, 2, 6, 1, 0, 4, 3, 10, 9], [15, 13, 14, 12, 8, 11, 7, 5, 2, 6, 1, 0, 4, 3, 10, 9], [16, 13, 15, 14, 12, 8, 11, 7, 5, 2, 6, 1, 0, 4, 3, 10, 9], [17, 13, 16, 15, 14, 12, 8, 11, 7, 5, 2, 6, 1, 0, 4, 3, 10, 9], [13, 18, 12, 8, 11, 7, 5, 2, 6, 1, 0, 4, 3, 10, 9, 17, 16, 15, 14], [19, 13, 18, 12, 8, 11, 7, 5, 2, 6, 1, 0, 4, 3, 10, 9, 17, 16, 15, 14], [20, 19, 13, 18, 12, 8, 11, 7, 5, 2, 6, 1, 0, 4, 3, 10, 9, 17, 16, 15, 14], [21, 20, 19, 13, 18, 12, 8, 11, 7, 5, 2, 6, 1, 0, 4, 3, 10, 9, 17, 16, 15, 14], [20, 22, 19, 13, 18, 12, 8, 11, 7, 5, 2, 6, 1, 0, 4, 3, 10, 9, 17, 16, 15, 14, 21], [23, 20, 22, 19, 13, 18, 12, 8, 11, 7, 5, 2, 6, 1, 0, 4, 3, 10, 9, 17, 16, 15, 14, 21], [24, 23, 20, 22, 19, 13, 18, 12, 8, 11, 7, 5, 2, 6, 1, 0, 4, 3, 10, 9, 17, 16, 15, 14, 21], [25, 24, 23, 20, 22, 19, 13, 18, 12, 8, 11, 7, 5, 2, 6, 1, 0, 4, 3, 10, 9, 17, 16, 15, 14, 21], [24, 23, 20, 22, 19, 13, 18, 12, 8, 11, 7, 5, 2, 6, 1, 0, 4, 3, 10, 9, 17, 16, 15, 14, 21], [26, 27, 24, 25, 23, 20, 22, 19, 13, 18, 12, 8, 11, 7, 5, 2, 6, 1, 0, 4, 3, 10, 9, 17, 16, 15, 14, 21], [24, 28, 23, 20, 22, 19, 13, 18, 12, 8, 11, 7, 5, 2, 6, 1, 0, 4, 3, 10, 9, 17, 16, 15, 14, 21, 26, 27, 25], [29, 27, 24, 28, 23, 20, 22, 19, 13, 18, 12, 8, 11, 7, 5, 2, 6, 1, 0, 4, 3, 10, 9, 17, 16, 15, 14, 21, 26, 25], [30, 29, 27, 24, 28, 23, 20, 22, 19, 13, 18, 12, 8, 11, 7, 5, 2, 6, 1, 0, 4, 3, 10, 9, 17, 16, 15, 14, 21, 26, 25], [31, 30, 29, 27, 24, 28, 23, 20, 22, 19, 13, 18, 12, 8, 11, 7, 5, 2, 6, 1, 0, 4, 3, 10, 9, 17, 16, 15, 14, 21, 26, 25], [32, 30, 31, 29, 27, 24, 28, 23, 20, 22, 19, 13, 18, 12, 8, 11, 7, 5, 2, 6, 1, 0, 4, 3, 10, 9, 17, 16, 15, 14, 21, 26, 25], [30, 33, 29, 27, 24, 28, 23, 20, 22, 19, 13, 18, 12, 8, 11, 7, 5, 2, 6, 1, 0, 4, 3, 10, 9, 17, 16, 15, 14, 21, 26, 25, 32, 31], [34, 30, 33, 29, 27, 24, 28, 23, 20, 22, 19, 13, 18, 12, 8, 11, 7, 5, 2, 6, 1, 0, 4, 3, 10, 9, 17, 16, 15, 14, 21, 26, 25, 32, 31], [35, 34, 30, 33, 29, 27, 24, 28, 23, 20, 22, 19, 13, 18, 12, 8, 11, 7, 5, 2, 6, 1, 0, 4, 3, 10, 9, 17, 16, 15, 14, 21, 26, 25, 32, 31], [36, 35, 34, 30, 33, 29, 27, 24, 28, 23, 20, 22, 19, 13, 18, 12, 8, 11, 7, 5, 2, 6, 1, 0, 4, 3, 10, 9, 17, 16, 15, 14, 21, 26, 25, 32, 31], [37, 35, 36, 34, 30, 33, 29, 27, 24, 28, 23, 20, 22, 19, 13, 18, 12, 8, 11, 7, 5, 2, 6, 1, 0, 4, 3, 10, 9, 17, 16, 15, 14, 21, 26, 25, 32, 31], [35, 34, 30, 33, 29, 27, 24, 28, 23, 20, 22, 19, 13, 18, 12, 8, 11, 7, 5, 2, 6, 1, 0, 4, 3, 10, 9, 17, 16, 15, 14, 21, 26, 25, 32, 31], [39, 35, 34, 30, 33, 29, 27, 24, 28, 23, 20, 22, 19, 13, 18, 12, 8, 11, 7, 5, 2, 6, 1, 0, 4, 3, 10, 9, 17, 16, 15, 14, 21, 26, 25, 32, 31], [40, 35, 39, 34, 30, 33, 29, 27, 24, 28, 23, 20, 22, 19, 13, 18, 12, 8, 11, 7, 5, 2, 6, 1, 0, 4, 3, 10, 9, 17, 16, 15, 14, 21, 26, 25, 32, 31], [38, 41, 35, 37, 36, 34, 30, 33, 29, 27, 24, 28, 23, 20, 22, 19, 13, 18, 12, 8, 11, 7, 5, 2, 6, 1, 0, 4, 3, 10, 9, 17, 16, 15, 14, 21, 26, 25, 32, 31, 40, 39], [35, 42, 34, 30, 33, 29, 27, 24, 28, 23, 20, 22, 19, 13, 18, 12, 8, 11, 7, 5, 2, 6, 1, 0, 4, 3, 10, 9, 17, 16, 15, 14, 21, 26, 25, 32, 31, 38, 41, 37, 36, 40, 39], [43, 39, 35, 42, 34, 30, 33, 29, 27, 24, 28, 23, 20, 22, 19, 13, 18, 12, 8, 11, 7, 5, 2, 6, 1, 0, 4, 3, 10, 9, 17, 16, 15, 14, 21, 26, 25, 32, 31, 38, 41, 37, 36, 40], [44, 43, 39, 35, 42, 34, 30, 33, 29, 27, 24, 28, 23, 20, 22, 19, 13, 18, 12, 8, 11, 7, 5, 2, 6, 1, 0, 4, 3, 10, 9, 17, 16, 15, 14, 21, 26, 25, 32, 31, 38, 41, 37, 36, 40], [45, 44, 43, 39, 35, 42, 34, 30, 33, 29, 27, 24, 28, 23, 20, 22, 19, 13, 18, 12, 8, 11, 7, 5, 2, 6, 1, 0, 4, 3, 10, 9, 17, 16, 15, 14, 21, 26, 25, 32, 31, 38, 41, 37, 36, 40], [44, 46, 43, 39, 35, 42, 34, 30, 33, 29, 27, 24, 28, 23, 20, 22, 19, 13, 18, 12, 8, 11, 7, 5, 2, 6, 1, 0, 4, 3, 10, 9, 17, 16, 15, 14, 21, 26, 25, 32, 31, 38, 41, 37, 36, 40, 45], [47, 44, 46, 43, 39, 35, 42, 34, 30, 33, 29, 27, 24, 28, 23, 20, 22, 19, 13, 18, 12, 8, 11, 7, 5, 2, 6, 1, 0, 4, 3, 10, 9, 17, 16, 15, 14, 21, 26, 25, 32, 31, 38, 41, 37, 36, 40, 45], [48, 47, 44, 46, 43, 39, 35, 42, 34, 30, 33, 29, 27, 24, 28, 23, 20, 22, 19, 13, 18, 12, 8, 11, 7, 5, 2, 6, 1, 0, 4, 3, 10, 9, 17, 16, 15, 14, 21, 26, 25, 32, 31, 38, 41, 37, 36, 40, 45], [48, 47, 44, 46, 43, 39, 35, 42, 34, 30, 33, 29, 27, 24, 28, 23, 20, 22, 19, 13, 18, 12, 8, 11, 7, 5, 2, 6, 1, 0, 4, 3, 10, 9, 17, 16, 15, 14, 21, 26, 25, 32, 31, 38, 41, 37, 36, 40, 45], [49, 50, 48, 47, 44, 46, 43, 39, 35, 42, 34, 30, 33, 29, 27, 24, 28, 23, 20, 22, 19, 13, 18, 12, 8, 11, 7, 5, 2, 6, 1, 0, 4, 3, 10, 9, 17, 16, 15, 14, 21, 26, 25, 32, 31, 38, 41, 37, 36, 40, 45], [48, 51, 47, 44, 46, 43, 39, 35, 42, 34, 30, 33, 29, 27, 24, 28, 23, 20, 22, 19, 13, 18, 12, 8, 11, 7, 5, 2, 6, 1, 0, 4, 3, 10, 9, 17, 16, 15, 14, 21, 26, 25, 32, 31, 38, 41, 37, 36, 40, 45, 49, 50], [52, 48, 51, 47, 44, 46, 43, 39, 35, 42, 34, 30, 33, 29, 27, 24, 28, 23, 20, 22, 19, 13, 18, 12, 8, 11, 7, 5, 2, 6, 1, 0, 4, 3, 10, 9, 17, 16, 15, 14, 21, 26, 25, 32, 31, 38, 41, 37, 36, 40, 45, 49, 50], [53, 52, 48, 51, 47, 44, 46, 43, 39, 35, 42, 34, 30, 33, 29, 27, 24, 28, 23, 20, 22, 19, 13, 18, 12, 8, 11, 7, 5, 2, 6, 1, 0, 4, 3, 10, 9, 17, 16, 15, 14, 21, 26, 25, 32, 31, 38, 41, 37, 36, 40, 45, 49, 50], [54, 53, 52, 48, 51, 47, 44, 46, 43, 39, 35, 42, 34, 30, 33, 29, 27, 24, 28, 23, 20, 22, 19, 13, 18, 12, 8, 11, 7, 5, 2, 6, 1, 0, 4, 3, 10, 9, 17, 16, 15, 14, 21, 26, 25, 32, 31, 38, 41, 37, 36, 40, 45, 49, 50], [55, 53, 54, 52, 48, 51, 47, 44, 46, 43, 39, 35, 42, 34, 30, 33, 29, 27, 24, 28, 23, 20, 22, 19, 13, 18, 12, 8, 11, 7, 5, 2, 6, 1, 0, 4, 3, 10, 9, 17, 16, 15, 14, 21, 26, 25, 32, 31, 38, 41, 37, 36, 40, 45, 49, 50], [53, 56, 52, 48, 51, 47, 44, 46, 43, 39, 35, 42, 34, 30, 33, 29, 27, 24, 28, 23, 20, 22, 19, 13, 18, 12, 8, 11, 7, 5, 2, 6, 1, 0, 4, 3, 10, 9, 17, 16, 15, 14, 21, 26, 25, 32, 31, 38, 41, 37, 36, 40, 45, 49, 50, 55, 54], [57, 53, 56, 52, 48, 51, 47, 44, 46, 43, 39, 35, 42, 34, 30, 33, 29, 27, 24, 28, 23, 20, 22, 19, 13, 18, 12, 8, 11, 7, 5, 2, 6, 1, 0, 4, 3, 10, 9, 17, 16, 15, 14, 21, 26, 25, 32, 31, 38, 41, 37, 36, 40, 45, 49, 50, 55, 54], [58, 57, 53, 56, 52, 48, 51, 47, 44, 46, 43, 39, 35, 42, 34, 30, 33, 29, 27, 24, 28, 23, 20, 22, 19, 13, 18, 12, 8, 11, 7, 5, 2, 6, 1, 0, 4, 3, 10, 9, 17, 16, 15, 14, 21, 26, 25, 32, 31, 38, 41, 37, 36, 40, 45, 49, 50, 55, 54], [59, 58, 57, 53, 56, 52, 48, 51, 47, 44, 46, 43, 39, 35, 42, 34, 30, 33, 29, 27, 24, 28, 23, 20, 22, 19, 13, 18, 12, 8, 11, 7, 5, 2, 6, 1, 0, 4, 3, 10, 9, 17, 16, 15, 14, 21, 26, 25, 32, 31, 38, 41, 37, 36, 40, 45, 49, 50, 55, 54], [58, 60, 57, 53, 56, 52, 48, 51, 47, 44, 46, 43, 39, 35, 42, 34, 30, 33, 29, 27, 24, 28, 23, 20, 22, 19, 13, 18, 12, 8, 11, 7, 5, 2, 6, 1, 0, 4, 3, 10, 9, 17, 16, 15, 14, 21, 26, 25, 32, 31, 38, 41, 37, 36, 40, 45, 49, 50, 55, 54, 59], [61, 58, 60, 57, 53, 56, 52, 48, 51, 47, 44, 46, 43, 39, 35, 42, 34, 30, 33, 29, 27, 24, 28, 23, 20, 22, 19, 13, 18, 12, 8, 11, 7, 5, 2, 6, 1, 0, 4, 3, 10, 9, 17, 16, 15, 14, 21, 26, 25, 32, 31, 38, 41, 37, 36, 40, 45, 49, 50, 55, 54, 59], [62, 61, 58, 60, 57, 53, 56, 52, 48, 51, 47, 44, 46, 43, 39, 35, 42, 34, 30, 33, 29, 27, 24, 28, 23, 20, 22, 19, 13, 18, 12, 8, 11, 7, 5, 2, 6, 1, 0, 4, 3, 10, 9, 17, 16, 15, 14, 21, 26, 25, 32, 31, 38, 41, 37, 36, 40, 45, 49, 50, 55, 54, 59], [63, 62, 61, 58, 60, 57, 53, 56, 52, 48, 51, 47, 44, 46, 43, 39, 35, 42, 34, 30, 33, 29, 27, 24, 28, 23, 20, 22, 19, 13, 18, 12, 8, 11, 7, 5, 2, 6, 1, 0, 4, 3, 10, 9, 17, 16, 15, 14, 21, 26, 25, 32, 31, 38, 41, 37, 36, 40, 45, 49, 50, 55, 54, 59], [64, 62, 63, 61, 58, 60, 57, 53, 56, 52, 48, 51, 47, 44, 46, 43, 39, 35, 42, 34, 30, 33, 29, 27, 24, 28, 23, 20, 22, 19, 13, 18, 12, 8, 11, 7, 5, 2, 6, 1, 0, 4, 3, 10, 9, 17, 16, 15, 14, 21, 26, 25, 32, 31, 38, 41, 37, 36, 40, 45, 49, 50, 55, 54, 59], [62, 65, 61, 58, 60, 57, 53, 56, 52, 48, 51, 47, 44, 46, 43, 39, 35, 42, 34, 30, 33, 29, 27, 24, 28, 23, 20, 22, 19, 13, 18, 12, 8, 11, 7, 5, 2, 6, 1, 0, 4, 3, 10, 9, 17, 16, 15, 14, 21, 26, 25, 32, 31, 38, 41, 37, 36, 40, 45, 49, 50, 55, 54, 59, 64, 63], [66, 62, 65, 61, 58, 60, 57, 53, 56, 52, 48, 51, 47, 44, 46, 43, 39, 35, 42, 34, 30, 33, 29, 27, 24, 28, 23, 20, 22, 19, 13, 18, 12, 8, 11, 7, 5, 2, 6, 1, 0, 4, 3, 10, 9, 17, 16, 15, 14, 21, 26, 25, 32, 31, 38, 41, 37, 36, 40, 45, 49, 50, 55, 54, 59, 64, 63], [67, 66, 62, 65, 61, 58, 60, 57, 53, 56, 52, 48, 51, 47, 44, 46, 43, 39, 35, 42, 34, 30, 33, 29, 27, 24, 28, 23, 20, 22, 19, 13, 18, 12, 8, 11, 7, 5, 2, 6, 1, 0, 4, 3, 10, 9, 17, 16, 15, 14, 21, 26, 25, 32, 31, 38, 41, 37, 36, 40, 45, 49, 50, 55, 54, 59, 64, 63], [68, 67, 66, 62, 65, 61, 58, 60, 57, 53, 56, 52, 48, 51, 47, 44, 46, 43, 39, 35, 42, 34, 30, 33, 29, 27, 24, 28, 23, 20, 22, 19, 13, 18, 12, 8, 11, 7, 5, 2, 6, 1, 0, 4, 3, 10, 9, 17, 16, 15, 14, 21, 26, 25, 32, 31, 38, 41, 37, 36, 40, 45, 49, 50, 55, 54, 59, 64, 63], [67, 69, 66, 62, 65, 61, 58, 60, 57, 53, 56, 52, 48, 51, 47, 44, 46, 43, 39, 35, 42, 34, 30, 33, 29, 27, 24, 28, 23, 20, 22, 19, 13, 18, 12, 8, 11, 7, 5, 2, 6, 1, 0, 4, 3, 10, 9, 17, 16, 15, 14, 21, 26, 25, 32, 31, 38, 41, 37, 36, 40, 45, 49, 50, 55, 54, 59, 64, 63, 68], [70, 67, 69, 66, 62, 65, 61, 58, 60, 57, 53, 56, 52, 48, 51, 47, 44, 46, 43, 39, 35, 42, 34, 30, 33, 29, 27, 24, 28, 23, 20, 22, 19, 13, 18, 12, 8, 11, 7, 5, 2, 6, 1, 0, 4, 3, 10, 9, 17, 16, 15, 14, 21, 26, 25, 32, 31, 38, 41, 37, 36, 40, 45, 49, 50, 55, 54, 59, 64, 63, 68], [71, 70, 67, 69, 66, 62, 65, 61, 58, 60, 57, 53, 56, 52, 48, 51, 47, 44, 46, 43, 39, 35, 42, 34, 30, 33, 29, 27, 24, 28, 23, 20, 22, 19, 13, 18, 12, 8, 11, 7, 5, 2, 6, 1, 0, 4, 3, 10, 9, 17, 16, 15, 14, 21, 26, 25, 32, 31, 38, 41, 37, 36, 40, 45, 49, 50, 55, 54, 59, 64, 63, 68], [72, 71, 70, 67, 69, 66, 62, 65, 61, 58, 60, 57, 53, 56, 52, 48, 51, 47, 44, 46, 43, 39, 35, 42, 34, 30, 33, 29, 27, 24, 28, 23, 20, 22, 19, 13, 18, 12, 8, 11, 7, 5, 2, 6, 1, 0, 4, 3, 10, 9, 17, 16, 15, 14, 21, 26, 25, 32, 31, 38, 41, 37, 36, 40, 45, 49, 50, 55, 54, 59, 64, 63, 68], [73, 71, 72, 70, 67, 69, 66, 62, 65, 61, 58, 60, 57, 53, 56, 52, 48, 51, 47, 44, 46, 43, 39, 35, 42, 34, 30, 33, 29, 27, 24, 28, 23, 20, 22, 19, 13, 18, 12, 8, 11, 7, 5, 2, 6, 1, 0, 4, 3, 10, 9, 17, 16, 15, 14, 21, 26, 25, 32, 31, 38, 41, 37, 36, 40, 45, 49, 50, 55, 54, 59, 64, 63, 68], [71, 74, 70, 67, 69, 66, 62, 65, 61, 58, 60, 57, 53, 56, 52, 48, 51, 47, 44, 46, 43, 39, 35, 42, 34, 30, 33, 29, 27, 24, 28, 23, 20, 22, 19, 13, 18, 12, 8, 11, 7, 5, 2, 6, 1, 0, 4, 3, 10, 9, 17, 16, 15, 14, 21, 26, 25, 32, 31, 38, 41, 37, 36, 40, 45, 49, 50, 55, 54, 59, 64, 63, 68, 73, 72], [75, 71, 74, 70, 67, 69, 66, 62, 65, 61, 58, 60, 57, 53, 56, 52, 48, 51, 47, 44, 46, 43, 39, 35, 42, 34, 30, 33, 29, 27, 24, 28, 23, 20, 22, 19, 13, 18, 12, 8, 11, 7, 5, 2, 6, 1, 0, 4, 3, 10, 9, 17, 16, 15, 14, 21, 26, 25, 32, 31, 38, 41, 37, 36, 40, 45, 49, 50, 55, 54, 59, 64, 63, 68, 73, 72], [76, 75, 71, 74, 70, 67, 69, 66, 62, 65, 61, 58, 60, 57, 53, 56, 52, 48, 51, 47, 44, 46, 43, 39, 35, 42, 34, 30, 33, 29, 27, 24, 28, 23, 20, 22, 19, 13, 18, 12, 8, 11, 7, 5, 2, 6, 1, 0, 4, 3, 10, 9, 17, 16, 15, 14, 21, 26, 25, 32, 31, 38, 41, 37, 36, 40, 45, 49, 50, 55, 54, 59, 64, 63, 68, 73, 72], [77, 76, 75, 71, 74, 70, 67, 69, 66, 62, 65, 61, 58, 60, 57, 53, 56, 52, 48, 51, 47, 44, 46, 43, 39, 35, 42, 34, 30, 33, 29, 27, 24, 28, 23, 20, 22, 19, 13, 18, 12, 8, 11, 7, 5, 2, 6, 1, 0, 4, 3, 10, 9, 17, 16, 15, 14, 21, 26, 25, 32, 31, 38, 41, 37, 36, 40, 45, 49, 50, 55, 54, 59, 64, 63, 68, 73, 72], [76, 78, 75, 71, 74, 70, 67, 69, 66, 62, 65, 61, 58, 60, 57, 53, 56, 52, 48, 51, 47, 44, 46, 43, 39, 35, 42, 34, 30, 33, 29, 27, 24, 28, 23, 20, 22, 19, 13, 18, 12, 8, 11, 7, 5, 2, 6, 1, 0, 4, 3, 10, 9, 17, 16, 15, 14, 21, 26, 25, 32, 31, 38, 41, 37, 36, 40, 45, 49, 50, 55, 54, 59, 64, 63, 68, 73, 72, 77], [79, 76, 78, 75, 71, 74, 70, 67, 69, 66, 62, 65, 61, 58, 60, 57, 53, 56, 52, 48, 51, 47, 44, 46, 43, 39, 35, 42, 34, 30, 33, 29, 27, 24, 28, 23, 20, 22, 19, 13, 18, 12, 8, 11, 7, 5, 2, 6, 1, 0, 4, 3, 10, 9, 17, 16, 15, 14, 21, 26, 25, 32, 31, 38, 41, 37, 36, 40, 45, 49, 50, 55, 54, 59, 64, 63, 68, 73, 72, 77], [80, 79, 76, 78, 75, 71, 74, 70, 67, 69, 66, 62, 65, 61, 58, 60, 57, 53, 56, 52, 48, 51, 47, 44, 46, 43, 39, 35, 42, 34, 30, 33, 29, 27, 24, 28, 23, 20, 22, 19, 13, 18, 12, 8, 11, 7, 5, 2, 6, 1, 0, 4, 3, 10, 9, 17, 16, 15, 14, 21, 26, 25, 32, 31, 38, 41, 37, 36, 40, 45, 49, 50, 55, 54, 59, 64, 63, 68, 73, 72, 77], [81, 80, 79, 76, 78, 75, 71, 74, 70, 67, 69, 66, 62, 65, 61, 58, 60, 57, 53, 56, 52, 48, 51, 47, 44, 46, 43, 39, 35, 42, 34, 30, 33, 29, 27, 24, 28, 23, 20, 22, 19, 13, 18, 12, 8, 11, 7, 5, 2, 6, 1, 0, 4, 3, 10, 9, 17, 16, 15, 14, 21, 26, 25, 32, 31, 38, 41, 37, 36, 40, 45, 49, 50, 55, 54, 59, 64, 63, 68, 73, 72, 77], [82, 80, 81, 79, 76, 78, 75, 71, 74, 70, 67, 69, 66, 62, 65, 61, 58, 60, 57, 53, 56, 52, 48, 51, 47, 44, 46, 43, 39, 35, 42, 34, 30, 33, 29, 27, 24, 28, 23, 20, 22, 19, 13, 18, 12, 8, 11, 7, 5, 2, 6, 1, 0, 4, 3, 10, 9, 17, 16, 15, 14, 21, 26, 25, 32, 31, 38, 41, 37, 36, 40, 45, 49, 50, 55, 54, 59, 64, 63, 68, 73, 72, 77], [80, 83, 79, 76, 78, 75, 71, 74, 70, 67, 69, 66, 62, 65, 61, 58, 60, 57, 53, 56, 52, 48, 51, 47, 44, 46, 43, 39, 35, 42, 34, 30, 33, 29, 27, 24, 28, 23, 20, 22, 19, 13, 18, 12, 8, 11, 7, 5, 2, 6, 1, 0, 4, 3, 10, 9, 17, 16, 15, 14, 21, 26, 25, 32, 31, 38, 41, 37, 36, 40, 45, 49, 50, 55, 54, 59, 64, 63, 68, 73, 72, 77, 82, 81], [84, 80, 83, 79, 76, 78, 75, 71, 74, 70, 67, 69, 66, 62, 65, 61, 58, 60, 57, 53, 56, 52, 48, 51, 47, 44, 46, 43, 39, 35, 42, 34, 30, 33, 29, 27, 24, 28, 23, 20, 22, 19, 13, 18, 12, 8, 11, 7, 5, 2, 6, 1, 0, 4, 3, 10, 9, 17, 16, 15, 14, 21, 26, 25, 32, 31, 38, 41, 37, 36, 40, 45, 49, 50, 55, 54, 59, 64, 63, 68, 73, 72, 77, 82, 81], [85, 84, 80, 83, 79, 76, 78, 75, 71, 74, 70, 67, 69, 66, 62, 65, 61, 58, 60, 57, 53, 56, 52, 48, 51, 47, 44, 46, 43, 39, 35, 42, 34, 30, 33, 29, 27, 24, 28, 23, 20, 22, 19, 13, 18, 12, 8, 11, 7, 5, 2, 6, 1, 0, 4, 3, 10, 9, 17, 16, 15, 14, 21, 26, 25, 32, 31, 38, 41, 37, 36, 40, 45, 49, 50, 55, 54, 59, 64, 63, 68, 73, 72, 77, 82, 81], [86, 85, 84, 80, 83, 79, 76, 78, 75, 71, 74, 70, 67, 69, 66, 62, 65, 61, 58, 60, 57, 53, 56, 52, 48, 51, 47, 44, 46, 43, 39, 35, 42, 34, 30, 33, 29, 27, 24, 28, 23, 20, 22, 19, 13, 18, 12, 8, 11, 7, 5, 2, 6, 1, 0, 4, 3, 10, 9, 17, 16, 15, 14, 21, 26, 25, 32, 31, 38, 41, 37, 36, 40, 45, 49, 50, 55, 54, 59, 64, 63, 68, 73, 72, 77, 82, 81], [87, 85, 86, 84, 80, 83, 79, 76, 78, 75, 71, 74, 70, 67, 69, 66, 62, 65, 61, 58, 60, 57, 53, 56, 52, 48, 51, 47, 44, 46, 43, 39, 35, 42, 34, 30, 33, 29, 27, 24, 28, 23, 20, 22, 19, 13, 18, 12, 8, 11, 7, 5, 2, 6, 1, 0, 4, 3, 10, 9, 17, 16, 15, 14, 21, 26, 25, 32, 31, 38, 41, 37, 36, 40, 45, 49, 50, 55, 54, 59, 64, 63, 68, 73, 72, 77, 82, 81], [85, 88, 84, 80, 83, 79, 76, 78, 75, 71, 74, 70, 67, 69, 66, 62, 65, 61, 58, 60, 57, 53, 56, 52, 48, 51, 47, 44, 46, 43, 39, 35, 42, 34, 30, 33, 29, 27, 24, 28, 23, 20, 22, 19, 13, 18, 12, 8, 11, 7, 5, 2, 6, 1, 0, 4, 3, 10, 9, 17, 16, 15, 14, 21, 26, 25, 32, 31, 38, 41, 37, 36, 40, 45, 49, 50, 55, 54, 59, 64, 63, 68, 73, 72, 77, 82, 81, 87, 86], [89, 85, 88, 84, 80, 83, 79, 76, 78, 75, 71, 74, 70, 67, 69, 66, 62, 65, 61, 58, 60, 57, 53, 56, 52, 48, 51, 47, 44, 46, 43, 39, 35, 42, 34, 30, 33, 29, 27, 24, 28, 23, 20, 22, 19, 13, 18, 12, 8, 11, 7, 5, 2, 6, 1, 0, 4, 3, 10, 9, 17, 16, 15, 14, 21, 26, 25, 32, 31, 38, 41, 37, 36, 40, 45, 49, 50, 55, 54, 59, 64, 63, 68, 73, 72, 77, 82, 81, 87, 86], [90, 89, 85, 88, 84, 80, 83, 79, 76, 78, 75, 71, 74, 70, 67, 69, 66, 62, 65, 61, 58, 60, 57, 53, 56, 52, 48, 51, 47, 44, 46, 43, 39, 35, 42, 34, 30, 33, 29, 27, 24, 28, 23, 20, 22, 19, 13, 18, 12, 8, 11, 7, 5, 2, 6, 1, 0, 4, 3, 10, 9, 17, 16, 15, 14, 21, 26, 25, 32, 31, 38, 41, 37, 36, 40, 45, 49, 50, 55, 54, 59, 64, 63, 68, 73, 72, 77, 82, 81, 87, 86], [91, 90, 89, 85, 88, 84, 80, 83, 79, 76, 78, 75, 71, 74, 70, 67, 69, 66, 62, 65, 61, 58, 60, 57, 53, 56, 52, 48, 51, 47, 44, 46, 43, 39, 35, 42, 34, 30, 33, 29, 27, 24, 28, 23, 20, 22, 19, 13, 18, 12, 8, 11, 7, 5, 2, 6, 1, 0, 4, 3, 10, 9, 17, 16, 15, 14, 21, 26, 25, 32, 31, 38, 41, 37, 36, 40, 45, 49, 50, 55, 54, 59, 64, 63, 68, 73, 72, 77, 82, 81, 87, 86], [92, 90, 91, 89, 85, 88, 84, 80, 83, 79, 76, 78, 75, 71, 74, 70, 67, 69, 66, 62, 65, 61, 58, 60, 57, 53, 56, 52, 48, 51, 47, 44, 46, 43, 39, 35, 42, 34, 30, 33, 29, 27, 24, 28, 23, 20, 22, 19, 13, 18, 12, 8, 11, 7, 5, 2, 6, 1, 0, 4, 3, 10, 9, 17, 16, 15, 14, 21, 26, 25, 32, 31, 38, 41, 37, 36, 40, 45, 49, 50, 55, 54, 59, 64, 63, 68, 73, 72, 77, 82, 81, 87, 86], [93, 90, 92, 91, 89, 85, 88, 84, 80, 83, 79, 76, 78, 75, 71, 74, 70, 67, 69, 66, 62, 65, 61, 58, 60, 57, 53, 56, 52, 48, 51, 47, 44, 46, 43, 39, 35, 42, 34, 30, 33, 29, 27, 24, 28, 23, 20, 22, 19, 13, 18, 12, 8, 11, 7, 5, 2, 6, 1, 0, 4, 3, 10, 9, 17, 16, 15, 14, 21, 26, 25, 32, 31, 38, 41, 37, 36, 40, 45, 49, 50, 55, 54, 59, 64, 63, 68, 73, 72, 77, 82, 81, 87, 86], [90, 89, 85, 88, 84, 80, 83, 79, 76, 78, 75, 71, 74, 70, 67, 69, 66, 62, 65, 61, 58, 60, 57, 53, 56, 52, 48, 51, 47, 44, 46, 43, 39, 35, 42, 34, 30, 33, 29, 27, 24, 28, 23, 20, 22, 19, 13, 18, 12, 8, 11, 7, 5, 2, 6, 1, 0, 4, 3, 10, 9, 17, 16, 15, 14, 21, 26, 25, 32, 31, 38, 41, 37, 36, 40, 45, 49, 50, 55, 54, 59, 64, 63, 68, 73, 72, 77, 82, 81, 87, 86], [94, 95, 90, 93, 92, 91, 89, 85, 88, 84, 80, 83, 79, 76, 78, 75, 71, 74, 70, 67, 69, 66, 62, 65, 61, 58, 60, 57, 53, 56, 52, 48, 51, 47, 44, 46, 43, 39, 35, 42, 34, 30, 33, 29, 27, 24, 28, 23, 20, 22, 19, 13, 18, 12, 8, 11, 7, 5, 2, 6, 1, 0, 4, 3, 10, 9, 17, 16, 15, 14, 21, 26, 25, 32, 31, 38, 41, 37, 36, 40, 45, 49, 50, 55, 54, 59, 64, 63, 68, 73, 72, 77, 82, 81, 87, 86], [90, 96, 89, 85, 88, 84, 80, 83, 79, 76, 78, 75, 71, 74, 70, 67, 69, 66, 62, 65, 61, 58, 60, 57, 53, 56, 52, 48, 51, 47, 44, 46, 43, 39, 35, 42, 34, 30, 33, 29, 27, 24, 28, 23, 20, 22, 19, 13, 18, 12, 8, 11, 7, 5, 2, 6, 1, 0, 4, 3, 10, 9, 17, 16, 15, 14, 21, 26, 25, 32, 31, 38, 41, 37, 36, 40, 45, 49, 50, 55, 54, 59, 64, 63, 68, 73, 72, 77, 82, 81, 87, 86, 94, 95, 93, 92, 91], [97, 95, 0, 1, 2, 3, 4, 5, 6, 7, 8, 9, 10, 11, 12, 13, 14, 15, 16, 17, 18, 19, 20, 21, 22, 23, 24, 25, 26, 27, 28, 29, 30, 31, 32, 33, 34, 35, 36, 37, 38, 39, 40, 41, 42, 43, 44, 45, 46, 47, 48, 49, 50, 51, 52, 53, 54, 55, 56, 57, 58, 59, 60, 61, 62, 63, 64, 65, 66, 67, 68, 69, 70, 71, 72, 73, 74, 75, 76, 77, 78, 79, 80, 81, 82, 83, 84, 85, 86, 87, 88, 89, 90, 91, 92, 93, 94, 96]]))
  (.ret))))))))⟩
theorem F10_ok : cFunc Tryd.prog 10 = some F10 := by kernel_rfl
theorem F10_call : callable Tryd.prog 10 = true := by kernel_rfl
/-- seat.CheckVote -/
def F11r0 : List AOper := [⟨some 1, .box 6 (.s 0), none⟩,
  ⟨some 2, .mov (.c (.v (.int .i64 0))), none⟩]
def F11r1 : List AOper := [⟨some 5, .fad 0 (.s 1), none⟩,
  ⟨some 6, .load none (.s 5), none⟩,
  ⟨some 7, .call (.c (.fn 29 [])) [.s 6, .c (.v (.int .i64 1)), .c (.v (.int .i64 4))], none⟩,
  ⟨some 8, .un .not (.s 7), none⟩,
  ⟨some 4, .mov (.s 8), none⟩]
def F11r2 : List AOper := [⟨some 2, .mov (.c (.v (.int .i64 7))), none⟩]
def F11r3 : List AOper := [⟨some 10, .fad 1 (.s 1), none⟩,
  ⟨some 11, .load none (.s 10), none⟩,
  ⟨some 12, .call (.c (.fn 30 [])) [.s 11], none⟩,
  ⟨some 13, .un .not (.s 12), none⟩,
  ⟨some 9, .mov (.s 13), none⟩]
def F11r4 : List AOper := [⟨some 14, .fad 2 (.s 1), none⟩,
  ⟨some 15, .load none (.s 14), none⟩,
  ⟨some 16, .call (.c (.fn 29 [])) [.s 15, .c (.v (.int .i64 0)), .c (.v (.int .i64 11))], none⟩,
  ⟨some 17, .un .not (.s 16), none⟩,
  ⟨some 9, .mov (.s 17), none⟩]
def F11r5 : List AOper := [⟨some 2, .mov (.c (.v (.int .i64 3))), none⟩]
def F11r6 : List AOper := [⟨some 18, .fad 3 (.s 1), none⟩,
  ⟨some 19, .load (some 3) (.s 18), none⟩,
  ⟨some 20, .call (.c (.fn 31 [])) [.s 19], none⟩,
  ⟨some 3, .mov (.s 20), none⟩]
def F11r7 : List AOper := [⟨some 21, .mov (.s 3), none⟩,
  ⟨some 22, .bin false .eql (.s 21) (.c (.v (.int .i64 0))), none⟩,
  ⟨some 23, .mov (.s 22), none⟩,
  ⟨some 24, .fad 3 (.s 1), some (23, true)⟩,
  ⟨some 25, .fad 2 (.s 24), some (23, true)⟩,
  ⟨some 26, .load none (.s 25), some (23, true)⟩,
  ⟨some 27, .bin false .neq (.s 26) (.c (.v (.string ⟨#[]⟩))), some (23, true)⟩,
  ⟨some 28, .pick (.s 23) (.s 27) (.c (.v (.bool false))), none⟩,
  ⟨some 29, .mov (.s 28), none⟩,
  ⟨some 30, .fad 0 (.s 1), some (29, true)⟩,
  ⟨some 31, .load none (.s 30), some (29, true)⟩,
  ⟨some 32, .bin false .eql (.s 31) (.c (.v (.int .i64 1))), some (29, true)⟩,
  ⟨some 33, .mov (.s 32), some (29, true)⟩,
  ⟨some 34, .fad 0 (.s 1), some (33, false)⟩,
  ⟨some 35, .load none (.s 34), some (33, false)⟩,
  ⟨some 36, .bin false .eql (.s 35) (.c (.v (.int .i64 4))), some (33, false)⟩,
  ⟨some 37, .pick (.s 33) (.c (.v (.bool true))) (.s 36), some (29, true)⟩,
  ⟨some 38, .pick (.s 29) (.s 37) (.c (.v (.bool false))), none⟩]
def F11r8 : List AOper := [⟨some 3, .mov (.c (.v (.int .i64 1))), none⟩]
def F11r9 : List AOper := [⟨some 39, .mov (.s 3), none⟩,
  ⟨some 2, .mov (.s 39), none⟩]
def F11 : AFn := ⟨40, [.tmp 2],
  .seq (.reg F11r0 none)
  (.seq (.block 0 (
    .seq (.reg F11r1 none)
    (.cond (.s 4)
      (.seq (.reg F11r2 none)
      (.ret))
      (.seq (.seq (.reg F11r3 none)
      (.cond (.s 9)
        (.skip)
        (.reg F11r4 none)))
      (.cond (.s 9)
        (.seq (.reg F11r5 none)
        (.ret))
        (.skip))))))
  (.seq (.reg F11r6 none)
  (.seq (.seq (.reg F11r7 none)
  (.cond (.s 38)
    (.reg F11r8 none)
    (.skip)))
  (.seq (.reg F11r9 none)
  (.ret)))))⟩
theorem F11_ok : cFunc Tryd.prog 11 = some F11 := by kernel_rfl
theorem F11_call : callable Tryd.prog 11 = true := by kernel_rfl
/-- seat.CheckSeat -/
def F13r0 : List AOper := [⟨some 1, .box 5 (.s 0), none⟩,
  ⟨some 2, .mov (.c (.v (.int .i64 0))), none⟩]
def F13r1 : List AOper := [⟨some 4, .fad 0 (.s 1), none⟩,
  ⟨some 5, .load (some 2) (.s 4), none⟩,
  ⟨some 6, .call (.c (.fn 33 [])) [.s 5], none⟩,
  ⟨some 3, .mov (.s 6), none⟩]
def F13r2 : List AOper := [⟨some 7, .mov (.s 3), none⟩,
  ⟨some 8, .bin false .eql (.s 7) (.c (.v (.int .i64 0))), none⟩]
def F13r3 : List AOper := [⟨some 9, .fad 2 (.s 1), none⟩,
  ⟨some 10, .load (some 3) (.s 9), none⟩,
  ⟨some 11, .call (.c (.fn 31 [])) [.s 10], none⟩,
  ⟨some 3, .mov (.s 11), none⟩]
def F13r4 : List AOper := [⟨some 12, .mov (.s 3), none⟩,
  ⟨some 13, .bin false .eql (.s 12) (.c (.v (.int .i64 0))), none⟩,
  ⟨some 14, .mov (.s 13), none⟩,
  ⟨some 15, .fad 0 (.s 1), some (14, true)⟩,
  ⟨some 16, .load (some 2) (.s 15), some (14, true)⟩,
  ⟨some 17, .fad 2 (.s 1), some (14, true)⟩,
  ⟨some 18, .fad 0 (.s 17), some (14, true)⟩,
  ⟨some 19, .load (some 2) (.s 18), some (14, true)⟩,
  ⟨some 20, .call (.c (.fn 22 [])) [.s 16, .s 19], some (14, true)⟩,
  ⟨some 21, .pick (.s 14) (.s 20) (.c (.v (.bool false))), none⟩]
def F13r5 : List AOper := [⟨some 3, .mov (.c (.v (.int .i64 4))), none⟩]
def F13r6 : List AOper := [⟨some 22, .mov (.s 3), none⟩,
  ⟨some 2, .mov (.s 22), none⟩]
def F13 : AFn := ⟨23, [.tmp 2],
  .seq (.reg F13r0 none)
  (.seq (.reg F13r1 none)
  (.seq (.seq (.reg F13r2 none)
  (.cond (.s 8)
    (.reg F13r3 none)
    (.skip)))
  (.seq (.seq (.reg F13r4 none)
  (.cond (.s 21)
    (.reg F13r5 none)
    (.skip)))
  (.seq (.reg F13r6 none)
  (.ret)))))⟩
theorem F13_ok : cFunc Tryd.prog 13 = some F13 := by kernel_rfl
theorem F13_call : callable Tryd.prog 13 = true := by kernel_rfl
/-- seat.Hear -/
def F16r0 : List AOper := [⟨some 4, .box 2 (.s 0), none⟩,
  ⟨some 6, .box 8 (.s 2), none⟩,
  ⟨some 7, .box 6 (.s 3), none⟩,
  ⟨some 8, .new [.v (.int .i64 0), .v (.int .i64 0), .v (.string ⟨#[]⟩), .v (.string ⟨#[]⟩), .v (.int .i64 0), .v (.int .i64 0), .v (.string ⟨#[]⟩), .v (.int .u64 0)], none⟩,
  ⟨some 9, .mov (.c .emp), none⟩,
  ⟨some 10, .mov (.c (.v (.int .i64 0))), none⟩]
def F16r1 : List AOper := [⟨some 11, .mov (.c (.v (.int .i64 3))), none⟩]
def F16r2 : List AOper := [⟨some 17, .mov (.s 1), none⟩,
  ⟨some 18, .call (.c (.fn 30 [])) [.s 17], none⟩]
def F16r3 : List AOper := [⟨some 19, .load (some 2) (.s 4), none⟩,
  ⟨some 20, .load (some 8) (.s 6), none⟩,
  ⟨some 21, .call (.c (.fn 20 [])) [.s 19, .s 20], none⟩,
  ⟨some 11, .mov (.s 21), none⟩]
def F16r4 : List AOper := [⟨some 22, .mov (.s 11), none⟩,
  ⟨some 23, .bin false .eql (.s 22) (.c (.v (.int .i64 0))), none⟩]
def F16r5 : List AOper := [⟨some 24, .load (some 6) (.s 7), none⟩,
  ⟨some 25, .call (.c (.fn 11 [])) [.s 24], none⟩,
  ⟨some 11, .mov (.s 25), none⟩]
def F16r6 : List AOper := [⟨some 26, .mov (.s 11), none⟩,
  ⟨some 27, .bin false .neq (.s 26) (.c (.v (.int .i64 0))), none⟩]
def F16r7 : List AOper := [⟨some 28, .agg [.v (.int .i64 0), .v (.int .i64 0), .v (.string ⟨#[]⟩), .v (.string ⟨#[]⟩), .v (.int .i64 0), .v (.int .i64 0), .v (.string ⟨#[]⟩), .v (.int .u64 0)] [], none⟩,
  ⟨some 29, .mov (.s 11), none⟩,
  ⟨none, .store 8 (.s 8) (.s 28), none⟩,
  ⟨some 9, .mov (.c .emp), none⟩,
  ⟨some 10, .mov (.s 29), none⟩]
def F16r8 : List AOper := [⟨some 30, .mov (.s 1), none⟩,
  ⟨some 31, .agg [.v (.pointer none), .v (.int .i64 0)] [(0, (1, .s 6)), (1, (1, .s 30))], none⟩,
  ⟨some 12, .new [.v (.pointer none), .v (.int .i64 0)], none⟩,
  ⟨none, .store 2 (.s 12) (.s 31), none⟩]
def F16r9 : List AOper := [⟨some 32, .fad 2 (.s 7), none⟩,
  ⟨some 33, .load none (.s 32), none⟩,
  ⟨some 34, .bin false .shl (.c (.v (.int .u64 1))) (.s 33), none⟩,
  ⟨some 13, .mov (.s 34), none⟩]
def F16r10 : List AOper := [⟨some 35, .fad 1 (.s 7), none⟩,
  ⟨some 36, .load none (.s 35), none⟩,
  ⟨some 37, .mov (.s 1), none⟩,
  ⟨some 38, .bin false .neq (.s 36) (.s 37), none⟩,
  ⟨some 39, .mov (.s 38), none⟩,
  ⟨some 40, .load (some 2) (.s 12), some (39, false)⟩,
  ⟨some 41, .load (some 6) (.s 7), some (39, false)⟩,
  ⟨some 42, .call (.c (.fn 35 [])) [.s 40, .s 41], some (39, false)⟩,
  ⟨some 43, .un .not (.s 42), some (39, false)⟩,
  ⟨some 44, .pick (.s 39) (.c (.v (.bool true))) (.s 43), none⟩,
  ⟨some 45, .mov (.s 44), none⟩,
  ⟨some 46, .fad 2 (.s 7), some (45, false)⟩,
  ⟨some 47, .load none (.s 46), some (45, false)⟩,
  ⟨some 48, .fad 0 (.s 4), some (45, false)⟩,
  ⟨some 49, .load none (.s 48), some (45, false)⟩,
  ⟨some 50, .len false (.s 49), some (45, false)⟩,
  ⟨some 51, .bin false .geq (.s 47) (.s 50), some (45, false)⟩,
  ⟨some 52, .pick (.s 45) (.c (.v (.bool true))) (.s 51), none⟩,
  ⟨some 53, .mov (.s 52), none⟩,
  ⟨some 54, .fad 7 (.s 6), some (53, false)⟩,
  ⟨some 55, .load none (.s 54), some (53, false)⟩,
  ⟨some 56, .mov (.s 13), some (53, false)⟩,
  ⟨some 57, .bin false .and (.s 55) (.s 56), some (53, false)⟩,
  ⟨some 58, .bin false .neq (.s 57) (.c (.v (.int .u64 0))), some (53, false)⟩,
  ⟨some 59, .pick (.s 53) (.c (.v (.bool true))) (.s 58), none⟩]
def F16r11 : List AOper := [⟨some 60, .load (some 8) (.s 6), none⟩,
  ⟨none, .store 8 (.s 8) (.s 60), none⟩,
  ⟨some 9, .mov (.c .emp), none⟩,
  ⟨some 10, .mov (.c (.v (.int .i64 0))), none⟩]
def F16r12 : List AOper := [⟨some 61, .fad 7 (.s 6), none⟩,
  ⟨some 62, .load none (.s 61), none⟩,
  ⟨some 63, .mov (.s 13), none⟩,
  ⟨some 64, .bin false .or (.s 62) (.s 63), none⟩,
  ⟨some 65, .fad 7 (.s 6), none⟩,
  ⟨none, .store 1 (.s 65) (.s 64), none⟩]
def F16r13 : List AOper := [⟨some 66, .fad 1 (.s 6), none⟩,
  ⟨some 67, .load none (.s 66), none⟩,
  ⟨some 68, .bin false .eql (.s 67) (.c (.v (.int .i64 1))), none⟩]
def F16r14 : List AOper := [⟨some 69, .fad 4 (.s 6), none⟩,
  ⟨some 70, .load (some 3) (.s 69), none⟩,
  ⟨some 71, .fad 3 (.s 7), none⟩,
  ⟨some 72, .load (some 3) (.s 71), none⟩,
  ⟨some 73, .call (.c (.fn 36 [])) [.s 70, .s 72], none⟩,
  ⟨some 74, .fad 4 (.s 6), none⟩,
  ⟨none, .store 3 (.s 74) (.s 73), none⟩]
def F16r15 : List AOper := [⟨some 14, .mov (.c .emp), none⟩]
def F16r16 : List AOper := [⟨some 76, .fad 0 (.s 4), none⟩,
  ⟨some 77, .load none (.s 76), none⟩,
  ⟨some 78, .fad 1 (.s 4), none⟩,
  ⟨some 79, .load none (.s 78), none⟩,
  ⟨some 80, .fad 7 (.s 6), none⟩,
  ⟨some 81, .load none (.s 80), none⟩,
  ⟨some 82, .call (.c (.fn 23 [])) [.s 77, .s 79, .s 81], none⟩,
  ⟨some 75, .mov (.s 82), none⟩,
  ⟨some 83, .ext 0 (.s 75), none⟩,
  ⟨some 84, .ext 1 (.s 75), none⟩,
  ⟨some 15, .mov (.s 83), none⟩,
  ⟨some 16, .mov (.s 84), none⟩]
def F16r17 : List AOper := [⟨some 85, .mov (.s 15), none⟩]
def F16r18 : List AOper := [⟨some 86, .load (some 2) (.s 12), none⟩,
  ⟨some 87, .load (some 2) (.s 4), none⟩,
  ⟨some 88, .call (.c (.fn 37 [])) [.s 86, .s 87], none⟩,
  ⟨some 14, .mov (.s 88), none⟩]
def F16r19 : List AOper := [⟨some 89, .load (some 8) (.s 6), none⟩,
  ⟨some 90, .mov (.s 14), none⟩,
  ⟨none, .store 8 (.s 8) (.s 89), none⟩,
  ⟨some 9, .mov (.s 90), none⟩,
  ⟨some 10, .mov (.c (.v (.int .i64 0))), none⟩]
def F16 : AFn := ⟨91, [.cell 8 (some 8), .tmp 9, .tmp 10],
  .seq (.reg F16r0 none)
  (.seq (.reg F16r1 none)
  (.seq (.seq (.reg F16r2 none)
  (.cond (.s 18)
    (.reg F16r3 none)
    (.skip)))
  (.seq (.seq (.reg F16r4 none)
  (.cond (.s 23)
    (.reg F16r5 none)
    (.skip)))
  (.seq (.seq (.reg F16r6 none)
  (.cond (.s 27)
    (.seq (.reg F16r7 none)
    (.ret))
    (.skip)))
  (.seq (.reg F16r8 none)
  (.seq (.reg F16r9 none)
  (.seq (.seq (.reg F16r10 none)
  (.cond (.s 59)
    (.seq (.reg F16r11 none)
    (.ret))
    (.skip)))
  (.seq (.reg F16r12 none)
  (.seq (.seq (.reg F16r13 none)
  (.cond (.s 68)
    (.reg F16r14 none)
    (.skip)))
  (.seq (.reg F16r15 none)
  (.seq (.seq (.reg F16r16 none)
  (.seq (.reg F16r17 none)
  (.cond (.s 85)
    (.reg F16r18 none)
    (.skip))))
  (.seq (.reg F16r19 none)
  (.ret)))))))))))))⟩
theorem F16_ok : cFunc Tryd.prog 16 = some F16 := by kernel_rfl
theorem F16_call : callable Tryd.prog 16 = true := by kernel_rfl
/-- seat.Begin -/
def F17r0 : List AOper := [⟨some 4, .box 2 (.s 0), none⟩,
  ⟨some 8, .new [.v (.int .i64 0), .v (.int .i64 0), .v (.string ⟨#[]⟩), .v (.string ⟨#[]⟩), .v (.int .i64 0), .v (.int .i64 0), .v (.string ⟨#[]⟩), .v (.int .u64 0)], none⟩,
  ⟨some 9, .mov (.c .emp), none⟩,
  ⟨some 10, .mov (.c (.v (.int .i64 0))), none⟩]
def F17r1 : List AOper := [⟨some 13, .mov (.s 2), none⟩,
  ⟨some 14, .mov (.s 3), none⟩,
  ⟨some 15, .agg [.v (.int .i64 0), .v (.int .i64 0), .v (.string ⟨#[]⟩), .v (.string ⟨#[]⟩), .v (.int .i64 0), .v (.int .i64 0), .v (.string ⟨#[]⟩), .v (.int .u64 0)] [(0, (1, .s 13)), (2, (1, .s 14)), (1, (1, .c (.v (.int .i64 1))))], none⟩,
  ⟨some 11, .new [.v (.int .i64 0), .v (.int .i64 0), .v (.string ⟨#[]⟩), .v (.string ⟨#[]⟩), .v (.int .i64 0), .v (.int .i64 0), .v (.string ⟨#[]⟩), .v (.int .u64 0)], none⟩,
  ⟨none, .store 8 (.s 11) (.s 15), none⟩]
def F17r2 : List AOper := [⟨some 16, .load (some 2) (.s 4), none⟩,
  ⟨some 17, .load (some 8) (.s 11), none⟩,
  ⟨some 18, .call (.c (.fn 20 [])) [.s 16, .s 17], none⟩,
  ⟨some 12, .mov (.s 18), none⟩]
def F17r3 : List AOper := [⟨some 19, .mov (.s 1), none⟩,
  ⟨some 20, .call (.c (.fn 30 [])) [.s 19], none⟩,
  ⟨some 21, .un .not (.s 20), none⟩]
def F17r4 : List AOper := [⟨some 12, .mov (.c (.v (.int .i64 3))), none⟩]
def F17r5 : List AOper := [⟨some 22, .mov (.s 12), none⟩,
  ⟨some 23, .bin false .neq (.s 22) (.c (.v (.int .i64 0))), none⟩]
def F17r6 : List AOper := [⟨some 24, .agg [.v (.int .i64 0), .v (.int .i64 0), .v (.string ⟨#[]⟩), .v (.string ⟨#[]⟩), .v (.int .i64 0), .v (.int .i64 0), .v (.string ⟨#[]⟩), .v (.int .u64 0)] [], none⟩,
  ⟨some 25, .mov (.s 12), none⟩,
  ⟨none, .store 8 (.s 8) (.s 24), none⟩,
  ⟨some 9, .mov (.c .emp), none⟩,
  ⟨some 10, .mov (.s 25), none⟩]
def F17r7 : List AOper := [⟨some 26, .load (some 8) (.s 11), none⟩,
  ⟨some 27, .load (some 2) (.s 4), none⟩,
  ⟨some 28, .mov (.s 1), none⟩,
  ⟨some 29, .mov (.s 1), none⟩,
  ⟨some 30, .agg [.v (.pointer none), .v (.int .i64 0)] [(0, (1, .s 11)), (1, (1, .s 29))], none⟩,
  ⟨some 31, .call (.c (.fn 39 [])) [.s 30], none⟩,
  ⟨some 32, .agg [.v (.int .i64 0), .v (.int .i64 0), .v (.string ⟨#[]⟩)] [(0, (2, .s 31))], none⟩,
  ⟨some 33, .agg [.v (.int .i64 0), .v (.int .i64 0), .v (.int .i64 0), .v (.int .i64 0), .v (.int .i64 0), .v (.string ⟨#[]⟩)] [(0, (1, .c (.v (.int .i64 1)))), (1, (1, .s 28)), (3, (3, .s 32))], none⟩,
  ⟨some 34, .call (.c (.fn 38 [])) [.s 27, .s 33], none⟩,
  ⟨none, .store 8 (.s 8) (.s 26), none⟩,
  ⟨some 9, .mov (.s 34), none⟩,
  ⟨some 10, .mov (.c (.v (.int .i64 0))), none⟩]
def F17 : AFn := ⟨35, [.cell 8 (some 8), .tmp 9, .tmp 10],
  .seq (.reg F17r0 none)
  (.seq (.reg F17r1 none)
  (.seq (.reg F17r2 none)
  (.seq (.seq (.reg F17r3 none)
  (.cond (.s 21)
    (.reg F17r4 none)
    (.skip)))
  (.seq (.seq (.reg F17r5 none)
  (.cond (.s 23)
    (.seq (.reg F17r6 none)
    (.ret))
    (.skip)))
  (.seq (.reg F17r7 (some [[], [], [], [], [3], [4, 3], [5, 4, 3], [2, 6, 5, 4, 3], [1, 7, 5, 2, 6, 4, 3], [0, 8, 1, 7, 5, 2, 6, 4, 3], [8, 9, 0, 1, 2, 3, 4, 5, 6, 7], [10, 0, 1, 2, 3, 4, 5, 6, 7, 8, 9]]))
  (.ret))))))⟩
theorem F17_ok : cFunc Tryd.prog 17 = some F17 := by kernel_rfl
theorem F17_call : callable Tryd.prog 17 = true := by kernel_rfl
/-- seat.CheckBid -/
def F20r0 : List AOper := [⟨some 2, .box 2 (.s 0), none⟩,
  ⟨some 3, .box 8 (.s 1), none⟩,
  ⟨some 4, .mov (.c (.v (.int .i64 0))), none⟩]
def F20r1 : List AOper := [⟨some 7, .fad 0 (.s 2), none⟩,
  ⟨some 8, .load none (.s 7), none⟩,
  ⟨some 9, .fad 1 (.s 2), none⟩,
  ⟨some 10, .load none (.s 9), none⟩,
  ⟨some 11, .call (.c (.fn 44 [])) [.s 8, .s 10], none⟩,
  ⟨some 5, .mov (.s 11), none⟩]
def F20r2 : List AOper := [⟨some 12, .mov (.s 5), none⟩,
  ⟨some 13, .bin false .neq (.s 12) (.c (.v (.int .i64 0))), none⟩]
def F20r3 : List AOper := [⟨some 14, .mov (.s 5), none⟩,
  ⟨some 4, .mov (.s 14), none⟩]
def F20r4 : List AOper := [⟨some 16, .fad 0 (.s 3), none⟩,
  ⟨some 17, .load none (.s 16), none⟩,
  ⟨some 18, .call (.c (.fn 29 [])) [.s 17, .c (.v (.int .i64 1)), .c (.v (.int .i64 1000000))], none⟩,
  ⟨some 19, .un .not (.s 18), none⟩,
  ⟨some 15, .mov (.s 19), none⟩]
def F20r5 : List AOper := [⟨some 4, .mov (.c (.v (.int .i64 3))), none⟩]
def F20r6 : List AOper := [⟨some 21, .fad 1 (.s 3), none⟩,
  ⟨some 22, .load none (.s 21), none⟩,
  ⟨some 23, .call (.c (.fn 29 [])) [.s 22, .c (.v (.int .i64 1)), .c (.v (.int .i64 3))], none⟩,
  ⟨some 24, .un .not (.s 23), none⟩,
  ⟨some 20, .mov (.s 24), none⟩]
def F20r7 : List AOper := [⟨some 4, .mov (.c (.v (.int .i64 7))), none⟩]
def F20r8 : List AOper := [⟨some 26, .fad 2 (.s 3), none⟩,
  ⟨some 27, .load none (.s 26), none⟩,
  ⟨some 28, .len true (.s 27), none⟩,
  ⟨some 29, .bin false .gtr (.s 28) (.c (.v (.int .i64 64))), none⟩,
  ⟨some 25, .mov (.s 29), none⟩]
def F20r9 : List AOper := [⟨some 30, .fad 3 (.s 3), none⟩,
  ⟨some 31, .load none (.s 30), none⟩,
  ⟨some 32, .len true (.s 31), none⟩,
  ⟨some 33, .bin false .gtr (.s 32) (.c (.v (.int .i64 64))), none⟩,
  ⟨some 25, .mov (.s 33), none⟩]
def F20r10 : List AOper := [⟨some 4, .mov (.c (.v (.int .i64 2))), none⟩]
def F20r11 : List AOper := [⟨some 34, .fad 4 (.s 3), none⟩,
  ⟨some 35, .load (some 3) (.s 34), none⟩,
  ⟨some 36, .call (.c (.fn 31 [])) [.s 35], none⟩,
  ⟨some 6, .mov (.s 36), none⟩]
def F20r12 : List AOper := [⟨some 37, .mov (.s 6), none⟩,
  ⟨some 38, .bin false .eql (.s 37) (.c (.v (.int .i64 0))), none⟩,
  ⟨some 39, .mov (.s 38), none⟩,
  ⟨some 40, .fad 7 (.s 3), some (39, true)⟩,
  ⟨some 41, .load none (.s 40), some (39, true)⟩,
  ⟨some 42, .call (.c (.fn 45 [])) [.s 41], some (39, true)⟩,
  ⟨some 43, .fad 0 (.s 2), some (39, true)⟩,
  ⟨some 44, .load none (.s 43), some (39, true)⟩,
  ⟨some 45, .len false (.s 44), some (39, true)⟩,
  ⟨some 46, .bin false .gtr (.s 42) (.s 45), some (39, true)⟩,
  ⟨some 47, .pick (.s 39) (.s 46) (.c (.v (.bool false))), none⟩]
def F20r13 : List AOper := [⟨some 6, .mov (.c (.v (.int .i64 3))), none⟩]
def F20r14 : List AOper := [⟨some 48, .mov (.s 6), none⟩,
  ⟨some 4, .mov (.s 48), none⟩]
def F20 : AFn := ⟨49, [.tmp 4],
  .seq (.reg F20r0 none)
  (.seq (.seq (.reg F20r1 none)
  (.seq (.reg F20r2 none)
  (.cond (.s 13)
    (.seq (.reg F20r3 none)
    (.ret))
    (.skip))))
  (.seq (.block 0 (
    .seq (.reg F20r4 none)
    (.cond (.s 15)
      (.seq (.reg F20r5 none)
      (.ret))
      (.seq (.reg F20r6 none)
      (.cond (.s 20)
        (.seq (.reg F20r7 none)
        (.ret))
        (.seq (.seq (.reg F20r8 none)
        (.cond (.s 25)
          (.skip)
          (.reg F20r9 none)))
        (.cond (.s 25)
          (.seq (.reg F20r10 none)
          (.ret))
          (.skip))))))))
  (.seq (.reg F20r11 none)
  (.seq (.seq (.reg F20r12 (some [[], [0], [1, 0], [2, 1, 0], [3, 2, 1, 0], [4, 2, 3, 1, 0], [2, 1, 0], [6, 2, 1, 0], [7, 2, 6, 1, 0], [5, 8, 2, 4, 3, 1, 0, 7, 6], [2, 9, 1, 0, 5, 8, 4, 3, 7, 6]]))
  (.cond (.s 47)
    (.reg F20r13 none)
    (.skip)))
  (.seq (.reg F20r14 none)
  (.ret))))))⟩
theorem F20_ok : cFunc Tryd.prog 20 = some F20 := by kernel_rfl
theorem F20_call : callable Tryd.prog 20 = true := by kernel_rfl
/-- stamp.Less -/
def F22r0 : List AOper := [⟨some 2, .box 2 (.s 0), none⟩,
  ⟨some 3, .box 2 (.s 1), none⟩,
  ⟨some 4, .mov (.c (.v (.bool false))), none⟩]
def F22r1 : List AOper := [⟨some 5, .load (some 2) (.s 2), none⟩,
  ⟨some 6, .load (some 2) (.s 3), none⟩,
  ⟨some 7, .call (.c (.fn 47 [])) [.s 5, .s 6], none⟩,
  ⟨some 8, .bin false .lss (.s 7) (.c (.v (.int .i64 0))), none⟩,
  ⟨some 4, .mov (.s 8), none⟩]
def F22 : AFn := ⟨9, [.tmp 4],
  .seq (.reg F22r0 none)
  (.seq (.reg F22r1 none)
  (.ret))⟩
theorem F22_ok : cFunc Tryd.prog 22 = some F22 := by kernel_rfl
theorem F22_call : callable Tryd.prog 22 = true := by kernel_rfl
/-- quorum.Enough -/
def F23r0 : List AOper := [⟨some 6, .mov (.c (.v (.bool false))), none⟩,
  ⟨some 7, .mov (.c (.v (.int .i64 0))), none⟩]
def F23r1 : List AOper := [⟨some 11, .mov (.s 0), none⟩,
  ⟨some 12, .mov (.s 1), none⟩,
  ⟨some 13, .call (.c (.fn 44 [])) [.s 11, .s 12], none⟩,
  ⟨some 8, .mov (.s 13), none⟩]
def F23r2 : List AOper := [⟨some 14, .mov (.s 8), none⟩,
  ⟨some 15, .bin false .neq (.s 14) (.c (.v (.int .i64 0))), none⟩]
def F23r3 : List AOper := [⟨some 16, .mov (.s 8), none⟩,
  ⟨some 6, .mov (.c (.v (.bool false))), none⟩,
  ⟨some 7, .mov (.s 16), none⟩]
def F23r4 : List AOper := [⟨some 18, .mov (.s 0), none⟩,
  ⟨some 19, .mov (.s 2), none⟩,
  ⟨some 20, .call (.c (.fn 48 [])) [.s 18, .s 19], none⟩,
  ⟨some 17, .mov (.s 20), none⟩,
  ⟨some 21, .ext 0 (.s 17), none⟩,
  ⟨some 22, .ext 1 (.s 17), none⟩,
  ⟨some 9, .mov (.s 21), none⟩,
  ⟨some 10, .mov (.s 22), none⟩]
def F23r5 : List AOper := [⟨some 23, .mov (.s 10), none⟩,
  ⟨some 24, .bin false .eql (.s 23) (.c (.v (.int .i64 0))), none⟩,
  ⟨some 25, .mov (.s 24), none⟩,
  ⟨some 26, .mov (.s 9), some (25, true)⟩,
  ⟨some 27, .mov (.s 1), some (25, true)⟩,
  ⟨some 28, .bin false .geq (.s 26) (.s 27), some (25, true)⟩,
  ⟨some 29, .pick (.s 25) (.s 28) (.c (.v (.bool false))), none⟩,
  ⟨some 30, .mov (.s 10), none⟩,
  ⟨some 6, .mov (.s 29), none⟩,
  ⟨some 7, .mov (.s 30), none⟩]
def F23 : AFn := ⟨31, [.tmp 6, .tmp 7],
  .seq (.reg F23r0 none)
  (.seq (.seq (.reg F23r1 none)
  (.seq (.reg F23r2 none)
  (.cond (.s 15)
    (.seq (.reg F23r3 none)
    (.ret))
    (.skip))))
  (.seq (.reg F23r4 none)
  (.seq (.reg F23r5 none)
  (.ret))))⟩
theorem F23_ok : cFunc Tryd.prog 23 = some F23 := by kernel_rfl
theorem F23_call : callable Tryd.prog 23 = true := by kernel_rfl
/-- supercargolaw.at -/
def F24r0 : List AOper := [⟨some 4, .new [.v (.int .i64 0), .v (.int .i64 0)], none⟩]
def F24r1 : List AOper := [⟨some 5, .mov (.s 0), none⟩,
  ⟨some 6, .mov (.s 1), none⟩,
  ⟨some 7, .agg [.v (.int .i64 0), .v (.int .i64 0)] [(0, (1, .s 5)), (1, (1, .s 6))], none⟩,
  ⟨none, .store 2 (.s 4) (.s 7), none⟩]
def F24 : AFn := ⟨8, [.cell 4 (some 2)],
  .seq (.reg F24r0 none)
  (.seq (.reg F24r1 none)
  (.ret))⟩
theorem F24_ok : cFunc Tryd.prog 24 = some F24 := by kernel_rfl
theorem F24_call : callable Tryd.prog 24 = true := by kernel_rfl
/-- supercargolaw.prepare -/
def F26r0 : List AOper := [⟨some 6, .new [.v (.int .i64 0), .v (.int .i64 0), .v (.int .i64 0), .v (.int .i64 0), .v (.int .i64 0), .v (.string ⟨#[]⟩)], none⟩]
def F26r1 : List AOper := [⟨some 7, .mov (.s 0), none⟩,
  ⟨some 8, .mov (.s 1), none⟩,
  ⟨some 9, .mov (.s 2), none⟩,
  ⟨some 10, .mov (.s 0), none⟩,
  ⟨some 11, .call (.c (.fn 24 [])) [.s 9, .s 10], none⟩,
  ⟨some 12, .agg [.v (.int .i64 0), .v (.int .i64 0), .v (.string ⟨#[]⟩)] [(0, (2, .s 11))], none⟩,
  ⟨some 13, .agg [.v (.int .i64 0), .v (.int .i64 0), .v (.int .i64 0), .v (.int .i64 0), .v (.int .i64 0), .v (.string ⟨#[]⟩)] [(0, (1, .c (.v (.int .i64 1)))), (1, (1, .s 7)), (2, (1, .s 8)), (3, (3, .s 12))], none⟩,
  ⟨none, .store 6 (.s 6) (.s 13), none⟩]
def F26 : AFn := ⟨14, [.cell 6 (some 6)],
  .seq (.reg F26r0 none)
  (.seq (.reg F26r1 none)
  (.ret))⟩
theorem F26_ok : cFunc Tryd.prog 26 = some F26 := by kernel_rfl
theorem F26_call : callable Tryd.prog 26 = true := by kernel_rfl
/-- supercargolaw.block -/
def F27r0 : List AOper := [⟨some 6, .new [.v (.int .i64 0), .v (.int .i64 0), .v (.string ⟨#[]⟩)], none⟩]
def F27r1 : List AOper := [⟨some 7, .mov (.s 0), none⟩,
  ⟨some 8, .mov (.s 1), none⟩,
  ⟨some 9, .call (.c (.fn 24 [])) [.s 7, .s 8], none⟩,
  ⟨some 10, .mov (.s 2), none⟩,
  ⟨some 11, .agg [.v (.int .i64 0), .v (.int .i64 0), .v (.string ⟨#[]⟩)] [(0, (2, .s 9)), (2, (1, .s 10))], none⟩,
  ⟨none, .store 3 (.s 6) (.s 11), none⟩]
def F27 : AFn := ⟨12, [.cell 6 (some 3)],
  .seq (.reg F27r0 none)
  (.seq (.reg F27r1 none)
  (.ret))⟩
theorem F27_ok : cFunc Tryd.prog 27 = some F27 := by kernel_rfl
theorem F27_call : callable Tryd.prog 27 = true := by kernel_rfl
/-- supercargolaw.three -/
def F28r0 : List AOper := [⟨some 0, .new [.emp, .v (.int .i64 0)], none⟩]
def F28r1 : List AOper := [⟨some 1, .bsl 1 3 [.v (.int .i64 0)] [(0, .c (.v (.int .i64 1))), (1, .c (.v (.int .i64 1))), (2, .c (.v (.int .i64 1)))], none⟩,
  ⟨some 2, .agg [.emp, .v (.int .i64 0)] [(0, (1, .s 1)), (1, (1, .c (.v (.int .i64 2))))], none⟩,
  ⟨none, .store 2 (.s 0) (.s 2), none⟩]
def F28 : AFn := ⟨3, [.cell 0 (some 2)],
  .seq (.reg F28r0 none)
  (.seq (.reg F28r1 none)
  (.ret))⟩
theorem F28_ok : cFunc Tryd.prog 28 = some F28 := by kernel_rfl
theorem F28_call : callable Tryd.prog 28 = true := by kernel_rfl
/-- seat.within -/
def F29r0 : List AOper := [⟨some 6, .mov (.c (.v (.bool false))), none⟩]
def F29r1 : List AOper := [⟨some 7, .mov (.s 0), none⟩,
  ⟨some 8, .mov (.s 1), none⟩,
  ⟨some 9, .bin false .geq (.s 7) (.s 8), none⟩,
  ⟨some 10, .mov (.s 9), none⟩,
  ⟨some 11, .mov (.s 0), some (10, true)⟩,
  ⟨some 12, .mov (.s 2), some (10, true)⟩,
  ⟨some 13, .bin false .leq (.s 11) (.s 12), some (10, true)⟩,
  ⟨some 14, .pick (.s 10) (.s 13) (.c (.v (.bool false))), none⟩,
  ⟨some 6, .mov (.s 14), none⟩]
def F29 : AFn := ⟨15, [.tmp 6],
  .seq (.reg F29r0 none)
  (.seq (.reg F29r1 none)
  (.ret))⟩
theorem F29_ok : cFunc Tryd.prog 29 = some F29 := by kernel_rfl
theorem F29_call : callable Tryd.prog 29 = true := by kernel_rfl
/-- seat.number -/
def F30r0 : List AOper := [⟨some 2, .mov (.c (.v (.bool false))), none⟩]
def F30r1 : List AOper := [⟨some 3, .mov (.s 0), none⟩,
  ⟨some 4, .call (.c (.fn 29 [])) [.s 3, .c (.v (.int .i64 0)), .c (.v (.int .i64 30))], none⟩,
  ⟨some 2, .mov (.s 4), none⟩]
def F30 : AFn := ⟨5, [.tmp 2],
  .seq (.reg F30r0 none)
  (.seq (.reg F30r1 none)
  (.ret))⟩
theorem F30_ok : cFunc Tryd.prog 30 = some F30 := by kernel_rfl
theorem F30_call : callable Tryd.prog 30 = true := by kernel_rfl
/-- copies.Check -/
def F31r0 : List AOper := [⟨some 1, .box 3 (.s 0), none⟩,
  ⟨some 2, .mov (.c (.v (.int .i64 0))), none⟩]
def F31r1 : List AOper := [⟨some 4, .fad 0 (.s 1), none⟩,
  ⟨some 5, .load (some 2) (.s 4), none⟩,
  ⟨some 6, .call (.c (.fn 33 [])) [.s 5], none⟩,
  ⟨some 3, .mov (.s 6), none⟩]
def F31r2 : List AOper := [⟨some 7, .mov (.s 3), none⟩,
  ⟨some 8, .bin false .eql (.s 7) (.c (.v (.int .i64 0))), none⟩,
  ⟨some 9, .mov (.s 8), none⟩,
  ⟨some 10, .fad 2 (.s 1), some (9, true)⟩,
  ⟨some 11, .load none (.s 10), some (9, true)⟩,
  ⟨some 12, .len true (.s 11), some (9, true)⟩,
  ⟨some 13, .bin false .gtr (.s 12) (.c (.v (.int .i64 64))), some (9, true)⟩,
  ⟨some 14, .pick (.s 9) (.s 13) (.c (.v (.bool false))), none⟩]
def F31r3 : List AOper := [⟨some 3, .mov (.c (.v (.int .i64 2))), none⟩]
def F31r4 : List AOper := [⟨some 15, .mov (.s 3), none⟩,
  ⟨some 2, .mov (.s 15), none⟩]
def F31 : AFn := ⟨16, [.tmp 2],
  .seq (.reg F31r0 none)
  (.seq (.reg F31r1 none)
  (.seq (.seq (.reg F31r2 none)
  (.cond (.s 14)
    (.reg F31r3 none)
    (.skip)))
  (.seq (.reg F31r4 none)
  (.ret))))⟩
theorem F31_ok : cFunc Tryd.prog 31 = some F31 := by kernel_rfl
theorem F31_call : callable Tryd.prog 31 = true := by kernel_rfl
/-- stamp.Check -/
def F33r0 : List AOper := [⟨some 1, .box 2 (.s 0), none⟩,
  ⟨some 2, .mov (.c (.v (.int .i64 0))), none⟩]
def F33r1 : List AOper := [⟨some 3, .fad 0 (.s 1), none⟩,
  ⟨some 4, .load none (.s 3), none⟩,
  ⟨some 5, .bin false .lss (.s 4) (.c (.v (.int .i64 0))), none⟩,
  ⟨some 6, .mov (.s 5), none⟩,
  ⟨some 7, .fad 0 (.s 1), some (6, false)⟩,
  ⟨some 8, .load none (.s 7), some (6, false)⟩,
  ⟨some 9, .bin false .gtr (.s 8) (.c (.v (.int .i64 1000000))), some (6, false)⟩,
  ⟨some 10, .pick (.s 6) (.c (.v (.bool true))) (.s 9), none⟩,
  ⟨some 11, .mov (.s 10), none⟩,
  ⟨some 12, .fad 1 (.s 1), some (11, false)⟩,
  ⟨some 13, .load none (.s 12), some (11, false)⟩,
  ⟨some 14, .call (.c (.fn 49 [])) [.s 13], some (11, false)⟩,
  ⟨some 15, .un .not (.s 14), some (11, false)⟩,
  ⟨some 16, .pick (.s 11) (.c (.v (.bool true))) (.s 15), none⟩]
def F33r2 : List AOper := [⟨some 2, .mov (.c (.v (.int .i64 3))), none⟩]
def F33r3 : List AOper := [⟨some 2, .mov (.c (.v (.int .i64 0))), none⟩]
def F33 : AFn := ⟨17, [.tmp 2],
  .seq (.reg F33r0 none)
  (.seq (.seq (.reg F33r1 none)
  (.cond (.s 16)
    (.seq (.reg F33r2 none)
    (.ret))
    (.skip)))
  (.seq (.reg F33r3 none)
  (.ret)))⟩
theorem F33_ok : cFunc Tryd.prog 33 = some F33 := by kernel_rfl
theorem F33_call : callable Tryd.prog 33 = true := by kernel_rfl
/-- (seat.bidder).fits -/
def F35r0 : List AOper := [⟨some 2, .box 2 (.s 0), none⟩,
  ⟨some 3, .box 6 (.s 1), none⟩,
  ⟨some 4, .mov (.c (.v (.bool false))), none⟩]
def F35r1 : List AOper := [⟨some 5, .fad 0 (.s 2), none⟩,
  ⟨some 6, .load none (.s 5), none⟩,
  ⟨some 7, .nilc (.s 6), none⟩,
  ⟨some 8, .fad 1 (.s 7), none⟩,
  ⟨some 9, .load none (.s 8), none⟩]
def F35r2 : List AOper := [⟨some 11, .bin false .eql (.s 9) (.c (.v (.int .i64 1))), none⟩,
  ⟨some 10, .mov (.s 11), none⟩]
def F35r3 : List AOper := [⟨some 12, .fad 0 (.s 3), none⟩,
  ⟨some 13, .load none (.s 12), none⟩,
  ⟨some 14, .bin false .eql (.s 13) (.c (.v (.int .i64 2))), none⟩,
  ⟨some 4, .mov (.s 14), none⟩]
def F35r4 : List AOper := [⟨some 16, .bin false .eql (.s 9) (.c (.v (.int .i64 2))), none⟩,
  ⟨some 15, .mov (.s 16), none⟩]
def F35r5 : List AOper := [⟨some 17, .fad 0 (.s 3), none⟩,
  ⟨some 18, .load none (.s 17), none⟩,
  ⟨some 19, .bin false .eql (.s 18) (.c (.v (.int .i64 4))), none⟩,
  ⟨some 20, .mov (.s 19), none⟩,
  ⟨some 21, .fad 3 (.s 3), some (20, true)⟩,
  ⟨some 22, .fad 0 (.s 21), some (20, true)⟩,
  ⟨some 23, .load (some 2) (.s 22), some (20, true)⟩,
  ⟨some 24, .load (some 2) (.s 2), some (20, true)⟩,
  ⟨some 25, .call (.c (.fn 39 [])) [.s 24], some (20, true)⟩,
  ⟨some 26, .eqs false 2 [(0, .int), (1, .int)] (.s 23) (.s 25), some (20, true)⟩,
  ⟨some 27, .pick (.s 20) (.s 26) (.c (.v (.bool false))), none⟩,
  ⟨some 4, .mov (.s 27), none⟩]
def F35r6 : List AOper := [⟨some 4, .mov (.c (.v (.bool false))), none⟩]
def F35 : AFn := ⟨28, [.tmp 4],
  .seq (.reg F35r0 none)
  (.seq (.seq (.reg F35r1 none)
  (.block 0 (
    .seq (.reg F35r2 none)
    (.cond (.s 10)
      (.seq (.reg F35r3 none)
      (.ret))
      (.seq (.reg F35r4 none)
      (.cond (.s 15)
        (.seq (.reg F35r5 (some [[], [0], [1, 0], [2, 1, 0], [3, 2, 1, 0], [4, 3, 2, 1, 0], [5, 3, 4, 2, 1, 0], [3, 2, 1, 0], [7, 3, 2, 1, 0], [6, 8, 3, 5, 4, 2, 1, 0, 7], [3, 9, 2, 1, 0, 6, 8, 5, 4, 7], [10, 8, 0, 1, 2, 3, 4, 5, 6, 7, 9]]))
        (.ret))
        (.skip)))))))
  (.seq (.reg F35r6 none)
  (.ret)))⟩
theorem F35_ok : cFunc Tryd.prog 35 = some F35 := by kernel_rfl
theorem F35_call : callable Tryd.prog 35 = true := by kernel_rfl
/-- copies.Raw -/
def F36r0 : List AOper := [⟨some 2, .box 3 (.s 0), none⟩,
  ⟨some 3, .box 3 (.s 1), none⟩,
  ⟨some 4, .new [.v (.int .i64 0), .v (.int .i64 0), .v (.string ⟨#[]⟩)], none⟩]
def F36r1 : List AOper := [⟨some 5, .fad 0 (.s 2), none⟩,
  ⟨some 6, .load (some 2) (.s 5), none⟩,
  ⟨some 7, .fad 0 (.s 3), none⟩,
  ⟨some 8, .load (some 2) (.s 7), none⟩,
  ⟨some 9, .call (.c (.fn 22 [])) [.s 6, .s 8], none⟩]
def F36r2 : List AOper := [⟨some 10, .load (some 3) (.s 3), none⟩,
  ⟨none, .store 3 (.s 4) (.s 10), none⟩]
def F36r3 : List AOper := [⟨some 11, .load (some 3) (.s 2), none⟩,
  ⟨none, .store 3 (.s 4) (.s 11), none⟩]
def F36 : AFn := ⟨12, [.cell 4 (some 3)],
  .seq (.reg F36r0 none)
  (.seq (.seq (.reg F36r1 none)
  (.cond (.s 9)
    (.seq (.reg F36r2 none)
    (.ret))
    (.skip)))
  (.seq (.reg F36r3 none)
  (.ret)))⟩
theorem F36_ok : cFunc Tryd.prog 36 = some F36 := by kernel_rfl
theorem F36_call : callable Tryd.prog 36 = true := by kernel_rfl
/-- (seat.bidder).on -/
def F37r0 : List AOper := [⟨some 2, .box 2 (.s 0), none⟩,
  ⟨some 3, .box 2 (.s 1), none⟩,
  ⟨some 4, .mov (.c .emp), none⟩]
def F37r1 : List AOper := [⟨some 5, .fad 0 (.s 2), none⟩,
  ⟨some 6, .load none (.s 5), none⟩,
  ⟨some 7, .nilc (.s 6), none⟩,
  ⟨some 8, .fad 1 (.s 7), none⟩,
  ⟨some 9, .load none (.s 8), none⟩,
  ⟨some 10, .bin false .eql (.s 9) (.c (.v (.int .i64 2))), none⟩]
def F37r2 : List AOper := [⟨some 11, .fad 0 (.s 2), none⟩,
  ⟨some 12, .load none (.s 11), none⟩,
  ⟨some 13, .nilc (.s 12), none⟩,
  ⟨some 14, .fad 1 (.s 13), none⟩,
  ⟨none, .store 1 (.s 14) (.c (.v (.int .i64 3))), none⟩]
def F37r3 : List AOper := [⟨some 4, .mov (.c .emp), none⟩]
def F37r4 : List AOper := [⟨some 15, .fad 0 (.s 2), none⟩,
  ⟨some 16, .load none (.s 15), none⟩,
  ⟨some 17, .fad 0 (.s 2), none⟩,
  ⟨some 18, .load none (.s 17), none⟩,
  ⟨some 19, .nilc (.s 18), none⟩,
  ⟨some 20, .fad 4 (.s 19), none⟩,
  ⟨some 21, .fad 2 (.s 20), none⟩,
  ⟨some 22, .load none (.s 21), none⟩,
  ⟨some 23, .nilc (.s 16), none⟩,
  ⟨some 24, .fad 3 (.s 23), none⟩,
  ⟨none, .store 1 (.s 24) (.s 22), none⟩]
def F37r5 : List AOper := [⟨some 25, .fad 0 (.s 2), none⟩,
  ⟨some 26, .load none (.s 25), none⟩,
  ⟨some 27, .nilc (.s 26), none⟩,
  ⟨some 28, .fad 4 (.s 27), none⟩,
  ⟨some 29, .fad 0 (.s 28), none⟩,
  ⟨some 30, .load (some 2) (.s 29), none⟩,
  ⟨some 31, .agg [.v (.int .i64 0), .v (.int .i64 0)] [], none⟩,
  ⟨some 32, .eqs false 2 [(0, .int), (1, .int)] (.s 30) (.s 31), none⟩]
def F37r6 : List AOper := [⟨some 33, .fad 0 (.s 2), none⟩,
  ⟨some 34, .load none (.s 33), none⟩,
  ⟨some 35, .fad 0 (.s 2), none⟩,
  ⟨some 36, .load none (.s 35), none⟩,
  ⟨some 37, .nilc (.s 36), none⟩,
  ⟨some 38, .fad 2 (.s 37), none⟩,
  ⟨some 39, .load none (.s 38), none⟩,
  ⟨some 40, .nilc (.s 34), none⟩,
  ⟨some 41, .fad 3 (.s 40), none⟩,
  ⟨none, .store 1 (.s 41) (.s 39), none⟩]
def F37r7 : List AOper := [⟨some 42, .fad 0 (.s 2), none⟩,
  ⟨some 43, .load none (.s 42), none⟩,
  ⟨some 44, .fad 0 (.s 2), none⟩,
  ⟨some 45, .load none (.s 44), none⟩,
  ⟨some 46, .nilc (.s 43), none⟩,
  ⟨some 47, .fad 1 (.s 46), none⟩,
  ⟨none, .store 1 (.s 47) (.c (.v (.int .i64 2))), none⟩,
  ⟨some 48, .nilc (.s 45), none⟩,
  ⟨some 49, .fad 7 (.s 48), none⟩,
  ⟨none, .store 1 (.s 49) (.c (.v (.int .u64 0))), none⟩]
def F37r8 : List AOper := [⟨some 50, .load (some 2) (.s 3), none⟩,
  ⟨some 51, .fad 1 (.s 2), none⟩,
  ⟨some 52, .load none (.s 51), none⟩,
  ⟨some 53, .load (some 2) (.s 2), none⟩,
  ⟨some 54, .call (.c (.fn 39 [])) [.s 53], none⟩,
  ⟨some 55, .fad 0 (.s 2), none⟩,
  ⟨some 56, .load none (.s 55), none⟩,
  ⟨some 57, .nilc (.s 56), none⟩,
  ⟨some 58, .fad 3 (.s 57), none⟩,
  ⟨some 59, .load none (.s 58), none⟩,
  ⟨some 60, .agg [.v (.int .i64 0), .v (.int .i64 0), .v (.string ⟨#[]⟩)] [(0, (2, .s 54)), (2, (1, .s 59))], none⟩,
  ⟨some 61, .agg [.v (.int .i64 0), .v (.int .i64 0), .v (.int .i64 0), .v (.int .i64 0), .v (.int .i64 0), .v (.string ⟨#[]⟩)] [(0, (1, .c (.v (.int .i64 3)))), (1, (1, .s 52)), (3, (3, .s 60))], none⟩,
  ⟨some 62, .call (.c (.fn 38 [])) [.s 50, .s 61], none⟩,
  ⟨some 4, .mov (.s 62), none⟩]
def F37 : AFn := ⟨63, [.tmp 4],
  .seq (.reg F37r0 none)
  (.seq (.seq (.reg F37r1 none)
  (.cond (.s 10)
    (.seq (.reg F37r2 none)
    (.seq (.reg F37r3 none)
    (.ret)))
    (.skip)))
  (.seq (.reg F37r4 (some [[], [0], [], [2], [3, 2], [4, 3, 2], [5, 4, 3, 2], [6, 5, 4, 3, 2], [1, 0, 2, 3, 4, 5, 6, 7], [8, 0, 1, 2, 3, 4, 5, 6, 7], [9, 7, 0, 1, 2, 3, 4, 5, 6, 8]]))
  (.seq (.seq (.reg F37r5 none)
  (.cond (.s 32)
    (.reg F37r6 (some [[], [0], [], [2], [3, 2], [4, 3, 2], [5, 4, 3, 2], [1, 0, 2, 3, 4, 5, 6], [7, 0, 1, 2, 3, 4, 5, 6], [8, 6, 0, 1, 2, 3, 4, 5, 7]]))
    (.skip)))
  (.seq (.reg F37r7 (some [[], [0], [], [2], [1, 0], [4, 0, 1], [5, 0, 1, 4], [3, 0, 1, 2, 4, 5, 6], [7, 0, 1, 2, 3, 4, 5, 6], [8, 6, 0, 1, 2, 3, 4, 5, 7]]))
  (.seq (.reg F37r8 (some [[], [], [1], [], [3], [], [5], [6, 5], [7, 6, 5], [8, 7, 6, 5], [4, 9, 3, 8, 7, 6, 5], [2, 10, 1, 4, 9, 3, 8, 7, 6, 5], [0, 11, 4, 2, 10, 1, 9, 3, 8, 7, 6, 5], [12, 0, 1, 2, 3, 4, 5, 6, 7, 8, 9, 10, 11]]))
  (.ret))))))⟩
theorem F37_ok : cFunc Tryd.prog 37 = some F37 := by kernel_rfl
theorem F37_call : callable Tryd.prog 37 = true := by kernel_rfl
/-- seat.toAll -/
def F38r0 : List AOper := [⟨some 2, .box 2 (.s 0), none⟩,
  ⟨some 3, .box 6 (.s 1), none⟩,
  ⟨some 4, .mov (.c .emp), none⟩]
def F38r1 : List AOper := [⟨some 5, .fad 0 (.s 2), none⟩,
  ⟨some 6, .load none (.s 5), none⟩,
  ⟨some 7, .len false (.s 6), none⟩,
  ⟨some 8, .mov (.c (.v (.int .i64 0))), none⟩]
def F38r2 : List AOper := [⟨some 9, .bin false .lss (.s 8) (.s 7), none⟩]
def F38r3 : List AOper := [⟨some 10, .mov (.s 8), none⟩,
  ⟨some 11, .fad 2 (.s 3), none⟩,
  ⟨none, .store 1 (.s 11) (.s 10), none⟩]
def F38r4 : List AOper := [⟨some 12, .mov (.s 4), none⟩,
  ⟨some 13, .load (some 6) (.s 3), none⟩,
  ⟨some 14, .bsl 6 1 [.v (.int .i64 0), .v (.int .i64 0), .v (.int .i64 0), .v (.int .i64 0), .v (.int .i64 0), .v (.string ⟨#[]⟩)] [(0, .s 13)], none⟩,
  ⟨some 15, .app 6 56 (.s 12) (.s 14), none⟩,
  ⟨some 4, .mov (.s 15), none⟩]
def F38r5 : List AOper := [⟨some 16, .bin false .add (.s 8) (.c (.v (.int .i64 1))), none⟩,
  ⟨some 8, .mov (.s 16), none⟩]
def F38r6 : List AOper := [⟨some 17, .mov (.s 4), none⟩,
  ⟨some 4, .mov (.s 17), none⟩]
def F38 : AFn := ⟨18, [.tmp 4],
  .seq (.reg F38r0 none)
  (.seq (.seq (.reg F38r1 none)
  (.block 0 (
    .loop (
      .seq (.reg F38r2 none)
      (.seq (.cond (.s 9)
        (.skip)
        (.exit 0))
      (.seq (.block 1 (
        .seq (.reg F38r3 none)
        (.reg F38r4 none)))
      (.reg F38r5 none)))))))
  (.seq (.reg F38r6 none)
  (.ret)))⟩
theorem F38_ok : cFunc Tryd.prog 38 = some F38 := by kernel_rfl
theorem F38_call : callable Tryd.prog 38 = true := by kernel_rfl
/-- (seat.bidder).at -/
def F39r0 : List AOper := [⟨some 1, .box 2 (.s 0), none⟩,
  ⟨some 2, .new [.v (.int .i64 0), .v (.int .i64 0)], none⟩]
def F39r1 : List AOper := [⟨some 3, .fad 0 (.s 1), none⟩,
  ⟨some 4, .load none (.s 3), none⟩,
  ⟨some 5, .nilc (.s 4), none⟩,
  ⟨some 6, .fad 0 (.s 5), none⟩,
  ⟨some 7, .load none (.s 6), none⟩,
  ⟨some 8, .fad 1 (.s 1), none⟩,
  ⟨some 9, .load none (.s 8), none⟩,
  ⟨some 10, .agg [.v (.int .i64 0), .v (.int .i64 0)] [(0, (1, .s 7)), (1, (1, .s 9))], none⟩,
  ⟨none, .store 2 (.s 2) (.s 10), none⟩]
def F39 : AFn := ⟨11, [.cell 2 (some 2)],
  .seq (.reg F39r0 none)
  (.seq (.reg F39r1 (some [[], [0], [1, 0], [2, 1, 0], [3, 2, 1, 0], [], [5], [4, 6, 3, 2, 1, 0, 5], [7, 0, 1, 2, 3, 4, 5, 6]]))
  (.ret))⟩
theorem F39_ok : cFunc Tryd.prog 39 = some F39 := by kernel_rfl
theorem F39_call : callable Tryd.prog 39 = true := by kernel_rfl
/-- quorum.Check -/
def F44r0 : List AOper := [⟨some 4, .mov (.c (.v (.int .i64 0))), none⟩]
def F44r1 : List AOper := [⟨some 8, .mov (.s 0), none⟩,
  ⟨some 9, .call (.c (.fn 50 [])) [.s 8], none⟩,
  ⟨some 7, .mov (.s 9), none⟩,
  ⟨some 10, .ext 0 (.s 7), none⟩,
  ⟨some 11, .ext 1 (.s 7), none⟩,
  ⟨some 5, .mov (.s 10), none⟩,
  ⟨some 6, .mov (.s 11), none⟩]
def F44r2 : List AOper := [⟨some 13, .mov (.s 6), none⟩,
  ⟨some 14, .bin false .neq (.s 13) (.c (.v (.int .i64 0))), none⟩,
  ⟨some 12, .mov (.s 14), none⟩]
def F44r3 : List AOper := [⟨some 15, .mov (.s 6), none⟩,
  ⟨some 4, .mov (.s 15), none⟩]
def F44r4 : List AOper := [⟨some 17, .mov (.s 1), none⟩,
  ⟨some 18, .bin false .lss (.s 17) (.c (.v (.int .i64 1))), none⟩,
  ⟨some 19, .mov (.s 18), none⟩,
  ⟨some 20, .mov (.s 1), some (19, false)⟩,
  ⟨some 21, .mov (.s 5), some (19, false)⟩,
  ⟨some 22, .bin false .gtr (.s 20) (.s 21), some (19, false)⟩,
  ⟨some 23, .pick (.s 19) (.c (.v (.bool true))) (.s 22), none⟩,
  ⟨some 16, .mov (.s 23), none⟩]
def F44r5 : List AOper := [⟨some 4, .mov (.c (.v (.int .i64 3))), none⟩]
def F44r6 : List AOper := [⟨some 25, .mov (.s 1), none⟩,
  ⟨some 26, .bin false .mul (.c (.v (.int .i64 2))) (.s 25), none⟩,
  ⟨some 27, .mov (.s 5), none⟩,
  ⟨some 28, .bin false .leq (.s 26) (.s 27), none⟩,
  ⟨some 24, .mov (.s 28), none⟩]
def F44r7 : List AOper := [⟨some 4, .mov (.c (.v (.int .i64 4))), none⟩]
def F44r8 : List AOper := [⟨some 4, .mov (.c (.v (.int .i64 0))), none⟩]
def F44 : AFn := ⟨29, [.tmp 4],
  .seq (.reg F44r0 none)
  (.seq (.reg F44r1 none)
  (.seq (.block 0 (
    .seq (.reg F44r2 none)
    (.cond (.s 12)
      (.seq (.reg F44r3 none)
      (.ret))
      (.seq (.reg F44r4 none)
      (.cond (.s 16)
        (.seq (.reg F44r5 none)
        (.ret))
        (.seq (.reg F44r6 none)
        (.cond (.s 24)
          (.seq (.reg F44r7 none)
          (.ret))
          (.skip))))))))
  (.seq (.reg F44r8 none)
  (.ret))))⟩
theorem F44_ok : cFunc Tryd.prog 44 = some F44 := by kernel_rfl
theorem F44_call : callable Tryd.prog 44 = true := by kernel_rfl
/-- math/bits.Len64 -/
def F45r0 : List AOper := [⟨some 2, .mov (.c (.v (.int .i64 0))), none⟩]
def F45r1 : List AOper := [⟨some 3, .mov (.s 0), none⟩,
  ⟨some 4, .bin false .geq (.s 3) (.c (.v (.int .u64 4294967296))), none⟩]
def F45r2 : List AOper := [⟨some 5, .mov (.s 0), none⟩,
  ⟨some 6, .bin false .shr (.s 5) (.c (.v (.int .u64 32))), none⟩,
  ⟨some 0, .mov (.s 6), none⟩]
def F45r3 : List AOper := [⟨some 2, .mov (.c (.v (.int .i64 32))), none⟩]
def F45r4 : List AOper := [⟨some 7, .mov (.s 0), none⟩,
  ⟨some 8, .bin false .geq (.s 7) (.c (.v (.int .u64 65536))), none⟩]
def F45r5 : List AOper := [⟨some 9, .mov (.s 0), none⟩,
  ⟨some 10, .bin false .shr (.s 9) (.c (.v (.int .u64 16))), none⟩,
  ⟨some 0, .mov (.s 10), none⟩]
def F45r6 : List AOper := [⟨some 11, .mov (.s 2), none⟩,
  ⟨some 12, .bin false .add (.s 11) (.c (.v (.int .i64 16))), none⟩,
  ⟨some 2, .mov (.s 12), none⟩]
def F45r7 : List AOper := [⟨some 13, .mov (.s 0), none⟩,
  ⟨some 14, .bin false .geq (.s 13) (.c (.v (.int .u64 256))), none⟩]
def F45r8 : List AOper := [⟨some 15, .mov (.s 0), none⟩,
  ⟨some 16, .bin false .shr (.s 15) (.c (.v (.int .u64 8))), none⟩,
  ⟨some 0, .mov (.s 16), none⟩]
def F45r9 : List AOper := [⟨some 17, .mov (.s 2), none⟩,
  ⟨some 18, .bin false .add (.s 17) (.c (.v (.int .i64 8))), none⟩,
  ⟨some 2, .mov (.s 18), none⟩]
def F45r10 : List AOper := [⟨some 19, .mov (.s 2), none⟩,
  ⟨some 20, .mov (.s 0), none⟩,
  ⟨some 21, .conv .u8 (.s 20), none⟩,
  ⟨some 22, .six (.c (.v (.string ⟨#[0, 1, 2, 2, 3, 3, 3, 3, 4, 4, 4, 4, 4, 4, 4, 4, 5, 5, 5, 5, 5, 5, 5, 5, 5, 5, 5, 5, 5, 5, 5, 5, 6, 6, 6, 6, 6, 6, 6, 6, 6, 6, 6, 6, 6, 6, 6, 6, 6, 6, 6, 6, 6, 6, 6, 6, 6, 6, 6, 6, 6, 6, 6, 6, 7, 7, 7, 7, 7, 7, 7, 7, 7, 7, 7, 7, 7, 7, 7, 7, 7, 7, 7, 7, 7, 7, 7, 7, 7, 7, 7, 7, 7, 7, 7, 7, 7, 7, 7, 7, 7, 7, 7, 7, 7, 7, 7, 7, 7, 7, 7, 7, 7, 7, 7, 7, 7, 7, 7, 7, 7, 7, 7, 7, 7, 7, 7, 7, 8, 8, 8, 8, 8, 8, 8, 8, 8, 8, 8, 8, 8, 8, 8, 8, 8, 8, 8, 8, 8, 8, 8, 8, 8, 8, 8, 8, 8, 8, 8, 8, 8, 8, 8, 8, 8, 8, 8, 8, 8, 8, 8, 8, 8, 8, 8, 8, 8, 8, 8, 8, 8, 8, 8, 8, 8, 8, 8, 8, 8, 8, 8, 8, 8, 8, 8, 8, 8, 8, 8, 8, 8, 8, 8, 8, 8, 8, 8, 8, 8, 8, 8, 8, 8, 8, 8, 8, 8, 8, 8, 8, 8, 8, 8, 8, 8, 8, 8, 8, 8, 8, 8, 8, 8, 8, 8, 8, 8, 8, 8, 8, 8, 8, 8, 8, 8, 8, 8, 8, 8, 8, 8, 8, 8, 8, 8, 8]⟩))) (.s 21), none⟩,
  ⟨some 23, .conv .i64 (.s 22), none⟩,
  ⟨some 24, .bin false .add (.s 19) (.s 23), none⟩,
  ⟨some 2, .mov (.s 24), none⟩]
def F45 : AFn := ⟨25, [.tmp 2],
  .seq (.reg F45r0 none)
  (.seq (.seq (.reg F45r1 none)
  (.cond (.s 4)
    (.seq (.reg F45r2 none)
    (.reg F45r3 none))
    (.skip)))
  (.seq (.seq (.reg F45r4 none)
  (.cond (.s 8)
    (.seq (.reg F45r5 none)
    (.reg F45r6 none))
    (.skip)))
  (.seq (.seq (.reg F45r7 none)
  (.cond (.s 14)
    (.seq (.reg F45r8 none)
    (.reg F45r9 none))
    (.skip)))
  (.seq (.reg F45r10 none)
  (.ret)))))⟩
theorem F45_ok : cFunc Tryd.prog 45 = some F45 := by kernel_rfl
theorem F45_call : callable Tryd.prog 45 = true := by kernel_rfl
/-- stamp.compare -/
def F47r0 : List AOper := [⟨some 2, .box 2 (.s 0), none⟩,
  ⟨some 3, .box 2 (.s 1), none⟩,
  ⟨some 4, .mov (.c (.v (.int .i64 0))), none⟩]
def F47r1 : List AOper := [⟨some 5, .fad 0 (.s 2), none⟩,
  ⟨some 6, .load none (.s 5), none⟩,
  ⟨some 7, .fad 0 (.s 3), none⟩,
  ⟨some 8, .load none (.s 7), none⟩,
  ⟨some 9, .call (.c (.fn 53 [])) [.s 6, .s 8], none⟩,
  ⟨some 10, .fad 1 (.s 2), none⟩,
  ⟨some 11, .load none (.s 10), none⟩,
  ⟨some 12, .fad 1 (.s 3), none⟩,
  ⟨some 13, .load none (.s 12), none⟩,
  ⟨some 14, .call (.c (.fn 53 [])) [.s 11, .s 13], none⟩,
  ⟨some 15, .bsl 1 2 [.v (.int .i64 0)] [(0, .s 9), (1, .s 14)], none⟩,
  ⟨some 16, .call (.c (.fn 52 [])) [.s 15], none⟩,
  ⟨some 4, .mov (.s 16), none⟩]
def F47 : AFn := ⟨17, [.tmp 4],
  .seq (.reg F47r0 none)
  (.seq (.reg F47r1 (some [[], [0], [], [2], [1, 3, 0, 2], [], [5], [], [7], [6, 8, 4, 5, 7, 1, 3, 0, 2], [4, 9, 1, 3, 0, 2, 6, 8, 5, 7], [10, 9, 4, 1, 3, 0, 2, 6, 8, 5, 7], [11, 0, 1, 2, 3, 4, 5, 6, 7, 8, 9, 10]]))
  (.ret))⟩
theorem F47_ok : cFunc Tryd.prog 47 = some F47 := by kernel_rfl
theorem F47_call : callable Tryd.prog 47 = true := by kernel_rfl
/-- quorum.Sum -/
def F48r0 : List AOper := [⟨some 4, .mov (.c (.v (.int .i64 0))), none⟩,
  ⟨some 5, .mov (.c (.v (.int .i64 0))), none⟩]
def F48r1 : List AOper := [⟨some 9, .mov (.s 0), none⟩,
  ⟨some 10, .call (.c (.fn 50 [])) [.s 9], none⟩,
  ⟨some 8, .mov (.s 10), none⟩,
  ⟨some 11, .ext 0 (.s 8), none⟩,
  ⟨some 12, .ext 1 (.s 8), none⟩,
  ⟨some 6, .mov (.s 11), none⟩,
  ⟨some 7, .mov (.s 12), none⟩]
def F48r2 : List AOper := [⟨some 13, .mov (.s 7), none⟩,
  ⟨some 14, .bin false .neq (.s 13) (.c (.v (.int .i64 0))), none⟩]
def F48r3 : List AOper := [⟨some 15, .mov (.s 7), none⟩,
  ⟨some 4, .mov (.c (.v (.int .i64 0))), none⟩,
  ⟨some 5, .mov (.s 15), none⟩]
def F48r4 : List AOper := [⟨some 16, .mov (.s 1), none⟩,
  ⟨some 17, .call (.c (.fn 45 [])) [.s 16], none⟩,
  ⟨some 18, .mov (.s 0), none⟩,
  ⟨some 19, .len false (.s 18), none⟩,
  ⟨some 20, .bin false .gtr (.s 17) (.s 19), none⟩]
def F48r5 : List AOper := [⟨some 4, .mov (.c (.v (.int .i64 0))), none⟩,
  ⟨some 5, .mov (.c (.v (.int .i64 3))), none⟩]
def F48r6 : List AOper := [⟨some 21, .mov (.s 1), none⟩,
  ⟨some 22, .bin false .neq (.s 21) (.c (.v (.int .u64 0))), none⟩]
def F48r7 : List AOper := [⟨some 27, .mov (.s 4), none⟩,
  ⟨some 28, .mov (.s 0), none⟩,
  ⟨some 29, .mov (.s 1), none⟩,
  ⟨some 30, .call (.c (.fn 54 [])) [.s 29], none⟩,
  ⟨some 31, .iad 1 (.s 28) (.s 30), none⟩,
  ⟨some 32, .load none (.s 31), none⟩,
  ⟨some 33, .bin false .add (.s 27) (.s 32), none⟩,
  ⟨some 4, .mov (.s 33), none⟩]
def F48r8 : List AOper := [⟨some 23, .mov (.s 1), none⟩,
  ⟨some 24, .mov (.s 1), none⟩,
  ⟨some 25, .bin false .sub (.s 24) (.c (.v (.int .u64 1))), none⟩,
  ⟨some 26, .bin false .and (.s 23) (.s 25), none⟩,
  ⟨some 1, .mov (.s 26), none⟩]
def F48r9 : List AOper := [⟨some 34, .mov (.s 4), none⟩,
  ⟨some 4, .mov (.s 34), none⟩,
  ⟨some 5, .mov (.c (.v (.int .i64 0))), none⟩]
def F48 : AFn := ⟨35, [.tmp 4, .tmp 5],
  .seq (.reg F48r0 none)
  (.seq (.seq (.reg F48r1 none)
  (.seq (.reg F48r2 none)
  (.cond (.s 14)
    (.seq (.reg F48r3 none)
    (.ret))
    (.skip))))
  (.seq (.seq (.reg F48r4 none)
  (.cond (.s 20)
    (.seq (.reg F48r5 none)
    (.ret))
    (.skip)))
  (.seq (.block 0 (
    .loop (
      .seq (.seq (.reg F48r6 none)
      (.cond (.s 22)
        (.skip)
        (.exit 0)))
      (.seq (.block 1 (
        .reg F48r7 none))
      (.reg F48r8 none)))))
  (.seq (.reg F48r9 none)
  (.ret)))))⟩
theorem F48_ok : cFunc Tryd.prog 48 = some F48 := by kernel_rfl
theorem F48_call : callable Tryd.prog 48 = true := by kernel_rfl
/-- stamp.Who -/
def F49r0 : List AOper := [⟨some 2, .mov (.c (.v (.bool false))), none⟩]
def F49r1 : List AOper := [⟨some 3, .mov (.s 0), none⟩,
  ⟨some 4, .bin false .geq (.s 3) (.c (.v (.int .i64 0))), none⟩,
  ⟨some 5, .mov (.s 4), none⟩,
  ⟨some 6, .mov (.s 0), some (5, true)⟩,
  ⟨some 7, .bin false .leq (.s 6) (.c (.v (.int .i64 31))), some (5, true)⟩,
  ⟨some 8, .pick (.s 5) (.s 7) (.c (.v (.bool false))), none⟩,
  ⟨some 2, .mov (.s 8), none⟩]
def F49 : AFn := ⟨9, [.tmp 2],
  .seq (.reg F49r0 none)
  (.seq (.reg F49r1 none)
  (.ret))⟩
theorem F49_ok : cFunc Tryd.prog 49 = some F49 := by kernel_rfl
theorem F49_call : callable Tryd.prog 49 = true := by kernel_rfl
/-- quorum.nodes -/
def F50r0 : List AOper := [⟨some 2, .mov (.c (.v (.int .i64 0))), none⟩,
  ⟨some 3, .mov (.c (.v (.int .i64 0))), none⟩]
def F50r1 : List AOper := [⟨some 7, .mov (.s 0), none⟩,
  ⟨some 8, .len false (.s 7), none⟩,
  ⟨some 9, .bin false .eql (.s 8) (.c (.v (.int .i64 0))), none⟩,
  ⟨some 6, .mov (.s 9), none⟩]
def F50r2 : List AOper := [⟨some 2, .mov (.c (.v (.int .i64 0))), none⟩,
  ⟨some 3, .mov (.c (.v (.int .i64 8))), none⟩]
def F50r3 : List AOper := [⟨some 11, .mov (.s 0), none⟩,
  ⟨some 12, .len false (.s 11), none⟩,
  ⟨some 13, .bin false .gtr (.s 12) (.c (.v (.int .i64 12))), none⟩,
  ⟨some 10, .mov (.s 13), none⟩]
def F50r4 : List AOper := [⟨some 2, .mov (.c (.v (.int .i64 0))), none⟩,
  ⟨some 3, .mov (.c (.v (.int .i64 2))), none⟩]
def F50r5 : List AOper := [⟨some 14, .mov (.s 0), none⟩,
  ⟨some 15, .len false (.s 14), none⟩,
  ⟨some 16, .mov (.c (.v (.int .i64 0))), none⟩]
def F50r6 : List AOper := [⟨some 17, .bin false .lss (.s 16) (.s 15), none⟩]
def F50r7 : List AOper := [⟨some 18, .iad 1 (.s 14) (.s 16), none⟩,
  ⟨some 19, .load none (.s 18), none⟩,
  ⟨some 5, .mov (.s 19), none⟩]
def F50r8 : List AOper := [⟨some 20, .mov (.s 5), none⟩,
  ⟨some 21, .bin false .lss (.s 20) (.c (.v (.int .i64 0))), none⟩,
  ⟨some 22, .mov (.s 21), none⟩,
  ⟨some 23, .mov (.s 5), some (22, false)⟩,
  ⟨some 24, .bin false .gtr (.s 23) (.c (.v (.int .i64 100))), some (22, false)⟩,
  ⟨some 25, .pick (.s 22) (.c (.v (.bool true))) (.s 24), none⟩]
def F50r9 : List AOper := [⟨some 2, .mov (.c (.v (.int .i64 0))), none⟩,
  ⟨some 3, .mov (.c (.v (.int .i64 3))), none⟩]
def F50r10 : List AOper := [⟨some 26, .mov (.s 2), none⟩,
  ⟨some 27, .mov (.s 5), none⟩,
  ⟨some 28, .bin false .add (.s 26) (.s 27), none⟩,
  ⟨some 2, .mov (.s 28), none⟩]
def F50r11 : List AOper := [⟨some 29, .bin false .add (.s 16) (.c (.v (.int .i64 1))), none⟩,
  ⟨some 16, .mov (.s 29), none⟩]
def F50r12 : List AOper := [⟨some 30, .mov (.s 2), none⟩,
  ⟨some 2, .mov (.s 30), none⟩,
  ⟨some 3, .mov (.c (.v (.int .i64 0))), none⟩]
def F50 : AFn := ⟨31, [.tmp 2, .tmp 3],
  .seq (.reg F50r0 none)
  (.seq (.block 0 (
    .seq (.reg F50r1 none)
    (.cond (.s 6)
      (.seq (.reg F50r2 none)
      (.ret))
      (.seq (.reg F50r3 none)
      (.cond (.s 10)
        (.seq (.reg F50r4 none)
        (.ret))
        (.skip))))))
  (.seq (.seq (.reg F50r5 none)
  (.block 1 (
    .loop (
      .seq (.reg F50r6 none)
      (.seq (.cond (.s 17)
        (.skip)
        (.exit 1))
      (.seq (.block 2 (
        .seq (.reg F50r7 none)
        (.seq (.seq (.reg F50r8 none)
        (.cond (.s 25)
          (.seq (.reg F50r9 none)
          (.ret))
          (.skip)))
        (.reg F50r10 none))))
      (.reg F50r11 none)))))))
  (.seq (.reg F50r12 none)
  (.ret))))⟩
theorem F50_ok : cFunc Tryd.prog 50 = some F50 := by kernel_rfl
theorem F50_call : callable Tryd.prog 50 = true := by kernel_rfl
/-- cmp.Or[int] -/
def F52r0 : List AOper := [⟨some 2, .mov (.c (.v (.int .i64 0))), none⟩]
def F52r1 : List AOper := [⟨some 3, .mov (.c (.v (.int .i64 0))), none⟩]
def F52r2 : List AOper := [⟨some 6, .mov (.s 0), none⟩,
  ⟨some 7, .len false (.s 6), none⟩,
  ⟨some 8, .mov (.c (.v (.int .i64 0))), none⟩]
def F52r3 : List AOper := [⟨some 9, .bin false .lss (.s 8) (.s 7), none⟩]
def F52r4 : List AOper := [⟨some 10, .iad 1 (.s 6) (.s 8), none⟩,
  ⟨some 11, .load none (.s 10), none⟩,
  ⟨some 5, .mov (.s 11), none⟩]
def F52r5 : List AOper := [⟨some 12, .mov (.s 5), none⟩,
  ⟨some 13, .mov (.s 3), none⟩,
  ⟨some 14, .bin false .neq (.s 12) (.s 13), none⟩]
def F52r6 : List AOper := [⟨some 15, .mov (.s 5), none⟩,
  ⟨some 2, .mov (.s 15), none⟩]
def F52r7 : List AOper := [⟨some 16, .bin false .add (.s 8) (.c (.v (.int .i64 1))), none⟩,
  ⟨some 8, .mov (.s 16), none⟩]
def F52r8 : List AOper := [⟨some 17, .mov (.s 3), none⟩,
  ⟨some 2, .mov (.s 17), none⟩]
def F52 : AFn := ⟨18, [.tmp 2],
  .seq (.reg F52r0 none)
  (.seq (.reg F52r1 none)
  (.seq (.seq (.reg F52r2 none)
  (.block 0 (
    .loop (
      .seq (.reg F52r3 none)
      (.seq (.cond (.s 9)
        (.skip)
        (.exit 0))
      (.seq (.block 1 (
        .seq (.reg F52r4 none)
        (.seq (.reg F52r5 none)
        (.cond (.s 14)
          (.seq (.reg F52r6 none)
          (.ret))
          (.skip)))))
      (.reg F52r7 none)))))))
  (.seq (.reg F52r8 none)
  (.ret))))⟩
theorem F52_ok : cFunc Tryd.prog 52 = some F52 := by kernel_rfl
theorem F52_call : callable Tryd.prog 52 = true := by kernel_rfl
/-- cmp.Compare[int] -/
def F53r0 : List AOper := [⟨some 4, .mov (.c (.v (.int .i64 0))), none⟩]
def F53r1 : List AOper := [⟨some 7, .mov (.s 0), none⟩,
  ⟨some 8, .call (.c (.fn 55 [])) [.s 7], none⟩,
  ⟨some 5, .mov (.s 8), none⟩]
def F53r2 : List AOper := [⟨some 9, .mov (.s 1), none⟩,
  ⟨some 10, .call (.c (.fn 55 [])) [.s 9], none⟩,
  ⟨some 6, .mov (.s 10), none⟩]
def F53r3 : List AOper := [⟨some 11, .mov (.s 5), none⟩]
def F53r4 : List AOper := [⟨some 12, .mov (.s 6), none⟩]
def F53r5 : List AOper := [⟨some 4, .mov (.c (.v (.int .i64 0))), none⟩]
def F53r6 : List AOper := [⟨some 4, .mov (.c (.v (.int .i64 (-1)))), none⟩]
def F53r7 : List AOper := [⟨some 13, .mov (.s 6), none⟩]
def F53r8 : List AOper := [⟨some 4, .mov (.c (.v (.int .i64 1))), none⟩]
def F53r9 : List AOper := [⟨some 14, .mov (.s 0), none⟩,
  ⟨some 15, .mov (.s 1), none⟩,
  ⟨some 16, .bin false .lss (.s 14) (.s 15), none⟩]
def F53r10 : List AOper := [⟨some 4, .mov (.c (.v (.int .i64 (-1)))), none⟩]
def F53r11 : List AOper := [⟨some 17, .mov (.s 0), none⟩,
  ⟨some 18, .mov (.s 1), none⟩,
  ⟨some 19, .bin false .gtr (.s 17) (.s 18), none⟩]
def F53r12 : List AOper := [⟨some 4, .mov (.c (.v (.int .i64 1))), none⟩]
def F53r13 : List AOper := [⟨some 4, .mov (.c (.v (.int .i64 0))), none⟩]
def F53 : AFn := ⟨20, [.tmp 4],
  .seq (.reg F53r0 none)
  (.seq (.reg F53r1 none)
  (.seq (.reg F53r2 none)
  (.seq (.seq (.reg F53r3 none)
  (.cond (.s 11)
    (.seq (.seq (.reg F53r4 none)
    (.cond (.s 12)
      (.seq (.reg F53r5 none)
      (.ret))
      (.skip)))
    (.seq (.reg F53r6 none)
    (.ret)))
    (.skip)))
  (.seq (.seq (.reg F53r7 none)
  (.cond (.s 13)
    (.seq (.reg F53r8 none)
    (.ret))
    (.skip)))
  (.seq (.seq (.reg F53r9 none)
  (.cond (.s 16)
    (.seq (.reg F53r10 none)
    (.ret))
    (.skip)))
  (.seq (.seq (.reg F53r11 none)
  (.cond (.s 19)
    (.seq (.reg F53r12 none)
    (.ret))
    (.skip)))
  (.seq (.reg F53r13 none)
  (.ret))))))))⟩
theorem F53_ok : cFunc Tryd.prog 53 = some F53 := by kernel_rfl
theorem F53_call : callable Tryd.prog 53 = true := by kernel_rfl
/-- math/bits.TrailingZeros64 -/
def F54r0 : List AOper := [⟨some 2, .mov (.c (.v (.int .i64 0))), none⟩]
def F54r1 : List AOper := [⟨some 3, .mov (.s 0), none⟩,
  ⟨some 4, .bin false .eql (.s 3) (.c (.v (.int .u64 0))), none⟩]
def F54r2 : List AOper := [⟨some 2, .mov (.c (.v (.int .i64 64))), none⟩]
def F54r3 : List AOper := [⟨some 5, .mov (.s 0), none⟩,
  ⟨some 6, .mov (.s 0), none⟩,
  ⟨some 7, .un .neg (.s 6), none⟩,
  ⟨some 8, .bin false .and (.s 5) (.s 7), none⟩,
  ⟨some 9, .bin false .mul (.s 8) (.c (.v (.int .u64 285870213051353865))), none⟩,
  ⟨some 10, .bin false .shr (.s 9) (.c (.v (.int .u64 58))), none⟩,
  ⟨some 11, .iap 1 64 (.c (.pim [.v (.int .u8 0), .v (.int .u8 1), .v (.int .u8 56), .v (.int .u8 2), .v (.int .u8 57), .v (.int .u8 49), .v (.int .u8 28), .v (.int .u8 3), .v (.int .u8 61), .v (.int .u8 58), .v (.int .u8 42), .v (.int .u8 50), .v (.int .u8 38), .v (.int .u8 29), .v (.int .u8 17), .v (.int .u8 4), .v (.int .u8 62), .v (.int .u8 47), .v (.int .u8 59), .v (.int .u8 36), .v (.int .u8 45), .v (.int .u8 43), .v (.int .u8 51), .v (.int .u8 22), .v (.int .u8 53), .v (.int .u8 39), .v (.int .u8 33), .v (.int .u8 30), .v (.int .u8 24), .v (.int .u8 18), .v (.int .u8 12), .v (.int .u8 5), .v (.int .u8 63), .v (.int .u8 55), .v (.int .u8 48), .v (.int .u8 27), .v (.int .u8 60), .v (.int .u8 41), .v (.int .u8 37), .v (.int .u8 16), .v (.int .u8 46), .v (.int .u8 35), .v (.int .u8 44), .v (.int .u8 21), .v (.int .u8 52), .v (.int .u8 32), .v (.int .u8 23), .v (.int .u8 11), .v (.int .u8 54), .v (.int .u8 26), .v (.int .u8 40), .v (.int .u8 15), .v (.int .u8 34), .v (.int .u8 20), .v (.int .u8 31), .v (.int .u8 10), .v (.int .u8 25), .v (.int .u8 14), .v (.int .u8 19), .v (.int .u8 9), .v (.int .u8 13), .v (.int .u8 8), .v (.int .u8 7), .v (.int .u8 6)] 0)) (.s 10), none⟩,
  ⟨some 12, .load none (.s 11), none⟩,
  ⟨some 13, .conv .i64 (.s 12), none⟩,
  ⟨some 2, .mov (.s 13), none⟩]
def F54 : AFn := ⟨14, [.tmp 2],
  .seq (.reg F54r0 none)
  (.seq (.seq (.reg F54r1 none)
  (.cond (.s 4)
    (.seq (.reg F54r2 none)
    (.ret))
    (.skip)))
  (.seq (.reg F54r3 none)
  (.ret)))⟩
theorem F54_ok : cFunc Tryd.prog 54 = some F54 := by kernel_rfl
theorem F54_call : callable Tryd.prog 54 = true := by kernel_rfl
/-- cmp.isNaN[int] -/
def F55r0 : List AOper := [⟨some 2, .mov (.c (.v (.bool false))), none⟩]
def F55r1 : List AOper := [⟨some 3, .mov (.s 0), none⟩,
  ⟨some 4, .mov (.s 0), none⟩,
  ⟨some 5, .bin false .neq (.s 3) (.s 4), none⟩,
  ⟨some 2, .mov (.s 5), none⟩]
def F55 : AFn := ⟨6, [.tmp 2],
  .seq (.reg F55r0 none)
  (.seq (.reg F55r1 none)
  (.ret))⟩
theorem F55_ok : cFunc Tryd.prog 55 = some F55 := by kernel_rfl
theorem F55_call : callable Tryd.prog 55 = true := by kernel_rfl
end Go.Proofs.YtejilglnpdjepaaDoor
