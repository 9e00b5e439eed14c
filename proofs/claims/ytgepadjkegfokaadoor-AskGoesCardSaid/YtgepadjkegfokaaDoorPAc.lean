/- The code of the program's functions as operations upon abstract values, checked against the program. No condition. -/
import Derived.Test.YtgepadjkegfokaaDoorRows
import Derived.Test.YtgepadjkegfokaaDoorPAvRun
set_option maxRecDepth 100000
namespace Go.Proofs.YtgepadjkegfokaaDoor
/-- supercargolaw.AskGoes -/
def F6r0 : List AOper := [⟨some 3, .box 2 (.s 0), none⟩,
  ⟨some 4, .box 8 (.s 1), none⟩,
  ⟨some 5, .box 6 (.s 2), none⟩,
  ⟨some 6, .mov (.c (.v (.bool false))), none⟩]
def F6r1 : List AOper := [⟨some 14, .load (some 2) (.s 3), none⟩,
  ⟨some 15, .load (some 8) (.s 4), none⟩,
  ⟨some 16, .load (some 6) (.s 5), none⟩,
  ⟨some 17, .call (.c (.fn 8 [])) [.s 14, .s 15, .s 16], none⟩,
  ⟨some 13, .mov (.s 17), none⟩,
  ⟨some 18, .ext 0 (.s 13), none⟩,
  ⟨some 19, .ext 1 (.s 13), none⟩,
  ⟨some 20, .ext 2 (.s 13), none⟩,
  ⟨some 7, .new [.v (.int .i64 0), .v (.int .i64 0), .v (.int .i64 0), .v (.string ⟨#[]⟩), .v (.int .i64 0), .v (.int .i64 0), .v (.string ⟨#[]⟩), .v (.int .u64 0)], none⟩,
  ⟨none, .store 8 (.s 7) (.s 18), none⟩,
  ⟨some 8, .mov (.s 19), none⟩,
  ⟨some 9, .mov (.s 20), none⟩]
def F6r2 : List AOper := [⟨some 21, .call (.c (.fn 12 [])) [], none⟩,
  ⟨some 22, .un .not (.s 21), none⟩]
def F6r3 : List AOper := [⟨some 6, .mov (.c (.v (.bool false))), none⟩]
def F6r4 : List AOper := [⟨some 23, .mov (.s 9), none⟩,
  ⟨some 24, .bin false .neq (.s 23) (.c (.v (.int .i64 0))), none⟩]
def F6r5 : List AOper := [⟨some 25, .mov (.s 8), none⟩,
  ⟨some 26, .len false (.s 25), none⟩,
  ⟨some 27, .bin false .eql (.s 26) (.c (.v (.int .i64 0))), none⟩,
  ⟨some 6, .mov (.s 27), none⟩]
def F6r6 : List AOper := [⟨some 28, .fad 2 (.s 7), none⟩,
  ⟨some 29, .load none (.s 28), none⟩,
  ⟨some 30, .fad 2 (.s 4), none⟩,
  ⟨some 31, .load none (.s 30), none⟩,
  ⟨some 32, .bin false .lss (.s 29) (.s 31), none⟩,
  ⟨some 33, .mov (.s 32), none⟩,
  ⟨some 34, .fad 2 (.s 7), some (33, false)⟩,
  ⟨some 35, .load none (.s 34), some (33, false)⟩,
  ⟨some 36, .fad 2 (.s 4), some (33, false)⟩,
  ⟨some 37, .load none (.s 36), some (33, false)⟩,
  ⟨some 38, .bin false .add (.s 37) (.c (.v (.int .i64 1))), some (33, false)⟩,
  ⟨some 39, .bin false .gtr (.s 35) (.s 38), some (33, false)⟩,
  ⟨some 40, .pick (.s 33) (.c (.v (.bool true))) (.s 39), none⟩,
  ⟨some 41, .mov (.s 40), none⟩,
  ⟨some 42, .fad 4 (.s 7), some (41, false)⟩,
  ⟨some 43, .fad 0 (.s 42), some (41, false)⟩,
  ⟨some 44, .load (some 2) (.s 43), some (41, false)⟩,
  ⟨some 45, .fad 4 (.s 4), some (41, false)⟩,
  ⟨some 46, .fad 0 (.s 45), some (41, false)⟩,
  ⟨some 47, .load (some 2) (.s 46), some (41, false)⟩,
  ⟨some 48, .call (.c (.fn 18 [])) [.s 44, .s 47], some (41, false)⟩,
  ⟨some 49, .pick (.s 41) (.c (.v (.bool true))) (.s 48), none⟩,
  ⟨some 50, .mov (.s 49), none⟩,
  ⟨some 51, .fad 0 (.s 7), some (50, false)⟩,
  ⟨some 52, .load none (.s 51), some (50, false)⟩,
  ⟨some 53, .fad 0 (.s 4), some (50, false)⟩,
  ⟨some 54, .load none (.s 53), some (50, false)⟩,
  ⟨some 55, .bin false .neq (.s 52) (.s 54), some (50, false)⟩,
  ⟨some 56, .pick (.s 50) (.c (.v (.bool true))) (.s 55), none⟩,
  ⟨some 57, .mov (.s 56), none⟩,
  ⟨some 58, .fad 1 (.s 7), some (57, false)⟩,
  ⟨some 59, .load none (.s 58), some (57, false)⟩,
  ⟨some 60, .fad 1 (.s 4), some (57, false)⟩,
  ⟨some 61, .load none (.s 60), some (57, false)⟩,
  ⟨some 62, .bin false .neq (.s 59) (.s 61), some (57, false)⟩,
  ⟨some 63, .pick (.s 57) (.c (.v (.bool true))) (.s 62), none⟩,
  ⟨some 64, .mov (.s 63), none⟩,
  ⟨some 65, .fad 3 (.s 7), some (64, false)⟩,
  ⟨some 66, .load none (.s 65), some (64, false)⟩,
  ⟨some 67, .fad 3 (.s 4), some (64, false)⟩,
  ⟨some 68, .load none (.s 67), some (64, false)⟩,
  ⟨some 69, .bin false .neq (.s 66) (.s 68), some (64, false)⟩,
  ⟨some 70, .pick (.s 64) (.c (.v (.bool true))) (.s 69), none⟩]
def F6r7 : List AOper := [⟨some 6, .mov (.c (.v (.bool false))), none⟩]
def F6r8 : List AOper := [⟨some 71, .fad 2 (.s 7), none⟩,
  ⟨some 72, .load none (.s 71), none⟩,
  ⟨some 73, .fad 2 (.s 4), none⟩,
  ⟨some 74, .load none (.s 73), none⟩,
  ⟨some 75, .bin false .eql (.s 72) (.s 74), none⟩]
def F6r9 : List AOper := [⟨some 76, .mov (.s 8), none⟩,
  ⟨some 77, .len false (.s 76), none⟩,
  ⟨some 78, .bin false .eql (.s 77) (.c (.v (.int .i64 0))), none⟩,
  ⟨some 6, .mov (.s 78), none⟩]
def F6r10 : List AOper := [⟨some 80, .fad 0 (.s 3), none⟩,
  ⟨some 81, .load none (.s 80), none⟩,
  ⟨some 82, .fad 1 (.s 3), none⟩,
  ⟨some 83, .load none (.s 82), none⟩,
  ⟨some 84, .fad 7 (.s 4), none⟩,
  ⟨some 85, .load none (.s 84), none⟩,
  ⟨some 86, .fad 2 (.s 5), none⟩,
  ⟨some 87, .load none (.s 86), none⟩,
  ⟨some 88, .bin false .shl (.c (.v (.int .u64 1))) (.s 87), none⟩,
  ⟨some 89, .bin false .or (.s 85) (.s 88), none⟩,
  ⟨some 90, .call (.c (.fn 19 [])) [.s 81, .s 83, .s 89], none⟩,
  ⟨some 79, .mov (.s 90), none⟩,
  ⟨some 91, .ext 0 (.s 79), none⟩,
  ⟨some 92, .ext 1 (.s 79), none⟩,
  ⟨some 10, .mov (.s 91), none⟩,
  ⟨some 11, .mov (.s 92), none⟩]
def F6r11 : List AOper := [⟨some 93, .mov (.s 11), none⟩,
  ⟨some 94, .bin false .neq (.s 93) (.c (.v (.int .i64 0))), none⟩,
  ⟨some 95, .mov (.s 94), none⟩,
  ⟨some 96, .mov (.s 10), some (95, false)⟩,
  ⟨some 97, .un .not (.s 96), some (95, false)⟩,
  ⟨some 98, .pick (.s 95) (.c (.v (.bool true))) (.s 97), none⟩]
def F6r12 : List AOper := [⟨some 6, .mov (.c (.v (.bool false))), none⟩]
def F6r13 : List AOper := [⟨some 99, .fad 2 (.s 4), none⟩,
  ⟨some 100, .load none (.s 99), none⟩,
  ⟨some 101, .bin false .eql (.s 100) (.c (.v (.int .i64 2))), none⟩]
def F6r14 : List AOper := [⟨some 102, .mov (.s 8), none⟩,
  ⟨some 103, .len false (.s 102), none⟩,
  ⟨some 104, .bin false .eql (.s 103) (.c (.v (.int .i64 0))), none⟩,
  ⟨some 105, .mov (.s 104), none⟩,
  ⟨some 106, .fad 4 (.s 7), some (105, true)⟩,
  ⟨some 107, .load (some 3) (.s 106), some (105, true)⟩,
  ⟨some 108, .fad 4 (.s 4), some (105, true)⟩,
  ⟨some 109, .load (some 3) (.s 108), some (105, true)⟩,
  ⟨some 110, .eqs false 3 [(0, .int), (1, .int), (2, .str)] (.s 107) (.s 109), some (105, true)⟩,
  ⟨some 111, .pick (.s 105) (.s 110) (.c (.v (.bool false))), none⟩,
  ⟨some 6, .mov (.s 111), none⟩]
def F6r15 : List AOper := [⟨some 112, .fad 1 (.s 4), none⟩,
  ⟨some 113, .load none (.s 112), none⟩,
  ⟨some 114, .bin false .eql (.s 113) (.c (.v (.int .i64 2))), none⟩,
  ⟨some 115, .mov (.s 114), none⟩,
  ⟨some 116, .fad 4 (.s 4), some (115, true)⟩,
  ⟨some 117, .fad 0 (.s 116), some (115, true)⟩,
  ⟨some 118, .load (some 2) (.s 117), some (115, true)⟩,
  ⟨some 119, .fad 4 (.s 7), some (115, true)⟩,
  ⟨some 120, .fad 0 (.s 119), some (115, true)⟩,
  ⟨some 121, .load (some 2) (.s 120), some (115, true)⟩,
  ⟨some 122, .call (.c (.fn 18 [])) [.s 118, .s 121], some (115, true)⟩,
  ⟨some 123, .un .not (.s 122), some (115, true)⟩,
  ⟨some 124, .mov (.s 123), some (115, true)⟩,
  ⟨some 125, .fad 3 (.s 5), some (124, false)⟩,
  ⟨some 126, .fad 0 (.s 125), some (124, false)⟩,
  ⟨some 127, .load (some 2) (.s 126), some (124, false)⟩,
  ⟨some 128, .fad 4 (.s 7), some (124, false)⟩,
  ⟨some 129, .fad 0 (.s 128), some (124, false)⟩,
  ⟨some 130, .load (some 2) (.s 129), some (124, false)⟩,
  ⟨some 131, .call (.c (.fn 18 [])) [.s 127, .s 130], some (124, false)⟩,
  ⟨some 132, .un .not (.s 131), some (124, false)⟩,
  ⟨some 133, .pick (.s 124) (.c (.v (.bool true))) (.s 132), some (115, true)⟩,
  ⟨some 134, .mov (.s 133), some (115, true)⟩,
  ⟨some 135, .fad 4 (.s 7), some (134, false)⟩,
  ⟨some 136, .fad 2 (.s 135), some (134, false)⟩,
  ⟨some 137, .load none (.s 136), some (134, false)⟩,
  ⟨some 138, .fad 3 (.s 4), some (134, false)⟩,
  ⟨some 139, .load none (.s 138), some (134, false)⟩,
  ⟨some 140, .bin false .neq (.s 137) (.s 139), some (134, false)⟩,
  ⟨some 141, .pick (.s 134) (.c (.v (.bool true))) (.s 140), some (115, true)⟩,
  ⟨some 142, .mov (.s 141), some (115, true)⟩,
  ⟨some 143, .fad 4 (.s 7), some (142, false)⟩,
  ⟨some 144, .fad 0 (.s 143), some (142, false)⟩,
  ⟨some 145, .fad 1 (.s 144), some (142, false)⟩,
  ⟨some 146, .load none (.s 145), some (142, false)⟩,
  ⟨some 147, .fad 0 (.s 4), some (142, false)⟩,
  ⟨some 148, .load none (.s 147), some (142, false)⟩,
  ⟨some 149, .bin false .neq (.s 146) (.s 148), some (142, false)⟩,
  ⟨some 150, .pick (.s 142) (.c (.v (.bool true))) (.s 149), some (115, true)⟩,
  ⟨some 151, .pick (.s 115) (.s 150) (.c (.v (.bool false))), none⟩]
def F6r16 : List AOper := [⟨some 6, .mov (.c (.v (.bool false))), none⟩]
def F6r17 : List AOper := [⟨some 152, .fad 1 (.s 4), none⟩,
  ⟨some 153, .load none (.s 152), none⟩,
  ⟨some 154, .bin false .eql (.s 153) (.c (.v (.int .i64 1))), none⟩,
  ⟨some 155, .mov (.s 154), none⟩,
  ⟨some 156, .fad 4 (.s 7), some (155, true)⟩,
  ⟨some 157, .load (some 3) (.s 156), some (155, true)⟩,
  ⟨some 158, .fad 4 (.s 4), some (155, true)⟩,
  ⟨some 159, .load (some 3) (.s 158), some (155, true)⟩,
  ⟨some 160, .eqs true 3 [(0, .int), (1, .int), (2, .str)] (.s 157) (.s 159), some (155, true)⟩,
  ⟨some 161, .pick (.s 155) (.s 160) (.c (.v (.bool false))), none⟩,
  ⟨some 162, .mov (.s 161), none⟩,
  ⟨some 163, .fad 4 (.s 7), some (162, true)⟩,
  ⟨some 164, .load (some 3) (.s 163), some (162, true)⟩,
  ⟨some 165, .fad 3 (.s 5), some (162, true)⟩,
  ⟨some 166, .load (some 3) (.s 165), some (162, true)⟩,
  ⟨some 167, .eqs true 3 [(0, .int), (1, .int), (2, .str)] (.s 164) (.s 166), some (162, true)⟩,
  ⟨some 168, .pick (.s 162) (.s 167) (.c (.v (.bool false))), none⟩]
def F6r18 : List AOper := [⟨some 6, .mov (.c (.v (.bool false))), none⟩]
def F6r19 : List AOper := [⟨some 12, .mov (.c (.v (.int .i64 0))), none⟩]
def F6r20 : List AOper := [⟨some 169, .mov (.s 12), none⟩,
  ⟨some 170, .mov (.s 8), none⟩,
  ⟨some 171, .len false (.s 170), none⟩,
  ⟨some 172, .bin false .lss (.s 169) (.s 171), none⟩]
def F6r21 : List AOper := [⟨some 175, .mov (.s 8), none⟩,
  ⟨some 176, .mov (.s 12), none⟩,
  ⟨some 177, .iad 6 (.s 175) (.s 176), none⟩,
  ⟨some 178, .load (some 6) (.s 177), none⟩,
  ⟨some 179, .fad 0 (.s 4), none⟩,
  ⟨some 180, .load none (.s 179), none⟩,
  ⟨some 181, .mov (.s 12), none⟩,
  ⟨some 182, .fad 4 (.s 7), none⟩,
  ⟨some 183, .load (some 3) (.s 182), none⟩,
  ⟨some 184, .agg [.v (.int .i64 0), .v (.int .i64 0), .v (.int .i64 0), .v (.int .i64 0), .v (.int .i64 0), .v (.string ⟨#[]⟩)] [(0, (1, .c (.v (.int .i64 3)))), (1, (1, .s 180)), (2, (1, .s 181)), (3, (3, .s 183))], none⟩,
  ⟨some 185, .eqs true 6 [(0, .int), (1, .int), (2, .int), (3, .int), (4, .int), (5, .str)] (.s 178) (.s 184), none⟩]
def F6r22 : List AOper := [⟨some 6, .mov (.c (.v (.bool false))), none⟩]
def F6r23 : List AOper := [⟨some 173, .mov (.s 12), none⟩,
  ⟨some 174, .bin false .add (.s 173) (.c (.v (.int .i64 1))), none⟩,
  ⟨some 12, .mov (.s 174), none⟩]
def F6r24 : List AOper := [⟨some 186, .mov (.s 8), none⟩,
  ⟨some 187, .len false (.s 186), none⟩,
  ⟨some 188, .fad 0 (.s 3), none⟩,
  ⟨some 189, .load none (.s 188), none⟩,
  ⟨some 190, .len false (.s 189), none⟩,
  ⟨some 191, .bin false .eql (.s 187) (.s 190), none⟩,
  ⟨some 6, .mov (.s 191), none⟩]
def F6 : AFn := ⟨192, [.tmp 6],
  .seq (.reg F6r0 none)
  (.seq (.reg F6r1 none)
  (.seq (.seq (.reg F6r2 none)
  (.cond (.s 22)
    (.seq (.reg F6r3 none)
    (.ret))
    (.skip)))
  (.seq (.seq (.reg F6r4 none)
  (.cond (.s 24)
    (.seq (.reg F6r5 none)
    (.ret))
    (.skip)))
  (.seq (.seq (.reg F6r6 none)
  (.cond (.s 70)
    (.seq (.reg F6r7 none)
    (.ret))
    (.skip)))
  (.seq (.seq (.reg F6r8 none)
  (.cond (.s 75)
    (.seq (.reg F6r9 none)
    (.ret))
    (.skip)))
  (.seq (.reg F6r10 (some [[], [0], [], [2], [], [4], [], [6], [7, 6], [5, 8, 4, 7, 6], [1, 3, 9, 0, 2, 5, 8, 4, 7, 6], [10, 1, 3, 9, 0, 2, 5, 8, 4, 7, 6], [11, 10, 1, 3, 9, 0, 2, 5, 8, 4, 7, 6], [11, 10, 1, 3, 9, 0, 2, 5, 8, 4, 7, 6], [12, 10, 0, 1, 2, 3, 4, 5, 6, 7, 8, 9, 11], [13, 14, 0, 1, 2, 3, 4, 5, 6, 7, 8, 9, 10, 11, 12]]))
  (.seq (.seq (.reg F6r11 none)
  (.cond (.s 98)
    (.seq (.reg F6r12 none)
    (.ret))
    (.skip)))
  (.seq (.seq (.reg F6r13 none)
  (.cond (.s 101)
    (.seq (.reg F6r14 none)
    (.ret))
    (.skip)))
  (.seq (.seq (.reg F6r15 none)
  (.cond (.s 151)
    (.seq (.reg F6r16 none)
    (.ret))
    (.skip)))
  (.seq (.seq (.reg F6r17 none)
  (.cond (.s 168)
    (.seq (.reg F6r18 none)
    (.ret))
    (.skip)))
  (.seq (.seq (.reg F6r19 none)
  (.block 0 (
    .loop (
      .seq (.seq (.reg F6r20 none)
      (.cond (.s 172)
        (.skip)
        (.exit 0)))
      (.seq (.block 1 (
        .seq (.reg F6r21 (some [[], [], [0, 1], [2, 0, 1], [], [4], [], [], [7], [5, 6, 8, 4, 7], [3, 9, 2, 0, 1, 5, 6, 8, 4, 7]]))
        (.cond (.s 185)
          (.seq (.reg F6r22 none)
          (.ret))
          (.skip))))
      (.reg F6r23 none))))))
  (.seq (.reg F6r24 none)
  (.ret)))))))))))))⟩
theorem F6_ok : cFunc Tryd.prog 6 = some F6 := by kernel_rfl
/-- ask.Hear -/
def F8r0 : List AOper := [⟨some 3, .box 2 (.s 0), none⟩,
  ⟨some 4, .box 8 (.s 1), none⟩,
  ⟨some 5, .box 6 (.s 2), none⟩,
  ⟨some 6, .new [.v (.int .i64 0), .v (.int .i64 0), .v (.int .i64 0), .v (.string ⟨#[]⟩), .v (.int .i64 0), .v (.int .i64 0), .v (.string ⟨#[]⟩), .v (.int .u64 0)], none⟩,
  ⟨some 7, .mov (.c .emp), none⟩,
  ⟨some 8, .mov (.c (.v (.int .i64 0))), none⟩]
def F8r1 : List AOper := [⟨some 13, .load (some 2) (.s 3), none⟩,
  ⟨some 14, .load (some 8) (.s 4), none⟩,
  ⟨some 15, .call (.c (.fn 13 [])) [.s 13, .s 14], none⟩,
  ⟨some 9, .mov (.s 15), none⟩]
def F8r2 : List AOper := [⟨some 16, .mov (.s 9), none⟩,
  ⟨some 17, .bin false .eql (.s 16) (.c (.v (.int .i64 0))), none⟩]
def F8r3 : List AOper := [⟨some 18, .load (some 6) (.s 5), none⟩,
  ⟨some 19, .call (.c (.fn 20 [])) [.s 18], none⟩,
  ⟨some 9, .mov (.s 19), none⟩]
def F8r4 : List AOper := [⟨some 20, .mov (.s 9), none⟩,
  ⟨some 21, .bin false .neq (.s 20) (.c (.v (.int .i64 0))), none⟩]
def F8r5 : List AOper := [⟨some 22, .agg [.v (.int .i64 0), .v (.int .i64 0), .v (.int .i64 0), .v (.string ⟨#[]⟩), .v (.int .i64 0), .v (.int .i64 0), .v (.string ⟨#[]⟩), .v (.int .u64 0)] [], none⟩,
  ⟨some 23, .mov (.s 9), none⟩,
  ⟨none, .store 8 (.s 6) (.s 22), none⟩,
  ⟨some 7, .mov (.c .emp), none⟩,
  ⟨some 8, .mov (.s 23), none⟩]
def F8r6 : List AOper := [⟨some 24, .load (some 8) (.s 4), none⟩,
  ⟨some 25, .load (some 2) (.s 3), none⟩,
  ⟨some 26, .agg [.v (.int .i64 0), .v (.int .i64 0), .v (.int .i64 0), .v (.string ⟨#[]⟩), .v (.int .i64 0), .v (.int .i64 0), .v (.string ⟨#[]⟩), .v (.int .u64 0), .emp, .v (.int .i64 0)] [(0, (8, .s 24)), (8, (2, .s 25))], none⟩,
  ⟨some 27, .box 10 (.s 26), none⟩,
  ⟨some 10, .mov (.s 27), none⟩]
def F8r7 : List AOper := [⟨some 29, .mov (.s 10), none⟩,
  ⟨some 30, .load (some 6) (.s 5), none⟩,
  ⟨some 31, .call (.c (.fn 21 [])) [.s 29, .s 30], none⟩,
  ⟨some 28, .mov (.s 31), none⟩,
  ⟨some 32, .ext 0 (.s 28), none⟩,
  ⟨some 33, .ext 1 (.s 28), none⟩,
  ⟨some 11, .mov (.s 32), none⟩,
  ⟨some 12, .mov (.s 33), none⟩]
def F8r8 : List AOper := [⟨some 34, .mov (.s 12), none⟩,
  ⟨some 35, .un .not (.s 34), none⟩]
def F8r9 : List AOper := [⟨some 36, .load (some 8) (.s 4), none⟩,
  ⟨none, .store 8 (.s 6) (.s 36), none⟩,
  ⟨some 7, .mov (.c .emp), none⟩,
  ⟨some 8, .mov (.c (.v (.int .i64 0))), none⟩]
def F8r10 : List AOper := [⟨some 37, .mov (.s 10), none⟩,
  ⟨some 38, .nilc (.s 37), none⟩,
  ⟨some 39, .fad 0 (.s 38), none⟩,
  ⟨some 40, .load (some 8) (.s 39), none⟩,
  ⟨some 41, .mov (.s 11), none⟩,
  ⟨none, .store 8 (.s 6) (.s 40), none⟩,
  ⟨some 7, .mov (.s 41), none⟩,
  ⟨some 8, .mov (.c (.v (.int .i64 0))), none⟩]
def F8 : AFn := ⟨42, [.cell 6 (some 8), .tmp 7, .tmp 8],
  .seq (.reg F8r0 none)
  (.seq (.reg F8r1 none)
  (.seq (.seq (.reg F8r2 none)
  (.cond (.s 17)
    (.reg F8r3 none)
    (.skip)))
  (.seq (.seq (.reg F8r4 none)
  (.cond (.s 21)
    (.seq (.reg F8r5 none)
    (.ret))
    (.skip)))
  (.seq (.reg F8r6 none)
  (.seq (.reg F8r7 none)
  (.seq (.seq (.reg F8r8 none)
  (.cond (.s 35)
    (.seq (.reg F8r9 none)
    (.ret))
    (.skip)))
  (.seq (.reg F8r10 none)
  (.ret))))))))⟩
theorem F8_ok : cFunc Tryd.prog 8 = some F8 := by kernel_rfl
theorem F8_call : callable Tryd.prog 8 = true := by kernel_rfl
/-- ask.Begin -/
def F9r0 : List AOper := [⟨some 4, .box 2 (.s 0), none⟩,
  ⟨some 8, .new [.v (.int .i64 0), .v (.int .i64 0), .v (.int .i64 0), .v (.string ⟨#[]⟩), .v (.int .i64 0), .v (.int .i64 0), .v (.string ⟨#[]⟩), .v (.int .u64 0)], none⟩,
  ⟨some 9, .mov (.c .emp), none⟩,
  ⟨some 10, .mov (.c (.v (.int .i64 0))), none⟩]
def F9r1 : List AOper := [⟨some 13, .mov (.s 1), none⟩,
  ⟨some 14, .mov (.s 2), none⟩,
  ⟨some 15, .mov (.s 3), none⟩,
  ⟨some 16, .agg [.v (.int .i64 0), .v (.int .i64 0), .v (.int .i64 0), .v (.string ⟨#[]⟩), .v (.int .i64 0), .v (.int .i64 0), .v (.string ⟨#[]⟩), .v (.int .u64 0)] [(0, (1, .s 13)), (1, (1, .s 14)), (2, (1, .c (.v (.int .i64 1)))), (3, (1, .s 15))], none⟩,
  ⟨some 11, .new [.v (.int .i64 0), .v (.int .i64 0), .v (.int .i64 0), .v (.string ⟨#[]⟩), .v (.int .i64 0), .v (.int .i64 0), .v (.string ⟨#[]⟩), .v (.int .u64 0)], none⟩,
  ⟨none, .store 8 (.s 11) (.s 16), none⟩]
def F9r2 : List AOper := [⟨some 17, .load (some 2) (.s 4), none⟩,
  ⟨some 18, .load (some 8) (.s 11), none⟩,
  ⟨some 19, .call (.c (.fn 13 [])) [.s 17, .s 18], none⟩,
  ⟨some 12, .mov (.s 19), none⟩]
def F9r3 : List AOper := [⟨some 20, .mov (.s 12), none⟩,
  ⟨some 21, .bin false .neq (.s 20) (.c (.v (.int .i64 0))), none⟩]
def F9r4 : List AOper := [⟨some 22, .agg [.v (.int .i64 0), .v (.int .i64 0), .v (.int .i64 0), .v (.string ⟨#[]⟩), .v (.int .i64 0), .v (.int .i64 0), .v (.string ⟨#[]⟩), .v (.int .u64 0)] [], none⟩,
  ⟨some 23, .mov (.s 12), none⟩,
  ⟨none, .store 8 (.s 8) (.s 22), none⟩,
  ⟨some 9, .mov (.c .emp), none⟩,
  ⟨some 10, .mov (.s 23), none⟩]
def F9r5 : List AOper := [⟨some 24, .load (some 8) (.s 11), none⟩,
  ⟨some 25, .load (some 2) (.s 4), none⟩,
  ⟨some 26, .mov (.s 1), none⟩,
  ⟨some 27, .agg [.v (.int .i64 0), .v (.int .i64 0), .v (.int .i64 0), .v (.int .i64 0), .v (.int .i64 0), .v (.string ⟨#[]⟩)] [(0, (1, .c (.v (.int .i64 1)))), (1, (1, .s 26))], none⟩,
  ⟨some 28, .call (.c (.fn 22 [])) [.s 25, .s 27], none⟩,
  ⟨none, .store 8 (.s 8) (.s 24), none⟩,
  ⟨some 9, .mov (.s 28), none⟩,
  ⟨some 10, .mov (.c (.v (.int .i64 0))), none⟩]
def F9 : AFn := ⟨29, [.cell 8 (some 8), .tmp 9, .tmp 10],
  .seq (.reg F9r0 none)
  (.seq (.reg F9r1 none)
  (.seq (.seq (.reg F9r2 none)
  (.seq (.reg F9r3 none)
  (.cond (.s 21)
    (.seq (.reg F9r4 none)
    (.ret))
    (.skip))))
  (.seq (.reg F9r5 (some [[], [], [], [2], [1, 3, 2], [0, 4, 1, 3, 2], [4, 5, 0, 1, 2, 3], [6, 0, 1, 2, 3, 4, 5]]))
  (.ret))))⟩
theorem F9_ok : cFunc Tryd.prog 9 = some F9 := by kernel_rfl
theorem F9_call : callable Tryd.prog 9 = true := by kernel_rfl
/-- supercargolaw.askBegun -/
def F12r0 : List AOper := [⟨some 0, .mov (.c (.v (.bool false))), none⟩]
def F12r1 : List AOper := [⟨some 23, .call (.c (.fn 29 [])) [], none⟩,
  ⟨some 24, .call (.c (.fn 9 [])) [.s 23, .c (.v (.int .i64 5)), .c (.v (.int .i64 2)), .c (.v (.string ⟨#[110, 101, 119]⟩))], none⟩,
  ⟨some 22, .mov (.s 24), none⟩,
  ⟨some 25, .ext 0 (.s 22), none⟩,
  ⟨some 26, .ext 1 (.s 22), none⟩,
  ⟨some 27, .ext 2 (.s 22), none⟩,
  ⟨some 1, .new [.v (.int .i64 0), .v (.int .i64 0), .v (.int .i64 0), .v (.string ⟨#[]⟩), .v (.int .i64 0), .v (.int .i64 0), .v (.string ⟨#[]⟩), .v (.int .u64 0)], none⟩,
  ⟨none, .store 8 (.s 1) (.s 25), none⟩,
  ⟨some 2, .mov (.s 26), none⟩,
  ⟨some 3, .mov (.s 27), none⟩]
def F12r2 : List AOper := [⟨some 29, .call (.c (.fn 29 [])) [], none⟩,
  ⟨some 30, .load (some 8) (.s 1), none⟩,
  ⟨some 31, .call (.c (.fn 31 [])) [.c (.v (.int .i64 3)), .c (.v (.int .i64 2)), .c (.v (.string ⟨#[111, 108, 100]⟩))], none⟩,
  ⟨some 32, .call (.c (.fn 30 [])) [.c (.v (.int .i64 5)), .c (.v (.int .i64 1)), .s 31], none⟩,
  ⟨some 33, .call (.c (.fn 8 [])) [.s 29, .s 30, .s 32], none⟩,
  ⟨some 28, .mov (.s 33), none⟩,
  ⟨some 34, .ext 0 (.s 28), none⟩,
  ⟨some 35, .ext 1 (.s 28), none⟩,
  ⟨some 36, .ext 2 (.s 28), none⟩,
  ⟨some 4, .new [.v (.int .i64 0), .v (.int .i64 0), .v (.int .i64 0), .v (.string ⟨#[]⟩), .v (.int .i64 0), .v (.int .i64 0), .v (.string ⟨#[]⟩), .v (.int .u64 0)], none⟩,
  ⟨none, .store 8 (.s 4) (.s 34), none⟩,
  ⟨some 5, .mov (.s 35), none⟩,
  ⟨some 6, .mov (.s 36), none⟩]
def F12r3 : List AOper := [⟨some 38, .call (.c (.fn 29 [])) [], none⟩,
  ⟨some 39, .load (some 8) (.s 4), none⟩,
  ⟨some 40, .call (.c (.fn 31 [])) [.c (.v (.int .i64 9)), .c (.v (.int .i64 2)), .c (.v (.string ⟨#[120]⟩))], none⟩,
  ⟨some 41, .call (.c (.fn 30 [])) [.c (.v (.int .i64 5)), .c (.v (.int .i64 1)), .s 40], none⟩,
  ⟨some 42, .call (.c (.fn 8 [])) [.s 38, .s 39, .s 41], none⟩,
  ⟨some 37, .mov (.s 42), none⟩,
  ⟨some 43, .ext 0 (.s 37), none⟩,
  ⟨some 44, .ext 1 (.s 37), none⟩,
  ⟨some 45, .ext 2 (.s 37), none⟩,
  ⟨some 7, .new [.v (.int .i64 0), .v (.int .i64 0), .v (.int .i64 0), .v (.string ⟨#[]⟩), .v (.int .i64 0), .v (.int .i64 0), .v (.string ⟨#[]⟩), .v (.int .u64 0)], none⟩,
  ⟨none, .store 8 (.s 7) (.s 43), none⟩,
  ⟨some 8, .mov (.s 44), none⟩,
  ⟨some 9, .mov (.s 45), none⟩]
def F12r4 : List AOper := [⟨some 47, .call (.c (.fn 29 [])) [], none⟩,
  ⟨some 48, .load (some 8) (.s 4), none⟩,
  ⟨some 49, .agg [.v (.int .i64 0), .v (.int .i64 0), .v (.string ⟨#[]⟩)] [], none⟩,
  ⟨some 50, .call (.c (.fn 30 [])) [.c (.v (.int .i64 5)), .c (.v (.int .i64 2)), .s 49], none⟩,
  ⟨some 51, .call (.c (.fn 8 [])) [.s 47, .s 48, .s 50], none⟩,
  ⟨some 46, .mov (.s 51), none⟩,
  ⟨some 52, .ext 0 (.s 46), none⟩,
  ⟨some 53, .ext 1 (.s 46), none⟩,
  ⟨some 54, .ext 2 (.s 46), none⟩,
  ⟨some 10, .new [.v (.int .i64 0), .v (.int .i64 0), .v (.int .i64 0), .v (.string ⟨#[]⟩), .v (.int .i64 0), .v (.int .i64 0), .v (.string ⟨#[]⟩), .v (.int .u64 0)], none⟩,
  ⟨none, .store 8 (.s 10) (.s 52), none⟩,
  ⟨some 11, .mov (.s 53), none⟩,
  ⟨some 12, .mov (.s 54), none⟩]
def F12r5 : List AOper := [⟨some 56, .call (.c (.fn 29 [])) [], none⟩,
  ⟨some 57, .load (some 8) (.s 10), none⟩,
  ⟨some 58, .agg [.v (.int .i64 0), .v (.int .i64 0), .v (.int .i64 0), .v (.int .i64 0), .v (.int .i64 0), .v (.string ⟨#[]⟩)] [(0, (1, .c (.v (.int .i64 4)))), (1, (1, .c (.v (.int .i64 5)))), (2, (1, .c (.v (.int .i64 0))))], none⟩,
  ⟨some 59, .call (.c (.fn 8 [])) [.s 56, .s 57, .s 58], none⟩,
  ⟨some 55, .mov (.s 59), none⟩,
  ⟨some 60, .ext 0 (.s 55), none⟩,
  ⟨some 61, .ext 1 (.s 55), none⟩,
  ⟨some 62, .ext 2 (.s 55), none⟩,
  ⟨some 13, .new [.v (.int .i64 0), .v (.int .i64 0), .v (.int .i64 0), .v (.string ⟨#[]⟩), .v (.int .i64 0), .v (.int .i64 0), .v (.string ⟨#[]⟩), .v (.int .u64 0)], none⟩,
  ⟨none, .store 8 (.s 13) (.s 60), none⟩,
  ⟨some 14, .mov (.s 61), none⟩,
  ⟨some 15, .mov (.s 62), none⟩]
def F12r6 : List AOper := [⟨some 64, .call (.c (.fn 29 [])) [], none⟩,
  ⟨some 65, .load (some 8) (.s 13), none⟩,
  ⟨some 66, .agg [.v (.int .i64 0), .v (.int .i64 0), .v (.int .i64 0), .v (.int .i64 0), .v (.int .i64 0), .v (.string ⟨#[]⟩)] [(0, (1, .c (.v (.int .i64 4)))), (1, (1, .c (.v (.int .i64 5)))), (2, (1, .c (.v (.int .i64 2))))], none⟩,
  ⟨some 67, .call (.c (.fn 8 [])) [.s 64, .s 65, .s 66], none⟩,
  ⟨some 63, .mov (.s 67), none⟩,
  ⟨some 68, .ext 0 (.s 63), none⟩,
  ⟨some 69, .ext 1 (.s 63), none⟩,
  ⟨some 70, .ext 2 (.s 63), none⟩,
  ⟨some 16, .new [.v (.int .i64 0), .v (.int .i64 0), .v (.int .i64 0), .v (.string ⟨#[]⟩), .v (.int .i64 0), .v (.int .i64 0), .v (.string ⟨#[]⟩), .v (.int .u64 0)], none⟩,
  ⟨none, .store 8 (.s 16) (.s 68), none⟩,
  ⟨some 17, .mov (.s 69), none⟩,
  ⟨some 18, .mov (.s 70), none⟩]
def F12r7 : List AOper := [⟨some 72, .call (.c (.fn 31 [])) [.c (.v (.int .i64 1)), .c (.v (.int .i64 1)), .c (.v (.string ⟨#[97]⟩))], none⟩,
  ⟨some 73, .call (.c (.fn 31 [])) [.c (.v (.int .i64 4)), .c (.v (.int .i64 5)), .c (.v (.string ⟨#[110, 101, 119]⟩))], none⟩,
  ⟨some 74, .agg [.v (.int .i64 0), .v (.int .i64 0), .v (.int .i64 0), .v (.int .i64 0), .v (.int .i64 0), .v (.string ⟨#[]⟩)] [(0, (1, .c (.v (.int .i64 3)))), (1, (1, .c (.v (.int .i64 5)))), (2, (1, .c (.v (.int .i64 2)))), (3, (3, .s 73))], none⟩,
  ⟨some 75, .call (.c (.fn 16 [])) [.s 72, .s 74], none⟩,
  ⟨some 71, .mov (.s 75), none⟩,
  ⟨some 76, .ext 0 (.s 71), none⟩,
  ⟨some 77, .ext 1 (.s 71), none⟩,
  ⟨some 78, .ext 2 (.s 71), none⟩,
  ⟨some 19, .new [.v (.int .i64 0), .v (.int .i64 0), .v (.string ⟨#[]⟩)], none⟩,
  ⟨none, .store 3 (.s 19) (.s 76), none⟩,
  ⟨some 20, .mov (.s 77), none⟩,
  ⟨some 21, .mov (.s 78), none⟩]
def F12r8 : List AOper := [⟨some 79, .mov (.s 3), none⟩,
  ⟨some 80, .bin false .eql (.s 79) (.c (.v (.int .i64 0))), none⟩,
  ⟨some 81, .mov (.s 80), none⟩,
  ⟨some 82, .mov (.s 2), some (81, true)⟩,
  ⟨some 83, .len false (.s 82), some (81, true)⟩,
  ⟨some 84, .bin false .eql (.s 83) (.c (.v (.int .i64 3))), some (81, true)⟩,
  ⟨some 85, .pick (.s 81) (.s 84) (.c (.v (.bool false))), none⟩,
  ⟨some 86, .mov (.s 85), none⟩,
  ⟨some 87, .mov (.s 6), some (86, true)⟩,
  ⟨some 88, .bin false .eql (.s 87) (.c (.v (.int .i64 0))), some (86, true)⟩,
  ⟨some 89, .pick (.s 86) (.s 88) (.c (.v (.bool false))), none⟩,
  ⟨some 90, .mov (.s 89), none⟩,
  ⟨some 91, .mov (.s 5), some (90, true)⟩,
  ⟨some 92, .len false (.s 91), some (90, true)⟩,
  ⟨some 93, .bin false .eql (.s 92) (.c (.v (.int .i64 0))), some (90, true)⟩,
  ⟨some 94, .pick (.s 90) (.s 93) (.c (.v (.bool false))), none⟩,
  ⟨some 95, .mov (.s 94), none⟩,
  ⟨some 96, .mov (.s 9), some (95, true)⟩,
  ⟨some 97, .bin false .eql (.s 96) (.c (.v (.int .i64 0))), some (95, true)⟩,
  ⟨some 98, .pick (.s 95) (.s 97) (.c (.v (.bool false))), none⟩,
  ⟨some 99, .mov (.s 98), none⟩,
  ⟨some 100, .load (some 8) (.s 7), some (99, true)⟩,
  ⟨some 101, .load (some 8) (.s 4), some (99, true)⟩,
  ⟨some 102, .eqs false 8 [(0, .int), (1, .int), (2, .int), (3, .str), (4, .int), (5, .int), (6, .str), (7, .int)] (.s 100) (.s 101), some (99, true)⟩,
  ⟨some 103, .pick (.s 99) (.s 102) (.c (.v (.bool false))), none⟩,
  ⟨some 104, .mov (.s 103), none⟩,
  ⟨some 105, .mov (.s 12), some (104, true)⟩,
  ⟨some 106, .bin false .eql (.s 105) (.c (.v (.int .i64 0))), some (104, true)⟩,
  ⟨some 107, .pick (.s 104) (.s 106) (.c (.v (.bool false))), none⟩,
  ⟨some 108, .mov (.s 107), none⟩,
  ⟨some 109, .fad 4 (.s 10), some (108, true)⟩,
  ⟨some 110, .load (some 3) (.s 109), some (108, true)⟩,
  ⟨some 111, .call (.c (.fn 31 [])) [.c (.v (.int .i64 4)), .c (.v (.int .i64 5)), .c (.v (.string ⟨#[110, 101, 119]⟩))], some (108, true)⟩,
  ⟨some 112, .eqs false 3 [(0, .int), (1, .int), (2, .str)] (.s 110) (.s 111), some (108, true)⟩,
  ⟨some 113, .pick (.s 108) (.s 112) (.c (.v (.bool false))), none⟩,
  ⟨some 114, .mov (.s 113), none⟩,
  ⟨some 115, .mov (.s 11), some (114, true)⟩,
  ⟨some 116, .len false (.s 115), some (114, true)⟩,
  ⟨some 117, .bin false .eql (.s 116) (.c (.v (.int .i64 3))), some (114, true)⟩,
  ⟨some 118, .pick (.s 114) (.s 117) (.c (.v (.bool false))), none⟩,
  ⟨some 119, .mov (.s 118), none⟩,
  ⟨some 120, .mov (.s 11), some (119, true)⟩,
  ⟨some 121, .iad 6 (.s 120) (.c (.v (.int .i64 2))), some (119, true)⟩,
  ⟨some 122, .fad 3 (.s 121), some (119, true)⟩,
  ⟨some 123, .load (some 3) (.s 122), some (119, true)⟩,
  ⟨some 124, .fad 4 (.s 10), some (119, true)⟩,
  ⟨some 125, .load (some 3) (.s 124), some (119, true)⟩,
  ⟨some 126, .eqs false 3 [(0, .int), (1, .int), (2, .str)] (.s 123) (.s 125), some (119, true)⟩,
  ⟨some 127, .pick (.s 119) (.s 126) (.c (.v (.bool false))), none⟩,
  ⟨some 128, .mov (.s 127), none⟩,
  ⟨some 129, .mov (.s 15), some (128, true)⟩,
  ⟨some 130, .bin false .eql (.s 129) (.c (.v (.int .i64 0))), some (128, true)⟩,
  ⟨some 131, .pick (.s 128) (.s 130) (.c (.v (.bool false))), none⟩,
  ⟨some 132, .mov (.s 131), none⟩,
  ⟨some 133, .fad 2 (.s 13), some (132, true)⟩,
  ⟨some 134, .load none (.s 133), some (132, true)⟩,
  ⟨some 135, .bin false .eql (.s 134) (.c (.v (.int .i64 2))), some (132, true)⟩,
  ⟨some 136, .pick (.s 132) (.s 135) (.c (.v (.bool false))), none⟩,
  ⟨some 137, .mov (.s 136), none⟩,
  ⟨some 138, .mov (.s 18), some (137, true)⟩,
  ⟨some 139, .bin false .eql (.s 138) (.c (.v (.int .i64 0))), some (137, true)⟩,
  ⟨some 140, .pick (.s 137) (.s 139) (.c (.v (.bool false))), none⟩,
  ⟨some 141, .mov (.s 140), none⟩,
  ⟨some 142, .fad 2 (.s 16), some (141, true)⟩,
  ⟨some 143, .load none (.s 142), some (141, true)⟩,
  ⟨some 144, .bin false .eql (.s 143) (.c (.v (.int .i64 3))), some (141, true)⟩,
  ⟨some 145, .pick (.s 141) (.s 144) (.c (.v (.bool false))), none⟩,
  ⟨some 146, .mov (.s 145), none⟩,
  ⟨some 147, .mov (.s 21), some (146, true)⟩,
  ⟨some 148, .bin false .eql (.s 147) (.c (.v (.int .i64 0))), some (146, true)⟩,
  ⟨some 149, .pick (.s 146) (.s 148) (.c (.v (.bool false))), none⟩,
  ⟨some 150, .mov (.s 149), none⟩,
  ⟨some 151, .load (some 3) (.s 19), some (150, true)⟩,
  ⟨some 152, .fad 4 (.s 10), some (150, true)⟩,
  ⟨some 153, .load (some 3) (.s 152), some (150, true)⟩,
  ⟨some 154, .eqs false 3 [(0, .int), (1, .int), (2, .str)] (.s 151) (.s 153), some (150, true)⟩,
  ⟨some 155, .pick (.s 150) (.s 154) (.c (.v (.bool false))), none⟩,
  ⟨some 156, .mov (.s 155), none⟩,
  ⟨some 157, .mov (.s 20), some (156, true)⟩,
  ⟨some 158, .len false (.s 157), some (156, true)⟩,
  ⟨some 159, .bin false .eql (.s 158) (.c (.v (.int .i64 1))), some (156, true)⟩,
  ⟨some 160, .pick (.s 156) (.s 159) (.c (.v (.bool false))), none⟩,
  ⟨some 161, .mov (.s 160), none⟩,
  ⟨some 162, .mov (.s 20), some (161, true)⟩,
  ⟨some 163, .iad 6 (.s 162) (.c (.v (.int .i64 0))), some (161, true)⟩,
  ⟨some 164, .load (some 6) (.s 163), some (161, true)⟩,
  ⟨some 165, .agg [.v (.int .i64 0), .v (.int .i64 0), .v (.int .i64 0), .v (.int .i64 0), .v (.int .i64 0), .v (.string ⟨#[]⟩)] [(0, (1, .c (.v (.int .i64 4)))), (1, (1, .c (.v (.int .i64 5)))), (2, (1, .c (.v (.int .i64 2))))], some (161, true)⟩,
  ⟨some 166, .eqs false 6 [(0, .int), (1, .int), (2, .int), (3, .int), (4, .int), (5, .str)] (.s 164) (.s 165), some (161, true)⟩,
  ⟨some 167, .pick (.s 161) (.s 166) (.c (.v (.bool false))), none⟩,
  ⟨some 0, .mov (.s 167), none⟩]
def F12 : AFn := ⟨168, [.tmp 0],
  .seq (.reg F12r0 none)
  (.seq (.reg F12r1 none)
  (.seq (.reg F12r2 (some [[], [], [0], [2, 0], [0, 1, 3, 2], [4, 0, 1, 3, 2], [5, 4, 0, 1, 3, 2], [5, 4, 0, 1, 3, 2], [5, 4, 0, 1, 3, 2], [], [9, 6, 4, 0, 1, 2, 3, 5], [7, 10, 0, 1, 2, 3, 4, 5, 6, 9], [8, 11, 0, 1, 2, 3, 4, 5, 6, 7, 9, 10]]))
  (.seq (.reg F12r3 (some [[], [], [0], [2, 0], [0, 1, 3, 2], [4, 0, 1, 3, 2], [5, 4, 0, 1, 3, 2], [5, 4, 0, 1, 3, 2], [5, 4, 0, 1, 3, 2], [], [9, 6, 4, 0, 1, 2, 3, 5], [7, 10, 0, 1, 2, 3, 4, 5, 6, 9], [8, 11, 0, 1, 2, 3, 4, 5, 6, 7, 9, 10]]))
  (.seq (.reg F12r4 (some [[], [], [], [2, 0], [0, 1, 3, 2], [4, 0, 1, 3, 2], [5, 4, 0, 1, 3, 2], [5, 4, 0, 1, 3, 2], [5, 4, 0, 1, 3, 2], [], [9, 6, 4, 0, 1, 2, 3, 5], [7, 10, 0, 1, 2, 3, 4, 5, 6, 9], [8, 11, 0, 1, 2, 3, 4, 5, 6, 7, 9, 10]]))
  (.seq (.reg F12r5 (some [[], [], [], [0, 1, 2], [3, 0, 1, 2], [4, 3, 0, 1, 2], [4, 3, 0, 1, 2], [4, 3, 0, 1, 2], [], [8, 5, 3, 0, 1, 2, 4], [6, 9, 0, 1, 2, 3, 4, 5, 8], [7, 10, 0, 1, 2, 3, 4, 5, 6, 8, 9]]))
  (.seq (.reg F12r6 (some [[], [], [], [0, 1, 2], [3, 0, 1, 2], [4, 3, 0, 1, 2], [4, 3, 0, 1, 2], [4, 3, 0, 1, 2], [], [8, 5, 3, 0, 1, 2, 4], [6, 9, 0, 1, 2, 3, 4, 5, 8], [7, 10, 0, 1, 2, 3, 4, 5, 6, 8, 9]]))
  (.seq (.reg F12r7 none)
  (.seq (.reg F12r8 (some [[], [0], [1, 0], [2, 1, 0], [3, 2, 1, 0], [4, 2, 3, 1, 0], [2, 5, 1, 0, 4, 3], [6, 2, 5, 1, 0, 4, 3], [7, 6, 2, 5, 1, 0, 4, 3], [8, 7, 6, 2, 5, 1, 0, 4, 3], [7, 9, 6, 2, 5, 1, 0, 4, 3, 8], [10, 7, 9, 6, 2, 5, 1, 0, 4, 3, 8], [11, 10, 7, 9, 6, 2, 5, 1, 0, 4, 3, 8], [12, 11, 10, 7, 9, 6, 2, 5, 1, 0, 4, 3, 8], [13, 11, 12, 10, 7, 9, 6, 2, 5, 1, 0, 4, 3, 8], [11, 14, 10, 7, 9, 6, 2, 5, 1, 0, 4, 3, 8, 13, 12], [15, 11, 14, 10, 7, 9, 6, 2, 5, 1, 0, 4, 3, 8, 13, 12], [16, 15, 11, 14, 10, 7, 9, 6, 2, 5, 1, 0, 4, 3, 8, 13, 12], [17, 16, 15, 11, 14, 10, 7, 9, 6, 2, 5, 1, 0, 4, 3, 8, 13, 12], [16, 18, 15, 11, 14, 10, 7, 9, 6, 2, 5, 1, 0, 4, 3, 8, 13, 12, 17], [19, 16, 18, 15, 11, 14, 10, 7, 9, 6, 2, 5, 1, 0, 4, 3, 8, 13, 12, 17], [20, 19, 16, 18, 15, 11, 14, 10, 7, 9, 6, 2, 5, 1, 0, 4, 3, 8, 13, 12, 17], [20, 19, 16, 18, 15, 11, 14, 10, 7, 9, 6, 2, 5, 1, 0, 4, 3, 8, 13, 12, 17], [21, 22, 20, 19, 16, 18, 15, 11, 14, 10, 7, 9, 6, 2, 5, 1, 0, 4, 3, 8, 13, 12, 17], [20, 23, 19, 16, 18, 15, 11, 14, 10, 7, 9, 6, 2, 5, 1, 0, 4, 3, 8, 13, 12, 17, 21, 22], [24, 20, 23, 19, 16, 18, 15, 11, 14, 10, 7, 9, 6, 2, 5, 1, 0, 4, 3, 8, 13, 12, 17, 21, 22], [25, 24, 20, 23, 19, 16, 18, 15, 11, 14, 10, 7, 9, 6, 2, 5, 1, 0, 4, 3, 8, 13, 12, 17, 21, 22], [26, 25, 24, 20, 23, 19, 16, 18, 15, 11, 14, 10, 7, 9, 6, 2, 5, 1, 0, 4, 3, 8, 13, 12, 17, 21, 22], [25, 27, 24, 20, 23, 19, 16, 18, 15, 11, 14, 10, 7, 9, 6, 2, 5, 1, 0, 4, 3, 8, 13, 12, 17, 21, 22, 26], [28, 25, 27, 24, 20, 23, 19, 16, 18, 15, 11, 14, 10, 7, 9, 6, 2, 5, 1, 0, 4, 3, 8, 13, 12, 17, 21, 22, 26], [29, 28, 25, 27, 24, 20, 23, 19, 16, 18, 15, 11, 14, 10, 7, 9, 6, 2, 5, 1, 0, 4, 3, 8, 13, 12, 17, 21, 22, 26], [30, 29, 28, 25, 27, 24, 20, 23, 19, 16, 18, 15, 11, 14, 10, 7, 9, 6, 2, 5, 1, 0, 4, 3, 8, 13, 12, 17, 21, 22, 26], [29, 28, 25, 27, 24, 20, 23, 19, 16, 18, 15, 11, 14, 10, 7, 9, 6, 2, 5, 1, 0, 4, 3, 8, 13, 12, 17, 21, 22, 26], [31, 32, 29, 30, 28, 25, 27, 24, 20, 23, 19, 16, 18, 15, 11, 14, 10, 7, 9, 6, 2, 5, 1, 0, 4, 3, 8, 13, 12, 17, 21, 22, 26], [29, 33, 28, 25, 27, 24, 20, 23, 19, 16, 18, 15, 11, 14, 10, 7, 9, 6, 2, 5, 1, 0, 4, 3, 8, 13, 12, 17, 21, 22, 26, 31, 32, 30], [34, 32, 29, 33, 28, 25, 27, 24, 20, 23, 19, 16, 18, 15, 11, 14, 10, 7, 9, 6, 2, 5, 1, 0, 4, 3, 8, 13, 12, 17, 21, 22, 26, 31, 30], [35, 34, 32, 29, 33, 28, 25, 27, 24, 20, 23, 19, 16, 18, 15, 11, 14, 10, 7, 9, 6, 2, 5, 1, 0, 4, 3, 8, 13, 12, 17, 21, 22, 26, 31, 30], [36, 35, 34, 32, 29, 33, 28, 25, 27, 24, 20, 23, 19, 16, 18, 15, 11, 14, 10, 7, 9, 6, 2, 5, 1, 0, 4, 3, 8, 13, 12, 17, 21, 22, 26, 31, 30], [37, 35, 36, 34, 32, 29, 33, 28, 25, 27, 24, 20, 23, 19, 16, 18, 15, 11, 14, 10, 7, 9, 6, 2, 5, 1, 0, 4, 3, 8, 13, 12, 17, 21, 22, 26, 31, 30], [35, 38, 34, 32, 29, 33, 28, 25, 27, 24, 20, 23, 19, 16, 18, 15, 11, 14, 10, 7, 9, 6, 2, 5, 1, 0, 4, 3, 8, 13, 12, 17, 21, 22, 26, 31, 30, 37, 36], [39, 35, 38, 34, 32, 29, 33, 28, 25, 27, 24, 20, 23, 19, 16, 18, 15, 11, 14, 10, 7, 9, 6, 2, 5, 1, 0, 4, 3, 8, 13, 12, 17, 21, 22, 26, 31, 30, 37, 36], [40, 39, 35, 38, 34, 32, 29, 33, 28, 25, 27, 24, 20, 23, 19, 16, 18, 15, 11, 14, 10, 7, 9, 6, 2, 5, 1, 0, 4, 3, 8, 13, 12, 17, 21, 22, 26, 31, 30, 37, 36], [41, 40, 39, 35, 38, 34, 32, 29, 33, 28, 25, 27, 24, 20, 23, 19, 16, 18, 15, 11, 14, 10, 7, 9, 6, 2, 5, 1, 0, 4, 3, 8, 13, 12, 17, 21, 22, 26, 31, 30, 37, 36], [42, 40, 41, 39, 35, 38, 34, 32, 29, 33, 28, 25, 27, 24, 20, 23, 19, 16, 18, 15, 11, 14, 10, 7, 9, 6, 2, 5, 1, 0, 4, 3, 8, 13, 12, 17, 21, 22, 26, 31, 30, 37, 36], [43, 40, 42, 41, 39, 35, 38, 34, 32, 29, 33, 28, 25, 27, 24, 20, 23, 19, 16, 18, 15, 11, 14, 10, 7, 9, 6, 2, 5, 1, 0, 4, 3, 8, 13, 12, 17, 21, 22, 26, 31, 30, 37, 36], [40, 39, 35, 38, 34, 32, 29, 33, 28, 25, 27, 24, 20, 23, 19, 16, 18, 15, 11, 14, 10, 7, 9, 6, 2, 5, 1, 0, 4, 3, 8, 13, 12, 17, 21, 22, 26, 31, 30, 37, 36], [45, 40, 39, 35, 38, 34, 32, 29, 33, 28, 25, 27, 24, 20, 23, 19, 16, 18, 15, 11, 14, 10, 7, 9, 6, 2, 5, 1, 0, 4, 3, 8, 13, 12, 17, 21, 22, 26, 31, 30, 37, 36], [44, 46, 40, 43, 42, 41, 39, 35, 38, 34, 32, 29, 33, 28, 25, 27, 24, 20, 23, 19, 16, 18, 15, 11, 14, 10, 7, 9, 6, 2, 5, 1, 0, 4, 3, 8, 13, 12, 17, 21, 22, 26, 31, 30, 37, 36, 45], [40, 47, 39, 35, 38, 34, 32, 29, 33, 28, 25, 27, 24, 20, 23, 19, 16, 18, 15, 11, 14, 10, 7, 9, 6, 2, 5, 1, 0, 4, 3, 8, 13, 12, 17, 21, 22, 26, 31, 30, 37, 36, 44, 46, 43, 42, 41, 45], [48, 40, 47, 39, 35, 38, 34, 32, 29, 33, 28, 25, 27, 24, 20, 23, 19, 16, 18, 15, 11, 14, 10, 7, 9, 6, 2, 5, 1, 0, 4, 3, 8, 13, 12, 17, 21, 22, 26, 31, 30, 37, 36, 44, 46, 43, 42, 41, 45], [49, 48, 40, 47, 39, 35, 38, 34, 32, 29, 33, 28, 25, 27, 24, 20, 23, 19, 16, 18, 15, 11, 14, 10, 7, 9, 6, 2, 5, 1, 0, 4, 3, 8, 13, 12, 17, 21, 22, 26, 31, 30, 37, 36, 44, 46, 43, 42, 41, 45], [50, 49, 48, 40, 47, 39, 35, 38, 34, 32, 29, 33, 28, 25, 27, 24, 20, 23, 19, 16, 18, 15, 11, 14, 10, 7, 9, 6, 2, 5, 1, 0, 4, 3, 8, 13, 12, 17, 21, 22, 26, 31, 30, 37, 36, 44, 46, 43, 42, 41, 45], [49, 51, 48, 40, 47, 39, 35, 38, 34, 32, 29, 33, 28, 25, 27, 24, 20, 23, 19, 16, 18, 15, 11, 14, 10, 7, 9, 6, 2, 5, 1, 0, 4, 3, 8, 13, 12, 17, 21, 22, 26, 31, 30, 37, 36, 44, 46, 43, 42, 41, 45, 50], [52, 49, 51, 48, 40, 47, 39, 35, 38, 34, 32, 29, 33, 28, 25, 27, 24, 20, 23, 19, 16, 18, 15, 11, 14, 10, 7, 9, 6, 2, 5, 1, 0, 4, 3, 8, 13, 12, 17, 21, 22, 26, 31, 30, 37, 36, 44, 46, 43, 42, 41, 45, 50], [53, 52, 49, 51, 48, 40, 47, 39, 35, 38, 34, 32, 29, 33, 28, 25, 27, 24, 20, 23, 19, 16, 18, 15, 11, 14, 10, 7, 9, 6, 2, 5, 1, 0, 4, 3, 8, 13, 12, 17, 21, 22, 26, 31, 30, 37, 36, 44, 46, 43, 42, 41, 45, 50], [54, 53, 52, 49, 51, 48, 40, 47, 39, 35, 38, 34, 32, 29, 33, 28, 25, 27, 24, 20, 23, 19, 16, 18, 15, 11, 14, 10, 7, 9, 6, 2, 5, 1, 0, 4, 3, 8, 13, 12, 17, 21, 22, 26, 31, 30, 37, 36, 44, 46, 43, 42, 41, 45, 50], [55, 53, 54, 52, 49, 51, 48, 40, 47, 39, 35, 38, 34, 32, 29, 33, 28, 25, 27, 24, 20, 23, 19, 16, 18, 15, 11, 14, 10, 7, 9, 6, 2, 5, 1, 0, 4, 3, 8, 13, 12, 17, 21, 22, 26, 31, 30, 37, 36, 44, 46, 43, 42, 41, 45, 50], [53, 56, 52, 49, 51, 48, 40, 47, 39, 35, 38, 34, 32, 29, 33, 28, 25, 27, 24, 20, 23, 19, 16, 18, 15, 11, 14, 10, 7, 9, 6, 2, 5, 1, 0, 4, 3, 8, 13, 12, 17, 21, 22, 26, 31, 30, 37, 36, 44, 46, 43, 42, 41, 45, 50, 55, 54], [57, 53, 56, 52, 49, 51, 48, 40, 47, 39, 35, 38, 34, 32, 29, 33, 28, 25, 27, 24, 20, 23, 19, 16, 18, 15, 11, 14, 10, 7, 9, 6, 2, 5, 1, 0, 4, 3, 8, 13, 12, 17, 21, 22, 26, 31, 30, 37, 36, 44, 46, 43, 42, 41, 45, 50, 55, 54], [58, 57, 53, 56, 52, 49, 51, 48, 40, 47, 39, 35, 38, 34, 32, 29, 33, 28, 25, 27, 24, 20, 23, 19, 16, 18, 15, 11, 14, 10, 7, 9, 6, 2, 5, 1, 0, 4, 3, 8, 13, 12, 17, 21, 22, 26, 31, 30, 37, 36, 44, 46, 43, 42, 41, 45, 50, 55, 54], [59, 58, 57, 53, 56, 52, 49, 51, 48, 40, 47, 39, 35, 38, 34, 32, 29, 33, 28, 25, 27, 24, 20, 23, 19, 16, 18, 15, 11, 14, 10, 7, 9, 6, 2, 5, 1, 0, 4, 3, 8, 13, 12, 17, 21, 22, 26, 31, 30, 37, 36, 44, 46, 43, 42, 41, 45, 50, 55, 54], [58, 60, 57, 53, 56, 52, 49, 51, 48, 40, 47, 39, 35, 38, 34, 32, 29, 33, 28, 25, 27, 24, 20, 23, 19, 16, 18, 15, 11, 14, 10, 7, 9, 6, 2, 5, 1, 0, 4, 3, 8, 13, 12, 17, 21, 22, 26, 31, 30, 37, 36, 44, 46, 43, 42, 41, 45, 50, 55, 54, 59], [61, 58, 60, 57, 53, 56, 52, 49, 51, 48, 40, 47, 39, 35, 38, 34, 32, 29, 33, 28, 25, 27, 24, 20, 23, 19, 16, 18, 15, 11, 14, 10, 7, 9, 6, 2, 5, 1, 0, 4, 3, 8, 13, 12, 17, 21, 22, 26, 31, 30, 37, 36, 44, 46, 43, 42, 41, 45, 50, 55, 54, 59], [62, 61, 58, 60, 57, 53, 56, 52, 49, 51, 48, 40, 47, 39, 35, 38, 34, 32, 29, 33, 28, 25, 27, 24, 20, 23, 19, 16, 18, 15, 11, 14, 10, 7, 9, 6, 2, 5, 1, 0, 4, 3, 8, 13, 12, 17, 21, 22, 26, 31, 30, 37, 36, 44, 46, 43, 42, 41, 45, 50, 55, 54, 59], [63, 62, 61, 58, 60, 57, 53, 56, 52, 49, 51, 48, 40, 47, 39, 35, 38, 34, 32, 29, 33, 28, 25, 27, 24, 20, 23, 19, 16, 18, 15, 11, 14, 10, 7, 9, 6, 2, 5, 1, 0, 4, 3, 8, 13, 12, 17, 21, 22, 26, 31, 30, 37, 36, 44, 46, 43, 42, 41, 45, 50, 55, 54, 59], [64, 62, 63, 61, 58, 60, 57, 53, 56, 52, 49, 51, 48, 40, 47, 39, 35, 38, 34, 32, 29, 33, 28, 25, 27, 24, 20, 23, 19, 16, 18, 15, 11, 14, 10, 7, 9, 6, 2, 5, 1, 0, 4, 3, 8, 13, 12, 17, 21, 22, 26, 31, 30, 37, 36, 44, 46, 43, 42, 41, 45, 50, 55, 54, 59], [62, 65, 61, 58, 60, 57, 53, 56, 52, 49, 51, 48, 40, 47, 39, 35, 38, 34, 32, 29, 33, 28, 25, 27, 24, 20, 23, 19, 16, 18, 15, 11, 14, 10, 7, 9, 6, 2, 5, 1, 0, 4, 3, 8, 13, 12, 17, 21, 22, 26, 31, 30, 37, 36, 44, 46, 43, 42, 41, 45, 50, 55, 54, 59, 64, 63], [66, 62, 65, 61, 58, 60, 57, 53, 56, 52, 49, 51, 48, 40, 47, 39, 35, 38, 34, 32, 29, 33, 28, 25, 27, 24, 20, 23, 19, 16, 18, 15, 11, 14, 10, 7, 9, 6, 2, 5, 1, 0, 4, 3, 8, 13, 12, 17, 21, 22, 26, 31, 30, 37, 36, 44, 46, 43, 42, 41, 45, 50, 55, 54, 59, 64, 63], [67, 66, 62, 65, 61, 58, 60, 57, 53, 56, 52, 49, 51, 48, 40, 47, 39, 35, 38, 34, 32, 29, 33, 28, 25, 27, 24, 20, 23, 19, 16, 18, 15, 11, 14, 10, 7, 9, 6, 2, 5, 1, 0, 4, 3, 8, 13, 12, 17, 21, 22, 26, 31, 30, 37, 36, 44, 46, 43, 42, 41, 45, 50, 55, 54, 59, 64, 63], [68, 67, 66, 62, 65, 61, 58, 60, 57, 53, 56, 52, 49, 51, 48, 40, 47, 39, 35, 38, 34, 32, 29, 33, 28, 25, 27, 24, 20, 23, 19, 16, 18, 15, 11, 14, 10, 7, 9, 6, 2, 5, 1, 0, 4, 3, 8, 13, 12, 17, 21, 22, 26, 31, 30, 37, 36, 44, 46, 43, 42, 41, 45, 50, 55, 54, 59, 64, 63], [67, 69, 66, 62, 65, 61, 58, 60, 57, 53, 56, 52, 49, 51, 48, 40, 47, 39, 35, 38, 34, 32, 29, 33, 28, 25, 27, 24, 20, 23, 19, 16, 18, 15, 11, 14, 10, 7, 9, 6, 2, 5, 1, 0, 4, 3, 8, 13, 12, 17, 21, 22, 26, 31, 30, 37, 36, 44, 46, 43, 42, 41, 45, 50, 55, 54, 59, 64, 63, 68], [70, 67, 69, 66, 62, 65, 61, 58, 60, 57, 53, 56, 52, 49, 51, 48, 40, 47, 39, 35, 38, 34, 32, 29, 33, 28, 25, 27, 24, 20, 23, 19, 16, 18, 15, 11, 14, 10, 7, 9, 6, 2, 5, 1, 0, 4, 3, 8, 13, 12, 17, 21, 22, 26, 31, 30, 37, 36, 44, 46, 43, 42, 41, 45, 50, 55, 54, 59, 64, 63, 68], [71, 70, 67, 69, 66, 62, 65, 61, 58, 60, 57, 53, 56, 52, 49, 51, 48, 40, 47, 39, 35, 38, 34, 32, 29, 33, 28, 25, 27, 24, 20, 23, 19, 16, 18, 15, 11, 14, 10, 7, 9, 6, 2, 5, 1, 0, 4, 3, 8, 13, 12, 17, 21, 22, 26, 31, 30, 37, 36, 44, 46, 43, 42, 41, 45, 50, 55, 54, 59, 64, 63, 68], [71, 70, 67, 69, 66, 62, 65, 61, 58, 60, 57, 53, 56, 52, 49, 51, 48, 40, 47, 39, 35, 38, 34, 32, 29, 33, 28, 25, 27, 24, 20, 23, 19, 16, 18, 15, 11, 14, 10, 7, 9, 6, 2, 5, 1, 0, 4, 3, 8, 13, 12, 17, 21, 22, 26, 31, 30, 37, 36, 44, 46, 43, 42, 41, 45, 50, 55, 54, 59, 64, 63, 68], [73, 71, 70, 67, 69, 66, 62, 65, 61, 58, 60, 57, 53, 56, 52, 49, 51, 48, 40, 47, 39, 35, 38, 34, 32, 29, 33, 28, 25, 27, 24, 20, 23, 19, 16, 18, 15, 11, 14, 10, 7, 9, 6, 2, 5, 1, 0, 4, 3, 8, 13, 12, 17, 21, 22, 26, 31, 30, 37, 36, 44, 46, 43, 42, 41, 45, 50, 55, 54, 59, 64, 63, 68], [72, 74, 71, 70, 67, 69, 66, 62, 65, 61, 58, 60, 57, 53, 56, 52, 49, 51, 48, 40, 47, 39, 35, 38, 34, 32, 29, 33, 28, 25, 27, 24, 20, 23, 19, 16, 18, 15, 11, 14, 10, 7, 9, 6, 2, 5, 1, 0, 4, 3, 8, 13, 12, 17, 21, 22, 26, 31, 30, 37, 36, 44, 46, 43, 42, 41, 45, 50, 55, 54, 59, 64, 63, 68, 73], [71, 75, 70, 67, 69, 66, 62, 65, 61, 58, 60, 57, 53, 56, 52, 49, 51, 48, 40, 47, 39, 35, 38, 34, 32, 29, 33, 28, 25, 27, 24, 20, 23, 19, 16, 18, 15, 11, 14, 10, 7, 9, 6, 2, 5, 1, 0, 4, 3, 8, 13, 12, 17, 21, 22, 26, 31, 30, 37, 36, 44, 46, 43, 42, 41, 45, 50, 55, 54, 59, 64, 63, 68, 72, 74, 73], [76, 71, 75, 70, 67, 69, 66, 62, 65, 61, 58, 60, 57, 53, 56, 52, 49, 51, 48, 40, 47, 39, 35, 38, 34, 32, 29, 33, 28, 25, 27, 24, 20, 23, 19, 16, 18, 15, 11, 14, 10, 7, 9, 6, 2, 5, 1, 0, 4, 3, 8, 13, 12, 17, 21, 22, 26, 31, 30, 37, 36, 44, 46, 43, 42, 41, 45, 50, 55, 54, 59, 64, 63, 68, 72, 74, 73], [77, 76, 71, 75, 70, 67, 69, 66, 62, 65, 61, 58, 60, 57, 53, 56, 52, 49, 51, 48, 40, 47, 39, 35, 38, 34, 32, 29, 33, 28, 25, 27, 24, 20, 23, 19, 16, 18, 15, 11, 14, 10, 7, 9, 6, 2, 5, 1, 0, 4, 3, 8, 13, 12, 17, 21, 22, 26, 31, 30, 37, 36, 44, 46, 43, 42, 41, 45, 50, 55, 54, 59, 64, 63, 68, 72, 74, 73], [78, 77, 76, 71, 75, 70, 67, 69, 66, 62, 65, 61, 58, 60, 57, 53, 56, 52, 49, 51, 48, 40, 47, 39, 35, 38, 34, 32, 29, 33, 28, 25, 27, 24, 20, 23, 19, 16, 18, 15, 11, 14, 10, 7, 9, 6, 2, 5, 1, 0, 4, 3, 8, 13, 12, 17, 21, 22, 26, 31, 30, 37, 36, 44, 46, 43, 42, 41, 45, 50, 55, 54, 59, 64, 63, 68, 72, 74, 73], [79, 77, 78, 76, 71, 75, 70, 67, 69, 66, 62, 65, 61, 58, 60, 57, 53, 56, 52, 49, 51, 48, 40, 47, 39, 35, 38, 34, 32, 29, 33, 28, 25, 27, 24, 20, 23, 19, 16, 18, 15, 11, 14, 10, 7, 9, 6, 2, 5, 1, 0, 4, 3, 8, 13, 12, 17, 21, 22, 26, 31, 30, 37, 36, 44, 46, 43, 42, 41, 45, 50, 55, 54, 59, 64, 63, 68, 72, 74, 73], [77, 80, 76, 71, 75, 70, 67, 69, 66, 62, 65, 61, 58, 60, 57, 53, 56, 52, 49, 51, 48, 40, 47, 39, 35, 38, 34, 32, 29, 33, 28, 25, 27, 24, 20, 23, 19, 16, 18, 15, 11, 14, 10, 7, 9, 6, 2, 5, 1, 0, 4, 3, 8, 13, 12, 17, 21, 22, 26, 31, 30, 37, 36, 44, 46, 43, 42, 41, 45, 50, 55, 54, 59, 64, 63, 68, 72, 74, 73, 79, 78], [81, 77, 80, 76, 71, 75, 70, 67, 69, 66, 62, 65, 61, 58, 60, 57, 53, 56, 52, 49, 51, 48, 40, 47, 39, 35, 38, 34, 32, 29, 33, 28, 25, 27, 24, 20, 23, 19, 16, 18, 15, 11, 14, 10, 7, 9, 6, 2, 5, 1, 0, 4, 3, 8, 13, 12, 17, 21, 22, 26, 31, 30, 37, 36, 44, 46, 43, 42, 41, 45, 50, 55, 54, 59, 64, 63, 68, 72, 74, 73, 79, 78], [82, 81, 77, 80, 76, 71, 75, 70, 67, 69, 66, 62, 65, 61, 58, 60, 57, 53, 56, 52, 49, 51, 48, 40, 47, 39, 35, 38, 34, 32, 29, 33, 28, 25, 27, 24, 20, 23, 19, 16, 18, 15, 11, 14, 10, 7, 9, 6, 2, 5, 1, 0, 4, 3, 8, 13, 12, 17, 21, 22, 26, 31, 30, 37, 36, 44, 46, 43, 42, 41, 45, 50, 55, 54, 59, 64, 63, 68, 72, 74, 73, 79, 78], [83, 82, 81, 77, 80, 76, 71, 75, 70, 67, 69, 66, 62, 65, 61, 58, 60, 57, 53, 56, 52, 49, 51, 48, 40, 47, 39, 35, 38, 34, 32, 29, 33, 28, 25, 27, 24, 20, 23, 19, 16, 18, 15, 11, 14, 10, 7, 9, 6, 2, 5, 1, 0, 4, 3, 8, 13, 12, 17, 21, 22, 26, 31, 30, 37, 36, 44, 46, 43, 42, 41, 45, 50, 55, 54, 59, 64, 63, 68, 72, 74, 73, 79, 78], [84, 82, 83, 81, 77, 80, 76, 71, 75, 70, 67, 69, 66, 62, 65, 61, 58, 60, 57, 53, 56, 52, 49, 51, 48, 40, 47, 39, 35, 38, 34, 32, 29, 33, 28, 25, 27, 24, 20, 23, 19, 16, 18, 15, 11, 14, 10, 7, 9, 6, 2, 5, 1, 0, 4, 3, 8, 13, 12, 17, 21, 22, 26, 31, 30, 37, 36, 44, 46, 43, 42, 41, 45, 50, 55, 54, 59, 64, 63, 68, 72, 74, 73, 79, 78], [82, 81, 77, 80, 76, 71, 75, 70, 67, 69, 66, 62, 65, 61, 58, 60, 57, 53, 56, 52, 49, 51, 48, 40, 47, 39, 35, 38, 34, 32, 29, 33, 28, 25, 27, 24, 20, 23, 19, 16, 18, 15, 11, 14, 10, 7, 9, 6, 2, 5, 1, 0, 4, 3, 8, 13, 12, 17, 21, 22, 26, 31, 30, 37, 36, 44, 46, 43, 42, 41, 45, 50, 55, 54, 59, 64, 63, 68, 72, 74, 73, 79, 78], [85, 86, 82, 84, 83, 81, 77, 80, 76, 71, 75, 70, 67, 69, 66, 62, 65, 61, 58, 60, 57, 53, 56, 52, 49, 51, 48, 40, 47, 39, 35, 38, 34, 32, 29, 33, 28, 25, 27, 24, 20, 23, 19, 16, 18, 15, 11, 14, 10, 7, 9, 6, 2, 5, 1, 0, 4, 3, 8, 13, 12, 17, 21, 22, 26, 31, 30, 37, 36, 44, 46, 43, 42, 41, 45, 50, 55, 54, 59, 64, 63, 68, 72, 74, 73, 79, 78], [82, 87, 81, 77, 80, 76, 71, 75, 70, 67, 69, 66, 62, 65, 61, 58, 60, 57, 53, 56, 52, 49, 51, 48, 40, 47, 39, 35, 38, 34, 32, 29, 33, 28, 25, 27, 24, 20, 23, 19, 16, 18, 15, 11, 14, 10, 7, 9, 6, 2, 5, 1, 0, 4, 3, 8, 13, 12, 17, 21, 22, 26, 31, 30, 37, 36, 44, 46, 43, 42, 41, 45, 50, 55, 54, 59, 64, 63, 68, 72, 74, 73, 79, 78, 85, 86, 84, 83], [88, 82, 0, 1, 2, 3, 4, 5, 6, 7, 8, 9, 10, 11, 12, 13, 14, 15, 16, 17, 18, 19, 20, 21, 22, 23, 24, 25, 26, 27, 28, 29, 30, 31, 32, 33, 34, 35, 36, 37, 38, 39, 40, 41, 42, 43, 44, 45, 46, 47, 48, 49, 50, 51, 52, 53, 54, 55, 56, 57, 58, 59, 60, 61, 62, 63, 64, 65, 66, 67, 68, 69, 70, 71, 72, 73, 74, 75, 76, 77, 78, 79, 80, 81, 83, 84, 85, 86, 87]]))
  (.ret)))))))))⟩
theorem F12_ok : cFunc Tryd.prog 12 = some F12 := by kernel_rfl
theorem F12_call : callable Tryd.prog 12 = true := by kernel_rfl
/-- ask.Check -/
def F13r0 : List AOper := [⟨some 2, .box 2 (.s 0), none⟩,
  ⟨some 3, .box 8 (.s 1), none⟩,
  ⟨some 4, .mov (.c (.v (.int .i64 0))), none⟩]
def F13r1 : List AOper := [⟨some 7, .fad 0 (.s 2), none⟩,
  ⟨some 8, .load none (.s 7), none⟩,
  ⟨some 9, .fad 1 (.s 2), none⟩,
  ⟨some 10, .load none (.s 9), none⟩,
  ⟨some 11, .call (.c (.fn 32 [])) [.s 8, .s 10], none⟩,
  ⟨some 5, .mov (.s 11), none⟩]
def F13r2 : List AOper := [⟨some 12, .mov (.s 5), none⟩,
  ⟨some 13, .bin false .neq (.s 12) (.c (.v (.int .i64 0))), none⟩]
def F13r3 : List AOper := [⟨some 14, .mov (.s 5), none⟩,
  ⟨some 4, .mov (.s 14), none⟩]
def F13r4 : List AOper := [⟨some 16, .fad 0 (.s 3), none⟩,
  ⟨some 17, .load none (.s 16), none⟩,
  ⟨some 18, .call (.c (.fn 33 [])) [.s 17, .c (.v (.int .i64 0)), .c (.v (.int .i64 30))], none⟩,
  ⟨some 19, .un .not (.s 18), none⟩,
  ⟨some 15, .mov (.s 19), none⟩]
def F13r5 : List AOper := [⟨some 4, .mov (.c (.v (.int .i64 3))), none⟩]
def F13r6 : List AOper := [⟨some 21, .fad 1 (.s 3), none⟩,
  ⟨some 22, .load none (.s 21), none⟩,
  ⟨some 23, .call (.c (.fn 33 [])) [.s 22, .c (.v (.int .i64 1)), .c (.v (.int .i64 2))], none⟩,
  ⟨some 24, .un .not (.s 23), none⟩,
  ⟨some 20, .mov (.s 24), none⟩]
def F13r7 : List AOper := [⟨some 25, .fad 2 (.s 3), none⟩,
  ⟨some 26, .load none (.s 25), none⟩,
  ⟨some 27, .call (.c (.fn 33 [])) [.s 26, .c (.v (.int .i64 1)), .c (.v (.int .i64 3))], none⟩,
  ⟨some 28, .un .not (.s 27), none⟩,
  ⟨some 20, .mov (.s 28), none⟩]
def F13r8 : List AOper := [⟨some 4, .mov (.c (.v (.int .i64 7))), none⟩]
def F13r9 : List AOper := [⟨some 30, .fad 3 (.s 3), none⟩,
  ⟨some 31, .load none (.s 30), none⟩,
  ⟨some 32, .len true (.s 31), none⟩,
  ⟨some 33, .bin false .gtr (.s 32) (.c (.v (.int .i64 64))), none⟩,
  ⟨some 29, .mov (.s 33), none⟩]
def F13r10 : List AOper := [⟨some 4, .mov (.c (.v (.int .i64 2))), none⟩]
def F13r11 : List AOper := [⟨some 35, .fad 1 (.s 3), none⟩,
  ⟨some 36, .load none (.s 35), none⟩,
  ⟨some 37, .bin false .eql (.s 36) (.c (.v (.int .i64 1))), none⟩,
  ⟨some 38, .mov (.s 37), none⟩,
  ⟨some 39, .fad 3 (.s 3), some (38, true)⟩,
  ⟨some 40, .load none (.s 39), some (38, true)⟩,
  ⟨some 41, .bin false .neq (.s 40) (.c (.v (.string ⟨#[]⟩))), some (38, true)⟩,
  ⟨some 42, .pick (.s 38) (.s 41) (.c (.v (.bool false))), none⟩,
  ⟨some 34, .mov (.s 42), none⟩]
def F13r12 : List AOper := [⟨some 4, .mov (.c (.v (.int .i64 1))), none⟩]
def F13r13 : List AOper := [⟨some 43, .fad 4 (.s 3), none⟩,
  ⟨some 44, .load (some 3) (.s 43), none⟩,
  ⟨some 45, .call (.c (.fn 34 [])) [.s 44], none⟩,
  ⟨some 6, .mov (.s 45), none⟩]
def F13r14 : List AOper := [⟨some 46, .mov (.s 6), none⟩,
  ⟨some 47, .bin false .eql (.s 46) (.c (.v (.int .i64 0))), none⟩,
  ⟨some 48, .mov (.s 47), none⟩,
  ⟨some 49, .fad 7 (.s 3), some (48, true)⟩,
  ⟨some 50, .load none (.s 49), some (48, true)⟩,
  ⟨some 51, .call (.c (.fn 35 [])) [.s 50], some (48, true)⟩,
  ⟨some 52, .fad 0 (.s 2), some (48, true)⟩,
  ⟨some 53, .load none (.s 52), some (48, true)⟩,
  ⟨some 54, .len false (.s 53), some (48, true)⟩,
  ⟨some 55, .bin false .gtr (.s 51) (.s 54), some (48, true)⟩,
  ⟨some 56, .pick (.s 48) (.s 55) (.c (.v (.bool false))), none⟩]
def F13r15 : List AOper := [⟨some 6, .mov (.c (.v (.int .i64 3))), none⟩]
def F13r16 : List AOper := [⟨some 57, .mov (.s 6), none⟩,
  ⟨some 4, .mov (.s 57), none⟩]
def F13 : AFn := ⟨58, [.tmp 4],
  .seq (.reg F13r0 none)
  (.seq (.seq (.reg F13r1 none)
  (.seq (.reg F13r2 none)
  (.cond (.s 13)
    (.seq (.reg F13r3 none)
    (.ret))
    (.skip))))
  (.seq (.block 0 (
    .seq (.reg F13r4 none)
    (.cond (.s 15)
      (.seq (.reg F13r5 none)
      (.ret))
      (.seq (.seq (.reg F13r6 none)
      (.cond (.s 20)
        (.skip)
        (.reg F13r7 none)))
      (.cond (.s 20)
        (.seq (.reg F13r8 none)
        (.ret))
        (.seq (.reg F13r9 none)
        (.cond (.s 29)
          (.seq (.reg F13r10 none)
          (.ret))
          (.seq (.reg F13r11 none)
          (.cond (.s 34)
            (.seq (.reg F13r12 none)
            (.ret))
            (.skip))))))))))
  (.seq (.reg F13r13 none)
  (.seq (.seq (.reg F13r14 (some [[], [0], [1, 0], [2, 1, 0], [3, 2, 1, 0], [4, 2, 3, 1, 0], [2, 1, 0], [6, 2, 1, 0], [7, 2, 6, 1, 0], [5, 8, 2, 4, 3, 1, 0, 7, 6], [2, 9, 1, 0, 5, 8, 4, 3, 7, 6]]))
  (.cond (.s 56)
    (.reg F13r15 none)
    (.skip)))
  (.seq (.reg F13r16 none)
  (.ret))))))⟩
theorem F13_ok : cFunc Tryd.prog 13 = some F13 := by kernel_rfl
theorem F13_call : callable Tryd.prog 13 = true := by kernel_rfl
/-- ask.Serve -/
def F16r0 : List AOper := [⟨some 2, .box 3 (.s 0), none⟩,
  ⟨some 3, .box 6 (.s 1), none⟩,
  ⟨some 4, .new [.v (.int .i64 0), .v (.int .i64 0), .v (.string ⟨#[]⟩)], none⟩,
  ⟨some 5, .mov (.c .emp), none⟩,
  ⟨some 6, .mov (.c (.v (.int .i64 0))), none⟩]
def F16r1 : List AOper := [⟨some 8, .load (some 3) (.s 2), none⟩,
  ⟨some 9, .call (.c (.fn 34 [])) [.s 8], none⟩,
  ⟨some 7, .mov (.s 9), none⟩]
def F16r2 : List AOper := [⟨some 10, .mov (.s 7), none⟩,
  ⟨some 11, .bin false .eql (.s 10) (.c (.v (.int .i64 0))), none⟩]
def F16r3 : List AOper := [⟨some 12, .load (some 6) (.s 3), none⟩,
  ⟨some 13, .call (.c (.fn 20 [])) [.s 12], none⟩,
  ⟨some 7, .mov (.s 13), none⟩]
def F16r4 : List AOper := [⟨some 14, .mov (.s 7), none⟩,
  ⟨some 15, .bin false .neq (.s 14) (.c (.v (.int .i64 0))), none⟩]
def F16r5 : List AOper := [⟨some 16, .agg [.v (.int .i64 0), .v (.int .i64 0), .v (.string ⟨#[]⟩)] [], none⟩,
  ⟨some 17, .mov (.s 7), none⟩,
  ⟨none, .store 3 (.s 4) (.s 16), none⟩,
  ⟨some 5, .mov (.c .emp), none⟩,
  ⟨some 6, .mov (.s 17), none⟩]
def F16r6 : List AOper := [⟨some 18, .fad 0 (.s 3), none⟩,
  ⟨some 19, .load none (.s 18), none⟩]
def F16r7 : List AOper := [⟨some 21, .bin false .eql (.s 19) (.c (.v (.int .i64 1))), none⟩,
  ⟨some 20, .mov (.s 21), none⟩]
def F16r8 : List AOper := [⟨some 22, .load (some 3) (.s 2), none⟩,
  ⟨some 23, .fad 1 (.s 3), none⟩,
  ⟨some 24, .load none (.s 23), none⟩,
  ⟨some 25, .fad 2 (.s 3), none⟩,
  ⟨some 26, .load none (.s 25), none⟩,
  ⟨some 27, .load (some 3) (.s 2), none⟩,
  ⟨some 28, .agg [.v (.int .i64 0), .v (.int .i64 0), .v (.int .i64 0), .v (.int .i64 0), .v (.int .i64 0), .v (.string ⟨#[]⟩)] [(0, (1, .c (.v (.int .i64 2)))), (1, (1, .s 24)), (2, (1, .s 26)), (3, (3, .s 27))], none⟩,
  ⟨some 29, .bsl 6 1 [.v (.int .i64 0), .v (.int .i64 0), .v (.int .i64 0), .v (.int .i64 0), .v (.int .i64 0), .v (.string ⟨#[]⟩)] [(0, .s 28)], none⟩,
  ⟨none, .store 3 (.s 4) (.s 22), none⟩,
  ⟨some 5, .mov (.s 29), none⟩,
  ⟨some 6, .mov (.c (.v (.int .i64 0))), none⟩]
def F16r9 : List AOper := [⟨some 31, .bin false .eql (.s 19) (.c (.v (.int .i64 3))), none⟩,
  ⟨some 30, .mov (.s 31), none⟩]
def F16r10 : List AOper := [⟨some 32, .load (some 3) (.s 2), none⟩,
  ⟨some 33, .fad 3 (.s 3), none⟩,
  ⟨some 34, .load (some 3) (.s 33), none⟩,
  ⟨some 35, .call (.c (.fn 38 [])) [.s 32, .s 34], none⟩,
  ⟨some 36, .fad 1 (.s 3), none⟩,
  ⟨some 37, .load none (.s 36), none⟩,
  ⟨some 38, .fad 2 (.s 3), none⟩,
  ⟨some 39, .load none (.s 38), none⟩,
  ⟨some 40, .agg [.v (.int .i64 0), .v (.int .i64 0), .v (.int .i64 0), .v (.int .i64 0), .v (.int .i64 0), .v (.string ⟨#[]⟩)] [(0, (1, .c (.v (.int .i64 4)))), (1, (1, .s 37)), (2, (1, .s 39))], none⟩,
  ⟨some 41, .bsl 6 1 [.v (.int .i64 0), .v (.int .i64 0), .v (.int .i64 0), .v (.int .i64 0), .v (.int .i64 0), .v (.string ⟨#[]⟩)] [(0, .s 40)], none⟩,
  ⟨none, .store 3 (.s 4) (.s 35), none⟩,
  ⟨some 5, .mov (.s 41), none⟩,
  ⟨some 6, .mov (.c (.v (.int .i64 0))), none⟩]
def F16r11 : List AOper := [⟨some 42, .load (some 3) (.s 2), none⟩,
  ⟨none, .store 3 (.s 4) (.s 42), none⟩,
  ⟨some 5, .mov (.c .emp), none⟩,
  ⟨some 6, .mov (.c (.v (.int .i64 0))), none⟩]
def F16 : AFn := ⟨43, [.cell 4 (some 3), .tmp 5, .tmp 6],
  .seq (.reg F16r0 none)
  (.seq (.reg F16r1 none)
  (.seq (.seq (.reg F16r2 none)
  (.cond (.s 11)
    (.reg F16r3 none)
    (.skip)))
  (.seq (.seq (.reg F16r4 none)
  (.cond (.s 15)
    (.seq (.reg F16r5 none)
    (.ret))
    (.skip)))
  (.seq (.seq (.reg F16r6 none)
  (.block 0 (
    .seq (.reg F16r7 none)
    (.cond (.s 20)
      (.seq (.reg F16r8 (some [[], [], [1], [], [3], [], [2, 4, 5, 1, 3], [6, 2, 4, 5, 1, 3], [0], [7, 8, 0, 1, 2, 3, 4, 5, 6], [9, 0, 1, 2, 3, 4, 5, 6, 7, 8]]))
      (.ret))
      (.seq (.reg F16r9 none)
      (.cond (.s 30)
        (.seq (.reg F16r10 (some [[], [], [1], [0, 2, 1], [], [4], [], [6], [5, 7, 4, 6], [8, 5, 7, 4, 6], [3, 0, 1, 2], [9, 10, 0, 1, 2, 3, 4, 5, 6, 7, 8], [11, 0, 1, 2, 3, 4, 5, 6, 7, 8, 9, 10]]))
        (.ret))
        (.skip)))))))
  (.seq (.reg F16r11 none)
  (.ret))))))⟩
theorem F16_ok : cFunc Tryd.prog 16 = some F16 := by kernel_rfl
theorem F16_call : callable Tryd.prog 16 = true := by kernel_rfl
/-- stamp.Less -/
def F18r0 : List AOper := [⟨some 2, .box 2 (.s 0), none⟩,
  ⟨some 3, .box 2 (.s 1), none⟩,
  ⟨some 4, .mov (.c (.v (.bool false))), none⟩]
def F18r1 : List AOper := [⟨some 5, .load (some 2) (.s 2), none⟩,
  ⟨some 6, .load (some 2) (.s 3), none⟩,
  ⟨some 7, .call (.c (.fn 40 [])) [.s 5, .s 6], none⟩,
  ⟨some 8, .bin false .lss (.s 7) (.c (.v (.int .i64 0))), none⟩,
  ⟨some 4, .mov (.s 8), none⟩]
def F18 : AFn := ⟨9, [.tmp 4],
  .seq (.reg F18r0 none)
  (.seq (.reg F18r1 none)
  (.ret))⟩
theorem F18_ok : cFunc Tryd.prog 18 = some F18 := by kernel_rfl
theorem F18_call : callable Tryd.prog 18 = true := by kernel_rfl
/-- quorum.Enough -/
def F19r0 : List AOper := [⟨some 6, .mov (.c (.v (.bool false))), none⟩,
  ⟨some 7, .mov (.c (.v (.int .i64 0))), none⟩]
def F19r1 : List AOper := [⟨some 11, .mov (.s 0), none⟩,
  ⟨some 12, .mov (.s 1), none⟩,
  ⟨some 13, .call (.c (.fn 32 [])) [.s 11, .s 12], none⟩,
  ⟨some 8, .mov (.s 13), none⟩]
def F19r2 : List AOper := [⟨some 14, .mov (.s 8), none⟩,
  ⟨some 15, .bin false .neq (.s 14) (.c (.v (.int .i64 0))), none⟩]
def F19r3 : List AOper := [⟨some 16, .mov (.s 8), none⟩,
  ⟨some 6, .mov (.c (.v (.bool false))), none⟩,
  ⟨some 7, .mov (.s 16), none⟩]
def F19r4 : List AOper := [⟨some 18, .mov (.s 0), none⟩,
  ⟨some 19, .mov (.s 2), none⟩,
  ⟨some 20, .call (.c (.fn 41 [])) [.s 18, .s 19], none⟩,
  ⟨some 17, .mov (.s 20), none⟩,
  ⟨some 21, .ext 0 (.s 17), none⟩,
  ⟨some 22, .ext 1 (.s 17), none⟩,
  ⟨some 9, .mov (.s 21), none⟩,
  ⟨some 10, .mov (.s 22), none⟩]
def F19r5 : List AOper := [⟨some 23, .mov (.s 10), none⟩,
  ⟨some 24, .bin false .eql (.s 23) (.c (.v (.int .i64 0))), none⟩,
  ⟨some 25, .mov (.s 24), none⟩,
  ⟨some 26, .mov (.s 9), some (25, true)⟩,
  ⟨some 27, .mov (.s 1), some (25, true)⟩,
  ⟨some 28, .bin false .geq (.s 26) (.s 27), some (25, true)⟩,
  ⟨some 29, .pick (.s 25) (.s 28) (.c (.v (.bool false))), none⟩,
  ⟨some 30, .mov (.s 10), none⟩,
  ⟨some 6, .mov (.s 29), none⟩,
  ⟨some 7, .mov (.s 30), none⟩]
def F19 : AFn := ⟨31, [.tmp 6, .tmp 7],
  .seq (.reg F19r0 none)
  (.seq (.seq (.reg F19r1 none)
  (.seq (.reg F19r2 none)
  (.cond (.s 15)
    (.seq (.reg F19r3 none)
    (.ret))
    (.skip))))
  (.seq (.reg F19r4 none)
  (.seq (.reg F19r5 none)
  (.ret))))⟩
theorem F19_ok : cFunc Tryd.prog 19 = some F19 := by kernel_rfl
theorem F19_call : callable Tryd.prog 19 = true := by kernel_rfl
/-- wire.Check -/
def F20r0 : List AOper := [⟨some 1, .box 6 (.s 0), none⟩,
  ⟨some 2, .mov (.c (.v (.int .i64 0))), none⟩]
def F20r1 : List AOper := [⟨some 5, .fad 0 (.s 1), none⟩,
  ⟨some 6, .load none (.s 5), none⟩,
  ⟨some 7, .call (.c (.fn 42 [])) [.s 6], none⟩,
  ⟨some 8, .un .not (.s 7), none⟩,
  ⟨some 4, .mov (.s 8), none⟩]
def F20r2 : List AOper := [⟨some 2, .mov (.c (.v (.int .i64 7))), none⟩]
def F20r3 : List AOper := [⟨some 10, .fad 1 (.s 1), none⟩,
  ⟨some 11, .load none (.s 10), none⟩,
  ⟨some 12, .bin false .lss (.s 11) (.c (.v (.int .i64 0))), none⟩,
  ⟨some 13, .mov (.s 12), none⟩,
  ⟨some 14, .fad 1 (.s 1), some (13, false)⟩,
  ⟨some 15, .load none (.s 14), some (13, false)⟩,
  ⟨some 16, .bin false .geq (.s 15) (.c (.v (.int .i64 31))), some (13, false)⟩,
  ⟨some 17, .pick (.s 13) (.c (.v (.bool true))) (.s 16), none⟩,
  ⟨some 9, .mov (.s 17), none⟩]
def F20r4 : List AOper := [⟨some 18, .fad 2 (.s 1), none⟩,
  ⟨some 19, .load none (.s 18), none⟩,
  ⟨some 20, .bin false .lss (.s 19) (.c (.v (.int .i64 0))), none⟩,
  ⟨some 21, .mov (.s 20), none⟩,
  ⟨some 22, .fad 2 (.s 1), some (21, false)⟩,
  ⟨some 23, .load none (.s 22), some (21, false)⟩,
  ⟨some 24, .bin false .geq (.s 23) (.c (.v (.int .i64 12))), some (21, false)⟩,
  ⟨some 25, .pick (.s 21) (.c (.v (.bool true))) (.s 24), none⟩,
  ⟨some 9, .mov (.s 25), none⟩]
def F20r5 : List AOper := [⟨some 2, .mov (.c (.v (.int .i64 3))), none⟩]
def F20r6 : List AOper := [⟨some 26, .fad 3 (.s 1), none⟩,
  ⟨some 27, .load (some 3) (.s 26), none⟩,
  ⟨some 28, .call (.c (.fn 34 [])) [.s 27], none⟩,
  ⟨some 3, .mov (.s 28), none⟩]
def F20r7 : List AOper := [⟨some 29, .mov (.s 3), none⟩,
  ⟨some 30, .bin false .eql (.s 29) (.c (.v (.int .i64 0))), none⟩,
  ⟨some 31, .mov (.s 30), none⟩,
  ⟨some 32, .fad 0 (.s 1), some (31, true)⟩,
  ⟨some 33, .load none (.s 32), some (31, true)⟩,
  ⟨some 34, .call (.c (.fn 43 [])) [.s 33], some (31, true)⟩,
  ⟨some 35, .un .not (.s 34), some (31, true)⟩,
  ⟨some 36, .pick (.s 31) (.s 35) (.c (.v (.bool false))), none⟩,
  ⟨some 37, .mov (.s 36), none⟩,
  ⟨some 38, .fad 3 (.s 1), some (37, true)⟩,
  ⟨some 39, .load (some 3) (.s 38), some (37, true)⟩,
  ⟨some 40, .agg [.v (.int .i64 0), .v (.int .i64 0), .v (.string ⟨#[]⟩)] [], some (37, true)⟩,
  ⟨some 41, .eqs true 3 [(0, .int), (1, .int), (2, .str)] (.s 39) (.s 40), some (37, true)⟩,
  ⟨some 42, .pick (.s 37) (.s 41) (.c (.v (.bool false))), none⟩]
def F20r8 : List AOper := [⟨some 3, .mov (.c (.v (.int .i64 1))), none⟩]
def F20r9 : List AOper := [⟨some 43, .mov (.s 3), none⟩,
  ⟨some 2, .mov (.s 43), none⟩]
def F20 : AFn := ⟨44, [.tmp 2],
  .seq (.reg F20r0 none)
  (.seq (.block 0 (
    .seq (.reg F20r1 none)
    (.cond (.s 4)
      (.seq (.reg F20r2 none)
      (.ret))
      (.seq (.seq (.reg F20r3 none)
      (.cond (.s 9)
        (.skip)
        (.reg F20r4 none)))
      (.cond (.s 9)
        (.seq (.reg F20r5 none)
        (.ret))
        (.skip))))))
  (.seq (.reg F20r6 none)
  (.seq (.seq (.reg F20r7 none)
  (.cond (.s 42)
    (.reg F20r8 none)
    (.skip)))
  (.seq (.reg F20r9 none)
  (.ret)))))⟩
theorem F20_ok : cFunc Tryd.prog 20 = some F20 := by kernel_rfl
theorem F20_call : callable Tryd.prog 20 = true := by kernel_rfl
/-- (ask.client).hear -/
def F21r0 : List AOper := [⟨some 3, .box 6 (.s 1), none⟩,
  ⟨some 4, .mov (.c .emp), none⟩,
  ⟨some 5, .mov (.c (.v (.bool false))), none⟩]
def F21r1 : List AOper := [⟨some 10, .fad 2 (.s 3), none⟩,
  ⟨some 11, .load none (.s 10), none⟩,
  ⟨some 12, .bin false .shl (.c (.v (.int .u64 1))) (.s 11), none⟩,
  ⟨some 6, .mov (.s 12), none⟩]
def F21r2 : List AOper := [⟨some 13, .mkm, none⟩,
  ⟨none, .mup .int (.s 13) (.c (.v (.int .i64 1))) (.c (.v (.int .i64 2))), none⟩,
  ⟨none, .mup .int (.s 13) (.c (.v (.int .i64 2))) (.c (.v (.int .i64 4))), none⟩,
  ⟨some 14, .mov (.s 13), none⟩,
  ⟨some 7, .mov (.s 14), none⟩]
def F21r3 : List AOper := [⟨some 15, .fad 1 (.s 3), none⟩,
  ⟨some 16, .load none (.s 15), none⟩,
  ⟨some 17, .mov (.s 0), none⟩,
  ⟨some 18, .nilc (.s 17), none⟩,
  ⟨some 19, .fad 0 (.s 18), none⟩,
  ⟨some 20, .fad 0 (.s 19), none⟩,
  ⟨some 21, .load none (.s 20), none⟩,
  ⟨some 22, .bin false .neq (.s 16) (.s 21), none⟩,
  ⟨some 23, .mov (.s 22), none⟩,
  ⟨some 24, .fad 0 (.s 3), some (23, false)⟩,
  ⟨some 25, .load none (.s 24), some (23, false)⟩,
  ⟨some 26, .mov (.s 7), some (23, false)⟩,
  ⟨some 27, .mov (.s 0), some (23, false)⟩,
  ⟨some 28, .nilc (.s 27), some (23, false)⟩,
  ⟨some 29, .fad 0 (.s 28), some (23, false)⟩,
  ⟨some 30, .fad 2 (.s 29), some (23, false)⟩,
  ⟨some 31, .load none (.s 30), some (23, false)⟩,
  ⟨some 32, .mlk .int (.v (.int .i64 0)) (.s 26) (.s 31), some (23, false)⟩,
  ⟨some 33, .bin false .neq (.s 25) (.s 32), some (23, false)⟩,
  ⟨some 34, .pick (.s 23) (.c (.v (.bool true))) (.s 33), none⟩,
  ⟨some 35, .mov (.s 34), none⟩,
  ⟨some 36, .fad 2 (.s 3), some (35, false)⟩,
  ⟨some 37, .load none (.s 36), some (35, false)⟩,
  ⟨some 38, .mov (.s 0), some (35, false)⟩,
  ⟨some 39, .nilc (.s 38), some (35, false)⟩,
  ⟨some 40, .fad 8 (.s 39), some (35, false)⟩,
  ⟨some 41, .fad 0 (.s 40), some (35, false)⟩,
  ⟨some 42, .load none (.s 41), some (35, false)⟩,
  ⟨some 43, .len false (.s 42), some (35, false)⟩,
  ⟨some 44, .bin false .geq (.s 37) (.s 43), some (35, false)⟩,
  ⟨some 45, .pick (.s 35) (.c (.v (.bool true))) (.s 44), none⟩,
  ⟨some 46, .mov (.s 45), none⟩,
  ⟨some 47, .mov (.s 0), some (46, false)⟩,
  ⟨some 48, .nilc (.s 47), some (46, false)⟩,
  ⟨some 49, .fad 0 (.s 48), some (46, false)⟩,
  ⟨some 50, .fad 7 (.s 49), some (46, false)⟩,
  ⟨some 51, .load none (.s 50), some (46, false)⟩,
  ⟨some 52, .mov (.s 6), some (46, false)⟩,
  ⟨some 53, .bin false .and (.s 51) (.s 52), some (46, false)⟩,
  ⟨some 54, .bin false .neq (.s 53) (.c (.v (.int .u64 0))), some (46, false)⟩,
  ⟨some 55, .pick (.s 46) (.c (.v (.bool true))) (.s 54), none⟩]
def F21r4 : List AOper := [⟨some 4, .mov (.c .emp), none⟩,
  ⟨some 5, .mov (.c (.v (.bool false))), none⟩]
def F21r5 : List AOper := [⟨some 56, .mov (.s 0), none⟩,
  ⟨some 57, .nilc (.s 56), none⟩,
  ⟨some 58, .fad 0 (.s 57), none⟩,
  ⟨some 59, .fad 7 (.s 58), none⟩,
  ⟨some 60, .load none (.s 59), none⟩,
  ⟨some 61, .mov (.s 6), none⟩,
  ⟨some 62, .bin false .or (.s 60) (.s 61), none⟩,
  ⟨some 63, .nilc (.s 56), none⟩,
  ⟨some 64, .fad 0 (.s 63), none⟩,
  ⟨some 65, .fad 7 (.s 64), none⟩,
  ⟨none, .store 1 (.s 65) (.s 62), none⟩]
def F21r6 : List AOper := [⟨some 66, .mov (.s 0), none⟩,
  ⟨some 67, .nilc (.s 66), none⟩,
  ⟨some 68, .fad 0 (.s 67), none⟩,
  ⟨some 69, .fad 2 (.s 68), none⟩,
  ⟨some 70, .load none (.s 69), none⟩,
  ⟨some 71, .bin false .eql (.s 70) (.c (.v (.int .i64 1))), none⟩]
def F21r7 : List AOper := [⟨some 72, .mov (.s 0), none⟩,
  ⟨some 73, .mov (.s 0), none⟩,
  ⟨some 74, .nilc (.s 73), none⟩,
  ⟨some 75, .fad 0 (.s 74), none⟩,
  ⟨some 76, .fad 4 (.s 75), none⟩,
  ⟨some 77, .load (some 3) (.s 76), none⟩,
  ⟨some 78, .fad 3 (.s 3), none⟩,
  ⟨some 79, .load (some 3) (.s 78), none⟩,
  ⟨some 80, .call (.c (.fn 38 [])) [.s 77, .s 79], none⟩,
  ⟨some 81, .nilc (.s 72), none⟩,
  ⟨some 82, .fad 0 (.s 81), none⟩,
  ⟨some 83, .fad 4 (.s 82), none⟩,
  ⟨none, .store 3 (.s 83) (.s 80), none⟩]
def F21r8 : List AOper := [⟨some 85, .mov (.s 0), none⟩,
  ⟨some 86, .nilc (.s 85), none⟩,
  ⟨some 87, .fad 8 (.s 86), none⟩,
  ⟨some 88, .fad 0 (.s 87), none⟩,
  ⟨some 89, .load none (.s 88), none⟩,
  ⟨some 90, .mov (.s 0), none⟩,
  ⟨some 91, .nilc (.s 90), none⟩,
  ⟨some 92, .fad 8 (.s 91), none⟩,
  ⟨some 93, .fad 1 (.s 92), none⟩,
  ⟨some 94, .load none (.s 93), none⟩,
  ⟨some 95, .mov (.s 0), none⟩,
  ⟨some 96, .nilc (.s 95), none⟩,
  ⟨some 97, .fad 0 (.s 96), none⟩,
  ⟨some 98, .fad 7 (.s 97), none⟩,
  ⟨some 99, .load none (.s 98), none⟩,
  ⟨some 100, .call (.c (.fn 19 [])) [.s 89, .s 94, .s 99], none⟩,
  ⟨some 84, .mov (.s 100), none⟩,
  ⟨some 101, .ext 0 (.s 84), none⟩,
  ⟨some 102, .ext 1 (.s 84), none⟩,
  ⟨some 8, .mov (.s 101), none⟩,
  ⟨some 9, .mov (.s 102), none⟩]
def F21r9 : List AOper := [⟨some 103, .mov (.s 8), none⟩,
  ⟨some 104, .un .not (.s 103), none⟩]
def F21r10 : List AOper := [⟨some 4, .mov (.c .emp), none⟩,
  ⟨some 5, .mov (.c (.v (.bool true))), none⟩]
def F21r11 : List AOper := [⟨some 105, .mov (.s 0), none⟩,
  ⟨some 106, .nilc (.s 105), none⟩,
  ⟨some 107, .fad 0 (.s 106), none⟩,
  ⟨some 108, .fad 2 (.s 107), none⟩,
  ⟨some 109, .load none (.s 108), none⟩,
  ⟨some 110, .bin false .eql (.s 109) (.c (.v (.int .i64 2))), none⟩]
def F21r12 : List AOper := [⟨some 111, .mov (.s 0), none⟩,
  ⟨some 112, .nilc (.s 111), none⟩,
  ⟨some 113, .fad 0 (.s 112), none⟩,
  ⟨some 114, .fad 2 (.s 113), none⟩,
  ⟨none, .store 1 (.s 114) (.c (.v (.int .i64 3))), none⟩]
def F21r13 : List AOper := [⟨some 4, .mov (.c .emp), none⟩,
  ⟨some 5, .mov (.c (.v (.bool true))), none⟩]
def F21r14 : List AOper := [⟨some 115, .mov (.s 0), none⟩,
  ⟨some 116, .call (.c (.fn 44 [])) [.s 115], none⟩,
  ⟨some 117, .un .not (.s 116), none⟩]
def F21r15 : List AOper := [⟨some 4, .mov (.c .emp), none⟩,
  ⟨some 5, .mov (.c (.v (.bool false))), none⟩]
def F21r16 : List AOper := [⟨some 118, .mov (.s 0), none⟩,
  ⟨some 119, .mov (.s 0), none⟩,
  ⟨some 120, .nilc (.s 118), none⟩,
  ⟨some 121, .fad 0 (.s 120), none⟩,
  ⟨some 122, .fad 2 (.s 121), none⟩,
  ⟨none, .store 1 (.s 122) (.c (.v (.int .i64 2))), none⟩,
  ⟨some 123, .nilc (.s 119), none⟩,
  ⟨some 124, .fad 0 (.s 123), none⟩,
  ⟨some 125, .fad 7 (.s 124), none⟩,
  ⟨none, .store 1 (.s 125) (.c (.v (.int .u64 0))), none⟩]
def F21r17 : List AOper := [⟨some 126, .mov (.s 0), none⟩,
  ⟨some 127, .nilc (.s 126), none⟩,
  ⟨some 128, .fad 8 (.s 127), none⟩,
  ⟨some 129, .load (some 2) (.s 128), none⟩,
  ⟨some 130, .mov (.s 0), none⟩,
  ⟨some 131, .nilc (.s 130), none⟩,
  ⟨some 132, .fad 0 (.s 131), none⟩,
  ⟨some 133, .fad 0 (.s 132), none⟩,
  ⟨some 134, .load none (.s 133), none⟩,
  ⟨some 135, .mov (.s 0), none⟩,
  ⟨some 136, .nilc (.s 135), none⟩,
  ⟨some 137, .fad 0 (.s 136), none⟩,
  ⟨some 138, .fad 4 (.s 137), none⟩,
  ⟨some 139, .load (some 3) (.s 138), none⟩,
  ⟨some 140, .agg [.v (.int .i64 0), .v (.int .i64 0), .v (.int .i64 0), .v (.int .i64 0), .v (.int .i64 0), .v (.string ⟨#[]⟩)] [(0, (1, .c (.v (.int .i64 3)))), (1, (1, .s 134)), (3, (3, .s 139))], none⟩,
  ⟨some 141, .call (.c (.fn 22 [])) [.s 129, .s 140], none⟩,
  ⟨some 4, .mov (.s 141), none⟩,
  ⟨some 5, .mov (.c (.v (.bool true))), none⟩]
def F21 : AFn := ⟨142, [.tmp 4, .tmp 5],
  .seq (.reg F21r0 none)
  (.seq (.reg F21r1 none)
  (.seq (.reg F21r2 none)
  (.seq (.seq (.reg F21r3 (some [[], [0], [], [2], [3, 2], [4, 3, 2], [5, 4, 3, 2], [1, 6, 0, 5, 4, 3, 2], [7, 1, 6, 0, 5, 4, 3, 2], [8, 7, 1, 6, 0, 5, 4, 3, 2], [9, 8, 7, 1, 6, 0, 5, 4, 3, 2], [8, 7, 1, 6, 0, 5, 4, 3, 2], [8, 7, 1, 6, 0, 5, 4, 3, 2], [12, 8, 7, 1, 6, 0, 5, 4, 3, 2], [13, 8, 12, 7, 1, 6, 0, 5, 4, 3, 2], [14, 8, 13, 12, 7, 1, 6, 0, 5, 4, 3, 2], [15, 8, 14, 13, 12, 7, 1, 6, 0, 5, 4, 3, 2], [11, 16, 8, 7, 1, 6, 0, 5, 4, 3, 2, 15, 14, 13, 12], [10, 17, 8, 9, 7, 1, 6, 0, 5, 4, 3, 2, 11, 16, 15, 14, 13, 12], [8, 18, 7, 1, 6, 0, 5, 4, 3, 2, 10, 17, 9, 11, 16, 15, 14, 13, 12], [19, 8, 18, 7, 1, 6, 0, 5, 4, 3, 2, 10, 17, 9, 11, 16, 15, 14, 13, 12], [20, 19, 8, 18, 7, 1, 6, 0, 5, 4, 3, 2, 10, 17, 9, 11, 16, 15, 14, 13, 12], [21, 20, 19, 8, 18, 7, 1, 6, 0, 5, 4, 3, 2, 10, 17, 9, 11, 16, 15, 14, 13, 12], [20, 19, 8, 18, 7, 1, 6, 0, 5, 4, 3, 2, 10, 17, 9, 11, 16, 15, 14, 13, 12], [23, 20, 19, 8, 18, 7, 1, 6, 0, 5, 4, 3, 2, 10, 17, 9, 11, 16, 15, 14, 13, 12], [24, 20, 23, 19, 8, 18, 7, 1, 6, 0, 5, 4, 3, 2, 10, 17, 9, 11, 16, 15, 14, 13, 12], [25, 20, 24, 23, 19, 8, 18, 7, 1, 6, 0, 5, 4, 3, 2, 10, 17, 9, 11, 16, 15, 14, 13, 12], [26, 20, 25, 24, 23, 19, 8, 18, 7, 1, 6, 0, 5, 4, 3, 2, 10, 17, 9, 11, 16, 15, 14, 13, 12], [27, 20, 26, 25, 24, 23, 19, 8, 18, 7, 1, 6, 0, 5, 4, 3, 2, 10, 17, 9, 11, 16, 15, 14, 13, 12], [22, 28, 20, 21, 19, 8, 18, 7, 1, 6, 0, 5, 4, 3, 2, 10, 17, 9, 11, 16, 15, 14, 13, 12, 27, 26, 25, 24, 23], [20, 29, 19, 8, 18, 7, 1, 6, 0, 5, 4, 3, 2, 10, 17, 9, 11, 16, 15, 14, 13, 12, 22, 28, 21, 27, 26, 25, 24, 23], [30, 20, 29, 19, 8, 18, 7, 1, 6, 0, 5, 4, 3, 2, 10, 17, 9, 11, 16, 15, 14, 13, 12, 22, 28, 21, 27, 26, 25, 24, 23], [31, 30, 20, 29, 19, 8, 18, 7, 1, 6, 0, 5, 4, 3, 2, 10, 17, 9, 11, 16, 15, 14, 13, 12, 22, 28, 21, 27, 26, 25, 24, 23], [32, 31, 30, 20, 29, 19, 8, 18, 7, 1, 6, 0, 5, 4, 3, 2, 10, 17, 9, 11, 16, 15, 14, 13, 12, 22, 28, 21, 27, 26, 25, 24, 23], [33, 31, 32, 30, 20, 29, 19, 8, 18, 7, 1, 6, 0, 5, 4, 3, 2, 10, 17, 9, 11, 16, 15, 14, 13, 12, 22, 28, 21, 27, 26, 25, 24, 23], [34, 31, 33, 32, 30, 20, 29, 19, 8, 18, 7, 1, 6, 0, 5, 4, 3, 2, 10, 17, 9, 11, 16, 15, 14, 13, 12, 22, 28, 21, 27, 26, 25, 24, 23], [35, 31, 34, 33, 32, 30, 20, 29, 19, 8, 18, 7, 1, 6, 0, 5, 4, 3, 2, 10, 17, 9, 11, 16, 15, 14, 13, 12, 22, 28, 21, 27, 26, 25, 24, 23], [31, 30, 20, 29, 19, 8, 18, 7, 1, 6, 0, 5, 4, 3, 2, 10, 17, 9, 11, 16, 15, 14, 13, 12, 22, 28, 21, 27, 26, 25, 24, 23], [36, 37, 31, 35, 34, 33, 32, 30, 20, 29, 19, 8, 18, 7, 1, 6, 0, 5, 4, 3, 2, 10, 17, 9, 11, 16, 15, 14, 13, 12, 22, 28, 21, 27, 26, 25, 24, 23], [38, 31, 36, 37, 35, 34, 33, 32, 30, 20, 29, 19, 8, 18, 7, 1, 6, 0, 5, 4, 3, 2, 10, 17, 9, 11, 16, 15, 14, 13, 12, 22, 28, 21, 27, 26, 25, 24, 23], [31, 39, 30, 20, 29, 19, 8, 18, 7, 1, 6, 0, 5, 4, 3, 2, 10, 17, 9, 11, 16, 15, 14, 13, 12, 22, 28, 21, 27, 26, 25, 24, 23, 38, 36, 37, 35, 34, 33, 32]]))
  (.cond (.s 55)
    (.seq (.reg F21r4 none)
    (.ret))
    (.skip)))
  (.seq (.reg F21r5 none)
  (.seq (.seq (.reg F21r6 none)
  (.cond (.s 71)
    (.reg F21r7 (some [[], [], [1], [2, 1], [3, 2, 1], [4, 3, 2, 1], [], [6], [5, 7, 4, 3, 2, 1, 6], [0, 1, 2, 3, 4, 5, 6, 7, 8], [9, 0, 1, 2, 3, 4, 5, 6, 7, 8], [10, 0, 1, 2, 3, 4, 5, 6, 7, 8, 9], [11, 8, 0, 1, 2, 3, 4, 5, 6, 7, 10, 9]]))
    (.skip)))
  (.seq (.seq (.reg F21r8 (some [[], [0], [1, 0], [2, 1, 0], [3, 2, 1, 0], [], [5], [6, 5], [7, 6, 5], [8, 7, 6, 5], [], [10], [11, 10], [12, 11, 10], [13, 12, 11, 10], [4, 9, 14, 3, 2, 1, 0, 8, 7, 6, 5, 13, 12, 11, 10], [15, 4, 9, 14, 3, 2, 1, 0, 8, 7, 6, 5, 13, 12, 11, 10], [16, 15, 4, 9, 14, 3, 2, 1, 0, 8, 7, 6, 5, 13, 12, 11, 10], [16, 15, 4, 9, 14, 3, 2, 1, 0, 8, 7, 6, 5, 13, 12, 11, 10], [17, 15, 0, 1, 2, 3, 4, 5, 6, 7, 8, 9, 10, 11, 12, 13, 14, 16], [18, 19, 0, 1, 2, 3, 4, 5, 6, 7, 8, 9, 10, 11, 12, 13, 14, 15, 16, 17]]))
  (.seq (.reg F21r9 none)
  (.cond (.s 104)
    (.seq (.reg F21r10 none)
    (.ret))
    (.skip))))
  (.seq (.seq (.reg F21r11 none)
  (.cond (.s 110)
    (.seq (.reg F21r12 none)
    (.seq (.reg F21r13 none)
    (.ret)))
    (.skip)))
  (.seq (.seq (.reg F21r14 none)
  (.cond (.s 117)
    (.seq (.reg F21r15 none)
    (.ret))
    (.skip)))
  (.seq (.reg F21r16 none)
  (.seq (.reg F21r17 (some [[], [0], [1, 0], [2, 1, 0], [], [4], [5, 4], [6, 5, 4], [7, 6, 5, 4], [], [9], [10, 9], [11, 10, 9], [12, 11, 10, 9], [8, 13, 7, 6, 5, 4, 12, 11, 10, 9], [3, 14, 2, 1, 0, 8, 13, 7, 6, 5, 4, 12, 11, 10, 9], [15, 0, 1, 2, 3, 4, 5, 6, 7, 8, 9, 10, 11, 12, 13, 14], [16, 0, 1, 2, 3, 4, 5, 6, 7, 8, 9, 10, 11, 12, 13, 14, 15]]))
  (.ret)))))))))))⟩
theorem F21_ok : cFunc Tryd.prog 21 = some F21 := by kernel_rfl
theorem F21_call : callable Tryd.prog 21 = true := by kernel_rfl
/-- ask.toAll -/
def F22r0 : List AOper := [⟨some 2, .box 2 (.s 0), none⟩,
  ⟨some 3, .box 6 (.s 1), none⟩,
  ⟨some 4, .mov (.c .emp), none⟩]
def F22r1 : List AOper := [⟨some 5, .mov (.c .emp), none⟩]
def F22r2 : List AOper := [⟨some 7, .fad 0 (.s 2), none⟩,
  ⟨some 8, .load none (.s 7), none⟩,
  ⟨some 9, .len false (.s 8), none⟩,
  ⟨some 10, .mov (.c (.v (.int .i64 0))), none⟩]
def F22r3 : List AOper := [⟨some 11, .bin false .lss (.s 10) (.s 9), none⟩]
def F22r4 : List AOper := [⟨some 12, .mov (.s 10), none⟩,
  ⟨some 6, .mov (.s 12), none⟩]
def F22r5 : List AOper := [⟨some 13, .mov (.s 6), none⟩,
  ⟨some 14, .fad 2 (.s 3), none⟩,
  ⟨none, .store 1 (.s 14) (.s 13), none⟩]
def F22r6 : List AOper := [⟨some 15, .mov (.s 5), none⟩,
  ⟨some 16, .load (some 6) (.s 3), none⟩,
  ⟨some 17, .bsl 6 1 [.v (.int .i64 0), .v (.int .i64 0), .v (.int .i64 0), .v (.int .i64 0), .v (.int .i64 0), .v (.string ⟨#[]⟩)] [(0, .s 16)], none⟩,
  ⟨some 18, .app 6 56 (.s 15) (.s 17), none⟩,
  ⟨some 5, .mov (.s 18), none⟩]
def F22r7 : List AOper := [⟨some 19, .bin false .add (.s 10) (.c (.v (.int .i64 1))), none⟩,
  ⟨some 10, .mov (.s 19), none⟩]
def F22r8 : List AOper := [⟨some 20, .mov (.s 5), none⟩,
  ⟨some 4, .mov (.s 20), none⟩]
def F22 : AFn := ⟨21, [.tmp 4],
  .seq (.reg F22r0 none)
  (.seq (.reg F22r1 none)
  (.seq (.seq (.reg F22r2 none)
  (.block 0 (
    .loop (
      .seq (.reg F22r3 none)
      (.seq (.cond (.s 11)
        (.skip)
        (.exit 0))
      (.seq (.block 1 (
        .seq (.reg F22r4 none)
        (.seq (.reg F22r5 none)
        (.reg F22r6 none))))
      (.reg F22r7 none)))))))
  (.seq (.reg F22r8 none)
  (.ret))))⟩
theorem F22_ok : cFunc Tryd.prog 22 = some F22 := by kernel_rfl
theorem F22_call : callable Tryd.prog 22 = true := by kernel_rfl
/-- supercargolaw.three -/
def F29r0 : List AOper := [⟨some 0, .new [.emp, .v (.int .i64 0)], none⟩]
def F29r1 : List AOper := [⟨some 1, .bsl 1 3 [.v (.int .i64 0)] [(0, .c (.v (.int .i64 1))), (1, .c (.v (.int .i64 1))), (2, .c (.v (.int .i64 1)))], none⟩,
  ⟨some 2, .agg [.emp, .v (.int .i64 0)] [(0, (1, .s 1)), (1, (1, .c (.v (.int .i64 2))))], none⟩,
  ⟨none, .store 2 (.s 0) (.s 2), none⟩]
def F29 : AFn := ⟨3, [.cell 0 (some 2)],
  .seq (.reg F29r0 none)
  (.seq (.reg F29r1 none)
  (.ret))⟩
theorem F29_ok : cFunc Tryd.prog 29 = some F29 := by kernel_rfl
theorem F29_call : callable Tryd.prog 29 = true := by kernel_rfl
/-- supercargolaw.answer -/
def F30r0 : List AOper := [⟨some 5, .box 3 (.s 2), none⟩,
  ⟨some 6, .new [.v (.int .i64 0), .v (.int .i64 0), .v (.int .i64 0), .v (.int .i64 0), .v (.int .i64 0), .v (.string ⟨#[]⟩)], none⟩]
def F30r1 : List AOper := [⟨some 7, .mov (.s 0), none⟩,
  ⟨some 8, .mov (.s 1), none⟩,
  ⟨some 9, .load (some 3) (.s 5), none⟩,
  ⟨some 10, .agg [.v (.int .i64 0), .v (.int .i64 0), .v (.int .i64 0), .v (.int .i64 0), .v (.int .i64 0), .v (.string ⟨#[]⟩)] [(0, (1, .c (.v (.int .i64 2)))), (1, (1, .s 7)), (2, (1, .s 8)), (3, (3, .s 9))], none⟩,
  ⟨none, .store 6 (.s 6) (.s 10), none⟩]
def F30 : AFn := ⟨11, [.cell 6 (some 6)],
  .seq (.reg F30r0 none)
  (.seq (.reg F30r1 none)
  (.ret))⟩
theorem F30_ok : cFunc Tryd.prog 30 = some F30 := by kernel_rfl
theorem F30_call : callable Tryd.prog 30 = true := by kernel_rfl
/-- supercargolaw.block -/
def F31r0 : List AOper := [⟨some 6, .new [.v (.int .i64 0), .v (.int .i64 0), .v (.string ⟨#[]⟩)], none⟩]
def F31r1 : List AOper := [⟨some 7, .mov (.s 0), none⟩,
  ⟨some 8, .mov (.s 1), none⟩,
  ⟨some 9, .call (.c (.fn 48 [])) [.s 7, .s 8], none⟩,
  ⟨some 10, .mov (.s 2), none⟩,
  ⟨some 11, .agg [.v (.int .i64 0), .v (.int .i64 0), .v (.string ⟨#[]⟩)] [(0, (2, .s 9)), (2, (1, .s 10))], none⟩,
  ⟨none, .store 3 (.s 6) (.s 11), none⟩]
def F31 : AFn := ⟨12, [.cell 6 (some 3)],
  .seq (.reg F31r0 none)
  (.seq (.reg F31r1 none)
  (.ret))⟩
theorem F31_ok : cFunc Tryd.prog 31 = some F31 := by kernel_rfl
theorem F31_call : callable Tryd.prog 31 = true := by kernel_rfl
/-- quorum.Check -/
def F32r0 : List AOper := [⟨some 4, .mov (.c (.v (.int .i64 0))), none⟩]
def F32r1 : List AOper := [⟨some 8, .mov (.s 0), none⟩,
  ⟨some 9, .call (.c (.fn 49 [])) [.s 8], none⟩,
  ⟨some 7, .mov (.s 9), none⟩,
  ⟨some 10, .ext 0 (.s 7), none⟩,
  ⟨some 11, .ext 1 (.s 7), none⟩,
  ⟨some 5, .mov (.s 10), none⟩,
  ⟨some 6, .mov (.s 11), none⟩]
def F32r2 : List AOper := [⟨some 13, .mov (.s 6), none⟩,
  ⟨some 14, .bin false .neq (.s 13) (.c (.v (.int .i64 0))), none⟩,
  ⟨some 12, .mov (.s 14), none⟩]
def F32r3 : List AOper := [⟨some 15, .mov (.s 6), none⟩,
  ⟨some 4, .mov (.s 15), none⟩]
def F32r4 : List AOper := [⟨some 17, .mov (.s 1), none⟩,
  ⟨some 18, .bin false .lss (.s 17) (.c (.v (.int .i64 1))), none⟩,
  ⟨some 19, .mov (.s 18), none⟩,
  ⟨some 20, .mov (.s 1), some (19, false)⟩,
  ⟨some 21, .mov (.s 5), some (19, false)⟩,
  ⟨some 22, .bin false .gtr (.s 20) (.s 21), some (19, false)⟩,
  ⟨some 23, .pick (.s 19) (.c (.v (.bool true))) (.s 22), none⟩,
  ⟨some 16, .mov (.s 23), none⟩]
def F32r5 : List AOper := [⟨some 4, .mov (.c (.v (.int .i64 3))), none⟩]
def F32r6 : List AOper := [⟨some 25, .mov (.s 1), none⟩,
  ⟨some 26, .bin false .mul (.c (.v (.int .i64 2))) (.s 25), none⟩,
  ⟨some 27, .mov (.s 5), none⟩,
  ⟨some 28, .bin false .leq (.s 26) (.s 27), none⟩,
  ⟨some 24, .mov (.s 28), none⟩]
def F32r7 : List AOper := [⟨some 4, .mov (.c (.v (.int .i64 4))), none⟩]
def F32r8 : List AOper := [⟨some 4, .mov (.c (.v (.int .i64 0))), none⟩]
def F32 : AFn := ⟨29, [.tmp 4],
  .seq (.reg F32r0 none)
  (.seq (.reg F32r1 none)
  (.seq (.block 0 (
    .seq (.reg F32r2 none)
    (.cond (.s 12)
      (.seq (.reg F32r3 none)
      (.ret))
      (.seq (.reg F32r4 none)
      (.cond (.s 16)
        (.seq (.reg F32r5 none)
        (.ret))
        (.seq (.reg F32r6 none)
        (.cond (.s 24)
          (.seq (.reg F32r7 none)
          (.ret))
          (.skip))))))))
  (.seq (.reg F32r8 none)
  (.ret))))⟩
theorem F32_ok : cFunc Tryd.prog 32 = some F32 := by kernel_rfl
theorem F32_call : callable Tryd.prog 32 = true := by kernel_rfl
/-- ask.within -/
def F33r0 : List AOper := [⟨some 6, .mov (.c (.v (.bool false))), none⟩]
def F33r1 : List AOper := [⟨some 7, .mov (.s 0), none⟩,
  ⟨some 8, .mov (.s 1), none⟩,
  ⟨some 9, .bin false .geq (.s 7) (.s 8), none⟩,
  ⟨some 10, .mov (.s 9), none⟩,
  ⟨some 11, .mov (.s 0), some (10, true)⟩,
  ⟨some 12, .mov (.s 2), some (10, true)⟩,
  ⟨some 13, .bin false .leq (.s 11) (.s 12), some (10, true)⟩,
  ⟨some 14, .pick (.s 10) (.s 13) (.c (.v (.bool false))), none⟩,
  ⟨some 6, .mov (.s 14), none⟩]
def F33 : AFn := ⟨15, [.tmp 6],
  .seq (.reg F33r0 none)
  (.seq (.reg F33r1 none)
  (.ret))⟩
theorem F33_ok : cFunc Tryd.prog 33 = some F33 := by kernel_rfl
theorem F33_call : callable Tryd.prog 33 = true := by kernel_rfl
/-- copies.Check -/
def F34r0 : List AOper := [⟨some 1, .box 3 (.s 0), none⟩,
  ⟨some 2, .mov (.c (.v (.int .i64 0))), none⟩]
def F34r1 : List AOper := [⟨some 4, .fad 0 (.s 1), none⟩,
  ⟨some 5, .load (some 2) (.s 4), none⟩,
  ⟨some 6, .call (.c (.fn 50 [])) [.s 5], none⟩,
  ⟨some 3, .mov (.s 6), none⟩]
def F34r2 : List AOper := [⟨some 7, .mov (.s 3), none⟩,
  ⟨some 8, .bin false .eql (.s 7) (.c (.v (.int .i64 0))), none⟩,
  ⟨some 9, .mov (.s 8), none⟩,
  ⟨some 10, .fad 2 (.s 1), some (9, true)⟩,
  ⟨some 11, .load none (.s 10), some (9, true)⟩,
  ⟨some 12, .len true (.s 11), some (9, true)⟩,
  ⟨some 13, .bin false .gtr (.s 12) (.c (.v (.int .i64 64))), some (9, true)⟩,
  ⟨some 14, .pick (.s 9) (.s 13) (.c (.v (.bool false))), none⟩]
def F34r3 : List AOper := [⟨some 3, .mov (.c (.v (.int .i64 2))), none⟩]
def F34r4 : List AOper := [⟨some 15, .mov (.s 3), none⟩,
  ⟨some 2, .mov (.s 15), none⟩]
def F34 : AFn := ⟨16, [.tmp 2],
  .seq (.reg F34r0 none)
  (.seq (.reg F34r1 none)
  (.seq (.seq (.reg F34r2 none)
  (.cond (.s 14)
    (.reg F34r3 none)
    (.skip)))
  (.seq (.reg F34r4 none)
  (.ret))))⟩
theorem F34_ok : cFunc Tryd.prog 34 = some F34 := by kernel_rfl
theorem F34_call : callable Tryd.prog 34 = true := by kernel_rfl
/-- math/bits.Len64 -/
def F35r0 : List AOper := [⟨some 2, .mov (.c (.v (.int .i64 0))), none⟩]
def F35r1 : List AOper := [⟨some 3, .mov (.s 0), none⟩,
  ⟨some 4, .bin false .geq (.s 3) (.c (.v (.int .u64 4294967296))), none⟩]
def F35r2 : List AOper := [⟨some 5, .mov (.s 0), none⟩,
  ⟨some 6, .bin false .shr (.s 5) (.c (.v (.int .u64 32))), none⟩,
  ⟨some 0, .mov (.s 6), none⟩]
def F35r3 : List AOper := [⟨some 2, .mov (.c (.v (.int .i64 32))), none⟩]
def F35r4 : List AOper := [⟨some 7, .mov (.s 0), none⟩,
  ⟨some 8, .bin false .geq (.s 7) (.c (.v (.int .u64 65536))), none⟩]
def F35r5 : List AOper := [⟨some 9, .mov (.s 0), none⟩,
  ⟨some 10, .bin false .shr (.s 9) (.c (.v (.int .u64 16))), none⟩,
  ⟨some 0, .mov (.s 10), none⟩]
def F35r6 : List AOper := [⟨some 11, .mov (.s 2), none⟩,
  ⟨some 12, .bin false .add (.s 11) (.c (.v (.int .i64 16))), none⟩,
  ⟨some 2, .mov (.s 12), none⟩]
def F35r7 : List AOper := [⟨some 13, .mov (.s 0), none⟩,
  ⟨some 14, .bin false .geq (.s 13) (.c (.v (.int .u64 256))), none⟩]
def F35r8 : List AOper := [⟨some 15, .mov (.s 0), none⟩,
  ⟨some 16, .bin false .shr (.s 15) (.c (.v (.int .u64 8))), none⟩,
  ⟨some 0, .mov (.s 16), none⟩]
def F35r9 : List AOper := [⟨some 17, .mov (.s 2), none⟩,
  ⟨some 18, .bin false .add (.s 17) (.c (.v (.int .i64 8))), none⟩,
  ⟨some 2, .mov (.s 18), none⟩]
def F35r10 : List AOper := [⟨some 19, .mov (.s 2), none⟩,
  ⟨some 20, .mov (.s 0), none⟩,
  ⟨some 21, .conv .u8 (.s 20), none⟩,
  ⟨some 22, .six (.c (.v (.string ⟨#[0, 1, 2, 2, 3, 3, 3, 3, 4, 4, 4, 4, 4, 4, 4, 4, 5, 5, 5, 5, 5, 5, 5, 5, 5, 5, 5, 5, 5, 5, 5, 5, 6, 6, 6, 6, 6, 6, 6, 6, 6, 6, 6, 6, 6, 6, 6, 6, 6, 6, 6, 6, 6, 6, 6, 6, 6, 6, 6, 6, 6, 6, 6, 6, 7, 7, 7, 7, 7, 7, 7, 7, 7, 7, 7, 7, 7, 7, 7, 7, 7, 7, 7, 7, 7, 7, 7, 7, 7, 7, 7, 7, 7, 7, 7, 7, 7, 7, 7, 7, 7, 7, 7, 7, 7, 7, 7, 7, 7, 7, 7, 7, 7, 7, 7, 7, 7, 7, 7, 7, 7, 7, 7, 7, 7, 7, 7, 7, 8, 8, 8, 8, 8, 8, 8, 8, 8, 8, 8, 8, 8, 8, 8, 8, 8, 8, 8, 8, 8, 8, 8, 8, 8, 8, 8, 8, 8, 8, 8, 8, 8, 8, 8, 8, 8, 8, 8, 8, 8, 8, 8, 8, 8, 8, 8, 8, 8, 8, 8, 8, 8, 8, 8, 8, 8, 8, 8, 8, 8, 8, 8, 8, 8, 8, 8, 8, 8, 8, 8, 8, 8, 8, 8, 8, 8, 8, 8, 8, 8, 8, 8, 8, 8, 8, 8, 8, 8, 8, 8, 8, 8, 8, 8, 8, 8, 8, 8, 8, 8, 8, 8, 8, 8, 8, 8, 8, 8, 8, 8, 8, 8, 8, 8, 8, 8, 8, 8, 8, 8, 8, 8, 8, 8, 8, 8, 8]⟩))) (.s 21), none⟩,
  ⟨some 23, .conv .i64 (.s 22), none⟩,
  ⟨some 24, .bin false .add (.s 19) (.s 23), none⟩,
  ⟨some 2, .mov (.s 24), none⟩]
def F35 : AFn := ⟨25, [.tmp 2],
  .seq (.reg F35r0 none)
  (.seq (.seq (.reg F35r1 none)
  (.cond (.s 4)
    (.seq (.reg F35r2 none)
    (.reg F35r3 none))
    (.skip)))
  (.seq (.seq (.reg F35r4 none)
  (.cond (.s 8)
    (.seq (.reg F35r5 none)
    (.reg F35r6 none))
    (.skip)))
  (.seq (.seq (.reg F35r7 none)
  (.cond (.s 14)
    (.seq (.reg F35r8 none)
    (.reg F35r9 none))
    (.skip)))
  (.seq (.reg F35r10 none)
  (.ret)))))⟩
theorem F35_ok : cFunc Tryd.prog 35 = some F35 := by kernel_rfl
theorem F35_call : callable Tryd.prog 35 = true := by kernel_rfl
/-- copies.Raw -/
def F38r0 : List AOper := [⟨some 2, .box 3 (.s 0), none⟩,
  ⟨some 3, .box 3 (.s 1), none⟩,
  ⟨some 4, .new [.v (.int .i64 0), .v (.int .i64 0), .v (.string ⟨#[]⟩)], none⟩]
def F38r1 : List AOper := [⟨some 5, .fad 0 (.s 2), none⟩,
  ⟨some 6, .load (some 2) (.s 5), none⟩,
  ⟨some 7, .fad 0 (.s 3), none⟩,
  ⟨some 8, .load (some 2) (.s 7), none⟩,
  ⟨some 9, .call (.c (.fn 18 [])) [.s 6, .s 8], none⟩]
def F38r2 : List AOper := [⟨some 10, .load (some 3) (.s 3), none⟩,
  ⟨none, .store 3 (.s 4) (.s 10), none⟩]
def F38r3 : List AOper := [⟨some 11, .load (some 3) (.s 2), none⟩,
  ⟨none, .store 3 (.s 4) (.s 11), none⟩]
def F38 : AFn := ⟨12, [.cell 4 (some 3)],
  .seq (.reg F38r0 none)
  (.seq (.seq (.reg F38r1 none)
  (.cond (.s 9)
    (.seq (.reg F38r2 none)
    (.ret))
    (.skip)))
  (.seq (.reg F38r3 none)
  (.ret)))⟩
theorem F38_ok : cFunc Tryd.prog 38 = some F38 := by kernel_rfl
theorem F38_call : callable Tryd.prog 38 = true := by kernel_rfl
/-- stamp.compare -/
def F40r0 : List AOper := [⟨some 2, .box 2 (.s 0), none⟩,
  ⟨some 3, .box 2 (.s 1), none⟩,
  ⟨some 4, .mov (.c (.v (.int .i64 0))), none⟩]
def F40r1 : List AOper := [⟨some 5, .fad 0 (.s 2), none⟩,
  ⟨some 6, .load none (.s 5), none⟩,
  ⟨some 7, .fad 0 (.s 3), none⟩,
  ⟨some 8, .load none (.s 7), none⟩,
  ⟨some 9, .call (.c (.fn 54 [])) [.s 6, .s 8], none⟩,
  ⟨some 10, .fad 1 (.s 2), none⟩,
  ⟨some 11, .load none (.s 10), none⟩,
  ⟨some 12, .fad 1 (.s 3), none⟩,
  ⟨some 13, .load none (.s 12), none⟩,
  ⟨some 14, .call (.c (.fn 54 [])) [.s 11, .s 13], none⟩,
  ⟨some 15, .bsl 1 2 [.v (.int .i64 0)] [(0, .s 9), (1, .s 14)], none⟩,
  ⟨some 16, .call (.c (.fn 53 [])) [.s 15], none⟩,
  ⟨some 4, .mov (.s 16), none⟩]
def F40 : AFn := ⟨17, [.tmp 4],
  .seq (.reg F40r0 none)
  (.seq (.reg F40r1 (some [[], [0], [], [2], [1, 3, 0, 2], [], [5], [], [7], [6, 8, 4, 5, 7, 1, 3, 0, 2], [4, 9, 1, 3, 0, 2, 6, 8, 5, 7], [10, 9, 4, 1, 3, 0, 2, 6, 8, 5, 7], [11, 0, 1, 2, 3, 4, 5, 6, 7, 8, 9, 10]]))
  (.ret))⟩
theorem F40_ok : cFunc Tryd.prog 40 = some F40 := by kernel_rfl
theorem F40_call : callable Tryd.prog 40 = true := by kernel_rfl
/-- quorum.Sum -/
def F41r0 : List AOper := [⟨some 4, .mov (.c (.v (.int .i64 0))), none⟩,
  ⟨some 5, .mov (.c (.v (.int .i64 0))), none⟩]
def F41r1 : List AOper := [⟨some 9, .mov (.s 0), none⟩,
  ⟨some 10, .call (.c (.fn 49 [])) [.s 9], none⟩,
  ⟨some 8, .mov (.s 10), none⟩,
  ⟨some 11, .ext 0 (.s 8), none⟩,
  ⟨some 12, .ext 1 (.s 8), none⟩,
  ⟨some 6, .mov (.s 11), none⟩,
  ⟨some 7, .mov (.s 12), none⟩]
def F41r2 : List AOper := [⟨some 13, .mov (.s 7), none⟩,
  ⟨some 14, .bin false .neq (.s 13) (.c (.v (.int .i64 0))), none⟩]
def F41r3 : List AOper := [⟨some 15, .mov (.s 7), none⟩,
  ⟨some 4, .mov (.c (.v (.int .i64 0))), none⟩,
  ⟨some 5, .mov (.s 15), none⟩]
def F41r4 : List AOper := [⟨some 16, .mov (.s 1), none⟩,
  ⟨some 17, .call (.c (.fn 35 [])) [.s 16], none⟩,
  ⟨some 18, .mov (.s 0), none⟩,
  ⟨some 19, .len false (.s 18), none⟩,
  ⟨some 20, .bin false .gtr (.s 17) (.s 19), none⟩]
def F41r5 : List AOper := [⟨some 4, .mov (.c (.v (.int .i64 0))), none⟩,
  ⟨some 5, .mov (.c (.v (.int .i64 3))), none⟩]
def F41r6 : List AOper := [⟨some 21, .mov (.s 1), none⟩,
  ⟨some 22, .bin false .neq (.s 21) (.c (.v (.int .u64 0))), none⟩]
def F41r7 : List AOper := [⟨some 27, .mov (.s 4), none⟩,
  ⟨some 28, .mov (.s 0), none⟩,
  ⟨some 29, .mov (.s 1), none⟩,
  ⟨some 30, .call (.c (.fn 55 [])) [.s 29], none⟩,
  ⟨some 31, .iad 1 (.s 28) (.s 30), none⟩,
  ⟨some 32, .load none (.s 31), none⟩,
  ⟨some 33, .bin false .add (.s 27) (.s 32), none⟩,
  ⟨some 4, .mov (.s 33), none⟩]
def F41r8 : List AOper := [⟨some 23, .mov (.s 1), none⟩,
  ⟨some 24, .mov (.s 1), none⟩,
  ⟨some 25, .bin false .sub (.s 24) (.c (.v (.int .u64 1))), none⟩,
  ⟨some 26, .bin false .and (.s 23) (.s 25), none⟩,
  ⟨some 1, .mov (.s 26), none⟩]
def F41r9 : List AOper := [⟨some 34, .mov (.s 4), none⟩,
  ⟨some 4, .mov (.s 34), none⟩,
  ⟨some 5, .mov (.c (.v (.int .i64 0))), none⟩]
def F41 : AFn := ⟨35, [.tmp 4, .tmp 5],
  .seq (.reg F41r0 none)
  (.seq (.seq (.reg F41r1 none)
  (.seq (.reg F41r2 none)
  (.cond (.s 14)
    (.seq (.reg F41r3 none)
    (.ret))
    (.skip))))
  (.seq (.seq (.reg F41r4 none)
  (.cond (.s 20)
    (.seq (.reg F41r5 none)
    (.ret))
    (.skip)))
  (.seq (.block 0 (
    .loop (
      .seq (.seq (.reg F41r6 none)
      (.cond (.s 22)
        (.skip)
        (.exit 0)))
      (.seq (.block 1 (
        .reg F41r7 none))
      (.reg F41r8 none)))))
  (.seq (.reg F41r9 none)
  (.ret)))))⟩
theorem F41_ok : cFunc Tryd.prog 41 = some F41 := by kernel_rfl
theorem F41_call : callable Tryd.prog 41 = true := by kernel_rfl
/-- wire.kind -/
def F42r0 : List AOper := [⟨some 2, .mov (.c (.v (.bool false))), none⟩]
def F42r1 : List AOper := [⟨some 3, .mov (.s 0), none⟩,
  ⟨some 4, .bin false .geq (.s 3) (.c (.v (.int .i64 1))), none⟩,
  ⟨some 5, .mov (.s 4), none⟩,
  ⟨some 6, .mov (.s 0), some (5, true)⟩,
  ⟨some 7, .bin false .leq (.s 6) (.c (.v (.int .i64 4))), some (5, true)⟩,
  ⟨some 8, .pick (.s 5) (.s 7) (.c (.v (.bool false))), none⟩,
  ⟨some 2, .mov (.s 8), none⟩]
def F42 : AFn := ⟨9, [.tmp 2],
  .seq (.reg F42r0 none)
  (.seq (.reg F42r1 none)
  (.ret))⟩
theorem F42_ok : cFunc Tryd.prog 42 = some F42 := by kernel_rfl
theorem F42_call : callable Tryd.prog 42 = true := by kernel_rfl
/-- wire.carries -/
def F43r0 : List AOper := [⟨some 2, .mov (.c (.v (.bool false))), none⟩]
def F43r1 : List AOper := [⟨some 3, .mov (.s 0), none⟩,
  ⟨some 4, .bin false .eql (.s 3) (.c (.v (.int .i64 2))), none⟩,
  ⟨some 5, .mov (.s 4), none⟩,
  ⟨some 6, .mov (.s 0), some (5, false)⟩,
  ⟨some 7, .bin false .eql (.s 6) (.c (.v (.int .i64 3))), some (5, false)⟩,
  ⟨some 8, .pick (.s 5) (.c (.v (.bool true))) (.s 7), none⟩,
  ⟨some 2, .mov (.s 8), none⟩]
def F43 : AFn := ⟨9, [.tmp 2],
  .seq (.reg F43r0 none)
  (.seq (.reg F43r1 none)
  (.ret))⟩
theorem F43_ok : cFunc Tryd.prog 43 = some F43 := by kernel_rfl
theorem F43_call : callable Tryd.prog 43 = true := by kernel_rfl
/-- (ask.client).chosen -/
def F44r0 : List AOper := [⟨some 2, .mov (.c (.v (.bool false))), none⟩]
def F44r1 : List AOper := [⟨some 5, .mov (.s 0), none⟩,
  ⟨some 6, .nilc (.s 5), none⟩,
  ⟨some 7, .fad 0 (.s 6), none⟩,
  ⟨some 8, .fad 1 (.s 7), none⟩,
  ⟨some 9, .load none (.s 8), none⟩,
  ⟨some 10, .bin false .eql (.s 9) (.c (.v (.int .i64 1))), none⟩]
def F44r2 : List AOper := [⟨some 2, .mov (.c (.v (.bool true))), none⟩]
def F44r3 : List AOper := [⟨some 12, .mov (.s 0), none⟩,
  ⟨some 13, .nilc (.s 12), none⟩,
  ⟨some 14, .fad 0 (.s 13), none⟩,
  ⟨some 15, .fad 4 (.s 14), none⟩,
  ⟨some 16, .fad 0 (.s 15), none⟩,
  ⟨some 17, .load (some 2) (.s 16), none⟩,
  ⟨some 18, .bsl 2 1 [.v (.int .i64 0), .v (.int .i64 0)] [(0, .s 17)], none⟩,
  ⟨some 19, .mov (.s 0), none⟩,
  ⟨some 20, .nilc (.s 19), none⟩,
  ⟨some 21, .fad 0 (.s 20), none⟩,
  ⟨some 22, .fad 0 (.s 21), none⟩,
  ⟨some 23, .load none (.s 22), none⟩,
  ⟨some 24, .call (.c (.fn 56 [])) [.s 18, .s 23], none⟩,
  ⟨some 11, .mov (.s 24), none⟩,
  ⟨some 25, .ext 0 (.s 11), none⟩,
  ⟨some 26, .ext 1 (.s 11), none⟩,
  ⟨some 3, .new [.v (.int .i64 0), .v (.int .i64 0)], none⟩,
  ⟨none, .store 2 (.s 3) (.s 25), none⟩,
  ⟨some 4, .mov (.s 26), none⟩]
def F44r4 : List AOper := [⟨some 27, .mov (.s 0), none⟩,
  ⟨some 28, .load (some 2) (.s 3), none⟩,
  ⟨some 29, .mov (.s 0), none⟩,
  ⟨some 30, .nilc (.s 29), none⟩,
  ⟨some 31, .fad 0 (.s 30), none⟩,
  ⟨some 32, .fad 3 (.s 31), none⟩,
  ⟨some 33, .load none (.s 32), none⟩,
  ⟨some 34, .agg [.v (.int .i64 0), .v (.int .i64 0), .v (.string ⟨#[]⟩)] [(0, (2, .s 28)), (2, (1, .s 33))], none⟩,
  ⟨some 35, .nilc (.s 27), none⟩,
  ⟨some 36, .fad 0 (.s 35), none⟩,
  ⟨some 37, .fad 4 (.s 36), none⟩,
  ⟨none, .store 3 (.s 37) (.s 34), none⟩]
def F44r5 : List AOper := [⟨some 38, .mov (.s 4), none⟩,
  ⟨some 39, .bin false .eql (.s 38) (.c (.v (.int .i64 0))), none⟩,
  ⟨some 2, .mov (.s 39), none⟩]
def F44 : AFn := ⟨40, [.tmp 2],
  .seq (.reg F44r0 none)
  (.seq (.seq (.reg F44r1 none)
  (.cond (.s 10)
    (.seq (.reg F44r2 none)
    (.ret))
    (.skip)))
  (.seq (.reg F44r3 (some [[], [0], [1, 0], [2, 1, 0], [3, 2, 1, 0], [4, 3, 2, 1, 0], [5, 4, 3, 2, 1, 0], [], [7], [8, 7], [9, 8, 7], [10, 9, 8, 7], [6, 11, 5, 4, 3, 2, 1, 0, 10, 9, 8, 7], [12, 6, 11, 5, 4, 3, 2, 1, 0, 10, 9, 8, 7], [13, 12, 6, 11, 5, 4, 3, 2, 1, 0, 10, 9, 8, 7], [13, 12, 6, 11, 5, 4, 3, 2, 1, 0, 10, 9, 8, 7], [], [16, 14, 12, 0, 1, 2, 3, 4, 5, 6, 7, 8, 9, 10, 11, 13], [15, 17, 0, 1, 2, 3, 4, 5, 6, 7, 8, 9, 10, 11, 12, 13, 14, 16]]))
  (.seq (.reg F44r4 (some [[], [], [], [2], [3, 2], [4, 3, 2], [5, 4, 3, 2], [1, 6, 5, 4, 3, 2], [0, 1, 2, 3, 4, 5, 6, 7], [8, 0, 1, 2, 3, 4, 5, 6, 7], [9, 0, 1, 2, 3, 4, 5, 6, 7, 8], [10, 7, 0, 1, 2, 3, 4, 5, 6, 9, 8]]))
  (.seq (.reg F44r5 none)
  (.ret)))))⟩
theorem F44_ok : cFunc Tryd.prog 44 = some F44 := by kernel_rfl
theorem F44_call : callable Tryd.prog 44 = true := by kernel_rfl
/-- supercargolaw.at -/
def F48r0 : List AOper := [⟨some 4, .new [.v (.int .i64 0), .v (.int .i64 0)], none⟩]
def F48r1 : List AOper := [⟨some 5, .mov (.s 0), none⟩,
  ⟨some 6, .mov (.s 1), none⟩,
  ⟨some 7, .agg [.v (.int .i64 0), .v (.int .i64 0)] [(0, (1, .s 5)), (1, (1, .s 6))], none⟩,
  ⟨none, .store 2 (.s 4) (.s 7), none⟩]
def F48 : AFn := ⟨8, [.cell 4 (some 2)],
  .seq (.reg F48r0 none)
  (.seq (.reg F48r1 none)
  (.ret))⟩
theorem F48_ok : cFunc Tryd.prog 48 = some F48 := by kernel_rfl
theorem F48_call : callable Tryd.prog 48 = true := by kernel_rfl
/-- quorum.nodes -/
def F49r0 : List AOper := [⟨some 2, .mov (.c (.v (.int .i64 0))), none⟩,
  ⟨some 3, .mov (.c (.v (.int .i64 0))), none⟩]
def F49r1 : List AOper := [⟨some 7, .mov (.s 0), none⟩,
  ⟨some 8, .len false (.s 7), none⟩,
  ⟨some 9, .bin false .eql (.s 8) (.c (.v (.int .i64 0))), none⟩,
  ⟨some 6, .mov (.s 9), none⟩]
def F49r2 : List AOper := [⟨some 2, .mov (.c (.v (.int .i64 0))), none⟩,
  ⟨some 3, .mov (.c (.v (.int .i64 8))), none⟩]
def F49r3 : List AOper := [⟨some 11, .mov (.s 0), none⟩,
  ⟨some 12, .len false (.s 11), none⟩,
  ⟨some 13, .bin false .gtr (.s 12) (.c (.v (.int .i64 12))), none⟩,
  ⟨some 10, .mov (.s 13), none⟩]
def F49r4 : List AOper := [⟨some 2, .mov (.c (.v (.int .i64 0))), none⟩,
  ⟨some 3, .mov (.c (.v (.int .i64 2))), none⟩]
def F49r5 : List AOper := [⟨some 14, .mov (.s 0), none⟩,
  ⟨some 15, .len false (.s 14), none⟩,
  ⟨some 16, .mov (.c (.v (.int .i64 0))), none⟩]
def F49r6 : List AOper := [⟨some 17, .bin false .lss (.s 16) (.s 15), none⟩]
def F49r7 : List AOper := [⟨some 18, .iad 1 (.s 14) (.s 16), none⟩,
  ⟨some 19, .load none (.s 18), none⟩,
  ⟨some 5, .mov (.s 19), none⟩]
def F49r8 : List AOper := [⟨some 20, .mov (.s 5), none⟩,
  ⟨some 21, .bin false .lss (.s 20) (.c (.v (.int .i64 0))), none⟩,
  ⟨some 22, .mov (.s 21), none⟩,
  ⟨some 23, .mov (.s 5), some (22, false)⟩,
  ⟨some 24, .bin false .gtr (.s 23) (.c (.v (.int .i64 100))), some (22, false)⟩,
  ⟨some 25, .pick (.s 22) (.c (.v (.bool true))) (.s 24), none⟩]
def F49r9 : List AOper := [⟨some 2, .mov (.c (.v (.int .i64 0))), none⟩,
  ⟨some 3, .mov (.c (.v (.int .i64 3))), none⟩]
def F49r10 : List AOper := [⟨some 26, .mov (.s 2), none⟩,
  ⟨some 27, .mov (.s 5), none⟩,
  ⟨some 28, .bin false .add (.s 26) (.s 27), none⟩,
  ⟨some 2, .mov (.s 28), none⟩]
def F49r11 : List AOper := [⟨some 29, .bin false .add (.s 16) (.c (.v (.int .i64 1))), none⟩,
  ⟨some 16, .mov (.s 29), none⟩]
def F49r12 : List AOper := [⟨some 30, .mov (.s 2), none⟩,
  ⟨some 2, .mov (.s 30), none⟩,
  ⟨some 3, .mov (.c (.v (.int .i64 0))), none⟩]
def F49 : AFn := ⟨31, [.tmp 2, .tmp 3],
  .seq (.reg F49r0 none)
  (.seq (.block 0 (
    .seq (.reg F49r1 none)
    (.cond (.s 6)
      (.seq (.reg F49r2 none)
      (.ret))
      (.seq (.reg F49r3 none)
      (.cond (.s 10)
        (.seq (.reg F49r4 none)
        (.ret))
        (.skip))))))
  (.seq (.seq (.reg F49r5 none)
  (.block 1 (
    .loop (
      .seq (.reg F49r6 none)
      (.seq (.cond (.s 17)
        (.skip)
        (.exit 1))
      (.seq (.block 2 (
        .seq (.reg F49r7 none)
        (.seq (.seq (.reg F49r8 none)
        (.cond (.s 25)
          (.seq (.reg F49r9 none)
          (.ret))
          (.skip)))
        (.reg F49r10 none))))
      (.reg F49r11 none)))))))
  (.seq (.reg F49r12 none)
  (.ret))))⟩
theorem F49_ok : cFunc Tryd.prog 49 = some F49 := by kernel_rfl
theorem F49_call : callable Tryd.prog 49 = true := by kernel_rfl
/-- stamp.Check -/
def F50r0 : List AOper := [⟨some 1, .box 2 (.s 0), none⟩,
  ⟨some 2, .mov (.c (.v (.int .i64 0))), none⟩]
def F50r1 : List AOper := [⟨some 3, .fad 0 (.s 1), none⟩,
  ⟨some 4, .load none (.s 3), none⟩,
  ⟨some 5, .bin false .lss (.s 4) (.c (.v (.int .i64 0))), none⟩,
  ⟨some 6, .mov (.s 5), none⟩,
  ⟨some 7, .fad 0 (.s 1), some (6, false)⟩,
  ⟨some 8, .load none (.s 7), some (6, false)⟩,
  ⟨some 9, .bin false .gtr (.s 8) (.c (.v (.int .i64 1000000))), some (6, false)⟩,
  ⟨some 10, .pick (.s 6) (.c (.v (.bool true))) (.s 9), none⟩,
  ⟨some 11, .mov (.s 10), none⟩,
  ⟨some 12, .fad 1 (.s 1), some (11, false)⟩,
  ⟨some 13, .load none (.s 12), some (11, false)⟩,
  ⟨some 14, .call (.c (.fn 57 [])) [.s 13], some (11, false)⟩,
  ⟨some 15, .un .not (.s 14), some (11, false)⟩,
  ⟨some 16, .pick (.s 11) (.c (.v (.bool true))) (.s 15), none⟩]
def F50r2 : List AOper := [⟨some 2, .mov (.c (.v (.int .i64 3))), none⟩]
def F50r3 : List AOper := [⟨some 2, .mov (.c (.v (.int .i64 0))), none⟩]
def F50 : AFn := ⟨17, [.tmp 2],
  .seq (.reg F50r0 none)
  (.seq (.seq (.reg F50r1 none)
  (.cond (.s 16)
    (.seq (.reg F50r2 none)
    (.ret))
    (.skip)))
  (.seq (.reg F50r3 none)
  (.ret)))⟩
theorem F50_ok : cFunc Tryd.prog 50 = some F50 := by kernel_rfl
theorem F50_call : callable Tryd.prog 50 = true := by kernel_rfl
/-- cmp.Or[int] -/
def F53r0 : List AOper := [⟨some 2, .mov (.c (.v (.int .i64 0))), none⟩]
def F53r1 : List AOper := [⟨some 3, .mov (.c (.v (.int .i64 0))), none⟩]
def F53r2 : List AOper := [⟨some 6, .mov (.s 0), none⟩,
  ⟨some 7, .len false (.s 6), none⟩,
  ⟨some 8, .mov (.c (.v (.int .i64 0))), none⟩]
def F53r3 : List AOper := [⟨some 9, .bin false .lss (.s 8) (.s 7), none⟩]
def F53r4 : List AOper := [⟨some 10, .iad 1 (.s 6) (.s 8), none⟩,
  ⟨some 11, .load none (.s 10), none⟩,
  ⟨some 5, .mov (.s 11), none⟩]
def F53r5 : List AOper := [⟨some 12, .mov (.s 5), none⟩,
  ⟨some 13, .mov (.s 3), none⟩,
  ⟨some 14, .bin false .neq (.s 12) (.s 13), none⟩]
def F53r6 : List AOper := [⟨some 15, .mov (.s 5), none⟩,
  ⟨some 2, .mov (.s 15), none⟩]
def F53r7 : List AOper := [⟨some 16, .bin false .add (.s 8) (.c (.v (.int .i64 1))), none⟩,
  ⟨some 8, .mov (.s 16), none⟩]
def F53r8 : List AOper := [⟨some 17, .mov (.s 3), none⟩,
  ⟨some 2, .mov (.s 17), none⟩]
def F53 : AFn := ⟨18, [.tmp 2],
  .seq (.reg F53r0 none)
  (.seq (.reg F53r1 none)
  (.seq (.seq (.reg F53r2 none)
  (.block 0 (
    .loop (
      .seq (.reg F53r3 none)
      (.seq (.cond (.s 9)
        (.skip)
        (.exit 0))
      (.seq (.block 1 (
        .seq (.reg F53r4 none)
        (.seq (.reg F53r5 none)
        (.cond (.s 14)
          (.seq (.reg F53r6 none)
          (.ret))
          (.skip)))))
      (.reg F53r7 none)))))))
  (.seq (.reg F53r8 none)
  (.ret))))⟩
theorem F53_ok : cFunc Tryd.prog 53 = some F53 := by kernel_rfl
theorem F53_call : callable Tryd.prog 53 = true := by kernel_rfl
/-- cmp.Compare[int] -/
def F54r0 : List AOper := [⟨some 4, .mov (.c (.v (.int .i64 0))), none⟩]
def F54r1 : List AOper := [⟨some 7, .mov (.s 0), none⟩,
  ⟨some 8, .call (.c (.fn 58 [])) [.s 7], none⟩,
  ⟨some 5, .mov (.s 8), none⟩]
def F54r2 : List AOper := [⟨some 9, .mov (.s 1), none⟩,
  ⟨some 10, .call (.c (.fn 58 [])) [.s 9], none⟩,
  ⟨some 6, .mov (.s 10), none⟩]
def F54r3 : List AOper := [⟨some 11, .mov (.s 5), none⟩]
def F54r4 : List AOper := [⟨some 12, .mov (.s 6), none⟩]
def F54r5 : List AOper := [⟨some 4, .mov (.c (.v (.int .i64 0))), none⟩]
def F54r6 : List AOper := [⟨some 4, .mov (.c (.v (.int .i64 (-1)))), none⟩]
def F54r7 : List AOper := [⟨some 13, .mov (.s 6), none⟩]
def F54r8 : List AOper := [⟨some 4, .mov (.c (.v (.int .i64 1))), none⟩]
def F54r9 : List AOper := [⟨some 14, .mov (.s 0), none⟩,
  ⟨some 15, .mov (.s 1), none⟩,
  ⟨some 16, .bin false .lss (.s 14) (.s 15), none⟩]
def F54r10 : List AOper := [⟨some 4, .mov (.c (.v (.int .i64 (-1)))), none⟩]
def F54r11 : List AOper := [⟨some 17, .mov (.s 0), none⟩,
  ⟨some 18, .mov (.s 1), none⟩,
  ⟨some 19, .bin false .gtr (.s 17) (.s 18), none⟩]
def F54r12 : List AOper := [⟨some 4, .mov (.c (.v (.int .i64 1))), none⟩]
def F54r13 : List AOper := [⟨some 4, .mov (.c (.v (.int .i64 0))), none⟩]
def F54 : AFn := ⟨20, [.tmp 4],
  .seq (.reg F54r0 none)
  (.seq (.reg F54r1 none)
  (.seq (.reg F54r2 none)
  (.seq (.seq (.reg F54r3 none)
  (.cond (.s 11)
    (.seq (.seq (.reg F54r4 none)
    (.cond (.s 12)
      (.seq (.reg F54r5 none)
      (.ret))
      (.skip)))
    (.seq (.reg F54r6 none)
    (.ret)))
    (.skip)))
  (.seq (.seq (.reg F54r7 none)
  (.cond (.s 13)
    (.seq (.reg F54r8 none)
    (.ret))
    (.skip)))
  (.seq (.seq (.reg F54r9 none)
  (.cond (.s 16)
    (.seq (.reg F54r10 none)
    (.ret))
    (.skip)))
  (.seq (.seq (.reg F54r11 none)
  (.cond (.s 19)
    (.seq (.reg F54r12 none)
    (.ret))
    (.skip)))
  (.seq (.reg F54r13 none)
  (.ret))))))))⟩
theorem F54_ok : cFunc Tryd.prog 54 = some F54 := by kernel_rfl
theorem F54_call : callable Tryd.prog 54 = true := by kernel_rfl
/-- math/bits.TrailingZeros64 -/
def F55r0 : List AOper := [⟨some 2, .mov (.c (.v (.int .i64 0))), none⟩]
def F55r1 : List AOper := [⟨some 3, .mov (.s 0), none⟩,
  ⟨some 4, .bin false .eql (.s 3) (.c (.v (.int .u64 0))), none⟩]
def F55r2 : List AOper := [⟨some 2, .mov (.c (.v (.int .i64 64))), none⟩]
def F55r3 : List AOper := [⟨some 5, .mov (.s 0), none⟩,
  ⟨some 6, .mov (.s 0), none⟩,
  ⟨some 7, .un .neg (.s 6), none⟩,
  ⟨some 8, .bin false .and (.s 5) (.s 7), none⟩,
  ⟨some 9, .bin false .mul (.s 8) (.c (.v (.int .u64 285870213051353865))), none⟩,
  ⟨some 10, .bin false .shr (.s 9) (.c (.v (.int .u64 58))), none⟩,
  ⟨some 11, .iap 1 64 (.c (.pim [.v (.int .u8 0), .v (.int .u8 1), .v (.int .u8 56), .v (.int .u8 2), .v (.int .u8 57), .v (.int .u8 49), .v (.int .u8 28), .v (.int .u8 3), .v (.int .u8 61), .v (.int .u8 58), .v (.int .u8 42), .v (.int .u8 50), .v (.int .u8 38), .v (.int .u8 29), .v (.int .u8 17), .v (.int .u8 4), .v (.int .u8 62), .v (.int .u8 47), .v (.int .u8 59), .v (.int .u8 36), .v (.int .u8 45), .v (.int .u8 43), .v (.int .u8 51), .v (.int .u8 22), .v (.int .u8 53), .v (.int .u8 39), .v (.int .u8 33), .v (.int .u8 30), .v (.int .u8 24), .v (.int .u8 18), .v (.int .u8 12), .v (.int .u8 5), .v (.int .u8 63), .v (.int .u8 55), .v (.int .u8 48), .v (.int .u8 27), .v (.int .u8 60), .v (.int .u8 41), .v (.int .u8 37), .v (.int .u8 16), .v (.int .u8 46), .v (.int .u8 35), .v (.int .u8 44), .v (.int .u8 21), .v (.int .u8 52), .v (.int .u8 32), .v (.int .u8 23), .v (.int .u8 11), .v (.int .u8 54), .v (.int .u8 26), .v (.int .u8 40), .v (.int .u8 15), .v (.int .u8 34), .v (.int .u8 20), .v (.int .u8 31), .v (.int .u8 10), .v (.int .u8 25), .v (.int .u8 14), .v (.int .u8 19), .v (.int .u8 9), .v (.int .u8 13), .v (.int .u8 8), .v (.int .u8 7), .v (.int .u8 6)] 0)) (.s 10), none⟩,
  ⟨some 12, .load none (.s 11), none⟩,
  ⟨some 13, .conv .i64 (.s 12), none⟩,
  ⟨some 2, .mov (.s 13), none⟩]
def F55 : AFn := ⟨14, [.tmp 2],
  .seq (.reg F55r0 none)
  (.seq (.seq (.reg F55r1 none)
  (.cond (.s 4)
    (.seq (.reg F55r2 none)
    (.ret))
    (.skip)))
  (.seq (.reg F55r3 none)
  (.ret)))⟩
theorem F55_ok : cFunc Tryd.prog 55 = some F55 := by kernel_rfl
theorem F55_call : callable Tryd.prog 55 = true := by kernel_rfl
/-- stamp.Next -/
def F56r0 : List AOper := [⟨some 4, .new [.v (.int .i64 0), .v (.int .i64 0)], none⟩,
  ⟨some 5, .mov (.c (.v (.int .i64 0))), none⟩]
def F56r1 : List AOper := [⟨some 9, .mov (.s 0), none⟩,
  ⟨some 10, .call (.c (.fn 59 [])) [.s 9], none⟩,
  ⟨some 8, .mov (.s 10), none⟩,
  ⟨some 11, .ext 0 (.s 8), none⟩,
  ⟨some 12, .ext 1 (.s 8), none⟩,
  ⟨some 6, .new [.v (.int .i64 0), .v (.int .i64 0)], none⟩,
  ⟨none, .store 2 (.s 6) (.s 11), none⟩,
  ⟨some 7, .mov (.s 12), none⟩]
def F56r2 : List AOper := [⟨some 13, .mov (.s 7), none⟩,
  ⟨some 14, .bin false .eql (.s 13) (.c (.v (.int .i64 0))), none⟩,
  ⟨some 15, .mov (.s 14), none⟩,
  ⟨some 16, .mov (.s 1), some (15, true)⟩,
  ⟨some 17, .call (.c (.fn 57 [])) [.s 16], some (15, true)⟩,
  ⟨some 18, .un .not (.s 17), some (15, true)⟩,
  ⟨some 19, .mov (.s 18), some (15, true)⟩,
  ⟨some 20, .fad 0 (.s 6), some (19, false)⟩,
  ⟨some 21, .load none (.s 20), some (19, false)⟩,
  ⟨some 22, .bin false .eql (.s 21) (.c (.v (.int .i64 1000000))), some (19, false)⟩,
  ⟨some 23, .pick (.s 19) (.c (.v (.bool true))) (.s 22), some (15, true)⟩,
  ⟨some 24, .pick (.s 15) (.s 23) (.c (.v (.bool false))), none⟩]
def F56r3 : List AOper := [⟨some 7, .mov (.c (.v (.int .i64 3))), none⟩]
def F56r4 : List AOper := [⟨some 25, .mov (.s 7), none⟩,
  ⟨some 26, .bin false .neq (.s 25) (.c (.v (.int .i64 0))), none⟩]
def F56r5 : List AOper := [⟨some 27, .agg [.v (.int .i64 0), .v (.int .i64 0)] [], none⟩,
  ⟨some 28, .mov (.s 7), none⟩,
  ⟨none, .store 2 (.s 4) (.s 27), none⟩,
  ⟨some 5, .mov (.s 28), none⟩]
def F56r6 : List AOper := [⟨some 29, .fad 0 (.s 6), none⟩,
  ⟨some 30, .load none (.s 29), none⟩,
  ⟨some 31, .bin false .add (.s 30) (.c (.v (.int .i64 1))), none⟩,
  ⟨some 32, .mov (.s 1), none⟩,
  ⟨some 33, .agg [.v (.int .i64 0), .v (.int .i64 0)] [(0, (1, .s 31)), (1, (1, .s 32))], none⟩,
  ⟨none, .store 2 (.s 4) (.s 33), none⟩,
  ⟨some 5, .mov (.c (.v (.int .i64 0))), none⟩]
def F56 : AFn := ⟨34, [.cell 4 (some 2), .tmp 5],
  .seq (.reg F56r0 none)
  (.seq (.reg F56r1 none)
  (.seq (.seq (.reg F56r2 none)
  (.cond (.s 24)
    (.reg F56r3 none)
    (.skip)))
  (.seq (.seq (.reg F56r4 none)
  (.cond (.s 26)
    (.seq (.reg F56r5 none)
    (.ret))
    (.skip)))
  (.seq (.reg F56r6 none)
  (.ret)))))⟩
theorem F56_ok : cFunc Tryd.prog 56 = some F56 := by kernel_rfl
theorem F56_call : callable Tryd.prog 56 = true := by kernel_rfl
/-- stamp.Who -/
def F57r0 : List AOper := [⟨some 2, .mov (.c (.v (.bool false))), none⟩]
def F57r1 : List AOper := [⟨some 3, .mov (.s 0), none⟩,
  ⟨some 4, .bin false .geq (.s 3) (.c (.v (.int .i64 0))), none⟩,
  ⟨some 5, .mov (.s 4), none⟩,
  ⟨some 6, .mov (.s 0), some (5, true)⟩,
  ⟨some 7, .bin false .leq (.s 6) (.c (.v (.int .i64 31))), some (5, true)⟩,
  ⟨some 8, .pick (.s 5) (.s 7) (.c (.v (.bool false))), none⟩,
  ⟨some 2, .mov (.s 8), none⟩]
def F57 : AFn := ⟨9, [.tmp 2],
  .seq (.reg F57r0 none)
  (.seq (.reg F57r1 none)
  (.ret))⟩
theorem F57_ok : cFunc Tryd.prog 57 = some F57 := by kernel_rfl
theorem F57_call : callable Tryd.prog 57 = true := by kernel_rfl
/-- cmp.isNaN[int] -/
def F58r0 : List AOper := [⟨some 2, .mov (.c (.v (.bool false))), none⟩]
def F58r1 : List AOper := [⟨some 3, .mov (.s 0), none⟩,
  ⟨some 4, .mov (.s 0), none⟩,
  ⟨some 5, .bin false .neq (.s 3) (.s 4), none⟩,
  ⟨some 2, .mov (.s 5), none⟩]
def F58 : AFn := ⟨6, [.tmp 2],
  .seq (.reg F58r0 none)
  (.seq (.reg F58r1 none)
  (.ret))⟩
theorem F58_ok : cFunc Tryd.prog 58 = some F58 := by kernel_rfl
theorem F58_call : callable Tryd.prog 58 = true := by kernel_rfl
/-- stamp.Max -/
def F59r0 : List AOper := [⟨some 2, .new [.v (.int .i64 0), .v (.int .i64 0)], none⟩,
  ⟨some 3, .mov (.c (.v (.int .i64 0))), none⟩]
def F59r1 : List AOper := [⟨some 7, .mov (.s 0), none⟩,
  ⟨some 8, .len false (.s 7), none⟩,
  ⟨some 9, .bin false .gtr (.s 8) (.c (.v (.int .i64 64))), none⟩]
def F59r2 : List AOper := [⟨some 10, .agg [.v (.int .i64 0), .v (.int .i64 0)] [], none⟩,
  ⟨none, .store 2 (.s 2) (.s 10), none⟩,
  ⟨some 3, .mov (.c (.v (.int .i64 2))), none⟩]
def F59r3 : List AOper := [⟨some 11, .mov (.s 0), none⟩,
  ⟨some 12, .len false (.s 11), none⟩,
  ⟨some 13, .mov (.c (.v (.int .i64 0))), none⟩]
def F59r4 : List AOper := [⟨some 14, .bin false .lss (.s 13) (.s 12), none⟩]
def F59r5 : List AOper := [⟨some 15, .iad 2 (.s 11) (.s 13), none⟩,
  ⟨some 16, .load (some 2) (.s 15), none⟩,
  ⟨some 5, .new [.v (.int .i64 0), .v (.int .i64 0)], none⟩,
  ⟨none, .store 2 (.s 5) (.s 16), none⟩]
def F59r6 : List AOper := [⟨some 17, .load (some 2) (.s 5), none⟩,
  ⟨some 18, .call (.c (.fn 50 [])) [.s 17], none⟩,
  ⟨some 6, .mov (.s 18), none⟩]
def F59r7 : List AOper := [⟨some 19, .mov (.s 6), none⟩,
  ⟨some 20, .bin false .neq (.s 19) (.c (.v (.int .i64 0))), none⟩]
def F59r8 : List AOper := [⟨some 21, .agg [.v (.int .i64 0), .v (.int .i64 0)] [], none⟩,
  ⟨some 22, .mov (.s 6), none⟩,
  ⟨none, .store 2 (.s 2) (.s 21), none⟩,
  ⟨some 3, .mov (.s 22), none⟩]
def F59r9 : List AOper := [⟨some 23, .bin false .add (.s 13) (.c (.v (.int .i64 1))), none⟩,
  ⟨some 13, .mov (.s 23), none⟩]
def F59r10 : List AOper := [⟨some 24, .agg [.v (.int .i64 0), .v (.int .i64 0)] [], none⟩,
  ⟨some 25, .bsl 2 1 [.v (.int .i64 0), .v (.int .i64 0)] [(0, .s 24)], none⟩,
  ⟨some 26, .mov (.s 0), none⟩,
  ⟨some 27, .app 2 16 (.s 25) (.s 26), none⟩,
  ⟨some 28, .call (.c (.fn 60 [])) [.s 27, .c (.fn 40 [])], none⟩,
  ⟨none, .store 2 (.s 2) (.s 28), none⟩,
  ⟨some 3, .mov (.c (.v (.int .i64 0))), none⟩]
def F59 : AFn := ⟨29, [.cell 2 (some 2), .tmp 3],
  .seq (.reg F59r0 none)
  (.seq (.seq (.reg F59r1 none)
  (.cond (.s 9)
    (.seq (.reg F59r2 none)
    (.ret))
    (.skip)))
  (.seq (.seq (.reg F59r3 none)
  (.block 0 (
    .loop (
      .seq (.reg F59r4 none)
      (.seq (.cond (.s 14)
        (.skip)
        (.exit 0))
      (.seq (.block 1 (
        .seq (.reg F59r5 none)
        (.seq (.reg F59r6 none)
        (.seq (.reg F59r7 none)
        (.cond (.s 20)
          (.seq (.reg F59r8 none)
          (.ret))
          (.skip))))))
      (.reg F59r9 none)))))))
  (.seq (.reg F59r10 none)
  (.ret))))⟩
theorem F59_ok : cFunc Tryd.prog 59 = some F59 := by kernel_rfl
theorem F59_call : callable Tryd.prog 59 = true := by kernel_rfl
/-- slices.MaxFunc[[]api.Stamp,api.Stamp] -/
def F60r0 : List AOper := [⟨some 4, .new [.v (.int .i64 0), .v (.int .i64 0)], none⟩]
def F60r1 : List AOper := [⟨some 7, .mov (.s 0), none⟩,
  ⟨some 8, .len false (.s 7), none⟩,
  ⟨some 9, .bin false .lss (.s 8) (.c (.v (.int .i64 1))), none⟩]
def F60r2 : List AOper := [⟨some 10, .bad, none⟩,
  ⟨none, .bad, none⟩]
def F60r3 : List AOper := [⟨some 11, .mov (.s 0), none⟩,
  ⟨some 12, .iad 2 (.s 11) (.c (.v (.int .i64 0))), none⟩,
  ⟨some 13, .load (some 2) (.s 12), none⟩,
  ⟨some 5, .new [.v (.int .i64 0), .v (.int .i64 0)], none⟩,
  ⟨none, .store 2 (.s 5) (.s 13), none⟩]
def F60r4 : List AOper := [⟨some 6, .mov (.c (.v (.int .i64 1))), none⟩]
def F60r5 : List AOper := [⟨some 14, .mov (.s 6), none⟩,
  ⟨some 15, .mov (.s 0), none⟩,
  ⟨some 16, .len false (.s 15), none⟩,
  ⟨some 17, .bin false .lss (.s 14) (.s 16), none⟩]
def F60r6 : List AOper := [⟨some 20, .mov (.s 1), none⟩,
  ⟨some 21, .mov (.s 0), none⟩,
  ⟨some 22, .mov (.s 6), none⟩,
  ⟨some 23, .iad 2 (.s 21) (.s 22), none⟩,
  ⟨some 24, .load (some 2) (.s 23), none⟩,
  ⟨some 25, .load (some 2) (.s 5), none⟩,
  ⟨some 26, .call (.s 20) [.s 24, .s 25], none⟩,
  ⟨some 27, .bin false .gtr (.s 26) (.c (.v (.int .i64 0))), none⟩]
def F60r7 : List AOper := [⟨some 28, .mov (.s 0), none⟩,
  ⟨some 29, .mov (.s 6), none⟩,
  ⟨some 30, .iad 2 (.s 28) (.s 29), none⟩,
  ⟨some 31, .load (some 2) (.s 30), none⟩,
  ⟨none, .store 2 (.s 5) (.s 31), none⟩]
def F60r8 : List AOper := [⟨some 18, .mov (.s 6), none⟩,
  ⟨some 19, .bin false .add (.s 18) (.c (.v (.int .i64 1))), none⟩,
  ⟨some 6, .mov (.s 19), none⟩]
def F60r9 : List AOper := [⟨some 32, .load (some 2) (.s 5), none⟩,
  ⟨none, .store 2 (.s 4) (.s 32), none⟩]
def F60 : AFn := ⟨33, [.cell 4 (some 2)],
  .seq (.reg F60r0 none)
  (.seq (.seq (.reg F60r1 none)
  (.cond (.s 9)
    (.reg F60r2 none)
    (.skip)))
  (.seq (.reg F60r3 none)
  (.seq (.seq (.reg F60r4 none)
  (.block 0 (
    .loop (
      .seq (.seq (.reg F60r5 none)
      (.cond (.s 17)
        (.skip)
        (.exit 0)))
      (.seq (.block 1 (
        .seq (.reg F60r6 (some [[], [], [], [1, 2], [3, 1, 2], [], [0, 4, 5, 3, 1, 2], [6, 0, 4, 5, 3, 1, 2]]))
        (.cond (.s 27)
          (.reg F60r7 none)
          (.skip))))
      (.reg F60r8 none))))))
  (.seq (.reg F60r9 none)
  (.ret)))))⟩
theorem F60_ok : cFunc Tryd.prog 60 = some F60 := by kernel_rfl
theorem F60_call : callable Tryd.prog 60 = true := by kernel_rfl
end Go.Proofs.YtgepadjkegfokaaDoor
