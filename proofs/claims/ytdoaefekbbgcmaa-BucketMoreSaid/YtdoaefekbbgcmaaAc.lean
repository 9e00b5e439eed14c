/- The code of the program's functions as operations upon abstract values, checked against the program. No condition. -/
import Derived.Test.YtdoaefekbbgcmaaRows
import Derived.Test.YtdoaefekbbgcmaaAvRun
set_option maxRecDepth 100000
namespace Go.Proofs.Ytdoaefekbbgcmaa
/-- supercargolaw.BucketTells -/
def F3r0 : List AOper := [⟨some 3, .box 4 (.s 0), none⟩,
  ⟨some 6, .mov (.c (.v (.bool false))), none⟩]
def F3r1 : List AOper := [⟨some 20, .load (some 4) (.s 3), none⟩,
  ⟨some 21, .mov (.s 1), none⟩,
  ⟨some 22, .call (.c (.fn 9 [])) [.s 20, .s 21], none⟩,
  ⟨some 19, .mov (.s 22), none⟩,
  ⟨some 23, .ext 0 (.s 19), none⟩,
  ⟨some 24, .ext 1 (.s 19), none⟩,
  ⟨some 7, .mov (.s 23), none⟩,
  ⟨some 8, .mov (.s 24), none⟩]
def F3r2 : List AOper := [⟨some 26, .load (some 4) (.s 3), none⟩,
  ⟨some 27, .mov (.s 1), none⟩,
  ⟨some 28, .mov (.s 2), none⟩,
  ⟨some 29, .call (.c (.fn 10 [])) [.s 26, .s 27, .s 28], none⟩,
  ⟨some 25, .mov (.s 29), none⟩,
  ⟨some 30, .ext 0 (.s 25), none⟩,
  ⟨some 31, .ext 1 (.s 25), none⟩,
  ⟨some 9, .new [.v (.int .i64 0), .v (.int .i64 0), .v (.int .i64 0), .v (.int .i64 0)], none⟩,
  ⟨none, .store 4 (.s 9) (.s 30), none⟩,
  ⟨some 10, .mov (.s 31), none⟩]
def F3r3 : List AOper := [⟨some 33, .load (some 4) (.s 3), none⟩,
  ⟨some 34, .mov (.s 2), none⟩,
  ⟨some 35, .call (.c (.fn 11 [])) [.s 33, .s 34], none⟩,
  ⟨some 32, .mov (.s 35), none⟩,
  ⟨some 36, .ext 0 (.s 32), none⟩,
  ⟨some 37, .ext 1 (.s 32), none⟩,
  ⟨some 11, .mov (.s 36), none⟩,
  ⟨some 12, .mov (.s 37), none⟩]
def F3r4 : List AOper := [⟨some 39, .load (some 4) (.s 3), none⟩,
  ⟨some 40, .mov (.s 1), none⟩,
  ⟨some 41, .call (.c (.fn 12 [])) [.s 39, .s 40], none⟩,
  ⟨some 38, .mov (.s 41), none⟩,
  ⟨some 42, .ext 0 (.s 38), none⟩,
  ⟨some 43, .ext 1 (.s 38), none⟩,
  ⟨some 13, .mov (.s 42), none⟩,
  ⟨some 14, .mov (.s 43), none⟩]
def F3r5 : List AOper := [⟨some 45, .load (some 4) (.s 3), none⟩,
  ⟨some 46, .mov (.s 1), none⟩,
  ⟨some 47, .mov (.s 2), none⟩,
  ⟨some 48, .call (.c (.fn 13 [])) [.s 45, .s 46, .s 47], none⟩,
  ⟨some 44, .mov (.s 48), none⟩,
  ⟨some 49, .ext 0 (.s 44), none⟩,
  ⟨some 50, .ext 1 (.s 44), none⟩,
  ⟨some 15, .new [.v (.int .i64 0), .v (.int .i64 0), .v (.int .i64 0), .v (.int .i64 0)], none⟩,
  ⟨none, .store 4 (.s 15) (.s 49), none⟩,
  ⟨some 16, .mov (.s 50), none⟩]
def F3r6 : List AOper := [⟨some 52, .load (some 4) (.s 3), none⟩,
  ⟨some 53, .mov (.s 2), none⟩,
  ⟨some 54, .call (.c (.fn 14 [])) [.s 52, .s 53], none⟩,
  ⟨some 51, .mov (.s 54), none⟩,
  ⟨some 55, .ext 0 (.s 51), none⟩,
  ⟨some 56, .ext 1 (.s 51), none⟩,
  ⟨some 17, .mov (.s 55), none⟩,
  ⟨some 18, .mov (.s 56), none⟩]
def F3r7 : List AOper := [⟨some 57, .call (.c (.fn 15 [])) [], none⟩,
  ⟨some 58, .mov (.s 57), none⟩,
  ⟨some 59, .load (some 4) (.s 3), some (58, true)⟩,
  ⟨some 60, .call (.c (.fn 16 [])) [.s 59], some (58, true)⟩,
  ⟨some 61, .load (some 4) (.s 3), some (58, true)⟩,
  ⟨some 62, .call (.c (.fn 17 [])) [.s 61], some (58, true)⟩,
  ⟨some 63, .bin false .eql (.s 60) (.s 62), some (58, true)⟩,
  ⟨some 64, .pick (.s 58) (.s 63) (.c (.v (.bool false))), none⟩,
  ⟨some 65, .mov (.s 64), none⟩,
  ⟨some 66, .mov (.s 7), some (65, true)⟩,
  ⟨some 67, .mov (.s 13), some (65, true)⟩,
  ⟨some 68, .bin false .eql (.s 66) (.s 67), some (65, true)⟩,
  ⟨some 69, .pick (.s 65) (.s 68) (.c (.v (.bool false))), none⟩,
  ⟨some 70, .mov (.s 69), none⟩,
  ⟨some 71, .mov (.s 8), some (70, true)⟩,
  ⟨some 72, .mov (.s 14), some (70, true)⟩,
  ⟨some 73, .bin false .eql (.s 71) (.s 72), some (70, true)⟩,
  ⟨some 74, .pick (.s 70) (.s 73) (.c (.v (.bool false))), none⟩,
  ⟨some 75, .mov (.s 74), none⟩,
  ⟨some 76, .load (some 4) (.s 9), some (75, true)⟩,
  ⟨some 77, .load (some 4) (.s 15), some (75, true)⟩,
  ⟨some 78, .eqs false 4 [(0, .int), (1, .int), (2, .int), (3, .int)] (.s 76) (.s 77), some (75, true)⟩,
  ⟨some 79, .pick (.s 75) (.s 78) (.c (.v (.bool false))), none⟩,
  ⟨some 80, .mov (.s 79), none⟩,
  ⟨some 81, .mov (.s 10), some (80, true)⟩,
  ⟨some 82, .mov (.s 16), some (80, true)⟩,
  ⟨some 83, .bin false .eql (.s 81) (.s 82), some (80, true)⟩,
  ⟨some 84, .pick (.s 80) (.s 83) (.c (.v (.bool false))), none⟩,
  ⟨some 85, .mov (.s 84), none⟩,
  ⟨some 86, .mov (.s 11), some (85, true)⟩,
  ⟨some 87, .mov (.s 17), some (85, true)⟩,
  ⟨some 88, .bin false .eql (.s 86) (.s 87), some (85, true)⟩,
  ⟨some 89, .pick (.s 85) (.s 88) (.c (.v (.bool false))), none⟩,
  ⟨some 90, .mov (.s 89), none⟩,
  ⟨some 91, .mov (.s 12), some (90, true)⟩,
  ⟨some 92, .mov (.s 18), some (90, true)⟩,
  ⟨some 93, .bin false .eql (.s 91) (.s 92), some (90, true)⟩,
  ⟨some 94, .pick (.s 90) (.s 93) (.c (.v (.bool false))), none⟩,
  ⟨some 6, .mov (.s 94), none⟩]
def F3 : AFn := ⟨95, [.tmp 6],
  .seq (.reg F3r0 none)
  (.seq (.reg F3r1 none)
  (.seq (.reg F3r2 none)
  (.seq (.reg F3r3 none)
  (.seq (.reg F3r4 none)
  (.seq (.reg F3r5 none)
  (.seq (.reg F3r6 none)
  (.seq (.reg F3r7 (some [[], [0], [1, 0], [2, 1, 0], [1, 0], [4, 3, 1, 0, 2], [3, 5, 1, 2, 0, 4], [1, 6, 0, 3, 5, 2, 4], [7, 5, 1, 6, 0, 3, 2, 4], [8, 7, 5, 1, 6, 0, 3, 2, 4], [8, 7, 5, 1, 6, 0, 3, 2, 4], [9, 10, 8, 7, 5, 1, 6, 0, 3, 2, 4], [8, 11, 7, 5, 1, 6, 0, 3, 2, 4, 9, 10], [12, 8, 11, 7, 5, 1, 6, 0, 3, 2, 4, 9, 10], [13, 12, 8, 11, 7, 5, 1, 6, 0, 3, 2, 4, 9, 10], [13, 12, 8, 11, 7, 5, 1, 6, 0, 3, 2, 4, 9, 10], [14, 15, 13, 12, 8, 11, 7, 5, 1, 6, 0, 3, 2, 4, 9, 10], [13, 16, 12, 8, 11, 7, 5, 1, 6, 0, 3, 2, 4, 9, 10, 14, 15], [17, 13, 16, 12, 8, 11, 7, 5, 1, 6, 0, 3, 2, 4, 9, 10, 14, 15], [18, 17, 13, 16, 12, 8, 11, 7, 5, 1, 6, 0, 3, 2, 4, 9, 10, 14, 15], [18, 17, 13, 16, 12, 8, 11, 7, 5, 1, 6, 0, 3, 2, 4, 9, 10, 14, 15], [19, 20, 18, 17, 13, 16, 12, 8, 11, 7, 5, 1, 6, 0, 3, 2, 4, 9, 10, 14, 15], [18, 21, 17, 13, 16, 12, 8, 11, 7, 5, 1, 6, 0, 3, 2, 4, 9, 10, 14, 15, 19, 20], [22, 18, 21, 17, 13, 16, 12, 8, 11, 7, 5, 1, 6, 0, 3, 2, 4, 9, 10, 14, 15, 19, 20], [23, 22, 18, 21, 17, 13, 16, 12, 8, 11, 7, 5, 1, 6, 0, 3, 2, 4, 9, 10, 14, 15, 19, 20], [23, 22, 18, 21, 17, 13, 16, 12, 8, 11, 7, 5, 1, 6, 0, 3, 2, 4, 9, 10, 14, 15, 19, 20], [24, 25, 23, 22, 18, 21, 17, 13, 16, 12, 8, 11, 7, 5, 1, 6, 0, 3, 2, 4, 9, 10, 14, 15, 19, 20], [23, 26, 22, 18, 21, 17, 13, 16, 12, 8, 11, 7, 5, 1, 6, 0, 3, 2, 4, 9, 10, 14, 15, 19, 20, 24, 25], [27, 23, 26, 22, 18, 21, 17, 13, 16, 12, 8, 11, 7, 5, 1, 6, 0, 3, 2, 4, 9, 10, 14, 15, 19, 20, 24, 25], [28, 27, 23, 26, 22, 18, 21, 17, 13, 16, 12, 8, 11, 7, 5, 1, 6, 0, 3, 2, 4, 9, 10, 14, 15, 19, 20, 24, 25], [28, 27, 23, 26, 22, 18, 21, 17, 13, 16, 12, 8, 11, 7, 5, 1, 6, 0, 3, 2, 4, 9, 10, 14, 15, 19, 20, 24, 25], [29, 30, 28, 27, 23, 26, 22, 18, 21, 17, 13, 16, 12, 8, 11, 7, 5, 1, 6, 0, 3, 2, 4, 9, 10, 14, 15, 19, 20, 24, 25], [28, 31, 27, 23, 26, 22, 18, 21, 17, 13, 16, 12, 8, 11, 7, 5, 1, 6, 0, 3, 2, 4, 9, 10, 14, 15, 19, 20, 24, 25, 29, 30], [32, 28, 31, 27, 23, 26, 22, 18, 21, 17, 13, 16, 12, 8, 11, 7, 5, 1, 6, 0, 3, 2, 4, 9, 10, 14, 15, 19, 20, 24, 25, 29, 30], [33, 32, 28, 31, 27, 23, 26, 22, 18, 21, 17, 13, 16, 12, 8, 11, 7, 5, 1, 6, 0, 3, 2, 4, 9, 10, 14, 15, 19, 20, 24, 25, 29, 30], [33, 32, 28, 31, 27, 23, 26, 22, 18, 21, 17, 13, 16, 12, 8, 11, 7, 5, 1, 6, 0, 3, 2, 4, 9, 10, 14, 15, 19, 20, 24, 25, 29, 30], [34, 35, 33, 32, 28, 31, 27, 23, 26, 22, 18, 21, 17, 13, 16, 12, 8, 11, 7, 5, 1, 6, 0, 3, 2, 4, 9, 10, 14, 15, 19, 20, 24, 25, 29, 30], [33, 36, 32, 28, 31, 27, 23, 26, 22, 18, 21, 17, 13, 16, 12, 8, 11, 7, 5, 1, 6, 0, 3, 2, 4, 9, 10, 14, 15, 19, 20, 24, 25, 29, 30, 34, 35], [37, 33, 0, 1, 2, 3, 4, 5, 6, 7, 8, 9, 10, 11, 12, 13, 14, 15, 16, 17, 18, 19, 20, 21, 22, 23, 24, 25, 26, 27, 28, 29, 30, 31, 32, 34, 35, 36]]))
  (.ret))))))))⟩
theorem F3_ok : cFunc Try.prog 3 = some F3 := by kernel_rfl
theorem F3_call : callable Try.prog 3 = true := by kernel_rfl
/-- supercargolaw.BucketServes -/
def F4r0 : List AOper := [⟨some 3, .box 4 (.s 0), none⟩,
  ⟨some 6, .mov (.c (.v (.bool false))), none⟩]
def F4r1 : List AOper := [⟨some 20, .load (some 4) (.s 3), none⟩,
  ⟨some 21, .mov (.s 1), none⟩,
  ⟨some 22, .call (.c (.fn 18 [])) [.s 20, .s 21], none⟩,
  ⟨some 19, .mov (.s 22), none⟩,
  ⟨some 23, .ext 0 (.s 19), none⟩,
  ⟨some 24, .ext 1 (.s 19), none⟩,
  ⟨some 25, .ext 2 (.s 19), none⟩,
  ⟨some 8, .new [.v (.int .i64 0), .v (.int .i64 0), .v (.int .i64 0), .v (.int .i64 0)], none⟩,
  ⟨some 7, .mov (.s 23), none⟩,
  ⟨none, .store 4 (.s 8) (.s 24), none⟩,
  ⟨some 9, .mov (.s 25), none⟩]
def F4r2 : List AOper := [⟨some 27, .load (some 4) (.s 3), none⟩,
  ⟨some 28, .mov (.s 1), none⟩,
  ⟨some 29, .call (.c (.fn 19 [])) [.s 27, .s 28], none⟩,
  ⟨some 26, .mov (.s 29), none⟩,
  ⟨some 30, .ext 0 (.s 26), none⟩,
  ⟨some 31, .ext 1 (.s 26), none⟩,
  ⟨some 32, .ext 2 (.s 26), none⟩,
  ⟨some 11, .new [.v (.int .i64 0), .v (.int .i64 0), .v (.int .i64 0), .v (.int .i64 0)], none⟩,
  ⟨some 10, .mov (.s 30), none⟩,
  ⟨none, .store 4 (.s 11) (.s 31), none⟩,
  ⟨some 12, .mov (.s 32), none⟩]
def F4r3 : List AOper := [⟨some 33, .call (.c (.fn 15 [])) [], none⟩,
  ⟨some 34, .un .not (.s 33), none⟩,
  ⟨some 35, .mov (.s 34), none⟩,
  ⟨some 36, .mov (.s 7), some (35, false)⟩,
  ⟨some 37, .mov (.s 10), some (35, false)⟩,
  ⟨some 38, .call (.c (.fn 20 [])) [.s 36, .s 37], some (35, false)⟩,
  ⟨some 39, .un .not (.s 38), some (35, false)⟩,
  ⟨some 40, .pick (.s 35) (.c (.v (.bool true))) (.s 39), none⟩,
  ⟨some 41, .mov (.s 40), none⟩,
  ⟨some 42, .load (some 4) (.s 8), some (41, false)⟩,
  ⟨some 43, .load (some 4) (.s 11), some (41, false)⟩,
  ⟨some 44, .eqs true 4 [(0, .int), (1, .int), (2, .int), (3, .int)] (.s 42) (.s 43), some (41, false)⟩,
  ⟨some 45, .pick (.s 41) (.c (.v (.bool true))) (.s 44), none⟩,
  ⟨some 46, .mov (.s 45), none⟩,
  ⟨some 47, .mov (.s 9), some (46, false)⟩,
  ⟨some 48, .mov (.s 12), some (46, false)⟩,
  ⟨some 49, .bin false .neq (.s 47) (.s 48), some (46, false)⟩,
  ⟨some 50, .pick (.s 46) (.c (.v (.bool true))) (.s 49), none⟩]
def F4r4 : List AOper := [⟨some 6, .mov (.c (.v (.bool false))), none⟩]
def F4r5 : List AOper := [⟨some 51, .mov (.s 9), none⟩,
  ⟨some 52, .bin false .neq (.s 51) (.c (.v (.int .i64 0))), none⟩,
  ⟨some 53, .mov (.s 52), none⟩,
  ⟨some 54, .mov (.s 2), some (53, false)⟩,
  ⟨some 55, .bin false .lss (.s 54) (.c (.v (.int .i64 0))), some (53, false)⟩,
  ⟨some 56, .pick (.s 53) (.c (.v (.bool true))) (.s 55), none⟩,
  ⟨some 57, .mov (.s 56), none⟩,
  ⟨some 58, .mov (.s 2), some (57, false)⟩,
  ⟨some 59, .mov (.s 1), some (57, false)⟩,
  ⟨some 60, .len false (.s 59), some (57, false)⟩,
  ⟨some 61, .bin false .gtr (.s 58) (.s 60), some (57, false)⟩,
  ⟨some 62, .pick (.s 57) (.c (.v (.bool true))) (.s 61), none⟩]
def F4r6 : List AOper := [⟨some 6, .mov (.c (.v (.bool true))), none⟩]
def F4r7 : List AOper := [⟨some 64, .load (some 4) (.s 3), none⟩,
  ⟨some 65, .mov (.s 1), none⟩,
  ⟨some 66, .mov (.s 2), none⟩,
  ⟨some 67, .slc 2 (.s 65) none (some (.s 66)) none, none⟩,
  ⟨some 68, .call (.c (.fn 18 [])) [.s 64, .s 67], none⟩,
  ⟨some 63, .mov (.s 68), none⟩,
  ⟨some 69, .ext 0 (.s 63), none⟩,
  ⟨some 70, .ext 1 (.s 63), none⟩,
  ⟨some 71, .ext 2 (.s 63), none⟩,
  ⟨some 14, .new [.v (.int .i64 0), .v (.int .i64 0), .v (.int .i64 0), .v (.int .i64 0)], none⟩,
  ⟨some 13, .mov (.s 69), none⟩,
  ⟨none, .store 4 (.s 14) (.s 70), none⟩,
  ⟨some 15, .mov (.s 71), none⟩]
def F4r8 : List AOper := [⟨some 73, .load (some 4) (.s 14), none⟩,
  ⟨some 74, .mov (.s 1), none⟩,
  ⟨some 75, .mov (.s 2), none⟩,
  ⟨some 76, .slc 2 (.s 74) (some (.s 75)) none none, none⟩,
  ⟨some 77, .call (.c (.fn 18 [])) [.s 73, .s 76], none⟩,
  ⟨some 72, .mov (.s 77), none⟩,
  ⟨some 78, .ext 0 (.s 72), none⟩,
  ⟨some 79, .ext 1 (.s 72), none⟩,
  ⟨some 80, .ext 2 (.s 72), none⟩,
  ⟨some 17, .new [.v (.int .i64 0), .v (.int .i64 0), .v (.int .i64 0), .v (.int .i64 0)], none⟩,
  ⟨some 16, .mov (.s 78), none⟩,
  ⟨none, .store 4 (.s 17) (.s 79), none⟩,
  ⟨some 18, .mov (.s 80), none⟩]
def F4r9 : List AOper := [⟨some 81, .mov (.s 15), none⟩,
  ⟨some 82, .bin false .eql (.s 81) (.c (.v (.int .i64 0))), none⟩,
  ⟨some 83, .mov (.s 82), none⟩,
  ⟨some 84, .mov (.s 18), some (83, true)⟩,
  ⟨some 85, .bin false .eql (.s 84) (.c (.v (.int .i64 0))), some (83, true)⟩,
  ⟨some 86, .pick (.s 83) (.s 85) (.c (.v (.bool false))), none⟩,
  ⟨some 87, .mov (.s 86), none⟩,
  ⟨some 88, .load (some 4) (.s 17), some (87, true)⟩,
  ⟨some 89, .load (some 4) (.s 8), some (87, true)⟩,
  ⟨some 90, .eqs false 4 [(0, .int), (1, .int), (2, .int), (3, .int)] (.s 88) (.s 89), some (87, true)⟩,
  ⟨some 91, .pick (.s 87) (.s 90) (.c (.v (.bool false))), none⟩,
  ⟨some 92, .mov (.s 91), none⟩,
  ⟨some 93, .mov (.s 13), some (92, true)⟩,
  ⟨some 94, .len false (.s 93), some (92, true)⟩,
  ⟨some 95, .mov (.s 16), some (92, true)⟩,
  ⟨some 96, .len false (.s 95), some (92, true)⟩,
  ⟨some 97, .bin false .add (.s 94) (.s 96), some (92, true)⟩,
  ⟨some 98, .mov (.s 7), some (92, true)⟩,
  ⟨some 99, .len false (.s 98), some (92, true)⟩,
  ⟨some 100, .bin false .eql (.s 97) (.s 99), some (92, true)⟩,
  ⟨some 101, .pick (.s 92) (.s 100) (.c (.v (.bool false))), none⟩,
  ⟨some 6, .mov (.s 101), none⟩]
def F4 : AFn := ⟨102, [.tmp 6],
  .seq (.reg F4r0 none)
  (.seq (.reg F4r1 none)
  (.seq (.reg F4r2 none)
  (.seq (.seq (.reg F4r3 none)
  (.cond (.s 50)
    (.seq (.reg F4r4 none)
    (.ret))
    (.skip)))
  (.seq (.seq (.reg F4r5 none)
  (.cond (.s 62)
    (.seq (.reg F4r6 none)
    (.ret))
    (.skip)))
  (.seq (.reg F4r7 (some [[], [], [], [1, 2], [0, 3, 1, 2], [4, 0, 3, 1, 2], [5, 4, 0, 3, 1, 2], [5, 4, 0, 3, 1, 2], [5, 4, 0, 3, 1, 2], [], [6, 4, 0, 1, 2, 3, 5, 9], [9, 7, 10, 0, 1, 2, 3, 4, 5, 6], [8, 11, 0, 1, 2, 3, 4, 5, 6, 7, 9, 10]]))
  (.seq (.reg F4r8 (some [[], [], [], [1, 2], [0, 3, 1, 2], [4, 0, 3, 1, 2], [5, 4, 0, 3, 1, 2], [5, 4, 0, 3, 1, 2], [5, 4, 0, 3, 1, 2], [], [6, 4, 0, 1, 2, 3, 5, 9], [9, 7, 10, 0, 1, 2, 3, 4, 5, 6], [8, 11, 0, 1, 2, 3, 4, 5, 6, 7, 9, 10]]))
  (.seq (.reg F4r9 none)
  (.ret))))))))⟩
theorem F4_ok : cFunc Try.prog 4 = some F4 := by kernel_rfl
theorem F4_call : callable Try.prog 4 = true := by kernel_rfl
/-- supercargolaw.BucketBound -/
def F5r0 : List AOper := [⟨some 4, .box 4 (.s 0), none⟩,
  ⟨some 8, .mov (.c (.v (.bool false))), none⟩]
def F5r1 : List AOper := [⟨some 16, .load (some 4) (.s 4), none⟩,
  ⟨some 17, .mov (.s 1), none⟩,
  ⟨some 18, .call (.c (.fn 18 [])) [.s 16, .s 17], none⟩,
  ⟨some 15, .mov (.s 18), none⟩,
  ⟨some 19, .ext 0 (.s 15), none⟩,
  ⟨some 20, .ext 1 (.s 15), none⟩,
  ⟨some 21, .ext 2 (.s 15), none⟩,
  ⟨some 10, .new [.v (.int .i64 0), .v (.int .i64 0), .v (.int .i64 0), .v (.int .i64 0)], none⟩,
  ⟨some 9, .mov (.s 19), none⟩,
  ⟨none, .store 4 (.s 10) (.s 20), none⟩,
  ⟨some 11, .mov (.s 21), none⟩]
def F5r2 : List AOper := [⟨some 22, .call (.c (.fn 15 [])) [], none⟩,
  ⟨some 23, .un .not (.s 22), none⟩]
def F5r3 : List AOper := [⟨some 8, .mov (.c (.v (.bool false))), none⟩]
def F5r4 : List AOper := [⟨some 24, .mov (.s 11), none⟩,
  ⟨some 25, .bin false .neq (.s 24) (.c (.v (.int .i64 0))), none⟩]
def F5r5 : List AOper := [⟨some 26, .mov (.s 9), none⟩,
  ⟨some 27, .len false (.s 26), none⟩,
  ⟨some 28, .bin false .eql (.s 27) (.c (.v (.int .i64 0))), none⟩,
  ⟨some 29, .mov (.s 28), none⟩,
  ⟨some 30, .load (some 4) (.s 10), some (29, true)⟩,
  ⟨some 31, .agg [.v (.int .i64 0), .v (.int .i64 0), .v (.int .i64 0), .v (.int .i64 0)] [], some (29, true)⟩,
  ⟨some 32, .eqs false 4 [(0, .int), (1, .int), (2, .int), (3, .int)] (.s 30) (.s 31), some (29, true)⟩,
  ⟨some 33, .pick (.s 29) (.s 32) (.c (.v (.bool false))), none⟩,
  ⟨some 8, .mov (.s 33), none⟩]
def F5r6 : List AOper := [⟨some 34, .mov (.s 2), none⟩,
  ⟨some 35, .bin false .lss (.s 34) (.c (.v (.int .i64 0))), none⟩,
  ⟨some 36, .mov (.s 35), none⟩,
  ⟨some 37, .mov (.s 3), some (36, false)⟩,
  ⟨some 38, .mov (.s 2), some (36, false)⟩,
  ⟨some 39, .bin false .lss (.s 37) (.s 38), some (36, false)⟩,
  ⟨some 40, .pick (.s 36) (.c (.v (.bool true))) (.s 39), none⟩,
  ⟨some 41, .mov (.s 40), none⟩,
  ⟨some 42, .mov (.s 3), some (41, false)⟩,
  ⟨some 43, .bin false .gtr (.s 42) (.c (.v (.int .i64 1000000))), some (41, false)⟩,
  ⟨some 44, .pick (.s 41) (.c (.v (.bool true))) (.s 43), none⟩]
def F5r7 : List AOper := [⟨some 8, .mov (.c (.v (.bool true))), none⟩]
def F5r8 : List AOper := [⟨some 12, .mov (.c (.v (.int .i64 0))), none⟩]
def F5r9 : List AOper := [⟨some 13, .mov (.c (.v (.int .i64 0))), none⟩]
def F5r10 : List AOper := [⟨some 45, .mov (.s 13), none⟩,
  ⟨some 46, .mov (.s 9), none⟩,
  ⟨some 47, .len false (.s 46), none⟩,
  ⟨some 48, .bin false .lss (.s 45) (.s 47), none⟩]
def F5r11 : List AOper := [⟨some 51, .mov (.s 9), none⟩,
  ⟨some 52, .mov (.s 13), none⟩,
  ⟨some 53, .iad 1 (.s 51) (.s 52), none⟩,
  ⟨some 54, .load none (.s 53), none⟩,
  ⟨some 55, .bin false .lss (.s 54) (.c (.v (.int .i64 0))), none⟩,
  ⟨some 56, .mov (.s 55), none⟩,
  ⟨some 57, .mov (.s 9), some (56, false)⟩,
  ⟨some 58, .mov (.s 13), some (56, false)⟩,
  ⟨some 59, .iad 1 (.s 57) (.s 58), some (56, false)⟩,
  ⟨some 60, .load none (.s 59), some (56, false)⟩,
  ⟨some 61, .mov (.s 1), some (56, false)⟩,
  ⟨some 62, .len false (.s 61), some (56, false)⟩,
  ⟨some 63, .bin false .geq (.s 60) (.s 62), some (56, false)⟩,
  ⟨some 64, .pick (.s 56) (.c (.v (.bool true))) (.s 63), none⟩]
def F5r12 : List AOper := [⟨some 8, .mov (.c (.v (.bool false))), none⟩]
def F5r13 : List AOper := [⟨some 65, .mov (.s 1), none⟩,
  ⟨some 66, .mov (.s 9), none⟩,
  ⟨some 67, .mov (.s 13), none⟩,
  ⟨some 68, .iad 1 (.s 66) (.s 67), none⟩,
  ⟨some 69, .load none (.s 68), none⟩,
  ⟨some 70, .iad 2 (.s 65) (.s 69), none⟩,
  ⟨some 71, .load (some 2) (.s 70), none⟩,
  ⟨some 14, .new [.v (.int .i64 0), .v (.int .i64 0)], none⟩,
  ⟨none, .store 2 (.s 14) (.s 71), none⟩]
def F5r14 : List AOper := [⟨some 72, .fad 0 (.s 14), none⟩,
  ⟨some 73, .load none (.s 72), none⟩,
  ⟨some 74, .mov (.s 2), none⟩,
  ⟨some 75, .bin false .geq (.s 73) (.s 74), none⟩,
  ⟨some 76, .mov (.s 75), none⟩,
  ⟨some 77, .fad 0 (.s 14), some (76, true)⟩,
  ⟨some 78, .load none (.s 77), some (76, true)⟩,
  ⟨some 79, .mov (.s 3), some (76, true)⟩,
  ⟨some 80, .bin false .leq (.s 78) (.s 79), some (76, true)⟩,
  ⟨some 81, .pick (.s 76) (.s 80) (.c (.v (.bool false))), none⟩]
def F5r15 : List AOper := [⟨some 82, .mov (.s 12), none⟩,
  ⟨some 83, .fad 1 (.s 14), none⟩,
  ⟨some 84, .load none (.s 83), none⟩,
  ⟨some 85, .bin false .add (.s 82) (.s 84), none⟩,
  ⟨some 12, .mov (.s 85), none⟩]
def F5r16 : List AOper := [⟨some 49, .mov (.s 13), none⟩,
  ⟨some 50, .bin false .add (.s 49) (.c (.v (.int .i64 1))), none⟩,
  ⟨some 13, .mov (.s 50), none⟩]
def F5r17 : List AOper := [⟨some 86, .mov (.s 12), none⟩,
  ⟨some 87, .fad 2 (.s 4), none⟩,
  ⟨some 88, .load none (.s 87), none⟩,
  ⟨some 89, .fad 3 (.s 4), none⟩,
  ⟨some 90, .load none (.s 89), none⟩,
  ⟨some 91, .mov (.s 3), none⟩,
  ⟨some 92, .mov (.s 2), none⟩,
  ⟨some 93, .bin false .sub (.s 91) (.s 92), none⟩,
  ⟨some 94, .bin false .mul (.s 90) (.s 93), none⟩,
  ⟨some 95, .bin false .add (.s 88) (.s 94), none⟩,
  ⟨some 96, .bin false .leq (.s 86) (.s 95), none⟩,
  ⟨some 97, .mov (.s 96), none⟩,
  ⟨some 98, .load (some 4) (.s 10), some (97, true)⟩,
  ⟨some 99, .call (.c (.fn 16 [])) [.s 98], some (97, true)⟩,
  ⟨some 100, .bin false .eql (.s 99) (.c (.v (.int .i64 0))), some (97, true)⟩,
  ⟨some 101, .pick (.s 97) (.s 100) (.c (.v (.bool false))), none⟩,
  ⟨some 8, .mov (.s 101), none⟩]
def F5 : AFn := ⟨102, [.tmp 8],
  .seq (.reg F5r0 none)
  (.seq (.reg F5r1 none)
  (.seq (.seq (.reg F5r2 none)
  (.cond (.s 23)
    (.seq (.reg F5r3 none)
    (.ret))
    (.skip)))
  (.seq (.seq (.reg F5r4 none)
  (.cond (.s 25)
    (.seq (.reg F5r5 none)
    (.ret))
    (.skip)))
  (.seq (.seq (.reg F5r6 none)
  (.cond (.s 44)
    (.seq (.reg F5r7 none)
    (.ret))
    (.skip)))
  (.seq (.reg F5r8 none)
  (.seq (.seq (.reg F5r9 none)
  (.block 0 (
    .loop (
      .seq (.seq (.reg F5r10 none)
      (.cond (.s 48)
        (.skip)
        (.exit 0)))
      (.seq (.block 1 (
        .seq (.seq (.reg F5r11 none)
        (.cond (.s 64)
          (.seq (.reg F5r12 none)
          (.ret))
          (.skip)))
        (.seq (.reg F5r13 none)
        (.seq (.reg F5r14 none)
        (.cond (.s 81)
          (.reg F5r15 none)
          (.skip))))))
      (.reg F5r16 none))))))
  (.seq (.reg F5r17 none)
  (.ret))))))))⟩
theorem F5_ok : cFunc Try.prog 5 = some F5 := by kernel_rfl
theorem F5_call : callable Try.prog 5 = true := by kernel_rfl
/-- supercargolaw.BucketIdle -/
def F6r0 : List AOper := [⟨some 4, .box 4 (.s 0), none⟩,
  ⟨some 8, .mov (.c (.v (.bool false))), none⟩]
def F6r1 : List AOper := [⟨some 16, .load (some 4) (.s 4), none⟩,
  ⟨some 17, .mov (.s 1), none⟩,
  ⟨some 18, .call (.c (.fn 10 [])) [.s 16, .s 17, .c (.v (.int .i64 0))], none⟩,
  ⟨some 15, .mov (.s 18), none⟩,
  ⟨some 19, .ext 0 (.s 15), none⟩,
  ⟨some 20, .ext 1 (.s 15), none⟩,
  ⟨some 9, .new [.v (.int .i64 0), .v (.int .i64 0), .v (.int .i64 0), .v (.int .i64 0)], none⟩,
  ⟨none, .store 4 (.s 9) (.s 19), none⟩,
  ⟨some 10, .mov (.s 20), none⟩]
def F6r2 : List AOper := [⟨some 22, .load (some 4) (.s 9), none⟩,
  ⟨some 23, .mov (.s 2), none⟩,
  ⟨some 24, .mov (.s 3), none⟩,
  ⟨some 25, .call (.c (.fn 10 [])) [.s 22, .s 23, .s 24], none⟩,
  ⟨some 21, .mov (.s 25), none⟩,
  ⟨some 26, .ext 0 (.s 21), none⟩,
  ⟨some 27, .ext 1 (.s 21), none⟩,
  ⟨some 11, .new [.v (.int .i64 0), .v (.int .i64 0), .v (.int .i64 0), .v (.int .i64 0)], none⟩,
  ⟨none, .store 4 (.s 11) (.s 26), none⟩,
  ⟨some 12, .mov (.s 27), none⟩]
def F6r3 : List AOper := [⟨some 29, .load (some 4) (.s 4), none⟩,
  ⟨some 30, .mov (.s 2), none⟩,
  ⟨some 31, .mov (.s 3), none⟩,
  ⟨some 32, .call (.c (.fn 10 [])) [.s 29, .s 30, .s 31], none⟩,
  ⟨some 28, .mov (.s 32), none⟩,
  ⟨some 33, .ext 0 (.s 28), none⟩,
  ⟨some 34, .ext 1 (.s 28), none⟩,
  ⟨some 13, .new [.v (.int .i64 0), .v (.int .i64 0), .v (.int .i64 0), .v (.int .i64 0)], none⟩,
  ⟨none, .store 4 (.s 13) (.s 33), none⟩,
  ⟨some 14, .mov (.s 34), none⟩]
def F6r4 : List AOper := [⟨some 35, .call (.c (.fn 15 [])) [], none⟩,
  ⟨some 36, .un .not (.s 35), none⟩]
def F6r5 : List AOper := [⟨some 8, .mov (.c (.v (.bool false))), none⟩]
def F6r6 : List AOper := [⟨some 37, .mov (.s 10), none⟩,
  ⟨some 38, .bin false .neq (.s 37) (.c (.v (.int .i64 0))), none⟩,
  ⟨some 39, .mov (.s 38), none⟩,
  ⟨some 40, .mov (.s 2), some (39, false)⟩,
  ⟨some 41, .mov (.s 1), some (39, false)⟩,
  ⟨some 42, .bin false .lss (.s 40) (.s 41), some (39, false)⟩,
  ⟨some 43, .pick (.s 39) (.c (.v (.bool true))) (.s 42), none⟩]
def F6r7 : List AOper := [⟨some 8, .mov (.c (.v (.bool true))), none⟩]
def F6r8 : List AOper := [⟨some 44, .load (some 4) (.s 11), none⟩,
  ⟨some 45, .load (some 4) (.s 13), none⟩,
  ⟨some 46, .eqs false 4 [(0, .int), (1, .int), (2, .int), (3, .int)] (.s 44) (.s 45), none⟩,
  ⟨some 47, .mov (.s 46), none⟩,
  ⟨some 48, .mov (.s 12), some (47, true)⟩,
  ⟨some 49, .mov (.s 14), some (47, true)⟩,
  ⟨some 50, .bin false .eql (.s 48) (.s 49), some (47, true)⟩,
  ⟨some 51, .pick (.s 47) (.s 50) (.c (.v (.bool false))), none⟩,
  ⟨some 8, .mov (.s 51), none⟩]
def F6 : AFn := ⟨52, [.tmp 8],
  .seq (.reg F6r0 none)
  (.seq (.reg F6r1 none)
  (.seq (.reg F6r2 none)
  (.seq (.reg F6r3 none)
  (.seq (.seq (.reg F6r4 none)
  (.cond (.s 36)
    (.seq (.reg F6r5 none)
    (.ret))
    (.skip)))
  (.seq (.seq (.reg F6r6 none)
  (.cond (.s 43)
    (.seq (.reg F6r7 none)
    (.ret))
    (.skip)))
  (.seq (.reg F6r8 none)
  (.ret)))))))⟩
theorem F6_ok : cFunc Try.prog 6 = some F6 := by kernel_rfl
theorem F6_call : callable Try.prog 6 = true := by kernel_rfl
/-- supercargolaw.BucketReady -/
def F7r0 : List AOper := [⟨some 4, .box 4 (.s 0), none⟩,
  ⟨some 8, .mov (.c (.v (.bool false))), none⟩]
def F7r1 : List AOper := [⟨some 20, .load (some 4) (.s 4), none⟩,
  ⟨some 21, .mov (.s 1), none⟩,
  ⟨some 22, .call (.c (.fn 11 [])) [.s 20, .s 21], none⟩,
  ⟨some 19, .mov (.s 22), none⟩,
  ⟨some 23, .ext 0 (.s 19), none⟩,
  ⟨some 24, .ext 1 (.s 19), none⟩,
  ⟨some 9, .mov (.s 23), none⟩,
  ⟨some 10, .mov (.s 24), none⟩]
def F7r2 : List AOper := [⟨some 25, .call (.c (.fn 15 [])) [], none⟩,
  ⟨some 26, .un .not (.s 25), none⟩]
def F7r3 : List AOper := [⟨some 8, .mov (.c (.v (.bool false))), none⟩]
def F7r4 : List AOper := [⟨some 27, .mov (.s 10), none⟩,
  ⟨some 28, .bin false .neq (.s 27) (.c (.v (.int .i64 0))), none⟩]
def F7r5 : List AOper := [⟨some 30, .load (some 4) (.s 4), none⟩,
  ⟨some 31, .mov (.s 3), none⟩,
  ⟨some 32, .mov (.s 1), none⟩,
  ⟨some 33, .call (.c (.fn 10 [])) [.s 30, .s 31, .s 32], none⟩,
  ⟨some 29, .mov (.s 33), none⟩,
  ⟨some 34, .ext 0 (.s 29), none⟩,
  ⟨some 35, .ext 1 (.s 29), none⟩,
  ⟨some 11, .new [.v (.int .i64 0), .v (.int .i64 0), .v (.int .i64 0), .v (.int .i64 0)], none⟩,
  ⟨none, .store 4 (.s 11) (.s 34), none⟩,
  ⟨some 12, .mov (.s 35), none⟩]
def F7r6 : List AOper := [⟨some 36, .mov (.s 9), none⟩,
  ⟨some 37, .bin false .eql (.s 36) (.c (.v (.int .i64 0))), none⟩,
  ⟨some 38, .mov (.s 37), none⟩,
  ⟨some 39, .mov (.s 12), some (38, true)⟩,
  ⟨some 40, .bin false .neq (.s 39) (.c (.v (.int .i64 0))), some (38, true)⟩,
  ⟨some 41, .pick (.s 38) (.s 40) (.c (.v (.bool false))), none⟩,
  ⟨some 8, .mov (.s 41), none⟩]
def F7r7 : List AOper := [⟨some 43, .load (some 4) (.s 4), none⟩,
  ⟨some 44, .mov (.s 9), none⟩,
  ⟨some 45, .mov (.s 1), none⟩,
  ⟨some 46, .call (.c (.fn 10 [])) [.s 43, .s 44, .s 45], none⟩,
  ⟨some 42, .mov (.s 46), none⟩,
  ⟨some 47, .ext 0 (.s 42), none⟩,
  ⟨some 48, .ext 1 (.s 42), none⟩,
  ⟨some 13, .new [.v (.int .i64 0), .v (.int .i64 0), .v (.int .i64 0), .v (.int .i64 0)], none⟩,
  ⟨none, .store 4 (.s 13) (.s 47), none⟩,
  ⟨some 14, .mov (.s 48), none⟩]
def F7r8 : List AOper := [⟨some 50, .load (some 4) (.s 4), none⟩,
  ⟨some 51, .mov (.s 3), none⟩,
  ⟨some 52, .mov (.s 1), none⟩,
  ⟨some 53, .call (.c (.fn 10 [])) [.s 50, .s 51, .s 52], none⟩,
  ⟨some 49, .mov (.s 53), none⟩,
  ⟨some 54, .ext 0 (.s 49), none⟩,
  ⟨some 55, .ext 1 (.s 49), none⟩,
  ⟨some 15, .new [.v (.int .i64 0), .v (.int .i64 0), .v (.int .i64 0), .v (.int .i64 0)], none⟩,
  ⟨none, .store 4 (.s 15) (.s 54), none⟩,
  ⟨some 16, .mov (.s 55), none⟩]
def F7r9 : List AOper := [⟨some 57, .load (some 4) (.s 4), none⟩,
  ⟨some 58, .mov (.s 2), none⟩,
  ⟨some 59, .call (.c (.fn 11 [])) [.s 57, .s 58], none⟩,
  ⟨some 56, .mov (.s 59), none⟩,
  ⟨some 60, .ext 0 (.s 56), none⟩,
  ⟨some 61, .ext 1 (.s 56), none⟩,
  ⟨some 17, .mov (.s 60), none⟩,
  ⟨some 18, .mov (.s 61), none⟩]
def F7r10 : List AOper := [⟨some 62, .mov (.s 14), none⟩,
  ⟨some 63, .bin false .eql (.s 62) (.c (.v (.int .i64 0))), none⟩,
  ⟨some 64, .mov (.s 63), none⟩,
  ⟨some 65, .mov (.s 3), some (64, true)⟩,
  ⟨some 66, .mov (.s 9), some (64, true)⟩,
  ⟨some 67, .bin false .geq (.s 65) (.s 66), some (64, true)⟩,
  ⟨some 68, .mov (.s 67), some (64, true)⟩,
  ⟨some 69, .mov (.s 16), some (68, false)⟩,
  ⟨some 70, .bin false .neq (.s 69) (.c (.v (.int .i64 0))), some (68, false)⟩,
  ⟨some 71, .pick (.s 68) (.c (.v (.bool true))) (.s 70), some (64, true)⟩,
  ⟨some 72, .pick (.s 64) (.s 71) (.c (.v (.bool false))), none⟩,
  ⟨some 73, .mov (.s 72), none⟩,
  ⟨some 74, .mov (.s 18), some (73, true)⟩,
  ⟨some 75, .bin false .neq (.s 74) (.c (.v (.int .i64 0))), some (73, true)⟩,
  ⟨some 76, .mov (.s 75), some (73, true)⟩,
  ⟨some 77, .mov (.s 2), some (76, false)⟩,
  ⟨some 78, .mov (.s 1), some (76, false)⟩,
  ⟨some 79, .bin false .lss (.s 77) (.s 78), some (76, false)⟩,
  ⟨some 80, .pick (.s 76) (.c (.v (.bool true))) (.s 79), some (73, true)⟩,
  ⟨some 81, .mov (.s 80), some (73, true)⟩,
  ⟨some 82, .mov (.s 17), some (81, false)⟩,
  ⟨some 83, .mov (.s 9), some (81, false)⟩,
  ⟨some 84, .bin false .geq (.s 82) (.s 83), some (81, false)⟩,
  ⟨some 85, .pick (.s 81) (.c (.v (.bool true))) (.s 84), some (73, true)⟩,
  ⟨some 86, .pick (.s 73) (.s 85) (.c (.v (.bool false))), none⟩,
  ⟨some 8, .mov (.s 86), none⟩]
def F7 : AFn := ⟨87, [.tmp 8],
  .seq (.reg F7r0 none)
  (.seq (.reg F7r1 none)
  (.seq (.seq (.reg F7r2 none)
  (.cond (.s 26)
    (.seq (.reg F7r3 none)
    (.ret))
    (.skip)))
  (.seq (.seq (.reg F7r4 none)
  (.cond (.s 28)
    (.seq (.reg F7r5 none)
    (.seq (.reg F7r6 none)
    (.ret)))
    (.skip)))
  (.seq (.reg F7r7 none)
  (.seq (.reg F7r8 none)
  (.seq (.reg F7r9 none)
  (.seq (.reg F7r10 none)
  (.ret))))))))⟩
theorem F7_ok : cFunc Try.prog 7 = some F7 := by kernel_rfl
theorem F7_call : callable Try.prog 7 = true := by kernel_rfl
/-- supercargolaw.BucketMore -/
def F8r0 : List AOper := [⟨some 6, .box 4 (.s 0), none⟩,
  ⟨some 12, .mov (.c (.v (.bool false))), none⟩]
def F8r1 : List AOper := [⟨some 22, .load (some 4) (.s 6), none⟩,
  ⟨some 13, .new [.v (.int .i64 0), .v (.int .i64 0), .v (.int .i64 0), .v (.int .i64 0)], none⟩,
  ⟨none, .store 4 (.s 13) (.s 22), none⟩]
def F8r2 : List AOper := [⟨some 23, .mov (.s 1), none⟩,
  ⟨some 24, .mov (.s 2), none⟩,
  ⟨some 25, .fad 0 (.s 13), none⟩,
  ⟨none, .store 1 (.s 25) (.s 23), none⟩,
  ⟨some 26, .fad 3 (.s 13), none⟩,
  ⟨none, .store 1 (.s 26) (.s 24), none⟩]
def F8r3 : List AOper := [⟨some 28, .load (some 4) (.s 6), none⟩,
  ⟨some 29, .mov (.s 3), none⟩,
  ⟨some 30, .call (.c (.fn 9 [])) [.s 28, .s 29], none⟩,
  ⟨some 27, .mov (.s 30), none⟩,
  ⟨some 31, .ext 0 (.s 27), none⟩,
  ⟨some 32, .ext 1 (.s 27), none⟩,
  ⟨some 14, .mov (.s 31), none⟩,
  ⟨some 15, .mov (.s 32), none⟩]
def F8r4 : List AOper := [⟨some 34, .load (some 4) (.s 13), none⟩,
  ⟨some 35, .mov (.s 3), none⟩,
  ⟨some 36, .call (.c (.fn 9 [])) [.s 34, .s 35], none⟩,
  ⟨some 33, .mov (.s 36), none⟩,
  ⟨some 37, .ext 0 (.s 33), none⟩,
  ⟨some 38, .ext 1 (.s 33), none⟩,
  ⟨some 16, .mov (.s 37), none⟩,
  ⟨some 17, .mov (.s 38), none⟩]
def F8r5 : List AOper := [⟨some 39, .call (.c (.fn 15 [])) [], none⟩,
  ⟨some 40, .un .not (.s 39), none⟩]
def F8r6 : List AOper := [⟨some 12, .mov (.c (.v (.bool false))), none⟩]
def F8r7 : List AOper := [⟨some 41, .mov (.s 15), none⟩,
  ⟨some 42, .bin false .eql (.s 41) (.c (.v (.int .i64 0))), none⟩,
  ⟨some 43, .mov (.s 42), none⟩,
  ⟨some 44, .mov (.s 17), some (43, true)⟩,
  ⟨some 45, .bin false .eql (.s 44) (.c (.v (.int .i64 0))), some (43, true)⟩,
  ⟨some 46, .pick (.s 43) (.s 45) (.c (.v (.bool false))), none⟩,
  ⟨some 47, .mov (.s 46), none⟩,
  ⟨some 48, .mov (.s 1), some (47, true)⟩,
  ⟨some 49, .fad 0 (.s 6), some (47, true)⟩,
  ⟨some 50, .load none (.s 49), some (47, true)⟩,
  ⟨some 51, .bin false .geq (.s 48) (.s 50), some (47, true)⟩,
  ⟨some 52, .pick (.s 47) (.s 51) (.c (.v (.bool false))), none⟩,
  ⟨some 53, .mov (.s 52), none⟩,
  ⟨some 54, .mov (.s 2), some (53, true)⟩,
  ⟨some 55, .fad 3 (.s 6), some (53, true)⟩,
  ⟨some 56, .load none (.s 55), some (53, true)⟩,
  ⟨some 57, .bin false .geq (.s 54) (.s 56), some (53, true)⟩,
  ⟨some 58, .pick (.s 53) (.s 57) (.c (.v (.bool false))), none⟩,
  ⟨some 59, .mov (.s 58), none⟩,
  ⟨some 60, .mov (.s 16), some (59, true)⟩,
  ⟨some 61, .mov (.s 14), some (59, true)⟩,
  ⟨some 62, .bin false .lss (.s 60) (.s 61), some (59, true)⟩,
  ⟨some 63, .pick (.s 59) (.s 62) (.c (.v (.bool false))), none⟩]
def F8r8 : List AOper := [⟨some 12, .mov (.c (.v (.bool false))), none⟩]
def F8r9 : List AOper := [⟨some 65, .load (some 4) (.s 6), none⟩,
  ⟨some 66, .mov (.s 3), none⟩,
  ⟨some 67, .mov (.s 4), none⟩,
  ⟨some 68, .call (.c (.fn 10 [])) [.s 65, .s 66, .s 67], none⟩,
  ⟨some 64, .mov (.s 68), none⟩,
  ⟨some 69, .ext 0 (.s 64), none⟩,
  ⟨some 70, .ext 1 (.s 64), none⟩,
  ⟨some 18, .new [.v (.int .i64 0), .v (.int .i64 0), .v (.int .i64 0), .v (.int .i64 0)], none⟩,
  ⟨none, .store 4 (.s 18) (.s 69), none⟩,
  ⟨some 19, .mov (.s 70), none⟩]
def F8r10 : List AOper := [⟨some 72, .load (some 4) (.s 6), none⟩,
  ⟨some 73, .mov (.s 3), none⟩,
  ⟨some 74, .mov (.s 5), none⟩,
  ⟨some 75, .call (.c (.fn 10 [])) [.s 72, .s 73, .s 74], none⟩,
  ⟨some 71, .mov (.s 75), none⟩,
  ⟨some 76, .ext 0 (.s 71), none⟩,
  ⟨some 77, .ext 1 (.s 71), none⟩,
  ⟨some 20, .new [.v (.int .i64 0), .v (.int .i64 0), .v (.int .i64 0), .v (.int .i64 0)], none⟩,
  ⟨none, .store 4 (.s 20) (.s 76), none⟩,
  ⟨some 21, .mov (.s 77), none⟩]
def F8r11 : List AOper := [⟨some 78, .mov (.s 19), none⟩,
  ⟨some 79, .bin false .neq (.s 78) (.c (.v (.int .i64 0))), none⟩,
  ⟨some 80, .mov (.s 79), none⟩,
  ⟨some 81, .mov (.s 5), some (80, false)⟩,
  ⟨some 82, .bin false .lss (.s 81) (.c (.v (.int .i64 0))), some (80, false)⟩,
  ⟨some 83, .pick (.s 80) (.c (.v (.bool true))) (.s 82), none⟩,
  ⟨some 84, .mov (.s 83), none⟩,
  ⟨some 85, .mov (.s 5), some (84, false)⟩,
  ⟨some 86, .mov (.s 4), some (84, false)⟩,
  ⟨some 87, .bin false .gtr (.s 85) (.s 86), some (84, false)⟩,
  ⟨some 88, .pick (.s 84) (.c (.v (.bool true))) (.s 87), none⟩]
def F8r12 : List AOper := [⟨some 12, .mov (.c (.v (.bool true))), none⟩]
def F8r13 : List AOper := [⟨some 89, .mov (.s 21), none⟩,
  ⟨some 90, .bin false .eql (.s 89) (.c (.v (.int .i64 0))), none⟩,
  ⟨some 91, .mov (.s 90), none⟩,
  ⟨some 92, .fad 0 (.s 20), some (91, true)⟩,
  ⟨some 93, .load none (.s 92), some (91, true)⟩,
  ⟨some 94, .fad 0 (.s 18), some (91, true)⟩,
  ⟨some 95, .load none (.s 94), some (91, true)⟩,
  ⟨some 96, .mov (.s 4), some (91, true)⟩,
  ⟨some 97, .bin false .add (.s 95) (.s 96), some (91, true)⟩,
  ⟨some 98, .mov (.s 5), some (91, true)⟩,
  ⟨some 99, .bin false .sub (.s 97) (.s 98), some (91, true)⟩,
  ⟨some 100, .bin false .eql (.s 93) (.s 99), some (91, true)⟩,
  ⟨some 101, .pick (.s 91) (.s 100) (.c (.v (.bool false))), none⟩,
  ⟨some 12, .mov (.s 101), none⟩]
def F8 : AFn := ⟨102, [.tmp 12],
  .seq (.reg F8r0 none)
  (.seq (.reg F8r1 none)
  (.seq (.reg F8r2 none)
  (.seq (.reg F8r3 none)
  (.seq (.reg F8r4 none)
  (.seq (.seq (.reg F8r5 none)
  (.cond (.s 40)
    (.seq (.reg F8r6 none)
    (.ret))
    (.skip)))
  (.seq (.seq (.reg F8r7 none)
  (.cond (.s 63)
    (.seq (.reg F8r8 none)
    (.ret))
    (.skip)))
  (.seq (.reg F8r9 none)
  (.seq (.reg F8r10 none)
  (.seq (.seq (.reg F8r11 none)
  (.cond (.s 88)
    (.seq (.reg F8r12 none)
    (.ret))
    (.skip)))
  (.seq (.reg F8r13 none)
  (.ret)))))))))))⟩
theorem F8_ok : cFunc Try.prog 8 = some F8 := by kernel_rfl
theorem F8_call : callable Try.prog 8 = true := by kernel_rfl
/-- bucket.Level -/
def F9r0 : List AOper := [⟨some 2, .box 4 (.s 0), none⟩,
  ⟨some 4, .mov (.c (.v (.int .i64 0))), none⟩,
  ⟨some 5, .mov (.c (.v (.int .i64 0))), none⟩]
def F9r1 : List AOper := [⟨some 7, .load (some 4) (.s 2), none⟩,
  ⟨some 8, .call (.c (.fn 16 [])) [.s 7], none⟩,
  ⟨some 6, .mov (.s 8), none⟩]
def F9r2 : List AOper := [⟨some 10, .mov (.s 6), none⟩,
  ⟨some 11, .bin false .neq (.s 10) (.c (.v (.int .i64 0))), none⟩,
  ⟨some 9, .mov (.s 11), none⟩]
def F9r3 : List AOper := [⟨some 12, .mov (.s 6), none⟩,
  ⟨some 4, .mov (.c (.v (.int .i64 0))), none⟩,
  ⟨some 5, .mov (.s 12), none⟩]
def F9r4 : List AOper := [⟨some 14, .mov (.s 1), none⟩,
  ⟨some 15, .call (.c (.fn 21 [])) [.s 14, .c (.v (.int .i64 0)), .c (.v (.int .i64 1000000))], none⟩,
  ⟨some 16, .un .not (.s 15), none⟩,
  ⟨some 13, .mov (.s 16), none⟩]
def F9r5 : List AOper := [⟨some 4, .mov (.c (.v (.int .i64 0))), none⟩,
  ⟨some 5, .mov (.c (.v (.int .i64 3))), none⟩]
def F9r6 : List AOper := [⟨some 18, .mov (.s 1), none⟩,
  ⟨some 19, .fad 1 (.s 2), none⟩,
  ⟨some 20, .load none (.s 19), none⟩,
  ⟨some 21, .bin false .lss (.s 18) (.s 20), none⟩,
  ⟨some 17, .mov (.s 21), none⟩]
def F9r7 : List AOper := [⟨some 4, .mov (.c (.v (.int .i64 0))), none⟩,
  ⟨some 5, .mov (.c (.v (.int .i64 4))), none⟩]
def F9r8 : List AOper := [⟨some 22, .fad 2 (.s 2), none⟩,
  ⟨some 23, .load none (.s 22), none⟩,
  ⟨some 24, .fad 0 (.s 2), none⟩,
  ⟨some 25, .load none (.s 24), none⟩,
  ⟨some 26, .fad 3 (.s 2), none⟩,
  ⟨some 27, .load none (.s 26), none⟩,
  ⟨some 28, .mov (.s 1), none⟩,
  ⟨some 29, .fad 1 (.s 2), none⟩,
  ⟨some 30, .load none (.s 29), none⟩,
  ⟨some 31, .bin false .sub (.s 28) (.s 30), none⟩,
  ⟨some 32, .bin false .mul (.s 27) (.s 31), none⟩,
  ⟨some 33, .bin false .add (.s 25) (.s 32), none⟩,
  ⟨some 34, .mnx false (.s 23) (.s 33), none⟩,
  ⟨some 4, .mov (.s 34), none⟩,
  ⟨some 5, .mov (.c (.v (.int .i64 0))), none⟩]
def F9 : AFn := ⟨35, [.tmp 4, .tmp 5],
  .seq (.reg F9r0 none)
  (.seq (.reg F9r1 none)
  (.seq (.block 0 (
    .seq (.reg F9r2 none)
    (.cond (.s 9)
      (.seq (.reg F9r3 none)
      (.ret))
      (.seq (.reg F9r4 none)
      (.cond (.s 13)
        (.seq (.reg F9r5 none)
        (.ret))
        (.seq (.reg F9r6 none)
        (.cond (.s 17)
          (.seq (.reg F9r7 none)
          (.ret))
          (.skip))))))))
  (.seq (.reg F9r8 none)
  (.ret))))⟩
theorem F9_ok : cFunc Try.prog 9 = some F9 := by kernel_rfl
theorem F9_call : callable Try.prog 9 = true := by kernel_rfl
/-- bucket.Take -/
def F10r0 : List AOper := [⟨some 3, .box 4 (.s 0), none⟩,
  ⟨some 6, .new [.v (.int .i64 0), .v (.int .i64 0), .v (.int .i64 0), .v (.int .i64 0)], none⟩,
  ⟨some 7, .mov (.c (.v (.int .i64 0))), none⟩]
def F10r1 : List AOper := [⟨some 11, .load (some 4) (.s 3), none⟩,
  ⟨some 12, .mov (.s 1), none⟩,
  ⟨some 13, .call (.c (.fn 9 [])) [.s 11, .s 12], none⟩,
  ⟨some 10, .mov (.s 13), none⟩,
  ⟨some 14, .ext 0 (.s 10), none⟩,
  ⟨some 15, .ext 1 (.s 10), none⟩,
  ⟨some 8, .mov (.s 14), none⟩,
  ⟨some 9, .mov (.s 15), none⟩]
def F10r2 : List AOper := [⟨some 17, .mov (.s 9), none⟩,
  ⟨some 18, .bin false .neq (.s 17) (.c (.v (.int .i64 0))), none⟩,
  ⟨some 16, .mov (.s 18), none⟩]
def F10r3 : List AOper := [⟨some 20, .mov (.s 2), none⟩,
  ⟨some 21, .fad 2 (.s 3), none⟩,
  ⟨some 22, .load none (.s 21), none⟩,
  ⟨some 23, .call (.c (.fn 21 [])) [.s 20, .c (.v (.int .i64 0)), .s 22], none⟩,
  ⟨some 24, .un .not (.s 23), none⟩,
  ⟨some 19, .mov (.s 24), none⟩]
def F10r4 : List AOper := [⟨some 9, .mov (.c (.v (.int .i64 3))), none⟩]
def F10r5 : List AOper := [⟨some 26, .mov (.s 2), none⟩,
  ⟨some 27, .mov (.s 8), none⟩,
  ⟨some 28, .bin false .gtr (.s 26) (.s 27), none⟩,
  ⟨some 25, .mov (.s 28), none⟩]
def F10r6 : List AOper := [⟨some 9, .mov (.c (.v (.int .i64 8))), none⟩]
def F10r7 : List AOper := [⟨some 29, .mov (.s 9), none⟩,
  ⟨some 30, .bin false .neq (.s 29) (.c (.v (.int .i64 0))), none⟩]
def F10r8 : List AOper := [⟨some 31, .agg [.v (.int .i64 0), .v (.int .i64 0), .v (.int .i64 0), .v (.int .i64 0)] [], none⟩,
  ⟨some 32, .mov (.s 9), none⟩,
  ⟨none, .store 4 (.s 6) (.s 31), none⟩,
  ⟨some 7, .mov (.s 32), none⟩]
def F10r9 : List AOper := [⟨some 33, .mov (.s 8), none⟩,
  ⟨some 34, .mov (.s 2), none⟩,
  ⟨some 35, .bin false .sub (.s 33) (.s 34), none⟩,
  ⟨some 36, .mov (.s 1), none⟩,
  ⟨some 37, .fad 0 (.s 3), none⟩,
  ⟨none, .store 1 (.s 37) (.s 35), none⟩,
  ⟨some 38, .fad 1 (.s 3), none⟩,
  ⟨none, .store 1 (.s 38) (.s 36), none⟩]
def F10r10 : List AOper := [⟨some 39, .load (some 4) (.s 3), none⟩,
  ⟨none, .store 4 (.s 6) (.s 39), none⟩,
  ⟨some 7, .mov (.c (.v (.int .i64 0))), none⟩]
def F10 : AFn := ⟨40, [.cell 6 (some 4), .tmp 7],
  .seq (.reg F10r0 none)
  (.seq (.reg F10r1 none)
  (.seq (.block 0 (
    .seq (.reg F10r2 none)
    (.cond (.s 16)
      (.skip)
      (.seq (.reg F10r3 none)
      (.cond (.s 19)
        (.reg F10r4 none)
        (.seq (.reg F10r5 none)
        (.cond (.s 25)
          (.reg F10r6 none)
          (.skip))))))))
  (.seq (.seq (.reg F10r7 none)
  (.cond (.s 30)
    (.seq (.reg F10r8 none)
    (.ret))
    (.skip)))
  (.seq (.reg F10r9 none)
  (.seq (.reg F10r10 none)
  (.ret))))))⟩
theorem F10_ok : cFunc Try.prog 10 = some F10 := by kernel_rfl
theorem F10_call : callable Try.prog 10 = true := by kernel_rfl
/-- bucket.Ready -/
def F11r0 : List AOper := [⟨some 2, .box 4 (.s 0), none⟩,
  ⟨some 4, .mov (.c (.v (.int .i64 0))), none⟩,
  ⟨some 5, .mov (.c (.v (.int .i64 0))), none⟩]
def F11r1 : List AOper := [⟨some 8, .load (some 4) (.s 2), none⟩,
  ⟨some 9, .call (.c (.fn 16 [])) [.s 8], none⟩,
  ⟨some 6, .mov (.s 9), none⟩]
def F11r2 : List AOper := [⟨some 11, .mov (.s 6), none⟩,
  ⟨some 12, .bin false .neq (.s 11) (.c (.v (.int .i64 0))), none⟩,
  ⟨some 10, .mov (.s 12), none⟩]
def F11r3 : List AOper := [⟨some 13, .mov (.s 6), none⟩,
  ⟨some 4, .mov (.c (.v (.int .i64 0))), none⟩,
  ⟨some 5, .mov (.s 13), none⟩]
def F11r4 : List AOper := [⟨some 15, .mov (.s 1), none⟩,
  ⟨some 16, .fad 2 (.s 2), none⟩,
  ⟨some 17, .load none (.s 16), none⟩,
  ⟨some 18, .call (.c (.fn 21 [])) [.s 15, .c (.v (.int .i64 0)), .s 17], none⟩,
  ⟨some 19, .un .not (.s 18), none⟩,
  ⟨some 14, .mov (.s 19), none⟩]
def F11r5 : List AOper := [⟨some 4, .mov (.c (.v (.int .i64 0))), none⟩,
  ⟨some 5, .mov (.c (.v (.int .i64 3))), none⟩]
def F11r6 : List AOper := [⟨some 21, .mov (.s 1), none⟩,
  ⟨some 22, .fad 0 (.s 2), none⟩,
  ⟨some 23, .load none (.s 22), none⟩,
  ⟨some 24, .bin false .leq (.s 21) (.s 23), none⟩,
  ⟨some 20, .mov (.s 24), none⟩]
def F11r7 : List AOper := [⟨some 25, .fad 1 (.s 2), none⟩,
  ⟨some 26, .load none (.s 25), none⟩,
  ⟨some 4, .mov (.s 26), none⟩,
  ⟨some 5, .mov (.c (.v (.int .i64 0))), none⟩]
def F11r8 : List AOper := [⟨some 28, .fad 3 (.s 2), none⟩,
  ⟨some 29, .load none (.s 28), none⟩,
  ⟨some 30, .bin false .eql (.s 29) (.c (.v (.int .i64 0))), none⟩,
  ⟨some 27, .mov (.s 30), none⟩]
def F11r9 : List AOper := [⟨some 4, .mov (.c (.v (.int .i64 0))), none⟩,
  ⟨some 5, .mov (.c (.v (.int .i64 5))), none⟩]
def F11r10 : List AOper := [⟨some 31, .fad 1 (.s 2), none⟩,
  ⟨some 32, .load none (.s 31), none⟩,
  ⟨some 33, .mov (.s 1), none⟩,
  ⟨some 34, .fad 0 (.s 2), none⟩,
  ⟨some 35, .load none (.s 34), none⟩,
  ⟨some 36, .bin false .sub (.s 33) (.s 35), none⟩,
  ⟨some 37, .fad 3 (.s 2), none⟩,
  ⟨some 38, .load none (.s 37), none⟩,
  ⟨some 39, .bin false .add (.s 36) (.s 38), none⟩,
  ⟨some 40, .bin false .sub (.s 39) (.c (.v (.int .i64 1))), none⟩,
  ⟨some 41, .fad 3 (.s 2), none⟩,
  ⟨some 42, .load none (.s 41), none⟩,
  ⟨some 43, .bin false .quo (.s 40) (.s 42), none⟩,
  ⟨some 44, .bin false .add (.s 32) (.s 43), none⟩,
  ⟨some 7, .mov (.s 44), none⟩]
def F11r11 : List AOper := [⟨some 45, .mov (.s 7), none⟩,
  ⟨some 46, .bin false .gtr (.s 45) (.c (.v (.int .i64 1000000))), none⟩]
def F11r12 : List AOper := [⟨some 4, .mov (.c (.v (.int .i64 0))), none⟩,
  ⟨some 5, .mov (.c (.v (.int .i64 5))), none⟩]
def F11r13 : List AOper := [⟨some 47, .mov (.s 7), none⟩,
  ⟨some 4, .mov (.s 47), none⟩,
  ⟨some 5, .mov (.c (.v (.int .i64 0))), none⟩]
def F11 : AFn := ⟨48, [.tmp 4, .tmp 5],
  .seq (.reg F11r0 none)
  (.seq (.reg F11r1 none)
  (.seq (.block 0 (
    .seq (.reg F11r2 none)
    (.cond (.s 10)
      (.seq (.reg F11r3 none)
      (.ret))
      (.seq (.reg F11r4 none)
      (.cond (.s 14)
        (.seq (.reg F11r5 none)
        (.ret))
        (.seq (.reg F11r6 none)
        (.cond (.s 20)
          (.seq (.reg F11r7 none)
          (.ret))
          (.seq (.reg F11r8 none)
          (.cond (.s 27)
            (.seq (.reg F11r9 none)
            (.ret))
            (.skip))))))))))
  (.seq (.reg F11r10 (some [[], [0], [], [], [3], [2, 4, 3], [], [6], [5, 7, 2, 4, 3, 6], [8, 5, 7, 2, 4, 3, 6], [], [10], [9, 11, 8, 5, 7, 2, 4, 3, 6, 10], [1, 12, 0, 9, 11, 8, 5, 7, 2, 4, 3, 6, 10], [13, 0, 1, 2, 3, 4, 5, 6, 7, 8, 9, 10, 11, 12]]))
  (.seq (.seq (.reg F11r11 none)
  (.cond (.s 46)
    (.seq (.reg F11r12 none)
    (.ret))
    (.skip)))
  (.seq (.reg F11r13 none)
  (.ret))))))⟩
theorem F11_ok : cFunc Try.prog 11 = some F11 := by kernel_rfl
theorem F11_call : callable Try.prog 11 = true := by kernel_rfl
/-- supercargoref.BucketLevel -/
def F12r0 : List AOper := [⟨some 2, .box 4 (.s 0), none⟩,
  ⟨some 4, .mov (.c (.v (.int .i64 0))), none⟩,
  ⟨some 5, .mov (.c (.v (.int .i64 0))), none⟩]
def F12r1 : List AOper := [⟨some 9, .load (some 4) (.s 2), none⟩,
  ⟨some 10, .call (.c (.fn 17 [])) [.s 9], none⟩,
  ⟨some 6, .mov (.s 10), none⟩]
def F12r2 : List AOper := [⟨some 11, .mov (.s 6), none⟩,
  ⟨some 12, .bin false .eql (.s 11) (.c (.v (.int .i64 0))), none⟩,
  ⟨some 13, .mov (.s 12), none⟩,
  ⟨some 14, .mov (.s 1), some (13, true)⟩,
  ⟨some 15, .call (.c (.fn 22 [])) [.s 14], some (13, true)⟩,
  ⟨some 16, .pick (.s 13) (.s 15) (.c (.v (.bool false))), none⟩]
def F12r3 : List AOper := [⟨some 6, .mov (.c (.v (.int .i64 3))), none⟩]
def F12r4 : List AOper := [⟨some 17, .mov (.s 6), none⟩,
  ⟨some 18, .bin false .eql (.s 17) (.c (.v (.int .i64 0))), none⟩,
  ⟨some 19, .mov (.s 18), none⟩,
  ⟨some 20, .fad 1 (.s 2), some (19, true)⟩,
  ⟨some 21, .load none (.s 20), some (19, true)⟩,
  ⟨some 22, .mov (.s 1), some (19, true)⟩,
  ⟨some 23, .bin false .gtr (.s 21) (.s 22), some (19, true)⟩,
  ⟨some 24, .pick (.s 19) (.s 23) (.c (.v (.bool false))), none⟩]
def F12r5 : List AOper := [⟨some 6, .mov (.c (.v (.int .i64 4))), none⟩]
def F12r6 : List AOper := [⟨some 25, .mov (.s 6), none⟩,
  ⟨some 26, .bin false .neq (.s 25) (.c (.v (.int .i64 0))), none⟩]
def F12r7 : List AOper := [⟨some 27, .mov (.s 6), none⟩,
  ⟨some 4, .mov (.c (.v (.int .i64 0))), none⟩,
  ⟨some 5, .mov (.s 27), none⟩]
def F12r8 : List AOper := [⟨some 28, .fad 2 (.s 2), none⟩,
  ⟨some 29, .load none (.s 28), none⟩,
  ⟨some 30, .fad 0 (.s 2), none⟩,
  ⟨some 31, .load none (.s 30), none⟩,
  ⟨some 32, .bin false .sub (.s 29) (.s 31), none⟩,
  ⟨some 7, .mov (.s 32), none⟩]
def F12r9 : List AOper := [⟨some 33, .mov (.s 1), none⟩,
  ⟨some 34, .fad 1 (.s 2), none⟩,
  ⟨some 35, .load none (.s 34), none⟩,
  ⟨some 36, .bin false .sub (.s 33) (.s 35), none⟩,
  ⟨some 37, .fad 3 (.s 2), none⟩,
  ⟨some 38, .load none (.s 37), none⟩,
  ⟨some 39, .bin false .mul (.s 36) (.s 38), none⟩,
  ⟨some 8, .mov (.s 39), none⟩]
def F12r10 : List AOper := [⟨some 40, .mov (.s 8), none⟩,
  ⟨some 41, .mov (.s 7), none⟩,
  ⟨some 42, .bin false .gtr (.s 40) (.s 41), none⟩]
def F12r11 : List AOper := [⟨some 43, .mov (.s 7), none⟩,
  ⟨some 8, .mov (.s 43), none⟩]
def F12r12 : List AOper := [⟨some 44, .fad 0 (.s 2), none⟩,
  ⟨some 45, .load none (.s 44), none⟩,
  ⟨some 46, .mov (.s 8), none⟩,
  ⟨some 47, .bin false .add (.s 45) (.s 46), none⟩,
  ⟨some 4, .mov (.s 47), none⟩,
  ⟨some 5, .mov (.c (.v (.int .i64 0))), none⟩]
def F12 : AFn := ⟨48, [.tmp 4, .tmp 5],
  .seq (.reg F12r0 none)
  (.seq (.reg F12r1 none)
  (.seq (.seq (.reg F12r2 none)
  (.cond (.s 16)
    (.reg F12r3 none)
    (.skip)))
  (.seq (.seq (.reg F12r4 none)
  (.cond (.s 24)
    (.reg F12r5 none)
    (.skip)))
  (.seq (.seq (.reg F12r6 none)
  (.cond (.s 26)
    (.seq (.reg F12r7 none)
    (.ret))
    (.skip)))
  (.seq (.reg F12r8 none)
  (.seq (.reg F12r9 none)
  (.seq (.seq (.reg F12r10 none)
  (.cond (.s 42)
    (.reg F12r11 none)
    (.skip)))
  (.seq (.reg F12r12 none)
  (.ret)))))))))⟩
theorem F12_ok : cFunc Try.prog 12 = some F12 := by kernel_rfl
theorem F12_call : callable Try.prog 12 = true := by kernel_rfl
/-- supercargoref.BucketTake -/
def F13r0 : List AOper := [⟨some 3, .box 4 (.s 0), none⟩,
  ⟨some 6, .new [.v (.int .i64 0), .v (.int .i64 0), .v (.int .i64 0), .v (.int .i64 0)], none⟩,
  ⟨some 7, .mov (.c (.v (.int .i64 0))), none⟩]
def F13r1 : List AOper := [⟨some 11, .load (some 4) (.s 3), none⟩,
  ⟨some 12, .mov (.s 1), none⟩,
  ⟨some 13, .call (.c (.fn 12 [])) [.s 11, .s 12], none⟩,
  ⟨some 10, .mov (.s 13), none⟩,
  ⟨some 14, .ext 0 (.s 10), none⟩,
  ⟨some 15, .ext 1 (.s 10), none⟩,
  ⟨some 8, .mov (.s 14), none⟩,
  ⟨some 9, .mov (.s 15), none⟩]
def F13r2 : List AOper := [⟨some 16, .mov (.s 9), none⟩,
  ⟨some 17, .bin false .eql (.s 16) (.c (.v (.int .i64 0))), none⟩,
  ⟨some 18, .mov (.s 17), none⟩,
  ⟨some 19, .mov (.s 2), some (18, true)⟩,
  ⟨some 20, .bin false .lss (.s 19) (.c (.v (.int .i64 0))), some (18, true)⟩,
  ⟨some 21, .mov (.s 20), some (18, true)⟩,
  ⟨some 22, .mov (.s 2), some (21, false)⟩,
  ⟨some 23, .fad 2 (.s 3), some (21, false)⟩,
  ⟨some 24, .load none (.s 23), some (21, false)⟩,
  ⟨some 25, .bin false .gtr (.s 22) (.s 24), some (21, false)⟩,
  ⟨some 26, .pick (.s 21) (.c (.v (.bool true))) (.s 25), some (18, true)⟩,
  ⟨some 27, .pick (.s 18) (.s 26) (.c (.v (.bool false))), none⟩]
def F13r3 : List AOper := [⟨some 9, .mov (.c (.v (.int .i64 3))), none⟩]
def F13r4 : List AOper := [⟨some 28, .mov (.s 9), none⟩,
  ⟨some 29, .bin false .eql (.s 28) (.c (.v (.int .i64 0))), none⟩,
  ⟨some 30, .mov (.s 29), none⟩,
  ⟨some 31, .mov (.s 8), some (30, true)⟩,
  ⟨some 32, .mov (.s 2), some (30, true)⟩,
  ⟨some 33, .bin false .lss (.s 31) (.s 32), some (30, true)⟩,
  ⟨some 34, .pick (.s 30) (.s 33) (.c (.v (.bool false))), none⟩]
def F13r5 : List AOper := [⟨some 9, .mov (.c (.v (.int .i64 8))), none⟩]
def F13r6 : List AOper := [⟨some 35, .mov (.s 9), none⟩,
  ⟨some 36, .bin false .neq (.s 35) (.c (.v (.int .i64 0))), none⟩]
def F13r7 : List AOper := [⟨some 37, .agg [.v (.int .i64 0), .v (.int .i64 0), .v (.int .i64 0), .v (.int .i64 0)] [], none⟩,
  ⟨some 38, .mov (.s 9), none⟩,
  ⟨none, .store 4 (.s 6) (.s 37), none⟩,
  ⟨some 7, .mov (.s 38), none⟩]
def F13r8 : List AOper := [⟨some 39, .mov (.s 8), none⟩,
  ⟨some 40, .mov (.s 2), none⟩,
  ⟨some 41, .bin false .sub (.s 39) (.s 40), none⟩,
  ⟨some 42, .mov (.s 1), none⟩,
  ⟨some 43, .fad 2 (.s 3), none⟩,
  ⟨some 44, .load none (.s 43), none⟩,
  ⟨some 45, .fad 3 (.s 3), none⟩,
  ⟨some 46, .load none (.s 45), none⟩,
  ⟨some 47, .agg [.v (.int .i64 0), .v (.int .i64 0), .v (.int .i64 0), .v (.int .i64 0)] [(0, (1, .s 41)), (1, (1, .s 42)), (2, (1, .s 44)), (3, (1, .s 46))], none⟩,
  ⟨none, .store 4 (.s 6) (.s 47), none⟩,
  ⟨some 7, .mov (.c (.v (.int .i64 0))), none⟩]
def F13 : AFn := ⟨48, [.cell 6 (some 4), .tmp 7],
  .seq (.reg F13r0 none)
  (.seq (.reg F13r1 none)
  (.seq (.seq (.reg F13r2 none)
  (.cond (.s 27)
    (.reg F13r3 none)
    (.skip)))
  (.seq (.seq (.reg F13r4 none)
  (.cond (.s 34)
    (.reg F13r5 none)
    (.skip)))
  (.seq (.seq (.reg F13r6 none)
  (.cond (.s 36)
    (.seq (.reg F13r7 none)
    (.ret))
    (.skip)))
  (.seq (.reg F13r8 none)
  (.ret))))))⟩
theorem F13_ok : cFunc Try.prog 13 = some F13 := by kernel_rfl
theorem F13_call : callable Try.prog 13 = true := by kernel_rfl
/-- supercargoref.BucketReady -/
def F14r0 : List AOper := [⟨some 2, .box 4 (.s 0), none⟩,
  ⟨some 4, .mov (.c (.v (.int .i64 0))), none⟩,
  ⟨some 5, .mov (.c (.v (.int .i64 0))), none⟩]
def F14r1 : List AOper := [⟨some 12, .load (some 4) (.s 2), none⟩,
  ⟨some 13, .call (.c (.fn 17 [])) [.s 12], none⟩,
  ⟨some 6, .mov (.s 13), none⟩]
def F14r2 : List AOper := [⟨some 14, .mov (.s 6), none⟩,
  ⟨some 15, .bin false .eql (.s 14) (.c (.v (.int .i64 0))), none⟩,
  ⟨some 16, .mov (.s 15), none⟩,
  ⟨some 17, .mov (.s 1), some (16, true)⟩,
  ⟨some 18, .bin false .lss (.s 17) (.c (.v (.int .i64 0))), some (16, true)⟩,
  ⟨some 19, .mov (.s 18), some (16, true)⟩,
  ⟨some 20, .mov (.s 1), some (19, false)⟩,
  ⟨some 21, .fad 2 (.s 2), some (19, false)⟩,
  ⟨some 22, .load none (.s 21), some (19, false)⟩,
  ⟨some 23, .bin false .gtr (.s 20) (.s 22), some (19, false)⟩,
  ⟨some 24, .pick (.s 19) (.c (.v (.bool true))) (.s 23), some (16, true)⟩,
  ⟨some 25, .pick (.s 16) (.s 24) (.c (.v (.bool false))), none⟩]
def F14r3 : List AOper := [⟨some 6, .mov (.c (.v (.int .i64 3))), none⟩]
def F14r4 : List AOper := [⟨some 26, .mov (.s 6), none⟩,
  ⟨some 27, .bin false .neq (.s 26) (.c (.v (.int .i64 0))), none⟩]
def F14r5 : List AOper := [⟨some 28, .mov (.s 6), none⟩,
  ⟨some 4, .mov (.c (.v (.int .i64 0))), none⟩,
  ⟨some 5, .mov (.s 28), none⟩]
def F14r6 : List AOper := [⟨some 29, .fad 1 (.s 2), none⟩,
  ⟨some 30, .load none (.s 29), none⟩,
  ⟨some 7, .mov (.s 30), none⟩,
  ⟨some 8, .mov (.c (.v (.int .i64 1000001))), none⟩]
def F14r7 : List AOper := [⟨some 31, .mov (.s 7), none⟩,
  ⟨some 32, .mov (.s 8), none⟩,
  ⟨some 33, .bin false .lss (.s 31) (.s 32), none⟩]
def F14r8 : List AOper := [⟨some 34, .mov (.s 7), none⟩,
  ⟨some 35, .mov (.s 8), none⟩,
  ⟨some 36, .bin false .add (.s 34) (.s 35), none⟩,
  ⟨some 37, .bin false .quo (.s 36) (.c (.v (.int .i64 2))), none⟩,
  ⟨some 9, .mov (.s 37), none⟩]
def F14r9 : List AOper := [⟨some 39, .load (some 4) (.s 2), none⟩,
  ⟨some 40, .mov (.s 9), none⟩,
  ⟨some 41, .mov (.s 1), none⟩,
  ⟨some 42, .call (.c (.fn 13 [])) [.s 39, .s 40, .s 41], none⟩,
  ⟨some 38, .mov (.s 42), none⟩,
  ⟨some 43, .ext 0 (.s 38), none⟩,
  ⟨some 44, .ext 1 (.s 38), none⟩,
  ⟨some 10, .new [.v (.int .i64 0), .v (.int .i64 0), .v (.int .i64 0), .v (.int .i64 0)], none⟩,
  ⟨none, .store 4 (.s 10) (.s 43), none⟩,
  ⟨some 11, .mov (.s 44), none⟩]
def F14r10 : List AOper := [⟨some 45, .mov (.s 11), none⟩,
  ⟨some 46, .bin false .eql (.s 45) (.c (.v (.int .i64 0))), none⟩]
def F14r11 : List AOper := [⟨some 47, .mov (.s 9), none⟩,
  ⟨some 8, .mov (.s 47), none⟩]
def F14r12 : List AOper := [⟨some 48, .mov (.s 9), none⟩,
  ⟨some 49, .bin false .add (.s 48) (.c (.v (.int .i64 1))), none⟩,
  ⟨some 7, .mov (.s 49), none⟩]
def F14r13 : List AOper := [⟨some 50, .mov (.s 7), none⟩,
  ⟨some 51, .bin false .gtr (.s 50) (.c (.v (.int .i64 1000000))), none⟩]
def F14r14 : List AOper := [⟨some 4, .mov (.c (.v (.int .i64 0))), none⟩,
  ⟨some 5, .mov (.c (.v (.int .i64 5))), none⟩]
def F14r15 : List AOper := [⟨some 52, .mov (.s 7), none⟩,
  ⟨some 4, .mov (.s 52), none⟩,
  ⟨some 5, .mov (.c (.v (.int .i64 0))), none⟩]
def F14 : AFn := ⟨53, [.tmp 4, .tmp 5],
  .seq (.reg F14r0 none)
  (.seq (.reg F14r1 none)
  (.seq (.seq (.reg F14r2 none)
  (.cond (.s 25)
    (.reg F14r3 none)
    (.skip)))
  (.seq (.seq (.reg F14r4 none)
  (.cond (.s 27)
    (.seq (.reg F14r5 none)
    (.ret))
    (.skip)))
  (.seq (.reg F14r6 none)
  (.seq (.block 0 (
    .loop (
      .seq (.seq (.reg F14r7 none)
      (.cond (.s 33)
        (.skip)
        (.exit 0)))
      (.block 1 (
        .seq (.reg F14r8 none)
        (.seq (.reg F14r9 none)
        (.seq (.reg F14r10 none)
        (.cond (.s 46)
          (.reg F14r11 none)
          (.reg F14r12 none)))))))))
  (.seq (.seq (.reg F14r13 none)
  (.cond (.s 51)
    (.seq (.reg F14r14 none)
    (.ret))
    (.skip)))
  (.seq (.reg F14r15 none)
  (.ret))))))))⟩
theorem F14_ok : cFunc Try.prog 14 = some F14 := by kernel_rfl
theorem F14_call : callable Try.prog 14 = true := by kernel_rfl
/-- supercargolaw.bucketBegun -/
def F15r0 : List AOper := [⟨some 0, .mov (.c (.v (.bool false))), none⟩]
def F15r1 : List AOper := [⟨some 13, .agg [.v (.int .i64 0), .v (.int .i64 0), .v (.int .i64 0), .v (.int .i64 0)] [(0, (1, .c (.v (.int .i64 5)))), (2, (1, .c (.v (.int .i64 10)))), (3, (1, .c (.v (.int .i64 2))))], none⟩,
  ⟨some 1, .new [.v (.int .i64 0), .v (.int .i64 0), .v (.int .i64 0), .v (.int .i64 0)], none⟩,
  ⟨none, .store 4 (.s 1) (.s 13), none⟩]
def F15r2 : List AOper := [⟨some 15, .load (some 4) (.s 1), none⟩,
  ⟨some 16, .call (.c (.fn 9 [])) [.s 15, .c (.v (.int .i64 2))], none⟩,
  ⟨some 14, .mov (.s 16), none⟩,
  ⟨some 17, .ext 0 (.s 14), none⟩,
  ⟨some 18, .ext 1 (.s 14), none⟩,
  ⟨some 2, .mov (.s 17), none⟩,
  ⟨some 3, .mov (.s 18), none⟩]
def F15r3 : List AOper := [⟨some 20, .load (some 4) (.s 1), none⟩,
  ⟨some 21, .call (.c (.fn 10 [])) [.s 20, .c (.v (.int .i64 1)), .c (.v (.int .i64 7))], none⟩,
  ⟨some 19, .mov (.s 21), none⟩,
  ⟨some 22, .ext 0 (.s 19), none⟩,
  ⟨some 23, .ext 1 (.s 19), none⟩,
  ⟨some 4, .new [.v (.int .i64 0), .v (.int .i64 0), .v (.int .i64 0), .v (.int .i64 0)], none⟩,
  ⟨none, .store 4 (.s 4) (.s 22), none⟩,
  ⟨some 5, .mov (.s 23), none⟩]
def F15r4 : List AOper := [⟨some 25, .load (some 4) (.s 1), none⟩,
  ⟨some 26, .call (.c (.fn 10 [])) [.s 25, .c (.v (.int .i64 1)), .c (.v (.int .i64 8))], none⟩,
  ⟨some 24, .mov (.s 26), none⟩,
  ⟨some 27, .ext 0 (.s 24), none⟩,
  ⟨some 28, .ext 1 (.s 24), none⟩,
  ⟨some 6, .new [.v (.int .i64 0), .v (.int .i64 0), .v (.int .i64 0), .v (.int .i64 0)], none⟩,
  ⟨none, .store 4 (.s 6) (.s 27), none⟩,
  ⟨some 7, .mov (.s 28), none⟩]
def F15r5 : List AOper := [⟨some 30, .load (some 4) (.s 4), none⟩,
  ⟨some 31, .call (.c (.fn 11 [])) [.s 30, .c (.v (.int .i64 3))], none⟩,
  ⟨some 29, .mov (.s 31), none⟩,
  ⟨some 32, .ext 0 (.s 29), none⟩,
  ⟨some 33, .ext 1 (.s 29), none⟩,
  ⟨some 8, .mov (.s 32), none⟩,
  ⟨some 9, .mov (.s 33), none⟩]
def F15r6 : List AOper := [⟨some 35, .load (some 4) (.s 1), none⟩,
  ⟨some 36, .agg [.v (.int .i64 0), .v (.int .i64 0)] [(0, (1, .c (.v (.int .i64 0)))), (1, (1, .c (.v (.int .i64 5))))], none⟩,
  ⟨some 37, .agg [.v (.int .i64 0), .v (.int .i64 0)] [(0, (1, .c (.v (.int .i64 1)))), (1, (1, .c (.v (.int .i64 3))))], none⟩,
  ⟨some 38, .agg [.v (.int .i64 0), .v (.int .i64 0)] [(0, (1, .c (.v (.int .i64 2)))), (1, (1, .c (.v (.int .i64 4))))], none⟩,
  ⟨some 39, .bsl 2 3 [.v (.int .i64 0), .v (.int .i64 0)] [(0, .s 36), (1, .s 37), (2, .s 38)], none⟩,
  ⟨some 40, .call (.c (.fn 18 [])) [.s 35, .s 39], none⟩,
  ⟨some 34, .mov (.s 40), none⟩,
  ⟨some 41, .ext 0 (.s 34), none⟩,
  ⟨some 42, .ext 1 (.s 34), none⟩,
  ⟨some 43, .ext 2 (.s 34), none⟩,
  ⟨some 11, .new [.v (.int .i64 0), .v (.int .i64 0), .v (.int .i64 0), .v (.int .i64 0)], none⟩,
  ⟨some 10, .mov (.s 41), none⟩,
  ⟨none, .store 4 (.s 11) (.s 42), none⟩,
  ⟨some 12, .mov (.s 43), none⟩]
def F15r7 : List AOper := [⟨some 44, .mov (.s 2), none⟩,
  ⟨some 45, .bin false .eql (.s 44) (.c (.v (.int .i64 9))), none⟩,
  ⟨some 46, .mov (.s 45), none⟩,
  ⟨some 47, .mov (.s 3), some (46, true)⟩,
  ⟨some 48, .bin false .eql (.s 47) (.c (.v (.int .i64 0))), some (46, true)⟩,
  ⟨some 49, .pick (.s 46) (.s 48) (.c (.v (.bool false))), none⟩,
  ⟨some 50, .mov (.s 49), none⟩,
  ⟨some 51, .load (some 4) (.s 4), some (50, true)⟩,
  ⟨some 52, .agg [.v (.int .i64 0), .v (.int .i64 0), .v (.int .i64 0), .v (.int .i64 0)] [(0, (1, .c (.v (.int .i64 0)))), (1, (1, .c (.v (.int .i64 1)))), (2, (1, .c (.v (.int .i64 10)))), (3, (1, .c (.v (.int .i64 2))))], some (50, true)⟩,
  ⟨some 53, .eqs false 4 [(0, .int), (1, .int), (2, .int), (3, .int)] (.s 51) (.s 52), some (50, true)⟩,
  ⟨some 54, .pick (.s 50) (.s 53) (.c (.v (.bool false))), none⟩,
  ⟨some 55, .mov (.s 54), none⟩,
  ⟨some 56, .mov (.s 5), some (55, true)⟩,
  ⟨some 57, .bin false .eql (.s 56) (.c (.v (.int .i64 0))), some (55, true)⟩,
  ⟨some 58, .pick (.s 55) (.s 57) (.c (.v (.bool false))), none⟩,
  ⟨some 59, .mov (.s 58), none⟩,
  ⟨some 60, .mov (.s 7), some (59, true)⟩,
  ⟨some 61, .bin false .eql (.s 60) (.c (.v (.int .i64 8))), some (59, true)⟩,
  ⟨some 62, .pick (.s 59) (.s 61) (.c (.v (.bool false))), none⟩,
  ⟨some 63, .mov (.s 62), none⟩,
  ⟨some 64, .mov (.s 8), some (63, true)⟩,
  ⟨some 65, .bin false .eql (.s 64) (.c (.v (.int .i64 3))), some (63, true)⟩,
  ⟨some 66, .pick (.s 63) (.s 65) (.c (.v (.bool false))), none⟩,
  ⟨some 67, .mov (.s 66), none⟩,
  ⟨some 68, .mov (.s 9), some (67, true)⟩,
  ⟨some 69, .bin false .eql (.s 68) (.c (.v (.int .i64 0))), some (67, true)⟩,
  ⟨some 70, .pick (.s 67) (.s 69) (.c (.v (.bool false))), none⟩,
  ⟨some 71, .mov (.s 70), none⟩,
  ⟨some 72, .mov (.s 12), some (71, true)⟩,
  ⟨some 73, .bin false .eql (.s 72) (.c (.v (.int .i64 0))), some (71, true)⟩,
  ⟨some 74, .pick (.s 71) (.s 73) (.c (.v (.bool false))), none⟩,
  ⟨some 75, .mov (.s 74), none⟩,
  ⟨some 76, .mov (.s 10), some (75, true)⟩,
  ⟨some 77, .bsl 1 2 [.v (.int .i64 0)] [(0, .c (.v (.int .i64 0))), (1, .c (.v (.int .i64 2)))], some (75, true)⟩,
  ⟨some 78, .call (.c (.fn 20 [])) [.s 76, .s 77], some (75, true)⟩,
  ⟨some 79, .pick (.s 75) (.s 78) (.c (.v (.bool false))), none⟩,
  ⟨some 80, .mov (.s 79), none⟩,
  ⟨some 81, .fad 0 (.s 11), some (80, true)⟩,
  ⟨some 82, .load none (.s 81), some (80, true)⟩,
  ⟨some 83, .bin false .eql (.s 82) (.c (.v (.int .i64 0))), some (80, true)⟩,
  ⟨some 84, .pick (.s 80) (.s 83) (.c (.v (.bool false))), none⟩,
  ⟨some 85, .mov (.s 84), none⟩,
  ⟨some 86, .agg [.v (.int .i64 0), .v (.int .i64 0), .v (.int .i64 0), .v (.int .i64 0)] [], some (85, true)⟩,
  ⟨some 87, .call (.c (.fn 16 [])) [.s 86], some (85, true)⟩,
  ⟨some 88, .bin false .eql (.s 87) (.c (.v (.int .i64 3))), some (85, true)⟩,
  ⟨some 89, .pick (.s 85) (.s 88) (.c (.v (.bool false))), none⟩,
  ⟨some 0, .mov (.s 89), none⟩]
def F15 : AFn := ⟨90, [.tmp 0],
  .seq (.reg F15r0 none)
  (.seq (.reg F15r1 none)
  (.seq (.reg F15r2 none)
  (.seq (.reg F15r3 none)
  (.seq (.reg F15r4 none)
  (.seq (.reg F15r5 none)
  (.seq (.reg F15r6 none)
  (.seq (.reg F15r7 none)
  (.ret))))))))⟩
theorem F15_ok : cFunc Try.prog 15 = some F15 := by kernel_rfl
theorem F15_call : callable Try.prog 15 = true := by kernel_rfl
/-- bucket.Check -/
def F16r0 : List AOper := [⟨some 1, .box 4 (.s 0), none⟩,
  ⟨some 2, .mov (.c (.v (.int .i64 0))), none⟩]
def F16r1 : List AOper := [⟨some 3, .fad 2 (.s 1), none⟩,
  ⟨some 4, .load none (.s 3), none⟩,
  ⟨some 5, .call (.c (.fn 21 [])) [.s 4, .c (.v (.int .i64 1)), .c (.v (.int .i64 100000))], none⟩,
  ⟨some 6, .un .not (.s 5), none⟩,
  ⟨some 7, .mov (.s 6), none⟩,
  ⟨some 8, .fad 3 (.s 1), some (7, false)⟩,
  ⟨some 9, .load none (.s 8), some (7, false)⟩,
  ⟨some 10, .call (.c (.fn 21 [])) [.s 9, .c (.v (.int .i64 0)), .c (.v (.int .i64 1000))], some (7, false)⟩,
  ⟨some 11, .un .not (.s 10), some (7, false)⟩,
  ⟨some 12, .pick (.s 7) (.c (.v (.bool true))) (.s 11), none⟩,
  ⟨some 13, .mov (.s 12), none⟩,
  ⟨some 14, .fad 1 (.s 1), some (13, false)⟩,
  ⟨some 15, .load none (.s 14), some (13, false)⟩,
  ⟨some 16, .call (.c (.fn 21 [])) [.s 15, .c (.v (.int .i64 0)), .c (.v (.int .i64 1000000))], some (13, false)⟩,
  ⟨some 17, .un .not (.s 16), some (13, false)⟩,
  ⟨some 18, .pick (.s 13) (.c (.v (.bool true))) (.s 17), none⟩,
  ⟨some 19, .mov (.s 18), none⟩,
  ⟨some 20, .fad 0 (.s 1), some (19, false)⟩,
  ⟨some 21, .load none (.s 20), some (19, false)⟩,
  ⟨some 22, .fad 2 (.s 1), some (19, false)⟩,
  ⟨some 23, .load none (.s 22), some (19, false)⟩,
  ⟨some 24, .call (.c (.fn 21 [])) [.s 21, .c (.v (.int .i64 0)), .s 23], some (19, false)⟩,
  ⟨some 25, .un .not (.s 24), some (19, false)⟩,
  ⟨some 26, .pick (.s 19) (.c (.v (.bool true))) (.s 25), none⟩]
def F16r2 : List AOper := [⟨some 2, .mov (.c (.v (.int .i64 3))), none⟩]
def F16r3 : List AOper := [⟨some 2, .mov (.c (.v (.int .i64 0))), none⟩]
def F16 : AFn := ⟨27, [.tmp 2],
  .seq (.reg F16r0 none)
  (.seq (.seq (.reg F16r1 none)
  (.cond (.s 26)
    (.seq (.reg F16r2 none)
    (.ret))
    (.skip)))
  (.seq (.reg F16r3 none)
  (.ret)))⟩
theorem F16_ok : cFunc Try.prog 16 = some F16 := by kernel_rfl
theorem F16_call : callable Try.prog 16 = true := by kernel_rfl
/-- supercargoref.BucketCheck -/
def F17r0 : List AOper := [⟨some 1, .box 4 (.s 0), none⟩,
  ⟨some 2, .mov (.c (.v (.int .i64 0))), none⟩]
def F17r1 : List AOper := [⟨some 3, .fad 2 (.s 1), none⟩,
  ⟨some 4, .load none (.s 3), none⟩,
  ⟨some 5, .bin false .lss (.s 4) (.c (.v (.int .i64 1))), none⟩,
  ⟨some 6, .mov (.s 5), none⟩,
  ⟨some 7, .fad 2 (.s 1), some (6, false)⟩,
  ⟨some 8, .load none (.s 7), some (6, false)⟩,
  ⟨some 9, .bin false .gtr (.s 8) (.c (.v (.int .i64 100000))), some (6, false)⟩,
  ⟨some 10, .pick (.s 6) (.c (.v (.bool true))) (.s 9), none⟩,
  ⟨some 11, .mov (.s 10), none⟩,
  ⟨some 12, .fad 3 (.s 1), some (11, false)⟩,
  ⟨some 13, .load none (.s 12), some (11, false)⟩,
  ⟨some 14, .bin false .lss (.s 13) (.c (.v (.int .i64 0))), some (11, false)⟩,
  ⟨some 15, .pick (.s 11) (.c (.v (.bool true))) (.s 14), none⟩,
  ⟨some 16, .mov (.s 15), none⟩,
  ⟨some 17, .fad 3 (.s 1), some (16, false)⟩,
  ⟨some 18, .load none (.s 17), some (16, false)⟩,
  ⟨some 19, .bin false .gtr (.s 18) (.c (.v (.int .i64 1000))), some (16, false)⟩,
  ⟨some 20, .pick (.s 16) (.c (.v (.bool true))) (.s 19), none⟩,
  ⟨some 21, .mov (.s 20), none⟩,
  ⟨some 22, .fad 1 (.s 1), some (21, false)⟩,
  ⟨some 23, .load none (.s 22), some (21, false)⟩,
  ⟨some 24, .call (.c (.fn 22 [])) [.s 23], some (21, false)⟩,
  ⟨some 25, .pick (.s 21) (.c (.v (.bool true))) (.s 24), none⟩,
  ⟨some 26, .mov (.s 25), none⟩,
  ⟨some 27, .fad 0 (.s 1), some (26, false)⟩,
  ⟨some 28, .load none (.s 27), some (26, false)⟩,
  ⟨some 29, .bin false .lss (.s 28) (.c (.v (.int .i64 0))), some (26, false)⟩,
  ⟨some 30, .pick (.s 26) (.c (.v (.bool true))) (.s 29), none⟩,
  ⟨some 31, .mov (.s 30), none⟩,
  ⟨some 32, .fad 0 (.s 1), some (31, false)⟩,
  ⟨some 33, .load none (.s 32), some (31, false)⟩,
  ⟨some 34, .fad 2 (.s 1), some (31, false)⟩,
  ⟨some 35, .load none (.s 34), some (31, false)⟩,
  ⟨some 36, .bin false .gtr (.s 33) (.s 35), some (31, false)⟩,
  ⟨some 37, .pick (.s 31) (.c (.v (.bool true))) (.s 36), none⟩]
def F17r2 : List AOper := [⟨some 2, .mov (.c (.v (.int .i64 3))), none⟩]
def F17r3 : List AOper := [⟨some 2, .mov (.c (.v (.int .i64 0))), none⟩]
def F17 : AFn := ⟨38, [.tmp 2],
  .seq (.reg F17r0 none)
  (.seq (.seq (.reg F17r1 none)
  (.cond (.s 37)
    (.seq (.reg F17r2 none)
    (.ret))
    (.skip)))
  (.seq (.reg F17r3 none)
  (.ret)))⟩
theorem F17_ok : cFunc Try.prog 17 = some F17 := by kernel_rfl
theorem F17_call : callable Try.prog 17 = true := by kernel_rfl
/-- bucket.Serve -/
def F18r0 : List AOper := [⟨some 2, .box 4 (.s 0), none⟩,
  ⟨some 4, .mov (.c .emp), none⟩,
  ⟨some 5, .new [.v (.int .i64 0), .v (.int .i64 0), .v (.int .i64 0), .v (.int .i64 0)], none⟩,
  ⟨some 6, .mov (.c (.v (.int .i64 0))), none⟩]
def F18r1 : List AOper := [⟨some 10, .load (some 4) (.s 2), none⟩,
  ⟨some 11, .call (.c (.fn 16 [])) [.s 10], none⟩,
  ⟨some 7, .mov (.s 11), none⟩]
def F18r2 : List AOper := [⟨some 12, .mov (.s 7), none⟩,
  ⟨some 13, .bin false .eql (.s 12) (.c (.v (.int .i64 0))), none⟩,
  ⟨some 14, .mov (.s 13), none⟩,
  ⟨some 15, .mov (.s 1), some (14, true)⟩,
  ⟨some 16, .len false (.s 15), some (14, true)⟩,
  ⟨some 17, .bin false .gtr (.s 16) (.c (.v (.int .i64 64))), some (14, true)⟩,
  ⟨some 18, .pick (.s 14) (.s 17) (.c (.v (.bool false))), none⟩]
def F18r3 : List AOper := [⟨some 7, .mov (.c (.v (.int .i64 2))), none⟩]
def F18r4 : List AOper := [⟨some 19, .mov (.s 7), none⟩,
  ⟨some 20, .bin false .neq (.s 19) (.c (.v (.int .i64 0))), none⟩]
def F18r5 : List AOper := [⟨some 21, .agg [.v (.int .i64 0), .v (.int .i64 0), .v (.int .i64 0), .v (.int .i64 0)] [], none⟩,
  ⟨some 22, .mov (.s 7), none⟩,
  ⟨some 4, .mov (.c .emp), none⟩,
  ⟨none, .store 4 (.s 5) (.s 21), none⟩,
  ⟨some 6, .mov (.s 22), none⟩]
def F18r6 : List AOper := [⟨some 8, .new [.emp], none⟩]
def F18r7 : List AOper := [⟨some 23, .mov (.s 1), none⟩,
  ⟨some 24, .call (.c (.fn 23 [])) [.s 2, .s 23], none⟩]
def F18r8 : List AOper := [⟨some 9, .mov (.s 25), none⟩]
def F18r9 : List AOper := [⟨some 26, .load none (.s 8), none⟩,
  ⟨some 27, .mov (.s 9), none⟩,
  ⟨some 28, .bsl 1 1 [.v (.int .i64 0)] [(0, .s 27)], none⟩,
  ⟨some 29, .app 1 8 (.s 26) (.s 28), none⟩,
  ⟨none, .store 1 (.s 8) (.s 29), none⟩]
def F18r10 : List AOper := [⟨some 30, .load none (.s 8), none⟩,
  ⟨some 31, .load (some 4) (.s 2), none⟩,
  ⟨some 4, .mov (.s 30), none⟩,
  ⟨none, .store 4 (.s 5) (.s 31), none⟩,
  ⟨some 6, .mov (.c (.v (.int .i64 0))), none⟩]
def F18 : AFn := ⟨32, [.tmp 4, .cell 5 (some 4), .tmp 6],
  .seq (.reg F18r0 none)
  (.seq (.reg F18r1 none)
  (.seq (.seq (.reg F18r2 none)
  (.cond (.s 18)
    (.reg F18r3 none)
    (.skip)))
  (.seq (.seq (.reg F18r4 none)
  (.cond (.s 20)
    (.seq (.reg F18r5 none)
    (.ret))
    (.skip)))
  (.seq (.reg F18r6 none)
  (.seq (.seq (.reg F18r7 none)
  (.block 0 (
    .rng (.s 24) [25]
      (.reg F18r8 none)
      (.block 1 (
        .reg F18r9 none)))))
  (.seq (.reg F18r10 (some [[], [], [0], [1, 2, 0], [3, 0, 1, 2]]))
  (.ret)))))))⟩
theorem F18_ok : cFunc Try.prog 18 = some F18 := by kernel_rfl
theorem F18_call : callable Try.prog 18 = true := by kernel_rfl
/-- supercargoref.BucketServe -/
def F19r0 : List AOper := [⟨some 2, .box 4 (.s 0), none⟩,
  ⟨some 4, .mov (.c .emp), none⟩,
  ⟨some 5, .new [.v (.int .i64 0), .v (.int .i64 0), .v (.int .i64 0), .v (.int .i64 0)], none⟩,
  ⟨some 6, .mov (.c (.v (.int .i64 0))), none⟩]
def F19r1 : List AOper := [⟨some 12, .load (some 4) (.s 2), none⟩,
  ⟨some 13, .call (.c (.fn 17 [])) [.s 12], none⟩,
  ⟨some 7, .mov (.s 13), none⟩]
def F19r2 : List AOper := [⟨some 14, .mov (.s 7), none⟩,
  ⟨some 15, .bin false .eql (.s 14) (.c (.v (.int .i64 0))), none⟩,
  ⟨some 16, .mov (.s 15), none⟩,
  ⟨some 17, .mov (.s 1), some (16, true)⟩,
  ⟨some 18, .len false (.s 17), some (16, true)⟩,
  ⟨some 19, .bin false .gtr (.s 18) (.c (.v (.int .i64 64))), some (16, true)⟩,
  ⟨some 20, .pick (.s 16) (.s 19) (.c (.v (.bool false))), none⟩]
def F19r3 : List AOper := [⟨some 7, .mov (.c (.v (.int .i64 2))), none⟩]
def F19r4 : List AOper := [⟨some 21, .mov (.s 7), none⟩,
  ⟨some 22, .bin false .neq (.s 21) (.c (.v (.int .i64 0))), none⟩]
def F19r5 : List AOper := [⟨some 23, .agg [.v (.int .i64 0), .v (.int .i64 0), .v (.int .i64 0), .v (.int .i64 0)] [], none⟩,
  ⟨some 24, .mov (.s 7), none⟩,
  ⟨some 4, .mov (.c .emp), none⟩,
  ⟨none, .store 4 (.s 5) (.s 23), none⟩,
  ⟨some 6, .mov (.s 24), none⟩]
def F19r6 : List AOper := [⟨some 8, .mov (.c .emp), none⟩]
def F19r7 : List AOper := [⟨some 9, .mov (.c (.v (.int .i64 0))), none⟩]
def F19r8 : List AOper := [⟨some 25, .mov (.s 9), none⟩,
  ⟨some 26, .mov (.s 1), none⟩,
  ⟨some 27, .len false (.s 26), none⟩,
  ⟨some 28, .bin false .lss (.s 25) (.s 27), none⟩]
def F19r9 : List AOper := [⟨some 32, .load (some 4) (.s 2), none⟩,
  ⟨some 33, .mov (.s 1), none⟩,
  ⟨some 34, .mov (.s 9), none⟩,
  ⟨some 35, .iad 2 (.s 33) (.s 34), none⟩,
  ⟨some 36, .fad 0 (.s 35), none⟩,
  ⟨some 37, .load none (.s 36), none⟩,
  ⟨some 38, .mov (.s 1), none⟩,
  ⟨some 39, .mov (.s 9), none⟩,
  ⟨some 40, .iad 2 (.s 38) (.s 39), none⟩,
  ⟨some 41, .fad 1 (.s 40), none⟩,
  ⟨some 42, .load none (.s 41), none⟩,
  ⟨some 43, .call (.c (.fn 13 [])) [.s 32, .s 37, .s 42], none⟩,
  ⟨some 31, .mov (.s 43), none⟩,
  ⟨some 44, .ext 0 (.s 31), none⟩,
  ⟨some 45, .ext 1 (.s 31), none⟩,
  ⟨some 10, .new [.v (.int .i64 0), .v (.int .i64 0), .v (.int .i64 0), .v (.int .i64 0)], none⟩,
  ⟨none, .store 4 (.s 10) (.s 44), none⟩,
  ⟨some 11, .mov (.s 45), none⟩]
def F19r10 : List AOper := [⟨some 46, .mov (.s 11), none⟩,
  ⟨some 47, .bin false .eql (.s 46) (.c (.v (.int .i64 0))), none⟩]
def F19r11 : List AOper := [⟨some 48, .load (some 4) (.s 10), none⟩,
  ⟨none, .store 4 (.s 2) (.s 48), none⟩]
def F19r12 : List AOper := [⟨some 49, .mov (.s 8), none⟩,
  ⟨some 50, .mov (.s 9), none⟩,
  ⟨some 51, .bsl 1 1 [.v (.int .i64 0)] [(0, .s 50)], none⟩,
  ⟨some 52, .app 1 8 (.s 49) (.s 51), none⟩,
  ⟨some 8, .mov (.s 52), none⟩]
def F19r13 : List AOper := [⟨some 29, .mov (.s 9), none⟩,
  ⟨some 30, .bin false .add (.s 29) (.c (.v (.int .i64 1))), none⟩,
  ⟨some 9, .mov (.s 30), none⟩]
def F19r14 : List AOper := [⟨some 53, .mov (.s 8), none⟩,
  ⟨some 54, .load (some 4) (.s 2), none⟩,
  ⟨some 4, .mov (.s 53), none⟩,
  ⟨none, .store 4 (.s 5) (.s 54), none⟩,
  ⟨some 6, .mov (.c (.v (.int .i64 0))), none⟩]
def F19 : AFn := ⟨55, [.tmp 4, .cell 5 (some 4), .tmp 6],
  .seq (.reg F19r0 none)
  (.seq (.reg F19r1 none)
  (.seq (.seq (.reg F19r2 none)
  (.cond (.s 20)
    (.reg F19r3 none)
    (.skip)))
  (.seq (.seq (.reg F19r4 none)
  (.cond (.s 22)
    (.seq (.reg F19r5 none)
    (.ret))
    (.skip)))
  (.seq (.reg F19r6 none)
  (.seq (.seq (.reg F19r7 none)
  (.block 0 (
    .loop (
      .seq (.seq (.reg F19r8 none)
      (.cond (.s 28)
        (.skip)
        (.exit 0)))
      (.seq (.block 1 (
        .seq (.reg F19r9 (some [[], [], [], [1, 2], [3, 1, 2], [4, 3, 1, 2], [], [], [6, 7], [8, 6, 7], [9, 8, 6, 7], [0, 5, 10, 4, 3, 1, 2, 9, 8, 6, 7], [11, 0, 5, 10, 4, 3, 1, 2, 9, 8, 6, 7], [12, 11, 0, 5, 10, 4, 3, 1, 2, 9, 8, 6, 7], [12, 11, 0, 5, 10, 4, 3, 1, 2, 9, 8, 6, 7], [], [15, 13, 11, 0, 1, 2, 3, 4, 5, 6, 7, 8, 9, 10, 12], [14, 16, 0, 1, 2, 3, 4, 5, 6, 7, 8, 9, 10, 11, 12, 13, 15]]))
        (.seq (.reg F19r10 none)
        (.cond (.s 47)
          (.seq (.reg F19r11 none)
          (.reg F19r12 none))
          (.skip)))))
      (.reg F19r13 none))))))
  (.seq (.reg F19r14 (some [[], [], [0], [1, 2, 0], [3, 0, 1, 2]]))
  (.ret)))))))⟩
theorem F19_ok : cFunc Try.prog 19 = some F19 := by kernel_rfl
theorem F19_call : callable Try.prog 19 = true := by kernel_rfl
/-- supercargoref.SameInts -/
def F20r0 : List AOper := [⟨some 4, .mov (.c (.v (.bool false))), none⟩]
def F20r1 : List AOper := [⟨some 6, .mov (.s 0), none⟩,
  ⟨some 7, .len false (.s 6), none⟩,
  ⟨some 8, .mov (.s 1), none⟩,
  ⟨some 9, .len false (.s 8), none⟩,
  ⟨some 10, .bin false .neq (.s 7) (.s 9), none⟩]
def F20r2 : List AOper := [⟨some 4, .mov (.c (.v (.bool false))), none⟩]
def F20r3 : List AOper := [⟨some 5, .mov (.c (.v (.int .i64 0))), none⟩]
def F20r4 : List AOper := [⟨some 11, .mov (.s 5), none⟩,
  ⟨some 12, .mov (.s 0), none⟩,
  ⟨some 13, .len false (.s 12), none⟩,
  ⟨some 14, .bin false .lss (.s 11) (.s 13), none⟩]
def F20r5 : List AOper := [⟨some 17, .mov (.s 0), none⟩,
  ⟨some 18, .mov (.s 5), none⟩,
  ⟨some 19, .iad 1 (.s 17) (.s 18), none⟩,
  ⟨some 20, .load none (.s 19), none⟩,
  ⟨some 21, .mov (.s 1), none⟩,
  ⟨some 22, .mov (.s 5), none⟩,
  ⟨some 23, .iad 1 (.s 21) (.s 22), none⟩,
  ⟨some 24, .load none (.s 23), none⟩,
  ⟨some 25, .bin false .neq (.s 20) (.s 24), none⟩]
def F20r6 : List AOper := [⟨some 4, .mov (.c (.v (.bool false))), none⟩]
def F20r7 : List AOper := [⟨some 15, .mov (.s 5), none⟩,
  ⟨some 16, .bin false .add (.s 15) (.c (.v (.int .i64 1))), none⟩,
  ⟨some 5, .mov (.s 16), none⟩]
def F20r8 : List AOper := [⟨some 4, .mov (.c (.v (.bool true))), none⟩]
def F20 : AFn := ⟨26, [.tmp 4],
  .seq (.reg F20r0 none)
  (.seq (.seq (.reg F20r1 none)
  (.cond (.s 10)
    (.seq (.reg F20r2 none)
    (.ret))
    (.skip)))
  (.seq (.seq (.reg F20r3 none)
  (.block 0 (
    .loop (
      .seq (.seq (.reg F20r4 none)
      (.cond (.s 14)
        (.skip)
        (.exit 0)))
      (.seq (.block 1 (
        .seq (.reg F20r5 (some [[], [], [0, 1], [2, 0, 1], [], [], [4, 5], [6, 4, 5], [3, 7, 2, 0, 1, 6, 4, 5]]))
        (.cond (.s 25)
          (.seq (.reg F20r6 none)
          (.ret))
          (.skip))))
      (.reg F20r7 none))))))
  (.seq (.reg F20r8 none)
  (.ret))))⟩
theorem F20_ok : cFunc Try.prog 20 = some F20 := by kernel_rfl
theorem F20_call : callable Try.prog 20 = true := by kernel_rfl
/-- bucket.within -/
def F21r0 : List AOper := [⟨some 6, .mov (.c (.v (.bool false))), none⟩]
def F21r1 : List AOper := [⟨some 7, .mov (.s 0), none⟩,
  ⟨some 8, .mov (.s 1), none⟩,
  ⟨some 9, .bin false .geq (.s 7) (.s 8), none⟩,
  ⟨some 10, .mov (.s 9), none⟩,
  ⟨some 11, .mov (.s 0), some (10, true)⟩,
  ⟨some 12, .mov (.s 2), some (10, true)⟩,
  ⟨some 13, .bin false .leq (.s 11) (.s 12), some (10, true)⟩,
  ⟨some 14, .pick (.s 10) (.s 13) (.c (.v (.bool false))), none⟩,
  ⟨some 6, .mov (.s 14), none⟩]
def F21 : AFn := ⟨15, [.tmp 6],
  .seq (.reg F21r0 none)
  (.seq (.reg F21r1 none)
  (.ret))⟩
theorem F21_ok : cFunc Try.prog 21 = some F21 := by kernel_rfl
theorem F21_call : callable Try.prog 21 = true := by kernel_rfl
/-- supercargoref.noTime -/
def F22r0 : List AOper := [⟨some 2, .mov (.c (.v (.bool false))), none⟩]
def F22r1 : List AOper := [⟨some 3, .mov (.s 0), none⟩,
  ⟨some 4, .bin false .lss (.s 3) (.c (.v (.int .i64 0))), none⟩,
  ⟨some 5, .mov (.s 4), none⟩,
  ⟨some 6, .mov (.s 0), some (5, false)⟩,
  ⟨some 7, .bin false .gtr (.s 6) (.c (.v (.int .i64 1000000))), some (5, false)⟩,
  ⟨some 8, .pick (.s 5) (.c (.v (.bool true))) (.s 7), none⟩,
  ⟨some 2, .mov (.s 8), none⟩]
def F22 : AFn := ⟨9, [.tmp 2],
  .seq (.reg F22r0 none)
  (.seq (.reg F22r1 none)
  (.ret))⟩
theorem F22_ok : cFunc Try.prog 22 = some F22 := by kernel_rfl
theorem F22_call : callable Try.prog 22 = true := by kernel_rfl
/-- bucket.served -/
def F23r0 : List AOper := [⟨some 2, .box 1 (.s 0), none⟩,
  ⟨some 3, .box 1 (.s 1), none⟩,
  ⟨some 4, .mov (.c (.v .nilFunc)), none⟩]
def F23r1 : List AOper := [⟨some 5, .mkf 24 [.s 3, .s 2], none⟩,
  ⟨some 4, .mov (.s 5), none⟩]
def F23 : AFn := ⟨6, [.tmp 4],
  .seq (.reg F23r0 none)
  (.seq (.reg F23r1 none)
  (.ret))⟩
theorem F23_ok : cFunc Try.prog 23 = some F23 := by kernel_rfl
theorem F23_call : callable Try.prog 23 = true := by kernel_rfl
/-- bucket.served$1 -/
def F24r0 : List AOper := [⟨some 8, .load none (.s 1), none⟩,
  ⟨some 9, .len false (.s 8), none⟩,
  ⟨some 10, .mov (.c (.v (.int .i64 0))), none⟩]
def F24r1 : List AOper := [⟨some 11, .bin false .lss (.s 10) (.s 9), none⟩]
def F24r2 : List AOper := [⟨some 12, .mov (.s 10), none⟩,
  ⟨some 13, .iad 2 (.s 8) (.s 10), none⟩,
  ⟨some 14, .load (some 2) (.s 13), none⟩,
  ⟨some 5, .new [.v (.int .i64 0), .v (.int .i64 0)], none⟩,
  ⟨some 4, .mov (.s 12), none⟩,
  ⟨none, .store 2 (.s 5) (.s 14), none⟩]
def F24r3 : List AOper := [⟨some 16, .load none (.s 2), none⟩,
  ⟨some 17, .nilc (.s 16), none⟩,
  ⟨some 18, .load (some 4) (.s 17), none⟩,
  ⟨some 19, .fad 0 (.s 5), none⟩,
  ⟨some 20, .load none (.s 19), none⟩,
  ⟨some 21, .fad 1 (.s 5), none⟩,
  ⟨some 22, .load none (.s 21), none⟩,
  ⟨some 23, .call (.c (.fn 10 [])) [.s 18, .s 20, .s 22], none⟩,
  ⟨some 15, .mov (.s 23), none⟩,
  ⟨some 24, .ext 0 (.s 15), none⟩,
  ⟨some 25, .ext 1 (.s 15), none⟩,
  ⟨some 6, .new [.v (.int .i64 0), .v (.int .i64 0), .v (.int .i64 0), .v (.int .i64 0)], none⟩,
  ⟨none, .store 4 (.s 6) (.s 24), none⟩,
  ⟨some 7, .mov (.s 25), none⟩]
def F24r4 : List AOper := [⟨some 26, .mov (.s 7), none⟩,
  ⟨some 27, .bin false .neq (.s 26) (.c (.v (.int .i64 0))), none⟩]
def F24r5 : List AOper := [⟨some 28, .load none (.s 2), none⟩,
  ⟨some 29, .load (some 4) (.s 6), none⟩,
  ⟨some 30, .nilc (.s 28), none⟩,
  ⟨none, .store 4 (.s 30) (.s 29), none⟩]
def F24r6 : List AOper := [⟨some 31, .mov (.s 0), none⟩,
  ⟨some 32, .mov (.s 4), none⟩,
  ⟨some 33, .call (.s 31) [.s 32], none⟩,
  ⟨some 34, .un .not (.s 33), none⟩]
def F24r7 : List AOper := [⟨some 35, .bin false .add (.s 10) (.c (.v (.int .i64 1))), none⟩,
  ⟨some 10, .mov (.s 35), none⟩]
def F24 : AFn := ⟨36, [],
  .seq (.reg F24r0 none)
  (.block 0 (
    .loop (
      .seq (.reg F24r1 none)
      (.seq (.cond (.s 11)
        (.skip)
        (.exit 0))
      (.seq (.block 1 (
        .seq (.reg F24r2 none)
        (.seq (.reg F24r3 (some [[], [0], [1, 0], [], [3], [], [5], [2, 4, 6, 1, 0, 3, 5], [7, 2, 4, 6, 1, 0, 3, 5], [8, 7, 2, 4, 6, 1, 0, 3, 5], [8, 7, 2, 4, 6, 1, 0, 3, 5], [], [11, 9, 7, 0, 1, 2, 3, 4, 5, 6, 8], [10, 12, 0, 1, 2, 3, 4, 5, 6, 7, 8, 9, 11]]))
        (.seq (.seq (.reg F24r4 none)
        (.cond (.s 27)
          (.exit 1)
          (.skip)))
        (.seq (.reg F24r5 none)
        (.seq (.reg F24r6 none)
        (.cond (.s 34)
          (.ret)
          (.skip))))))))
      (.reg F24r7 none))))))⟩
theorem F24_ok : cFunc Try.prog 24 = some F24 := by kernel_rfl
theorem F24_call : callable Try.prog 24 = true := by kernel_rfl
/-- The functions' code by their numbers. -/
def Tab : FuncId → Option AFn := fun f => match f with
  | 3 => some F3
  | 4 => some F4
  | 5 => some F5
  | 6 => some F6
  | 7 => some F7
  | 8 => some F8
  | 9 => some F9
  | 10 => some F10
  | 11 => some F11
  | 12 => some F12
  | 13 => some F13
  | 14 => some F14
  | 15 => some F15
  | 16 => some F16
  | 17 => some F17
  | 18 => some F18
  | 19 => some F19
  | 20 => some F20
  | 21 => some F21
  | 22 => some F22
  | 23 => some F23
  | 24 => some F24
  | _ => none
set_option maxHeartbeats 4000000 in
theorem Tab_ok : Table Try.prog Tab := by
  intro f F h
  unfold Tab at h
  split at h <;> first
    | (simp only [Option.some.injEq] at h; subst h; first | exact ⟨F3_ok, F3_call⟩ | exact ⟨F4_ok, F4_call⟩ | exact ⟨F5_ok, F5_call⟩ | exact ⟨F6_ok, F6_call⟩ | exact ⟨F7_ok, F7_call⟩ | exact ⟨F8_ok, F8_call⟩ | exact ⟨F9_ok, F9_call⟩ | exact ⟨F10_ok, F10_call⟩ | exact ⟨F11_ok, F11_call⟩ | exact ⟨F12_ok, F12_call⟩ | exact ⟨F13_ok, F13_call⟩ | exact ⟨F14_ok, F14_call⟩ | exact ⟨F15_ok, F15_call⟩ | exact ⟨F16_ok, F16_call⟩ | exact ⟨F17_ok, F17_call⟩ | exact ⟨F18_ok, F18_call⟩ | exact ⟨F19_ok, F19_call⟩ | exact ⟨F20_ok, F20_call⟩ | exact ⟨F21_ok, F21_call⟩ | exact ⟨F22_ok, F22_call⟩ | exact ⟨F23_ok, F23_call⟩ | exact ⟨F24_ok, F24_call⟩)
    | simp at h
end Go.Proofs.Ytdoaefekbbgcmaa
