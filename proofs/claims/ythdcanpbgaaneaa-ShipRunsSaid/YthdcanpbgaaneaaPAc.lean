/- The code of the program's functions as operations upon abstract values, checked against the program. No condition. -/
import Derived.Test.YthdcanpbgaaneaaRows
import Derived.Test.YthdcanpbgaaneaaPAvRun
set_option maxRecDepth 100000
namespace Go.Proofs.Ythdcanpbgaaneaa
/-- supercargolaw.ShipRuns -/
def F4r0 : List AOper := [oo 3 (.box 8 (.s 0)),
 oo 6 (.mov (.c (.v (.bool false))))]
def F4r1 : List AOper := [oo 20 (.load (some 8) (.s 3)),
 oo 21 (.mov (.s 1)),
 oo 22 (.call (.c (.fn 19 [])) [.s 20, .s 21]),
 oo 19 (.mov (.s 22)),
 oo 23 (.ext 0 (.s 19)),
 oo 24 (.ext 1 (.s 19)),
 oo 25 (.ext 2 (.s 19)),
 oo 7 (.new [.emp, .emp, .emp, .v (.int .i64 0), .v (.int .i64 0), .v (.int .i64 0), .emp, .emp]),
 ow (.store 8 (.s 7) (.s 23)),
 oo 8 (.mov (.s 24)),
 oo 9 (.mov (.s 25))]
def F4r2 : List AOper := [oo 27 (.load (some 8) (.s 3)),
 oo 28 (.mov (.s 1)),
 oo 29 (.call (.c (.fn 20 [])) [.s 27, .s 28]),
 oo 26 (.mov (.s 29)),
 oo 30 (.ext 0 (.s 26)),
 oo 31 (.ext 1 (.s 26)),
 oo 32 (.ext 2 (.s 26)),
 oo 10 (.new [.emp, .emp, .emp, .v (.int .i64 0), .v (.int .i64 0), .v (.int .i64 0), .emp, .emp]),
 ow (.store 8 (.s 10) (.s 30)),
 oo 11 (.mov (.s 31)),
 oo 12 (.mov (.s 32))]
def F4r3 : List AOper := [oo 33 (.call (.c (.fn 15 [])) []),
 oo 34 (.un .not (.s 33)),
 oo 35 (.mov (.s 34)),
 on 36 (.load (some 8) (.s 7)) 35,
 on 37 (.load (some 8) (.s 10)) 35,
 on 38 (.call (.c (.fn 16 [])) [.s 36, .s 37]) 35,
 on 39 (.un .not (.s 38)) 35,
 oo 40 (.pick (.s 35) (.c (.v (.bool true))) (.s 39)),
 oo 41 (.mov (.s 40)),
 on 42 (.mov (.s 8)) 41,
 on 43 (.mov (.s 11)) 41,
 on 44 (.bin false .neq (.s 42) (.s 43)) 41,
 oo 45 (.pick (.s 41) (.c (.v (.bool true))) (.s 44)),
 oo 46 (.mov (.s 45)),
 on 47 (.mov (.s 9)) 46,
 on 48 (.mov (.s 12)) 46,
 on 49 (.bin false .neq (.s 47) (.s 48)) 46,
 oo 50 (.pick (.s 46) (.c (.v (.bool true))) (.s 49))]
def F4r4 : List AOper := [oo 6 (.mov (.c (.v (.bool false))))]
def F4r5 : List AOper := [oo 51 (.mov (.s 9)),
 oo 52 (.bin false .neq (.s 51) (.c (.v (.int .i64 0)))),
 oo 53 (.mov (.s 52)),
 on 54 (.mov (.s 2)) 53,
 on 55 (.bin false .lss (.s 54) (.c (.v (.int .i64 0)))) 53,
 oo 56 (.pick (.s 53) (.c (.v (.bool true))) (.s 55)),
 oo 57 (.mov (.s 56)),
 on 58 (.mov (.s 2)) 57,
 on 59 (.mov (.s 1)) 57,
 on 60 (.len false (.s 59)) 57,
 on 61 (.bin false .gtr (.s 58) (.s 60)) 57,
 oo 62 (.pick (.s 57) (.c (.v (.bool true))) (.s 61))]
def F4r6 : List AOper := [oo 6 (.mov (.c (.v (.bool true))))]
def F4r7 : List AOper := [oo 64 (.load (some 8) (.s 3)),
 oo 65 (.mov (.s 1)),
 oo 66 (.mov (.s 2)),
 oo 67 (.slc 3 (.s 65) none (some (.s 66)) none),
 oo 68 (.call (.c (.fn 19 [])) [.s 64, .s 67]),
 oo 63 (.mov (.s 68)),
 oo 69 (.ext 0 (.s 63)),
 oo 70 (.ext 1 (.s 63)),
 oo 71 (.ext 2 (.s 63)),
 oo 13 (.new [.emp, .emp, .emp, .v (.int .i64 0), .v (.int .i64 0), .v (.int .i64 0), .emp, .emp]),
 ow (.store 8 (.s 13) (.s 69)),
 oo 14 (.mov (.s 70)),
 oo 15 (.mov (.s 71))]
def F4r8 : List AOper := [oo 73 (.load (some 8) (.s 13)),
 oo 74 (.mov (.s 1)),
 oo 75 (.mov (.s 2)),
 oo 76 (.slc 3 (.s 74) (some (.s 75)) none none),
 oo 77 (.call (.c (.fn 19 [])) [.s 73, .s 76]),
 oo 72 (.mov (.s 77)),
 oo 78 (.ext 0 (.s 72)),
 oo 79 (.ext 1 (.s 72)),
 oo 80 (.ext 2 (.s 72)),
 oo 16 (.new [.emp, .emp, .emp, .v (.int .i64 0), .v (.int .i64 0), .v (.int .i64 0), .emp, .emp]),
 ow (.store 8 (.s 16) (.s 78)),
 oo 17 (.mov (.s 79)),
 oo 18 (.mov (.s 80))]
def F4r9 : List AOper := [oo 81 (.mov (.s 15)),
 oo 82 (.bin false .eql (.s 81) (.c (.v (.int .i64 0)))),
 oo 83 (.mov (.s 82)),
 ot 84 (.mov (.s 18)) 83,
 ot 85 (.bin false .eql (.s 84) (.c (.v (.int .i64 0)))) 83,
 oo 86 (.pick (.s 83) (.s 85) (.c (.v (.bool false)))),
 oo 87 (.mov (.s 86)),
 ot 88 (.load (some 8) (.s 16)) 87,
 ot 89 (.load (some 8) (.s 7)) 87,
 ot 90 (.call (.c (.fn 16 [])) [.s 88, .s 89]) 87,
 oo 91 (.pick (.s 87) (.s 90) (.c (.v (.bool false)))),
 oo 92 (.mov (.s 91)),
 ot 93 (.mov (.s 14)) 92,
 ot 94 (.mov (.s 17)) 92,
 ot 95 (.bin false .add (.s 93) (.s 94)) 92,
 ot 96 (.mov (.s 8)) 92,
 ot 97 (.bin false .eql (.s 95) (.s 96)) 92,
 oo 98 (.pick (.s 92) (.s 97) (.c (.v (.bool false)))),
 oo 99 (.mov (.s 98)),
 ot 100 (.load (some 8) (.s 7)) 99,
 ot 101 (.call (.c (.fn 17 [])) [.s 100]) 99,
 ot 102 (.bin false .eql (.s 101) (.c (.v (.int .i64 0)))) 99,
 oo 103 (.pick (.s 99) (.s 102) (.c (.v (.bool false)))),
 oo 6 (.mov (.s 103))]
def F4 : AFn := ⟨104, [.tmp 6],
  .seq (.reg F4r0 none)
  (.seq (.reg F4r1 none)
  (.seq (.reg F4r2 none)
  (.seq (.seq (.reg F4r3 none)
  (.cond (.s 50)
    (.seq (.reg F4r4 none)
    (.ret))
    (.skip)))
  (.seq (.seq (.reg F4r5 none)
  (.cond (.s 62)
    (.seq (.reg F4r6 none)
    (.ret))
    (.skip)))
  (.seq (.reg F4r7 (some [[], [], [], [1, 2], [0, 3, 1, 2], [4, 0, 3, 1, 2], [5, 4, 0, 3, 1, 2], [5, 4, 0, 3, 1, 2], [5, 4, 0, 3, 1, 2], [], [9, 6, 4, 0, 1, 2, 3, 5], [7, 10, 0, 1, 2, 3, 4, 5, 6, 9], [8, 11, 0, 1, 2, 3, 4, 5, 6, 7, 9, 10]]))
  (.seq (.reg F4r8 (some [[], [], [], [1, 2], [0, 3, 1, 2], [4, 0, 3, 1, 2], [5, 4, 0, 3, 1, 2], [5, 4, 0, 3, 1, 2], [5, 4, 0, 3, 1, 2], [], [9, 6, 4, 0, 1, 2, 3, 5], [7, 10, 0, 1, 2, 3, 4, 5, 6, 9], [8, 11, 0, 1, 2, 3, 4, 5, 6, 7, 9, 10]]))
  (.seq (.reg F4r9 none)
  (.ret))))))))⟩
theorem F4_ok : cFunc Try.prog 4 = some F4 := by kernel_rfl
/-- ship.New -/
def F11r0 : List AOper := [oo 2 (.new [.emp, .emp, .emp, .v (.int .i64 0), .v (.int .i64 0), .v (.int .i64 0), .emp, .emp]),
 oo 3 (.mov (.c (.v (.int .i64 0))))]
def F11r1 : List AOper := [oo 4 (.mov (.s 0)),
 oo 5 (.call (.c (.fn 31 [])) [.s 4, .c (.v (.int .i64 1)), .c (.v (.int .i64 32))]),
 oo 6 (.un .not (.s 5))]
def F11r2 : List AOper := [oo 7 (.agg [.emp, .emp, .emp, .v (.int .i64 0), .v (.int .i64 0), .v (.int .i64 0), .emp, .emp] []),
 ow (.store 8 (.s 2) (.s 7)),
 oo 3 (.mov (.c (.v (.int .i64 3))))]
def F11r3 : List AOper := [oo 8 (.mov (.s 0)),
 oo 9 (.msl 1 16 [.v (.string ⟨#[]⟩)] (.s 8) (.s 8)),
 oo 10 (.mov (.s 0)),
 oo 11 (.msl 1 16 [.v (.string ⟨#[]⟩)] (.s 10) (.s 10)),
 oo 12 (.agg [.emp, .emp, .emp, .v (.int .i64 0), .v (.int .i64 0), .v (.int .i64 0), .emp, .emp] [(0, (1, .s 9)), (1, (1, .s 11))]),
 ow (.store 8 (.s 2) (.s 12)),
 oo 3 (.mov (.c (.v (.int .i64 0))))]
def F11 : AFn := ⟨13, [.cell 2 (some 8), .tmp 3],
  .seq (.reg F11r0 none)
  (.seq (.seq (.reg F11r1 none)
  (.cond (.s 6)
    (.seq (.reg F11r2 none)
    (.ret))
    (.skip)))
  (.seq (.reg F11r3 (some [[], [0], [], [2], [1, 3, 0, 2], [4, 0, 1, 2, 3], [5, 0, 1, 2, 3, 4]]))
  (.ret)))⟩
theorem F11_ok : cFunc Try.prog 11 = some F11 := by kernel_rfl
theorem F11_call : callable Try.prog 11 = true := by kernel_rfl
/-- ship.Do -/
def F12r0 : List AOper := [oo 2 (.box 8 (.s 0)),
 oo 3 (.box 3 (.s 1)),
 oo 4 (.new [.emp, .emp, .emp, .v (.int .i64 0), .v (.int .i64 0), .v (.int .i64 0), .emp, .emp]),
 oo 5 (.mov (.c (.v (.int .i64 0))))]
def F12r1 : List AOper := [oo 7 (.load (some 8) (.s 2)),
 oo 8 (.call (.c (.fn 17 [])) [.s 7]),
 oo 6 (.mov (.s 8))]
def F12r2 : List AOper := [oo 9 (.mov (.s 6)),
 oo 10 (.bin false .neq (.s 9) (.c (.v (.int .i64 0))))]
def F12r3 : List AOper := [oo 11 (.agg [.emp, .emp, .emp, .v (.int .i64 0), .v (.int .i64 0), .v (.int .i64 0), .emp, .emp] []),
 oo 12 (.mov (.s 6)),
 ow (.store 8 (.s 4) (.s 11)),
 oo 5 (.mov (.s 12))]
def F12r4 : List AOper := [oo 13 (.load (some 8) (.s 2)),
 oo 14 (.load (some 3) (.s 3)),
 oo 15 (.call (.c (.fn 32 [])) [.s 13, .s 14]),
 oo 16 (.ext 0 (.s 15)),
 oo 17 (.ext 1 (.s 15)),
 ow (.store 8 (.s 4) (.s 16)),
 oo 5 (.mov (.s 17))]
def F12 : AFn := ⟨18, [.cell 4 (some 8), .tmp 5],
  .seq (.reg F12r0 none)
  (.seq (.seq (.reg F12r1 none)
  (.seq (.reg F12r2 none)
  (.cond (.s 10)
    (.seq (.reg F12r3 none)
    (.ret))
    (.skip))))
  (.seq (.reg F12r4 none)
  (.ret)))⟩
theorem F12_ok : cFunc Try.prog 12 = some F12 := by kernel_rfl
theorem F12_call : callable Try.prog 12 = true := by kernel_rfl
/-- supercargoref.ShipDo -/
def F14r0 : List AOper := [oo 2 (.box 8 (.s 0)),
 oo 3 (.box 3 (.s 1)),
 oo 4 (.new [.emp, .emp, .emp, .v (.int .i64 0), .v (.int .i64 0), .v (.int .i64 0), .emp, .emp]),
 oo 5 (.mov (.c (.v (.int .i64 0))))]
def F14r1 : List AOper := [oo 10 (.load (some 8) (.s 2)),
 oo 11 (.call (.c (.fn 18 [])) [.s 10]),
 oo 6 (.mov (.s 11))]
def F14r2 : List AOper := [oo 12 (.mov (.s 6)),
 oo 13 (.bin false .neq (.s 12) (.c (.v (.int .i64 0))))]
def F14r3 : List AOper := [oo 14 (.agg [.emp, .emp, .emp, .v (.int .i64 0), .v (.int .i64 0), .v (.int .i64 0), .emp, .emp] []),
 oo 15 (.mov (.s 6)),
 ow (.store 8 (.s 4) (.s 14)),
 oo 5 (.mov (.s 15))]
def F14r4 : List AOper := [oo 16 (.fad 0 (.s 3)),
 oo 17 (.load none (.s 16)),
 oo 18 (.bin false .lss (.s 17) (.c (.v (.int .i64 1)))),
 oo 19 (.mov (.s 18)),
 on 20 (.fad 0 (.s 3)) 19,
 on 21 (.load none (.s 20)) 19,
 on 22 (.bin false .gtr (.s 21) (.c (.v (.int .i64 8)))) 19,
 oo 23 (.pick (.s 19) (.c (.v (.bool true))) (.s 22))]
def F14r5 : List AOper := [oo 24 (.agg [.emp, .emp, .emp, .v (.int .i64 0), .v (.int .i64 0), .v (.int .i64 0), .emp, .emp] []),
 ow (.store 8 (.s 4) (.s 24)),
 oo 5 (.mov (.c (.v (.int .i64 7))))]
def F14r6 : List AOper := [oo 25 (.fad 0 (.s 3)),
 oo 26 (.load none (.s 25)),
 oo 27 (.bin false .neq (.s 26) (.c (.v (.int .i64 1)))),
 oo 28 (.mov (.s 27)),
 ot 29 (.fad 2 (.s 3)) 28,
 ot 30 (.load none (.s 29)) 28,
 ot 31 (.len true (.s 30)) 28,
 ot 32 (.bin false .gtr (.s 31) (.c (.v (.int .i64 0)))) 28,
 oo 33 (.pick (.s 28) (.s 32) (.c (.v (.bool false)))),
 oo 34 (.mov (.s 33)),
 on 35 (.fad 1 (.s 3)) 34,
 on 36 (.load none (.s 35)) 34,
 on 37 (.bin false .neq (.s 36) (.c (.v (.int .i64 0)))) 34,
 on 38 (.mov (.s 37)) 34,
 ot 39 (.fad 0 (.s 3)) 38,
 ot 40 (.load none (.s 39)) 38,
 ot 41 (.bin false .eql (.s 40) (.c (.v (.int .i64 2)))) 38,
 ot 42 (.mov (.s 41)) 38,
 on 43 (.fad 0 (.s 3)) 42,
 on 44 (.load none (.s 43)) 42,
 on 45 (.bin false .geq (.s 44) (.c (.v (.int .i64 7)))) 42,
 ot 46 (.pick (.s 42) (.c (.v (.bool true))) (.s 45)) 38,
 on 47 (.pick (.s 38) (.s 46) (.c (.v (.bool false)))) 34,
 oo 48 (.pick (.s 34) (.c (.v (.bool true))) (.s 47))]
def F14r7 : List AOper := [oo 49 (.agg [.emp, .emp, .emp, .v (.int .i64 0), .v (.int .i64 0), .v (.int .i64 0), .emp, .emp] []),
 ow (.store 8 (.s 4) (.s 49)),
 oo 5 (.mov (.c (.v (.int .i64 1))))]
def F14r8 : List AOper := [oo 50 (.fad 0 (.s 3)),
 oo 51 (.load none (.s 50)),
 oo 52 (.bin false .eql (.s 51) (.c (.v (.int .i64 3)))),
 oo 53 (.mov (.s 52)),
 on 54 (.fad 0 (.s 3)) 53,
 on 55 (.load none (.s 54)) 53,
 on 56 (.bin false .eql (.s 55) (.c (.v (.int .i64 4)))) 53,
 oo 57 (.pick (.s 53) (.c (.v (.bool true))) (.s 56)),
 oo 7 (.mov (.s 57))]
def F14r9 : List AOper := [oo 58 (.fad 0 (.s 3)),
 oo 59 (.load none (.s 58)),
 oo 60 (.bin false .eql (.s 59) (.c (.v (.int .i64 5)))),
 oo 61 (.mov (.s 60)),
 on 62 (.fad 0 (.s 3)) 61,
 on 63 (.load none (.s 62)) 61,
 on 64 (.bin false .eql (.s 63) (.c (.v (.int .i64 6)))) 61,
 oo 65 (.pick (.s 61) (.c (.v (.bool true))) (.s 64)),
 oo 8 (.mov (.s 65))]
def F14r10 : List AOper := [oo 66 (.fad 0 (.s 3)),
 oo 67 (.load none (.s 66)),
 oo 68 (.bin false .eql (.s 67) (.c (.v (.int .i64 1)))),
 oo 69 (.mov (.s 68)),
 ot 70 (.fad 1 (.s 3)) 69,
 ot 71 (.load none (.s 70)) 69,
 ot 72 (.bin false .lss (.s 71) (.c (.v (.int .i64 0)))) 69,
 ot 73 (.mov (.s 72)) 69,
 on 74 (.fad 1 (.s 3)) 73,
 on 75 (.load none (.s 74)) 73,
 on 76 (.fad 0 (.s 2)) 73,
 on 77 (.load none (.s 76)) 73,
 on 78 (.len false (.s 77)) 73,
 on 79 (.bin false .geq (.s 75) (.s 78)) 73,
 ot 80 (.pick (.s 73) (.c (.v (.bool true))) (.s 79)) 69,
 oo 81 (.pick (.s 69) (.s 80) (.c (.v (.bool false)))),
 oo 82 (.mov (.s 81)),
 on 83 (.mov (.s 7)) 82,
 on 84 (.mov (.s 83)) 82,
 ot 85 (.fad 1 (.s 3)) 84,
 ot 86 (.load none (.s 85)) 84,
 ot 87 (.bin false .lss (.s 86) (.c (.v (.int .i64 0)))) 84,
 ot 88 (.mov (.s 87)) 84,
 on 89 (.fad 1 (.s 3)) 88,
 on 90 (.load none (.s 89)) 88,
 on 91 (.fad 6 (.s 2)) 88,
 on 92 (.load none (.s 91)) 88,
 on 93 (.len false (.s 92)) 88,
 on 94 (.bin false .geq (.s 90) (.s 93)) 88,
 ot 95 (.pick (.s 88) (.c (.v (.bool true))) (.s 94)) 84,
 on 96 (.pick (.s 84) (.s 95) (.c (.v (.bool false)))) 82,
 oo 97 (.pick (.s 82) (.c (.v (.bool true))) (.s 96)),
 oo 98 (.mov (.s 97)),
 on 99 (.mov (.s 8)) 98,
 on 100 (.mov (.s 99)) 98,
 ot 101 (.fad 1 (.s 3)) 100,
 ot 102 (.load none (.s 101)) 100,
 ot 103 (.bin false .lss (.s 102) (.c (.v (.int .i64 0)))) 100,
 ot 104 (.mov (.s 103)) 100,
 on 105 (.fad 1 (.s 3)) 104,
 on 106 (.load none (.s 105)) 104,
 on 107 (.fad 7 (.s 2)) 104,
 on 108 (.load none (.s 107)) 104,
 on 109 (.len false (.s 108)) 104,
 on 110 (.bin false .geq (.s 106) (.s 109)) 104,
 ot 111 (.pick (.s 104) (.c (.v (.bool true))) (.s 110)) 100,
 on 112 (.pick (.s 100) (.s 111) (.c (.v (.bool false)))) 98,
 oo 113 (.pick (.s 98) (.c (.v (.bool true))) (.s 112))]
def F14r11 : List AOper := [oo 114 (.agg [.emp, .emp, .emp, .v (.int .i64 0), .v (.int .i64 0), .v (.int .i64 0), .emp, .emp] []),
 ow (.store 8 (.s 4) (.s 114)),
 oo 5 (.mov (.c (.v (.int .i64 3))))]
def F14r12 : List AOper := [oo 115 (.fad 0 (.s 3)),
 oo 116 (.load none (.s 115)),
 oo 117 (.bin false .eql (.s 116) (.c (.v (.int .i64 2)))),
 oo 118 (.mov (.s 117)),
 ot 119 (.fad 3 (.s 2)) 118,
 ot 120 (.load none (.s 119)) 118,
 ot 121 (.fad 2 (.s 2)) 118,
 ot 122 (.load none (.s 121)) 118,
 ot 123 (.len false (.s 122)) 118,
 ot 124 (.bin false .eql (.s 120) (.s 123)) 118,
 oo 125 (.pick (.s 118) (.s 124) (.c (.v (.bool false))))]
def F14r13 : List AOper := [oo 126 (.agg [.emp, .emp, .emp, .v (.int .i64 0), .v (.int .i64 0), .v (.int .i64 0), .emp, .emp] []),
 ow (.store 8 (.s 4) (.s 126)),
 oo 5 (.mov (.c (.v (.int .i64 5))))]
def F14r14 : List AOper := [oo 127 (.fad 0 (.s 3)),
 oo 128 (.load none (.s 127)),
 oo 129 (.bin false .eql (.s 128) (.c (.v (.int .i64 1)))),
 oo 130 (.mov (.s 129)),
 ot 131 (.fad 2 (.s 3)) 130,
 ot 132 (.load none (.s 131)) 130,
 ot 133 (.len true (.s 132)) 130,
 ot 134 (.bin false .gtr (.s 133) (.c (.v (.int .i64 64)))) 130,
 ot 135 (.mov (.s 134)) 130,
 on 136 (.fad 2 (.s 2)) 135,
 on 137 (.load none (.s 136)) 135,
 on 138 (.len false (.s 137)) 135,
 on 139 (.bin false .eql (.s 138) (.c (.v (.int .i64 60)))) 135,
 ot 140 (.pick (.s 135) (.c (.v (.bool true))) (.s 139)) 130,
 oo 141 (.pick (.s 130) (.s 140) (.c (.v (.bool false)))),
 oo 142 (.mov (.s 141)),
 on 143 (.fad 0 (.s 3)) 142,
 on 144 (.load none (.s 143)) 142,
 on 145 (.bin false .eql (.s 144) (.c (.v (.int .i64 2)))) 142,
 on 146 (.mov (.s 145)) 142,
 ot 147 (.fad 6 (.s 2)) 146,
 ot 148 (.load none (.s 147)) 146,
 ot 149 (.len false (.s 148)) 146,
 ot 150 (.bin false .eql (.s 149) (.c (.v (.int .i64 60)))) 146,
 on 151 (.pick (.s 146) (.s 150) (.c (.v (.bool false)))) 142,
 oo 152 (.pick (.s 142) (.c (.v (.bool true))) (.s 151)),
 oo 153 (.mov (.s 152)),
 on 154 (.fad 0 (.s 3)) 153,
 on 155 (.load none (.s 154)) 153,
 on 156 (.bin false .eql (.s 155) (.c (.v (.int .i64 3)))) 153,
 on 157 (.mov (.s 156)) 153,
 ot 158 (.fad 7 (.s 2)) 157,
 ot 159 (.load none (.s 158)) 157,
 ot 160 (.len false (.s 159)) 157,
 ot 161 (.bin false .eql (.s 160) (.c (.v (.int .i64 60)))) 157,
 on 162 (.pick (.s 157) (.s 161) (.c (.v (.bool false)))) 153,
 oo 163 (.pick (.s 153) (.c (.v (.bool true))) (.s 162))]
def F14r15 : List AOper := [oo 164 (.agg [.emp, .emp, .emp, .v (.int .i64 0), .v (.int .i64 0), .v (.int .i64 0), .emp, .emp] []),
 ow (.store 8 (.s 4) (.s 164)),
 oo 5 (.mov (.c (.v (.int .i64 2))))]
def F14r16 : List AOper := [oo 165 (.fad 0 (.s 3)),
 oo 166 (.load none (.s 165)),
 oo 167 (.bin false .eql (.s 166) (.c (.v (.int .i64 1))))]
def F14r17 : List AOper := [oo 168 (.fad 0 (.s 2)),
 oo 169 (.load none (.s 168)),
 oo 170 (.fad 1 (.s 3)),
 oo 171 (.load none (.s 170)),
 oo 172 (.fad 2 (.s 3)),
 oo 173 (.load none (.s 172)),
 oo 174 (.call (.c (.fn 33 [])) [.s 169, .s 171, .s 173]),
 oo 175 (.fad 0 (.s 2)),
 ow (.store 1 (.s 175) (.s 174))]
def F14r18 : List AOper := [oo 176 (.bsl 2 0 [.v (.int .i64 0), .v (.string ⟨#[]⟩)] []),
 oo 177 (.fad 2 (.s 2)),
 oo 178 (.load none (.s 177)),
 oo 179 (.app 2 24 (.s 176) (.s 178)),
 oo 180 (.fad 1 (.s 3)),
 oo 181 (.load none (.s 180)),
 oo 182 (.fad 2 (.s 3)),
 oo 183 (.load none (.s 182)),
 oo 184 (.agg [.v (.int .i64 0), .v (.string ⟨#[]⟩)] [(0, (1, .s 181)), (1, (1, .s 183))]),
 oo 185 (.bsl 2 1 [.v (.int .i64 0), .v (.string ⟨#[]⟩)] [(0, .s 184)]),
 oo 186 (.app 2 24 (.s 179) (.s 185)),
 oo 187 (.fad 2 (.s 2)),
 ow (.store 1 (.s 187) (.s 186))]
def F14r19 : List AOper := [oo 188 (.fad 0 (.s 3)),
 oo 189 (.load none (.s 188)),
 oo 190 (.bin false .eql (.s 189) (.c (.v (.int .i64 2))))]
def F14r20 : List AOper := [oo 191 (.fad 3 (.s 2)),
 oo 192 (.load none (.s 191)),
 oo 193 (.bin false .add (.s 192) (.c (.v (.int .i64 1)))),
 oo 194 (.fad 3 (.s 2)),
 ow (.store 1 (.s 194) (.s 193))]
def F14r21 : List AOper := [oo 195 (.bsl 1 0 [.v (.int .i64 0)] []),
 oo 196 (.fad 6 (.s 2)),
 oo 197 (.load none (.s 196)),
 oo 198 (.app 1 8 (.s 195) (.s 197)),
 oo 199 (.fad 3 (.s 2)),
 oo 200 (.load none (.s 199)),
 oo 201 (.bsl 1 1 [.v (.int .i64 0)] [(0, .s 200)]),
 oo 202 (.app 1 8 (.s 198) (.s 201)),
 oo 203 (.fad 6 (.s 2)),
 ow (.store 1 (.s 203) (.s 202))]
def F14r22 : List AOper := [oo 204 (.fad 0 (.s 3)),
 oo 205 (.load none (.s 204)),
 oo 206 (.bin false .eql (.s 205) (.c (.v (.int .i64 3))))]
def F14r23 : List AOper := [oo 207 (.fad 6 (.s 2)),
 oo 208 (.load none (.s 207)),
 oo 209 (.fad 1 (.s 3)),
 oo 210 (.load none (.s 209)),
 oo 211 (.iad 1 (.s 208) (.s 210)),
 oo 212 (.load none (.s 211)),
 oo 213 (.fad 4 (.s 2)),
 oo 214 (.load none (.s 213)),
 oo 215 (.bin false .add (.s 214) (.c (.v (.int .i64 1)))),
 oo 216 (.bin false .eql (.s 212) (.s 215))]
def F14r24 : List AOper := [oo 217 (.fad 2 (.s 2)),
 oo 218 (.load none (.s 217)),
 oo 219 (.fad 4 (.s 2)),
 oo 220 (.load none (.s 219)),
 oo 221 (.iad 2 (.s 218) (.s 220)),
 oo 222 (.load (some 2) (.s 221)),
 oo 9 (.new [.v (.int .i64 0), .v (.string ⟨#[]⟩)]),
 ow (.store 2 (.s 9) (.s 222))]
def F14r25 : List AOper := [oo 223 (.fad 1 (.s 2)),
 oo 224 (.load none (.s 223)),
 oo 225 (.fad 0 (.s 9)),
 oo 226 (.load none (.s 225)),
 oo 227 (.fad 1 (.s 9)),
 oo 228 (.load none (.s 227)),
 oo 229 (.call (.c (.fn 33 [])) [.s 224, .s 226, .s 228]),
 oo 230 (.fad 1 (.s 2)),
 ow (.store 1 (.s 230) (.s 229))]
def F14r26 : List AOper := [oo 231 (.fad 4 (.s 2)),
 oo 232 (.load none (.s 231)),
 oo 233 (.bin false .add (.s 232) (.c (.v (.int .i64 1)))),
 oo 234 (.fad 4 (.s 2)),
 ow (.store 1 (.s 234) (.s 233))]
def F14r27 : List AOper := [oo 235 (.bsl 1 0 [.v (.int .i64 0)] []),
 oo 236 (.fad 7 (.s 2)),
 oo 237 (.load none (.s 236)),
 oo 238 (.app 1 8 (.s 235) (.s 237)),
 oo 239 (.fad 4 (.s 2)),
 oo 240 (.load none (.s 239)),
 oo 241 (.bsl 1 1 [.v (.int .i64 0)] [(0, .s 240)]),
 oo 242 (.app 1 8 (.s 238) (.s 241)),
 oo 243 (.fad 7 (.s 2)),
 ow (.store 1 (.s 243) (.s 242))]
def F14r28 : List AOper := [oo 244 (.mov (.s 7))]
def F14r29 : List AOper := [oo 245 (.fad 6 (.s 2)),
 oo 246 (.load none (.s 245)),
 oo 247 (.fad 1 (.s 3)),
 oo 248 (.load none (.s 247)),
 oo 249 (.call (.c (.fn 34 [])) [.s 246, .s 248]),
 oo 250 (.fad 6 (.s 2)),
 ow (.store 1 (.s 250) (.s 249))]
def F14r30 : List AOper := [oo 251 (.fad 0 (.s 3)),
 oo 252 (.load none (.s 251)),
 oo 253 (.bin false .eql (.s 252) (.c (.v (.int .i64 5)))),
 oo 254 (.mov (.s 253)),
 ot 255 (.fad 7 (.s 2)) 254,
 ot 256 (.load none (.s 255)) 254,
 ot 257 (.fad 1 (.s 3)) 254,
 ot 258 (.load none (.s 257)) 254,
 ot 259 (.iad 1 (.s 256) (.s 258)) 254,
 ot 260 (.load none (.s 259)) 254,
 ot 261 (.fad 5 (.s 2)) 254,
 ot 262 (.load none (.s 261)) 254,
 ot 263 (.bin false .gtr (.s 260) (.s 262)) 254,
 oo 264 (.pick (.s 254) (.s 263) (.c (.v (.bool false))))]
def F14r31 : List AOper := [oo 265 (.fad 7 (.s 2)),
 oo 266 (.load none (.s 265)),
 oo 267 (.fad 1 (.s 3)),
 oo 268 (.load none (.s 267)),
 oo 269 (.iad 1 (.s 266) (.s 268)),
 oo 270 (.load none (.s 269)),
 oo 271 (.fad 5 (.s 2)),
 ow (.store 1 (.s 271) (.s 270))]
def F14r32 : List AOper := [oo 272 (.fad 3 (.s 2)),
 oo 273 (.load none (.s 272)),
 oo 274 (.fad 5 (.s 2)),
 oo 275 (.load none (.s 274)),
 oo 276 (.bin false .lss (.s 273) (.s 275))]
def F14r33 : List AOper := [oo 277 (.fad 5 (.s 2)),
 oo 278 (.load none (.s 277)),
 oo 279 (.fad 3 (.s 2)),
 ow (.store 1 (.s 279) (.s 278))]
def F14r34 : List AOper := [oo 280 (.mov (.s 8))]
def F14r35 : List AOper := [oo 281 (.fad 7 (.s 2)),
 oo 282 (.load none (.s 281)),
 oo 283 (.fad 1 (.s 3)),
 oo 284 (.load none (.s 283)),
 oo 285 (.call (.c (.fn 34 [])) [.s 282, .s 284]),
 oo 286 (.fad 7 (.s 2)),
 ow (.store 1 (.s 286) (.s 285))]
def F14r36 : List AOper := [oo 287 (.fad 0 (.s 3)),
 oo 288 (.load none (.s 287)),
 oo 289 (.bin false .eql (.s 288) (.c (.v (.int .i64 7))))]
def F14r37 : List AOper := [oo 290 (.fad 5 (.s 2)),
 oo 291 (.load none (.s 290)),
 oo 292 (.fad 3 (.s 2)),
 ow (.store 1 (.s 292) (.s 291))]
def F14r38 : List AOper := [oo 293 (.fad 0 (.s 3)),
 oo 294 (.load none (.s 293)),
 oo 295 (.bin false .eql (.s 294) (.c (.v (.int .i64 8))))]
def F14r39 : List AOper := [oo 296 (.fad 1 (.s 2)),
 oo 297 (.load none (.s 296)),
 oo 298 (.fad 1 (.s 2)),
 oo 299 (.load none (.s 298)),
 oo 300 (.agg [.emp, .emp, .emp, .v (.int .i64 0), .v (.int .i64 0), .v (.int .i64 0), .emp, .emp] [(0, (1, .s 297)), (1, (1, .s 299))]),
 ow (.store 8 (.s 2) (.s 300))]
def F14r40 : List AOper := [oo 301 (.load (some 8) (.s 2)),
 ow (.store 8 (.s 4) (.s 301)),
 oo 5 (.mov (.c (.v (.int .i64 0))))]
def F14 : AFn := ⟨302, [.cell 4 (some 8), .tmp 5],
  .seq (.reg F14r0 none)
  (.seq (.reg F14r1 none)
  (.seq (.seq (.reg F14r2 none)
  (.cond (.s 13)
    (.seq (.reg F14r3 none)
    (.ret))
    (.skip)))
  (.seq (.seq (.reg F14r4 none)
  (.cond (.s 23)
    (.seq (.reg F14r5 none)
    (.ret))
    (.skip)))
  (.seq (.seq (.reg F14r6 none)
  (.cond (.s 48)
    (.seq (.reg F14r7 none)
    (.ret))
    (.skip)))
  (.seq (.reg F14r8 none)
  (.seq (.reg F14r9 none)
  (.seq (.seq (.reg F14r10 none)
  (.cond (.s 113)
    (.seq (.reg F14r11 none)
    (.ret))
    (.skip)))
  (.seq (.seq (.reg F14r12 none)
  (.cond (.s 125)
    (.seq (.reg F14r13 none)
    (.ret))
    (.skip)))
  (.seq (.seq (.reg F14r14 none)
  (.cond (.s 163)
    (.seq (.reg F14r15 none)
    (.ret))
    (.skip)))
  (.seq (.seq (.reg F14r16 none)
  (.cond (.s 167)
    (.seq (.reg F14r17 none)
    (.reg F14r18 (some [[], [], [1], [0, 2, 1], [], [4], [], [6], [5, 7, 4, 6], [8, 5, 7, 4, 6], [3, 9, 0, 2, 1, 8, 5, 7, 4, 6], [0, 1, 2, 3, 4, 5, 6, 7, 8, 9, 10], [11, 10, 0, 1, 2, 3, 4, 5, 6, 7, 8, 9]])))
    (.skip)))
  (.seq (.seq (.reg F14r19 none)
  (.cond (.s 190)
    (.seq (.reg F14r20 none)
    (.reg F14r21 (some [[], [], [1], [0, 2, 1], [], [4], [5, 4], [3, 6, 0, 2, 1, 5, 4], [0, 1, 2, 3, 4, 5, 6, 7], [8, 7, 0, 1, 2, 3, 4, 5, 6]])))
    (.skip)))
  (.seq (.seq (.reg F14r22 none)
  (.cond (.s 206)
    (.seq (.seq (.reg F14r23 (some [[], [0], [], [2], [1, 3, 0, 2], [4, 1, 3, 0, 2], [], [6], [7, 6], [5, 8, 4, 1, 3, 0, 2, 7, 6]]))
    (.cond (.s 216)
      (.seq (.reg F14r24 none)
      (.seq (.reg F14r25 none)
      (.reg F14r26 none)))
      (.skip)))
    (.reg F14r27 (some [[], [], [1], [0, 2, 1], [], [4], [5, 4], [3, 6, 0, 2, 1, 5, 4], [0, 1, 2, 3, 4, 5, 6, 7], [8, 7, 0, 1, 2, 3, 4, 5, 6]])))
    (.skip)))
  (.seq (.seq (.reg F14r28 none)
  (.cond (.s 244)
    (.reg F14r29 none)
    (.skip)))
  (.seq (.seq (.reg F14r30 (some [[], [0], [1, 0], [2, 1, 0], [3, 2, 1, 0], [4, 3, 2, 1, 0], [3, 2, 1, 0], [6, 3, 2, 1, 0], [5, 7, 3, 4, 2, 1, 0, 6], [8, 3, 5, 7, 4, 2, 1, 0, 6], [3, 2, 1, 0], [10, 3, 2, 1, 0], [9, 11, 3, 8, 5, 7, 4, 2, 1, 0, 6, 10], [3, 12, 2, 1, 0, 9, 11, 8, 5, 7, 4, 6, 10]]))
  (.cond (.s 264)
    (.seq (.reg F14r31 none)
    (.seq (.reg F14r32 none)
    (.cond (.s 276)
      (.reg F14r33 none)
      (.skip))))
    (.skip)))
  (.seq (.seq (.reg F14r34 none)
  (.cond (.s 280)
    (.reg F14r35 none)
    (.skip)))
  (.seq (.seq (.reg F14r36 none)
  (.cond (.s 289)
    (.reg F14r37 none)
    (.skip)))
  (.seq (.seq (.reg F14r38 none)
  (.cond (.s 295)
    (.reg F14r39 none)
    (.skip)))
  (.seq (.reg F14r40 none)
  (.ret)))))))))))))))))))⟩
theorem F14_ok : cFunc Try.prog 14 = some F14 := by kernel_rfl
theorem F14_call : callable Try.prog 14 = true := by kernel_rfl
/-- supercargolaw.shipBegun -/
def F15r0 : List AOper := [oo 0 (.mov (.c (.v (.bool false))))]
def F15r1 : List AOper := [oo 12 (.call (.c (.fn 11 [])) [.c (.v (.int .i64 2))]),
 oo 11 (.mov (.s 12)),
 oo 13 (.ext 0 (.s 11)),
 oo 14 (.ext 1 (.s 11)),
 oo 1 (.new [.emp, .emp, .emp, .v (.int .i64 0), .v (.int .i64 0), .v (.int .i64 0), .emp, .emp]),
 ow (.store 8 (.s 1) (.s 13)),
 oo 2 (.mov (.s 14))]
def F15r2 : List AOper := [oo 16 (.load (some 8) (.s 1)),
 oo 17 (.call (.c (.fn 24 [])) [.c (.v (.int .i64 1)), .c (.v (.int .i64 1)), .c (.v (.string ⟨#[97]⟩))]),
 oo 18 (.call (.c (.fn 24 [])) [.c (.v (.int .i64 1)), .c (.v (.int .i64 0)), .c (.v (.string ⟨#[98]⟩))]),
 oo 19 (.call (.c (.fn 24 [])) [.c (.v (.int .i64 2)), .c (.v (.int .i64 0)), .c (.v (.string ⟨#[]⟩))]),
 oo 20 (.call (.c (.fn 24 [])) [.c (.v (.int .i64 2)), .c (.v (.int .i64 0)), .c (.v (.string ⟨#[]⟩))]),
 oo 21 (.call (.c (.fn 24 [])) [.c (.v (.int .i64 4)), .c (.v (.int .i64 0)), .c (.v (.string ⟨#[]⟩))]),
 oo 22 (.call (.c (.fn 24 [])) [.c (.v (.int .i64 3)), .c (.v (.int .i64 0)), .c (.v (.string ⟨#[]⟩))]),
 oo 23 (.bsl 3 6 [.v (.int .i64 0), .v (.int .i64 0), .v (.string ⟨#[]⟩)] [(0, .s 17), (1, .s 18), (2, .s 19), (3, .s 20), (4, .s 21), (5, .s 22)]),
 oo 24 (.call (.c (.fn 19 [])) [.s 16, .s 23]),
 oo 15 (.mov (.s 24)),
 oo 25 (.ext 0 (.s 15)),
 oo 26 (.ext 1 (.s 15)),
 oo 27 (.ext 2 (.s 15)),
 oo 3 (.new [.emp, .emp, .emp, .v (.int .i64 0), .v (.int .i64 0), .v (.int .i64 0), .emp, .emp]),
 ow (.store 8 (.s 3) (.s 25)),
 oo 4 (.mov (.s 26)),
 oo 5 (.mov (.s 27))]
def F15r3 : List AOper := [oo 29 (.load (some 8) (.s 3)),
 oo 30 (.call (.c (.fn 24 [])) [.c (.v (.int .i64 7)), .c (.v (.int .i64 0)), .c (.v (.string ⟨#[]⟩))]),
 oo 31 (.call (.c (.fn 24 [])) [.c (.v (.int .i64 2)), .c (.v (.int .i64 0)), .c (.v (.string ⟨#[]⟩))]),
 oo 32 (.call (.c (.fn 24 [])) [.c (.v (.int .i64 3)), .c (.v (.int .i64 0)), .c (.v (.string ⟨#[]⟩))]),
 oo 33 (.call (.c (.fn 24 [])) [.c (.v (.int .i64 5)), .c (.v (.int .i64 1)), .c (.v (.string ⟨#[]⟩))]),
 oo 34 (.call (.c (.fn 24 [])) [.c (.v (.int .i64 8)), .c (.v (.int .i64 0)), .c (.v (.string ⟨#[]⟩))]),
 oo 35 (.bsl 3 5 [.v (.int .i64 0), .v (.int .i64 0), .v (.string ⟨#[]⟩)] [(0, .s 30), (1, .s 31), (2, .s 32), (3, .s 33), (4, .s 34)]),
 oo 36 (.call (.c (.fn 19 [])) [.s 29, .s 35]),
 oo 28 (.mov (.s 36)),
 oo 37 (.ext 0 (.s 28)),
 oo 38 (.ext 1 (.s 28)),
 oo 39 (.ext 2 (.s 28)),
 oo 6 (.new [.emp, .emp, .emp, .v (.int .i64 0), .v (.int .i64 0), .v (.int .i64 0), .emp, .emp]),
 ow (.store 8 (.s 6) (.s 37)),
 oo 7 (.mov (.s 38)),
 oo 8 (.mov (.s 39))]
def F15r4 : List AOper := [oo 41 (.load (some 8) (.s 1)),
 oo 42 (.call (.c (.fn 24 [])) [.c (.v (.int .i64 2)), .c (.v (.int .i64 0)), .c (.v (.string ⟨#[]⟩))]),
 oo 43 (.call (.c (.fn 12 [])) [.s 41, .s 42]),
 oo 40 (.mov (.s 43)),
 oo 44 (.ext 0 (.s 40)),
 oo 45 (.ext 1 (.s 40)),
 oo 9 (.new [.emp, .emp, .emp, .v (.int .i64 0), .v (.int .i64 0), .v (.int .i64 0), .emp, .emp]),
 ow (.store 8 (.s 9) (.s 44)),
 oo 10 (.mov (.s 45))]
def F15r5 : List AOper := [oo 46 (.mov (.s 2)),
 oo 47 (.bin false .eql (.s 46) (.c (.v (.int .i64 0)))),
 oo 48 (.mov (.s 47)),
 ot 49 (.mov (.s 5)) 48,
 ot 50 (.bin false .eql (.s 49) (.c (.v (.int .i64 0)))) 48,
 oo 51 (.pick (.s 48) (.s 50) (.c (.v (.bool false)))),
 oo 52 (.mov (.s 51)),
 ot 53 (.mov (.s 4)) 52,
 ot 54 (.bin false .eql (.s 53) (.c (.v (.int .i64 6)))) 52,
 oo 55 (.pick (.s 52) (.s 54) (.c (.v (.bool false)))),
 oo 56 (.mov (.s 55)),
 ot 57 (.fad 4 (.s 3)) 56,
 ot 58 (.load none (.s 57)) 56,
 ot 59 (.bin false .eql (.s 58) (.c (.v (.int .i64 0)))) 56,
 oo 60 (.pick (.s 56) (.s 59) (.c (.v (.bool false)))),
 oo 61 (.mov (.s 60)),
 ot 62 (.fad 1 (.s 3)) 61,
 ot 63 (.load none (.s 62)) 61,
 ot 64 (.bsl 1 2 [.v (.string ⟨#[]⟩)] [(0, .c (.v (.string ⟨#[]⟩))), (1, .c (.v (.string ⟨#[]⟩)))]) 61,
 ot 65 (.call (.c (.fn 22 [])) [.s 63, .s 64]) 61,
 oo 66 (.pick (.s 61) (.s 65) (.c (.v (.bool false)))),
 oo 67 (.mov (.s 66)),
 ot 68 (.mov (.s 8)) 67,
 ot 69 (.bin false .eql (.s 68) (.c (.v (.int .i64 0)))) 67,
 oo 70 (.pick (.s 67) (.s 69) (.c (.v (.bool false)))),
 oo 71 (.mov (.s 70)),
 ot 72 (.mov (.s 7)) 71,
 ot 73 (.bin false .eql (.s 72) (.c (.v (.int .i64 5)))) 71,
 oo 74 (.pick (.s 71) (.s 73) (.c (.v (.bool false)))),
 oo 75 (.mov (.s 74)),
 ot 76 (.fad 0 (.s 6)) 75,
 ot 77 (.load none (.s 76)) 75,
 ot 78 (.bsl 1 2 [.v (.string ⟨#[]⟩)] [(0, .c (.v (.string ⟨#[]⟩))), (1, .c (.v (.string ⟨#[97]⟩)))]) 75,
 ot 79 (.call (.c (.fn 22 [])) [.s 77, .s 78]) 75,
 oo 80 (.pick (.s 75) (.s 79) (.c (.v (.bool false)))),
 oo 81 (.mov (.s 80)),
 ot 82 (.fad 2 (.s 6)) 81,
 ot 83 (.load none (.s 82)) 81,
 ot 84 (.len false (.s 83)) 81,
 ot 85 (.bin false .eql (.s 84) (.c (.v (.int .i64 0)))) 81,
 oo 86 (.pick (.s 81) (.s 85) (.c (.v (.bool false)))),
 oo 87 (.mov (.s 86)),
 ot 88 (.mov (.s 10)) 87,
 ot 89 (.bin false .eql (.s 88) (.c (.v (.int .i64 5)))) 87,
 oo 90 (.pick (.s 87) (.s 89) (.c (.v (.bool false)))),
 oo 91 (.mov (.s 90)),
 ot 92 (.load (some 8) (.s 3)) 91,
 ot 93 (.call (.c (.fn 17 [])) [.s 92]) 91,
 ot 94 (.bin false .eql (.s 93) (.c (.v (.int .i64 0)))) 91,
 oo 95 (.pick (.s 91) (.s 94) (.c (.v (.bool false)))),
 oo 0 (.mov (.s 95))]
def F15 : AFn := ⟨96, [.tmp 0],
  .seq (.reg F15r0 none)
  (.seq (.reg F15r1 none)
  (.seq (.reg F15r2 (some [[], [], [1], [2, 1], [3, 2, 1], [4, 3, 2, 1], [5, 4, 3, 2, 1], [1, 2, 3, 4, 5, 6], [0, 7, 6, 1, 2, 3, 4, 5], [8, 0, 7, 6, 1, 2, 3, 4, 5], [9, 8, 0, 7, 6, 1, 2, 3, 4, 5], [9, 8, 0, 7, 6, 1, 2, 3, 4, 5], [9, 8, 0, 7, 6, 1, 2, 3, 4, 5], [], [13, 10, 8, 0, 1, 2, 3, 4, 5, 6, 7, 9], [11, 14, 0, 1, 2, 3, 4, 5, 6, 7, 8, 9, 10, 13], [12, 15, 0, 1, 2, 3, 4, 5, 6, 7, 8, 9, 10, 11, 13, 14]]))
  (.seq (.reg F15r3 (some [[], [], [1], [2, 1], [3, 2, 1], [4, 3, 2, 1], [1, 2, 3, 4, 5], [0, 6, 5, 1, 2, 3, 4], [7, 0, 6, 5, 1, 2, 3, 4], [8, 7, 0, 6, 5, 1, 2, 3, 4], [8, 7, 0, 6, 5, 1, 2, 3, 4], [8, 7, 0, 6, 5, 1, 2, 3, 4], [], [12, 9, 7, 0, 1, 2, 3, 4, 5, 6, 8], [10, 13, 0, 1, 2, 3, 4, 5, 6, 7, 8, 9, 12], [11, 14, 0, 1, 2, 3, 4, 5, 6, 7, 8, 9, 10, 12, 13]]))
  (.seq (.reg F15r4 (some [[], [], [0, 1], [2, 0, 1], [3, 2, 0, 1], [3, 2, 0, 1], [], [6, 4, 2, 0, 1, 3], [5, 7, 0, 1, 2, 3, 4, 6]]))
  (.seq (.reg F15r5 none)
  (.ret))))))⟩
theorem F15_ok : cFunc Try.prog 15 = some F15 := by kernel_rfl
theorem F15_call : callable Try.prog 15 = true := by kernel_rfl
/-- supercargoref.SameShip -/
def F16r0 : List AOper := [oo 2 (.box 8 (.s 0)),
 oo 3 (.box 8 (.s 1)),
 oo 4 (.mov (.c (.v (.bool false))))]
def F16r1 : List AOper := [oo 6 (.fad 2 (.s 2)),
 oo 7 (.load none (.s 6)),
 oo 8 (.len false (.s 7)),
 oo 9 (.fad 2 (.s 3)),
 oo 10 (.load none (.s 9)),
 oo 11 (.len false (.s 10)),
 oo 12 (.bin false .neq (.s 8) (.s 11))]
def F16r2 : List AOper := [oo 4 (.mov (.c (.v (.bool false))))]
def F16r3 : List AOper := [oo 5 (.mov (.c (.v (.int .i64 0))))]
def F16r4 : List AOper := [oo 13 (.mov (.s 5)),
 oo 14 (.fad 2 (.s 2)),
 oo 15 (.load none (.s 14)),
 oo 16 (.len false (.s 15)),
 oo 17 (.bin false .lss (.s 13) (.s 16))]
def F16r5 : List AOper := [oo 20 (.fad 2 (.s 2)),
 oo 21 (.load none (.s 20)),
 oo 22 (.mov (.s 5)),
 oo 23 (.iad 2 (.s 21) (.s 22)),
 oo 24 (.load (some 2) (.s 23)),
 oo 25 (.fad 2 (.s 3)),
 oo 26 (.load none (.s 25)),
 oo 27 (.mov (.s 5)),
 oo 28 (.iad 2 (.s 26) (.s 27)),
 oo 29 (.load (some 2) (.s 28)),
 oo 30 (.eqs true 2 [(0, .int), (1, .str)] (.s 24) (.s 29))]
def F16r6 : List AOper := [oo 4 (.mov (.c (.v (.bool false))))]
def F16r7 : List AOper := [oo 18 (.mov (.s 5)),
 oo 19 (.bin false .add (.s 18) (.c (.v (.int .i64 1)))),
 oo 5 (.mov (.s 19))]
def F16r8 : List AOper := [oo 31 (.fad 0 (.s 2)),
 oo 32 (.load none (.s 31)),
 oo 33 (.fad 0 (.s 3)),
 oo 34 (.load none (.s 33)),
 oo 35 (.call (.c (.fn 22 [])) [.s 32, .s 34]),
 oo 36 (.mov (.s 35)),
 ot 37 (.fad 1 (.s 2)) 36,
 ot 38 (.load none (.s 37)) 36,
 ot 39 (.fad 1 (.s 3)) 36,
 ot 40 (.load none (.s 39)) 36,
 ot 41 (.call (.c (.fn 22 [])) [.s 38, .s 40]) 36,
 oo 42 (.pick (.s 36) (.s 41) (.c (.v (.bool false)))),
 oo 43 (.mov (.s 42)),
 ot 44 (.fad 3 (.s 2)) 43,
 ot 45 (.load none (.s 44)) 43,
 ot 46 (.fad 3 (.s 3)) 43,
 ot 47 (.load none (.s 46)) 43,
 ot 48 (.bin false .eql (.s 45) (.s 47)) 43,
 oo 49 (.pick (.s 43) (.s 48) (.c (.v (.bool false)))),
 oo 50 (.mov (.s 49)),
 ot 51 (.fad 4 (.s 2)) 50,
 ot 52 (.load none (.s 51)) 50,
 ot 53 (.fad 4 (.s 3)) 50,
 ot 54 (.load none (.s 53)) 50,
 ot 55 (.bin false .eql (.s 52) (.s 54)) 50,
 oo 56 (.pick (.s 50) (.s 55) (.c (.v (.bool false)))),
 oo 57 (.mov (.s 56)),
 ot 58 (.fad 5 (.s 2)) 57,
 ot 59 (.load none (.s 58)) 57,
 ot 60 (.fad 5 (.s 3)) 57,
 ot 61 (.load none (.s 60)) 57,
 ot 62 (.bin false .eql (.s 59) (.s 61)) 57,
 oo 63 (.pick (.s 57) (.s 62) (.c (.v (.bool false)))),
 oo 64 (.mov (.s 63)),
 ot 65 (.fad 6 (.s 2)) 64,
 ot 66 (.load none (.s 65)) 64,
 ot 67 (.fad 6 (.s 3)) 64,
 ot 68 (.load none (.s 67)) 64,
 ot 69 (.call (.c (.fn 35 [])) [.s 66, .s 68]) 64,
 oo 70 (.pick (.s 64) (.s 69) (.c (.v (.bool false)))),
 oo 71 (.mov (.s 70)),
 ot 72 (.fad 7 (.s 2)) 71,
 ot 73 (.load none (.s 72)) 71,
 ot 74 (.fad 7 (.s 3)) 71,
 ot 75 (.load none (.s 74)) 71,
 ot 76 (.call (.c (.fn 35 [])) [.s 73, .s 75]) 71,
 oo 77 (.pick (.s 71) (.s 76) (.c (.v (.bool false)))),
 oo 4 (.mov (.s 77))]
def F16 : AFn := ⟨78, [.tmp 4],
  .seq (.reg F16r0 none)
  (.seq (.seq (.reg F16r1 none)
  (.cond (.s 12)
    (.seq (.reg F16r2 none)
    (.ret))
    (.skip)))
  (.seq (.seq (.reg F16r3 none)
  (.block 0 (
    .loop (
      .seq (.seq (.reg F16r4 none)
      (.cond (.s 17)
        (.skip)
        (.exit 0)))
      (.seq (.block 1 (
        .seq (.reg F16r5 (some [[], [0], [], [1, 2, 0], [3, 1, 2, 0], [], [5], [], [6, 7, 5], [8, 6, 7, 5], [4, 9, 3, 1, 2, 0, 8, 6, 7, 5]]))
        (.cond (.s 30)
          (.seq (.reg F16r6 none)
          (.ret))
          (.skip))))
      (.reg F16r7 none))))))
  (.seq (.reg F16r8 none)
  (.ret))))⟩
theorem F16_ok : cFunc Try.prog 16 = some F16 := by kernel_rfl
theorem F16_call : callable Try.prog 16 = true := by kernel_rfl
/-- ship.Check -/
def F17r0 : List AOper := [oo 1 (.box 8 (.s 0)),
 oo 2 (.mov (.c (.v (.int .i64 0))))]
def F17r1 : List AOper := [oo 6 (.fad 0 (.s 1)),
 oo 7 (.load none (.s 6)),
 oo 8 (.len false (.s 7)),
 oo 9 (.call (.c (.fn 31 [])) [.s 8, .c (.v (.int .i64 1)), .c (.v (.int .i64 32))]),
 oo 10 (.un .not (.s 9)),
 oo 5 (.mov (.s 10))]
def F17r2 : List AOper := [oo 2 (.mov (.c (.v (.int .i64 3))))]
def F17r3 : List AOper := [oo 12 (.fad 1 (.s 1)),
 oo 13 (.load none (.s 12)),
 oo 14 (.len false (.s 13)),
 oo 15 (.fad 0 (.s 1)),
 oo 16 (.load none (.s 15)),
 oo 17 (.len false (.s 16)),
 oo 18 (.bin false .neq (.s 14) (.s 17)),
 oo 11 (.mov (.s 18))]
def F17r4 : List AOper := [oo 2 (.mov (.c (.v (.int .i64 1))))]
def F17r5 : List AOper := [oo 20 (.fad 0 (.s 1)),
 oo 21 (.load none (.s 20)),
 oo 22 (.call (.c (.fn 36 [])) [.s 21, .c (.fn 37 [])]),
 oo 19 (.mov (.s 22))]
def F17r6 : List AOper := [oo 23 (.fad 1 (.s 1)),
 oo 24 (.load none (.s 23)),
 oo 25 (.call (.c (.fn 36 [])) [.s 24, .c (.fn 37 [])]),
 oo 19 (.mov (.s 25))]
def F17r7 : List AOper := [oo 26 (.fad 2 (.s 1)),
 oo 27 (.load none (.s 26)),
 oo 28 (.len false (.s 27)),
 oo 29 (.bin false .gtr (.s 28) (.c (.v (.int .i64 60)))),
 oo 19 (.mov (.s 29))]
def F17r8 : List AOper := [oo 30 (.fad 6 (.s 1)),
 oo 31 (.load none (.s 30)),
 oo 32 (.len false (.s 31)),
 oo 33 (.bin false .gtr (.s 32) (.c (.v (.int .i64 60)))),
 oo 19 (.mov (.s 33))]
def F17r9 : List AOper := [oo 34 (.fad 7 (.s 1)),
 oo 35 (.load none (.s 34)),
 oo 36 (.len false (.s 35)),
 oo 37 (.bin false .gtr (.s 36) (.c (.v (.int .i64 60)))),
 oo 19 (.mov (.s 37))]
def F17r10 : List AOper := [oo 2 (.mov (.c (.v (.int .i64 2))))]
def F17r11 : List AOper := [oo 38 (.load (some 8) (.s 1)),
 oo 39 (.call (.c (.fn 38 [])) [.s 38]),
 oo 3 (.mov (.s 39))]
def F17r12 : List AOper := [oo 40 (.mov (.s 3)),
 oo 41 (.bin false .neq (.s 40) (.c (.v (.int .i64 0))))]
def F17r13 : List AOper := [oo 42 (.mov (.s 3)),
 oo 2 (.mov (.s 42))]
def F17r14 : List AOper := [oo 43 (.fad 2 (.s 1)),
 oo 44 (.load none (.s 43)),
 oo 45 (.len false (.s 44)),
 oo 4 (.new [.v (.int .i64 0)]),
 ow (.store 1 (.s 4) (.s 45))]
def F17r15 : List AOper := [oo 47 (.fad 5 (.s 1)),
 oo 48 (.load none (.s 47)),
 oo 49 (.fad 4 (.s 1)),
 oo 50 (.load none (.s 49)),
 oo 51 (.fad 3 (.s 1)),
 oo 52 (.load none (.s 51)),
 oo 53 (.mnx false (.s 50) (.s 52)),
 oo 54 (.call (.c (.fn 31 [])) [.s 48, .c (.v (.int .i64 0)), .s 53]),
 oo 55 (.un .not (.s 54)),
 oo 46 (.mov (.s 55))]
def F17r16 : List AOper := [oo 56 (.fad 4 (.s 1)),
 oo 57 (.load none (.s 56)),
 oo 58 (.fad 3 (.s 1)),
 oo 59 (.load none (.s 58)),
 oo 60 (.mnx true (.s 57) (.s 59)),
 oo 61 (.load none (.s 4)),
 oo 62 (.bin false .gtr (.s 60) (.s 61)),
 oo 46 (.mov (.s 62))]
def F17r17 : List AOper := [oo 2 (.mov (.c (.v (.int .i64 4))))]
def F17r18 : List AOper := [oo 64 (.fad 6 (.s 1)),
 oo 65 (.load none (.s 64)),
 oo 66 (.mkf 40 [.s 4]),
 oo 67 (.call (.c (.fn 39 [])) [.s 65, .s 66]),
 oo 63 (.mov (.s 67))]
def F17r19 : List AOper := [oo 68 (.fad 7 (.s 1)),
 oo 69 (.load none (.s 68)),
 oo 70 (.mkf 41 [.s 1]),
 oo 71 (.call (.c (.fn 39 [])) [.s 69, .s 70]),
 oo 63 (.mov (.s 71))]
def F17r20 : List AOper := [oo 2 (.mov (.c (.v (.int .i64 3))))]
def F17r21 : List AOper := [oo 2 (.mov (.c (.v (.int .i64 0))))]
def F17 : AFn := ⟨72, [.tmp 2],
  .seq (.reg F17r0 none)
  (.seq (.block 0 (
    .seq (.reg F17r1 none)
    (.cond (.s 5)
      (.seq (.reg F17r2 none)
      (.ret))
      (.seq (.reg F17r3 none)
      (.cond (.s 11)
        (.seq (.reg F17r4 none)
        (.ret))
        (.seq (.seq (.reg F17r5 none)
        (.cond (.s 19)
          (.skip)
          (.seq (.reg F17r6 none)
          (.cond (.s 19)
            (.skip)
            (.seq (.reg F17r7 none)
            (.cond (.s 19)
              (.skip)
              (.seq (.reg F17r8 none)
              (.cond (.s 19)
                (.skip)
                (.reg F17r9 none)))))))))
        (.cond (.s 19)
          (.seq (.reg F17r10 none)
          (.ret))
          (.skip))))))))
  (.seq (.seq (.reg F17r11 none)
  (.seq (.reg F17r12 none)
  (.cond (.s 41)
    (.seq (.reg F17r13 none)
    (.ret))
    (.skip))))
  (.seq (.reg F17r14 none)
  (.seq (.block 1 (
    .seq (.seq (.reg F17r15 none)
    (.cond (.s 46)
      (.skip)
      (.reg F17r16 none)))
    (.cond (.s 46)
      (.seq (.reg F17r17 none)
      (.ret))
      (.seq (.seq (.reg F17r18 none)
      (.cond (.s 63)
        (.skip)
        (.reg F17r19 none)))
      (.cond (.s 63)
        (.seq (.reg F17r20 none)
        (.ret))
        (.skip))))))
  (.seq (.reg F17r21 none)
  (.ret))))))⟩
theorem F17_ok : cFunc Try.prog 17 = some F17 := by kernel_rfl
theorem F17_call : callable Try.prog 17 = true := by kernel_rfl
/-- supercargoref.ShipCheck -/
def F18r0 : List AOper := [oo 1 (.box 8 (.s 0)),
 oo 2 (.mov (.c (.v (.int .i64 0))))]
def F18r1 : List AOper := [oo 7 (.fad 0 (.s 1)),
 oo 8 (.load none (.s 7)),
 oo 9 (.len false (.s 8)),
 oo 10 (.bin false .lss (.s 9) (.c (.v (.int .i64 1)))),
 oo 11 (.mov (.s 10)),
 on 12 (.fad 0 (.s 1)) 11,
 on 13 (.load none (.s 12)) 11,
 on 14 (.len false (.s 13)) 11,
 on 15 (.bin false .gtr (.s 14) (.c (.v (.int .i64 32)))) 11,
 oo 16 (.pick (.s 11) (.c (.v (.bool true))) (.s 15))]
def F18r2 : List AOper := [oo 2 (.mov (.c (.v (.int .i64 3))))]
def F18r3 : List AOper := [oo 17 (.fad 1 (.s 1)),
 oo 18 (.load none (.s 17)),
 oo 19 (.len false (.s 18)),
 oo 20 (.fad 0 (.s 1)),
 oo 21 (.load none (.s 20)),
 oo 22 (.len false (.s 21)),
 oo 23 (.bin false .neq (.s 19) (.s 22))]
def F18r4 : List AOper := [oo 2 (.mov (.c (.v (.int .i64 1))))]
def F18r5 : List AOper := [oo 24 (.fad 2 (.s 1)),
 oo 25 (.load none (.s 24)),
 oo 26 (.len false (.s 25)),
 oo 27 (.bin false .gtr (.s 26) (.c (.v (.int .i64 60)))),
 oo 28 (.mov (.s 27)),
 on 29 (.fad 6 (.s 1)) 28,
 on 30 (.load none (.s 29)) 28,
 on 31 (.len false (.s 30)) 28,
 on 32 (.bin false .gtr (.s 31) (.c (.v (.int .i64 60)))) 28,
 oo 33 (.pick (.s 28) (.c (.v (.bool true))) (.s 32)),
 oo 34 (.mov (.s 33)),
 on 35 (.fad 7 (.s 1)) 34,
 on 36 (.load none (.s 35)) 34,
 on 37 (.len false (.s 36)) 34,
 on 38 (.bin false .gtr (.s 37) (.c (.v (.int .i64 60)))) 34,
 oo 39 (.pick (.s 34) (.c (.v (.bool true))) (.s 38))]
def F18r6 : List AOper := [oo 2 (.mov (.c (.v (.int .i64 2))))]
def F18r7 : List AOper := [oo 3 (.mov (.c (.v (.int .i64 0))))]
def F18r8 : List AOper := [oo 40 (.mov (.s 3)),
 oo 41 (.fad 0 (.s 1)),
 oo 42 (.load none (.s 41)),
 oo 43 (.len false (.s 42)),
 oo 44 (.bin false .lss (.s 40) (.s 43))]
def F18r9 : List AOper := [oo 47 (.fad 0 (.s 1)),
 oo 48 (.load none (.s 47)),
 oo 49 (.mov (.s 3)),
 oo 50 (.iad 1 (.s 48) (.s 49)),
 oo 51 (.load none (.s 50)),
 oo 52 (.len true (.s 51)),
 oo 53 (.bin false .gtr (.s 52) (.c (.v (.int .i64 64)))),
 oo 54 (.mov (.s 53)),
 on 55 (.fad 1 (.s 1)) 54,
 on 56 (.load none (.s 55)) 54,
 on 57 (.mov (.s 3)) 54,
 on 58 (.iad 1 (.s 56) (.s 57)) 54,
 on 59 (.load none (.s 58)) 54,
 on 60 (.len true (.s 59)) 54,
 on 61 (.bin false .gtr (.s 60) (.c (.v (.int .i64 64)))) 54,
 oo 62 (.pick (.s 54) (.c (.v (.bool true))) (.s 61))]
def F18r10 : List AOper := [oo 2 (.mov (.c (.v (.int .i64 2))))]
def F18r11 : List AOper := [oo 45 (.mov (.s 3)),
 oo 46 (.bin false .add (.s 45) (.c (.v (.int .i64 1)))),
 oo 3 (.mov (.s 46))]
def F18r12 : List AOper := [oo 4 (.mov (.c (.v (.int .i64 0))))]
def F18r13 : List AOper := [oo 63 (.mov (.s 4)),
 oo 64 (.fad 2 (.s 1)),
 oo 65 (.load none (.s 64)),
 oo 66 (.len false (.s 65)),
 oo 67 (.bin false .lss (.s 63) (.s 66))]
def F18r14 : List AOper := [oo 70 (.fad 2 (.s 1)),
 oo 71 (.load none (.s 70)),
 oo 72 (.mov (.s 4)),
 oo 73 (.iad 2 (.s 71) (.s 72)),
 oo 74 (.fad 0 (.s 73)),
 oo 75 (.load none (.s 74)),
 oo 76 (.bin false .lss (.s 75) (.c (.v (.int .i64 0)))),
 oo 77 (.mov (.s 76)),
 on 78 (.fad 2 (.s 1)) 77,
 on 79 (.load none (.s 78)) 77,
 on 80 (.mov (.s 4)) 77,
 on 81 (.iad 2 (.s 79) (.s 80)) 77,
 on 82 (.fad 0 (.s 81)) 77,
 on 83 (.load none (.s 82)) 77,
 on 84 (.fad 0 (.s 1)) 77,
 on 85 (.load none (.s 84)) 77,
 on 86 (.len false (.s 85)) 77,
 on 87 (.bin false .geq (.s 83) (.s 86)) 77,
 oo 88 (.pick (.s 77) (.c (.v (.bool true))) (.s 87))]
def F18r15 : List AOper := [oo 2 (.mov (.c (.v (.int .i64 3))))]
def F18r16 : List AOper := [oo 89 (.fad 2 (.s 1)),
 oo 90 (.load none (.s 89)),
 oo 91 (.mov (.s 4)),
 oo 92 (.iad 2 (.s 90) (.s 91)),
 oo 93 (.fad 1 (.s 92)),
 oo 94 (.load none (.s 93)),
 oo 95 (.len true (.s 94)),
 oo 96 (.bin false .gtr (.s 95) (.c (.v (.int .i64 64))))]
def F18r17 : List AOper := [oo 2 (.mov (.c (.v (.int .i64 2))))]
def F18r18 : List AOper := [oo 68 (.mov (.s 4)),
 oo 69 (.bin false .add (.s 68) (.c (.v (.int .i64 1)))),
 oo 4 (.mov (.s 69))]
def F18r19 : List AOper := [oo 97 (.fad 5 (.s 1)),
 oo 98 (.load none (.s 97)),
 oo 99 (.bin false .lss (.s 98) (.c (.v (.int .i64 0)))),
 oo 100 (.mov (.s 99)),
 on 101 (.fad 5 (.s 1)) 100,
 on 102 (.load none (.s 101)) 100,
 on 103 (.fad 4 (.s 1)) 100,
 on 104 (.load none (.s 103)) 100,
 on 105 (.bin false .gtr (.s 102) (.s 104)) 100,
 oo 106 (.pick (.s 100) (.c (.v (.bool true))) (.s 105)),
 oo 107 (.mov (.s 106)),
 on 108 (.fad 5 (.s 1)) 107,
 on 109 (.load none (.s 108)) 107,
 on 110 (.fad 3 (.s 1)) 107,
 on 111 (.load none (.s 110)) 107,
 on 112 (.bin false .gtr (.s 109) (.s 111)) 107,
 oo 113 (.pick (.s 107) (.c (.v (.bool true))) (.s 112)),
 oo 114 (.mov (.s 113)),
 on 115 (.fad 4 (.s 1)) 114,
 on 116 (.load none (.s 115)) 114,
 on 117 (.fad 2 (.s 1)) 114,
 on 118 (.load none (.s 117)) 114,
 on 119 (.len false (.s 118)) 114,
 on 120 (.bin false .gtr (.s 116) (.s 119)) 114,
 oo 121 (.pick (.s 114) (.c (.v (.bool true))) (.s 120)),
 oo 122 (.mov (.s 121)),
 on 123 (.fad 3 (.s 1)) 122,
 on 124 (.load none (.s 123)) 122,
 on 125 (.fad 2 (.s 1)) 122,
 on 126 (.load none (.s 125)) 122,
 on 127 (.len false (.s 126)) 122,
 on 128 (.bin false .gtr (.s 124) (.s 127)) 122,
 oo 129 (.pick (.s 122) (.c (.v (.bool true))) (.s 128))]
def F18r20 : List AOper := [oo 2 (.mov (.c (.v (.int .i64 4))))]
def F18r21 : List AOper := [oo 5 (.mov (.c (.v (.int .i64 0))))]
def F18r22 : List AOper := [oo 130 (.mov (.s 5)),
 oo 131 (.fad 6 (.s 1)),
 oo 132 (.load none (.s 131)),
 oo 133 (.len false (.s 132)),
 oo 134 (.bin false .lss (.s 130) (.s 133))]
def F18r23 : List AOper := [oo 137 (.fad 6 (.s 1)),
 oo 138 (.load none (.s 137)),
 oo 139 (.mov (.s 5)),
 oo 140 (.iad 1 (.s 138) (.s 139)),
 oo 141 (.load none (.s 140)),
 oo 142 (.bin false .lss (.s 141) (.c (.v (.int .i64 1)))),
 oo 143 (.mov (.s 142)),
 on 144 (.fad 6 (.s 1)) 143,
 on 145 (.load none (.s 144)) 143,
 on 146 (.mov (.s 5)) 143,
 on 147 (.iad 1 (.s 145) (.s 146)) 143,
 on 148 (.load none (.s 147)) 143,
 on 149 (.fad 2 (.s 1)) 143,
 on 150 (.load none (.s 149)) 143,
 on 151 (.len false (.s 150)) 143,
 on 152 (.bin false .gtr (.s 148) (.s 151)) 143,
 oo 153 (.pick (.s 143) (.c (.v (.bool true))) (.s 152))]
def F18r24 : List AOper := [oo 2 (.mov (.c (.v (.int .i64 3))))]
def F18r25 : List AOper := [oo 135 (.mov (.s 5)),
 oo 136 (.bin false .add (.s 135) (.c (.v (.int .i64 1)))),
 oo 5 (.mov (.s 136))]
def F18r26 : List AOper := [oo 6 (.mov (.c (.v (.int .i64 0))))]
def F18r27 : List AOper := [oo 154 (.mov (.s 6)),
 oo 155 (.fad 7 (.s 1)),
 oo 156 (.load none (.s 155)),
 oo 157 (.len false (.s 156)),
 oo 158 (.bin false .lss (.s 154) (.s 157))]
def F18r28 : List AOper := [oo 161 (.fad 7 (.s 1)),
 oo 162 (.load none (.s 161)),
 oo 163 (.mov (.s 6)),
 oo 164 (.iad 1 (.s 162) (.s 163)),
 oo 165 (.load none (.s 164)),
 oo 166 (.bin false .lss (.s 165) (.c (.v (.int .i64 0)))),
 oo 167 (.mov (.s 166)),
 on 168 (.fad 7 (.s 1)) 167,
 on 169 (.load none (.s 168)) 167,
 on 170 (.mov (.s 6)) 167,
 on 171 (.iad 1 (.s 169) (.s 170)) 167,
 on 172 (.load none (.s 171)) 167,
 on 173 (.fad 4 (.s 1)) 167,
 on 174 (.load none (.s 173)) 167,
 on 175 (.bin false .gtr (.s 172) (.s 174)) 167,
 oo 176 (.pick (.s 167) (.c (.v (.bool true))) (.s 175))]
def F18r29 : List AOper := [oo 2 (.mov (.c (.v (.int .i64 3))))]
def F18r30 : List AOper := [oo 159 (.mov (.s 6)),
 oo 160 (.bin false .add (.s 159) (.c (.v (.int .i64 1)))),
 oo 6 (.mov (.s 160))]
def F18r31 : List AOper := [oo 2 (.mov (.c (.v (.int .i64 0))))]
def F18 : AFn := ⟨177, [.tmp 2],
  .seq (.reg F18r0 none)
  (.seq (.seq (.reg F18r1 none)
  (.cond (.s 16)
    (.seq (.reg F18r2 none)
    (.ret))
    (.skip)))
  (.seq (.seq (.reg F18r3 none)
  (.cond (.s 23)
    (.seq (.reg F18r4 none)
    (.ret))
    (.skip)))
  (.seq (.seq (.reg F18r5 none)
  (.cond (.s 39)
    (.seq (.reg F18r6 none)
    (.ret))
    (.skip)))
  (.seq (.seq (.reg F18r7 none)
  (.block 0 (
    .loop (
      .seq (.seq (.reg F18r8 none)
      (.cond (.s 44)
        (.skip)
        (.exit 0)))
      (.seq (.block 1 (
        .seq (.reg F18r9 none)
        (.cond (.s 62)
          (.seq (.reg F18r10 none)
          (.ret))
          (.skip))))
      (.reg F18r11 none))))))
  (.seq (.seq (.reg F18r12 none)
  (.block 2 (
    .loop (
      .seq (.seq (.reg F18r13 none)
      (.cond (.s 67)
        (.skip)
        (.exit 2)))
      (.seq (.block 3 (
        .seq (.seq (.reg F18r14 (some [[], [0], [], [1, 2, 0], [3, 1, 2, 0], [4, 3, 1, 2, 0], [5, 4, 3, 1, 2, 0], [6, 5, 4, 3, 1, 2, 0], [7, 6, 5, 4, 3, 1, 2, 0], [8, 7, 6, 5, 4, 3, 1, 2, 0], [7, 6, 5, 4, 3, 1, 2, 0], [9, 10, 7, 8, 6, 5, 4, 3, 1, 2, 0], [11, 7, 9, 10, 8, 6, 5, 4, 3, 1, 2, 0], [12, 7, 11, 9, 10, 8, 6, 5, 4, 3, 1, 2, 0], [7, 6, 5, 4, 3, 1, 2, 0], [14, 7, 6, 5, 4, 3, 1, 2, 0], [15, 7, 14, 6, 5, 4, 3, 1, 2, 0], [13, 16, 7, 12, 11, 9, 10, 8, 6, 5, 4, 3, 1, 2, 0, 15, 14], [7, 17, 6, 5, 4, 3, 1, 2, 0, 13, 16, 12, 11, 9, 10, 8, 15, 14]]))
        (.cond (.s 88)
          (.seq (.reg F18r15 none)
          (.ret))
          (.skip)))
        (.seq (.reg F18r16 none)
        (.cond (.s 96)
          (.seq (.reg F18r17 none)
          (.ret))
          (.skip)))))
      (.reg F18r18 none))))))
  (.seq (.seq (.reg F18r19 none)
  (.cond (.s 129)
    (.seq (.reg F18r20 none)
    (.ret))
    (.skip)))
  (.seq (.seq (.reg F18r21 none)
  (.block 4 (
    .loop (
      .seq (.seq (.reg F18r22 none)
      (.cond (.s 134)
        (.skip)
        (.exit 4)))
      (.seq (.block 5 (
        .seq (.reg F18r23 (some [[], [0], [], [1, 2, 0], [3, 1, 2, 0], [4, 3, 1, 2, 0], [5, 4, 3, 1, 2, 0], [6, 5, 4, 3, 1, 2, 0], [7, 6, 5, 4, 3, 1, 2, 0], [6, 5, 4, 3, 1, 2, 0], [8, 9, 6, 7, 5, 4, 3, 1, 2, 0], [10, 6, 8, 9, 7, 5, 4, 3, 1, 2, 0], [6, 5, 4, 3, 1, 2, 0], [12, 6, 5, 4, 3, 1, 2, 0], [13, 6, 12, 5, 4, 3, 1, 2, 0], [11, 14, 6, 10, 8, 9, 7, 5, 4, 3, 1, 2, 0, 13, 12], [6, 15, 5, 4, 3, 1, 2, 0, 11, 14, 10, 8, 9, 7, 13, 12]]))
        (.cond (.s 153)
          (.seq (.reg F18r24 none)
          (.ret))
          (.skip))))
      (.reg F18r25 none))))))
  (.seq (.seq (.reg F18r26 none)
  (.block 6 (
    .loop (
      .seq (.seq (.reg F18r27 none)
      (.cond (.s 158)
        (.skip)
        (.exit 6)))
      (.seq (.block 7 (
        .seq (.reg F18r28 (some [[], [0], [], [1, 2, 0], [3, 1, 2, 0], [4, 3, 1, 2, 0], [5, 4, 3, 1, 2, 0], [6, 5, 4, 3, 1, 2, 0], [7, 6, 5, 4, 3, 1, 2, 0], [6, 5, 4, 3, 1, 2, 0], [8, 9, 6, 7, 5, 4, 3, 1, 2, 0], [10, 6, 8, 9, 7, 5, 4, 3, 1, 2, 0], [6, 5, 4, 3, 1, 2, 0], [12, 6, 5, 4, 3, 1, 2, 0], [11, 13, 6, 10, 8, 9, 7, 5, 4, 3, 1, 2, 0, 12], [6, 14, 5, 4, 3, 1, 2, 0, 11, 13, 10, 8, 9, 7, 12]]))
        (.cond (.s 176)
          (.seq (.reg F18r29 none)
          (.ret))
          (.skip))))
      (.reg F18r30 none))))))
  (.seq (.reg F18r31 none)
  (.ret))))))))))⟩
theorem F18_ok : cFunc Try.prog 18 = some F18 := by kernel_rfl
theorem F18_call : callable Try.prog 18 = true := by kernel_rfl
/-- ship.Run -/
def F19r0 : List AOper := [oo 2 (.box 8 (.s 0)),
 oo 4 (.new [.emp, .emp, .emp, .v (.int .i64 0), .v (.int .i64 0), .v (.int .i64 0), .emp, .emp]),
 oo 5 (.mov (.c (.v (.int .i64 0)))),
 oo 6 (.mov (.c (.v (.int .i64 0))))]
def F19r1 : List AOper := [oo 13 (.load (some 8) (.s 2)),
 oo 14 (.call (.c (.fn 17 [])) [.s 13]),
 oo 7 (.mov (.s 14))]
def F19r2 : List AOper := [oo 15 (.mov (.s 7)),
 oo 16 (.bin false .eql (.s 15) (.c (.v (.int .i64 0)))),
 oo 17 (.mov (.s 16)),
 ot 18 (.mov (.s 1)) 17,
 ot 19 (.len false (.s 18)) 17,
 ot 20 (.bin false .gtr (.s 19) (.c (.v (.int .i64 200)))) 17,
 oo 21 (.pick (.s 17) (.s 20) (.c (.v (.bool false))))]
def F19r3 : List AOper := [oo 7 (.mov (.c (.v (.int .i64 2))))]
def F19r4 : List AOper := [oo 22 (.mov (.s 7)),
 oo 23 (.bin false .neq (.s 22) (.c (.v (.int .i64 0))))]
def F19r5 : List AOper := [oo 24 (.agg [.emp, .emp, .emp, .v (.int .i64 0), .v (.int .i64 0), .v (.int .i64 0), .emp, .emp] []),
 oo 25 (.mov (.s 7)),
 ow (.store 8 (.s 4) (.s 24)),
 oo 5 (.mov (.c (.v (.int .i64 0)))),
 oo 6 (.mov (.s 25))]
def F19r6 : List AOper := [oo 26 (.load (some 8) (.s 2)),
 oo 27 (.call (.c (.fn 42 [])) [.s 26]),
 ow (.store 8 (.s 2) (.s 27))]
def F19r7 : List AOper := [oo 8 (.mov (.c (.v (.int .i64 0))))]
def F19r8 : List AOper := [oo 28 (.mov (.s 1)),
 oo 29 (.len false (.s 28)),
 oo 30 (.mov (.c (.v (.int .i64 0))))]
def F19r9 : List AOper := [oo 31 (.bin false .lss (.s 30) (.s 29))]
def F19r10 : List AOper := [oo 32 (.iad 3 (.s 28) (.s 30)),
 oo 33 (.load (some 3) (.s 32)),
 oo 10 (.new [.v (.int .i64 0), .v (.int .i64 0), .v (.string ⟨#[]⟩)]),
 ow (.store 3 (.s 10) (.s 33))]
def F19r11 : List AOper := [oo 35 (.load (some 8) (.s 2)),
 oo 36 (.load (some 3) (.s 10)),
 oo 37 (.call (.c (.fn 32 [])) [.s 35, .s 36]),
 oo 34 (.mov (.s 37)),
 oo 38 (.ext 0 (.s 34)),
 oo 39 (.ext 1 (.s 34)),
 oo 11 (.new [.emp, .emp, .emp, .v (.int .i64 0), .v (.int .i64 0), .v (.int .i64 0), .emp, .emp]),
 ow (.store 8 (.s 11) (.s 38)),
 oo 12 (.mov (.s 39))]
def F19r12 : List AOper := [oo 40 (.mov (.s 12)),
 oo 41 (.bin false .eql (.s 40) (.c (.v (.int .i64 0))))]
def F19r13 : List AOper := [oo 42 (.load (some 8) (.s 11)),
 ow (.store 8 (.s 2) (.s 42))]
def F19r14 : List AOper := [oo 43 (.mov (.s 8)),
 oo 44 (.bin false .add (.s 43) (.c (.v (.int .i64 1)))),
 oo 8 (.mov (.s 44))]
def F19r15 : List AOper := [oo 45 (.bin false .add (.s 30) (.c (.v (.int .i64 1)))),
 oo 30 (.mov (.s 45))]
def F19r16 : List AOper := [oo 46 (.load (some 8) (.s 2)),
 oo 47 (.mov (.s 8)),
 ow (.store 8 (.s 4) (.s 46)),
 oo 5 (.mov (.s 47)),
 oo 6 (.mov (.c (.v (.int .i64 0))))]
def F19 : AFn := ⟨48, [.cell 4 (some 8), .tmp 5, .tmp 6],
  .seq (.reg F19r0 none)
  (.seq (.reg F19r1 none)
  (.seq (.seq (.reg F19r2 none)
  (.cond (.s 21)
    (.reg F19r3 none)
    (.skip)))
  (.seq (.seq (.reg F19r4 none)
  (.cond (.s 23)
    (.seq (.reg F19r5 none)
    (.ret))
    (.skip)))
  (.seq (.reg F19r6 none)
  (.seq (.reg F19r7 none)
  (.seq (.seq (.reg F19r8 none)
  (.block 0 (
    .loop (
      .seq (.reg F19r9 none)
      (.seq (.cond (.s 31)
        (.skip)
        (.exit 0))
      (.seq (.block 1 (
        .seq (.reg F19r10 none)
        (.seq (.reg F19r11 none)
        (.seq (.reg F19r12 none)
        (.cond (.s 41)
          (.seq (.reg F19r13 none)
          (.reg F19r14 none))
          (.skip))))))
      (.reg F19r15 none)))))))
  (.seq (.reg F19r16 none)
  (.ret))))))))⟩
theorem F19_ok : cFunc Try.prog 19 = some F19 := by kernel_rfl
theorem F19_call : callable Try.prog 19 = true := by kernel_rfl
/-- supercargoref.ShipRan -/
def F20r0 : List AOper := [oo 2 (.box 8 (.s 0)),
 oo 4 (.new [.emp, .emp, .emp, .v (.int .i64 0), .v (.int .i64 0), .v (.int .i64 0), .emp, .emp]),
 oo 5 (.mov (.c (.v (.int .i64 0)))),
 oo 6 (.mov (.c (.v (.int .i64 0))))]
def F20r1 : List AOper := [oo 12 (.load (some 8) (.s 2)),
 oo 13 (.call (.c (.fn 18 [])) [.s 12]),
 oo 7 (.mov (.s 13))]
def F20r2 : List AOper := [oo 14 (.mov (.s 7)),
 oo 15 (.bin false .eql (.s 14) (.c (.v (.int .i64 0)))),
 oo 16 (.mov (.s 15)),
 ot 17 (.mov (.s 1)) 16,
 ot 18 (.len false (.s 17)) 16,
 ot 19 (.bin false .gtr (.s 18) (.c (.v (.int .i64 200)))) 16,
 oo 20 (.pick (.s 16) (.s 19) (.c (.v (.bool false))))]
def F20r3 : List AOper := [oo 7 (.mov (.c (.v (.int .i64 2))))]
def F20r4 : List AOper := [oo 21 (.mov (.s 7)),
 oo 22 (.bin false .neq (.s 21) (.c (.v (.int .i64 0))))]
def F20r5 : List AOper := [oo 23 (.agg [.emp, .emp, .emp, .v (.int .i64 0), .v (.int .i64 0), .v (.int .i64 0), .emp, .emp] []),
 oo 24 (.mov (.s 7)),
 ow (.store 8 (.s 4) (.s 23)),
 oo 5 (.mov (.c (.v (.int .i64 0)))),
 oo 6 (.mov (.s 24))]
def F20r6 : List AOper := [oo 8 (.mov (.c (.v (.int .i64 0))))]
def F20r7 : List AOper := [oo 9 (.mov (.c (.v (.int .i64 0))))]
def F20r8 : List AOper := [oo 25 (.mov (.s 9)),
 oo 26 (.mov (.s 1)),
 oo 27 (.len false (.s 26)),
 oo 28 (.bin false .lss (.s 25) (.s 27))]
def F20r9 : List AOper := [oo 32 (.load (some 8) (.s 2)),
 oo 33 (.mov (.s 1)),
 oo 34 (.mov (.s 9)),
 oo 35 (.iad 3 (.s 33) (.s 34)),
 oo 36 (.load (some 3) (.s 35)),
 oo 37 (.call (.c (.fn 14 [])) [.s 32, .s 36]),
 oo 31 (.mov (.s 37)),
 oo 38 (.ext 0 (.s 31)),
 oo 39 (.ext 1 (.s 31)),
 oo 10 (.new [.emp, .emp, .emp, .v (.int .i64 0), .v (.int .i64 0), .v (.int .i64 0), .emp, .emp]),
 ow (.store 8 (.s 10) (.s 38)),
 oo 11 (.mov (.s 39))]
def F20r10 : List AOper := [oo 40 (.mov (.s 11)),
 oo 41 (.bin false .eql (.s 40) (.c (.v (.int .i64 0))))]
def F20r11 : List AOper := [oo 42 (.load (some 8) (.s 10)),
 ow (.store 8 (.s 2) (.s 42))]
def F20r12 : List AOper := [oo 43 (.mov (.s 8)),
 oo 44 (.bin false .add (.s 43) (.c (.v (.int .i64 1)))),
 oo 8 (.mov (.s 44))]
def F20r13 : List AOper := [oo 29 (.mov (.s 9)),
 oo 30 (.bin false .add (.s 29) (.c (.v (.int .i64 1)))),
 oo 9 (.mov (.s 30))]
def F20r14 : List AOper := [oo 45 (.load (some 8) (.s 2)),
 oo 46 (.mov (.s 8)),
 ow (.store 8 (.s 4) (.s 45)),
 oo 5 (.mov (.s 46)),
 oo 6 (.mov (.c (.v (.int .i64 0))))]
def F20 : AFn := ⟨47, [.cell 4 (some 8), .tmp 5, .tmp 6],
  .seq (.reg F20r0 none)
  (.seq (.reg F20r1 none)
  (.seq (.seq (.reg F20r2 none)
  (.cond (.s 20)
    (.reg F20r3 none)
    (.skip)))
  (.seq (.seq (.reg F20r4 none)
  (.cond (.s 22)
    (.seq (.reg F20r5 none)
    (.ret))
    (.skip)))
  (.seq (.reg F20r6 none)
  (.seq (.seq (.reg F20r7 none)
  (.block 0 (
    .loop (
      .seq (.seq (.reg F20r8 none)
      (.cond (.s 28)
        (.skip)
        (.exit 0)))
      (.seq (.block 1 (
        .seq (.reg F20r9 (some [[], [], [], [1, 2], [3, 1, 2], [0, 4, 3, 1, 2], [5, 0, 4, 3, 1, 2], [6, 5, 0, 4, 3, 1, 2], [6, 5, 0, 4, 3, 1, 2], [], [9, 7, 5, 0, 1, 2, 3, 4, 6], [8, 10, 0, 1, 2, 3, 4, 5, 6, 7, 9]]))
        (.seq (.reg F20r10 none)
        (.cond (.s 41)
          (.seq (.reg F20r11 none)
          (.reg F20r12 none))
          (.skip)))))
      (.reg F20r13 none))))))
  (.seq (.reg F20r14 none)
  (.ret)))))))⟩
theorem F20_ok : cFunc Try.prog 20 = some F20 := by kernel_rfl
theorem F20_call : callable Try.prog 20 = true := by kernel_rfl
/-- supercargoref.SameTexts -/
def F22r0 : List AOper := [oo 4 (.mov (.c (.v (.bool false))))]
def F22r1 : List AOper := [oo 6 (.mov (.s 0)),
 oo 7 (.len false (.s 6)),
 oo 8 (.mov (.s 1)),
 oo 9 (.len false (.s 8)),
 oo 10 (.bin false .neq (.s 7) (.s 9))]
def F22r2 : List AOper := [oo 4 (.mov (.c (.v (.bool false))))]
def F22r3 : List AOper := [oo 5 (.mov (.c (.v (.int .i64 0))))]
def F22r4 : List AOper := [oo 11 (.mov (.s 5)),
 oo 12 (.mov (.s 0)),
 oo 13 (.len false (.s 12)),
 oo 14 (.bin false .lss (.s 11) (.s 13))]
def F22r5 : List AOper := [oo 17 (.mov (.s 0)),
 oo 18 (.mov (.s 5)),
 oo 19 (.iad 1 (.s 17) (.s 18)),
 oo 20 (.load none (.s 19)),
 oo 21 (.mov (.s 1)),
 oo 22 (.mov (.s 5)),
 oo 23 (.iad 1 (.s 21) (.s 22)),
 oo 24 (.load none (.s 23)),
 oo 25 (.bin false .neq (.s 20) (.s 24))]
def F22r6 : List AOper := [oo 4 (.mov (.c (.v (.bool false))))]
def F22r7 : List AOper := [oo 15 (.mov (.s 5)),
 oo 16 (.bin false .add (.s 15) (.c (.v (.int .i64 1)))),
 oo 5 (.mov (.s 16))]
def F22r8 : List AOper := [oo 4 (.mov (.c (.v (.bool true))))]
def F22 : AFn := ⟨26, [.tmp 4],
  .seq (.reg F22r0 none)
  (.seq (.seq (.reg F22r1 none)
  (.cond (.s 10)
    (.seq (.reg F22r2 none)
    (.ret))
    (.skip)))
  (.seq (.seq (.reg F22r3 none)
  (.block 0 (
    .loop (
      .seq (.seq (.reg F22r4 none)
      (.cond (.s 14)
        (.skip)
        (.exit 0)))
      (.seq (.block 1 (
        .seq (.reg F22r5 (some [[], [], [0, 1], [2, 0, 1], [], [], [4, 5], [6, 4, 5], [3, 7, 2, 0, 1, 6, 4, 5]]))
        (.cond (.s 25)
          (.seq (.reg F22r6 none)
          (.ret))
          (.skip))))
      (.reg F22r7 none))))))
  (.seq (.reg F22r8 none)
  (.ret))))⟩
theorem F22_ok : cFunc Try.prog 22 = some F22 := by kernel_rfl
theorem F22_call : callable Try.prog 22 = true := by kernel_rfl
/-- supercargolaw.act -/
def F24r0 : List AOper := [oo 6 (.new [.v (.int .i64 0), .v (.int .i64 0), .v (.string ⟨#[]⟩)])]
def F24r1 : List AOper := [oo 7 (.mov (.s 0)),
 oo 8 (.mov (.s 1)),
 oo 9 (.mov (.s 2)),
 oo 10 (.agg [.v (.int .i64 0), .v (.int .i64 0), .v (.string ⟨#[]⟩)] [(0, (1, .s 7)), (1, (1, .s 8)), (2, (1, .s 9))]),
 ow (.store 3 (.s 6) (.s 10))]
def F24 : AFn := ⟨11, [.cell 6 (some 3)],
  .seq (.reg F24r0 none)
  (.seq (.reg F24r1 none)
  (.ret))⟩
theorem F24_ok : cFunc Try.prog 24 = some F24 := by kernel_rfl
theorem F24_call : callable Try.prog 24 = true := by kernel_rfl
/-- ship.within -/
def F31r0 : List AOper := [oo 6 (.mov (.c (.v (.bool false))))]
def F31r1 : List AOper := [oo 7 (.mov (.s 0)),
 oo 8 (.mov (.s 1)),
 oo 9 (.bin false .geq (.s 7) (.s 8)),
 oo 10 (.mov (.s 9)),
 ot 11 (.mov (.s 0)) 10,
 ot 12 (.mov (.s 2)) 10,
 ot 13 (.bin false .leq (.s 11) (.s 12)) 10,
 oo 14 (.pick (.s 10) (.s 13) (.c (.v (.bool false)))),
 oo 6 (.mov (.s 14))]
def F31 : AFn := ⟨15, [.tmp 6],
  .seq (.reg F31r0 none)
  (.seq (.reg F31r1 none)
  (.ret))⟩
theorem F31_ok : cFunc Try.prog 31 = some F31 := by kernel_rfl
theorem F31_call : callable Try.prog 31 = true := by kernel_rfl
/-- ship.step -/
def F32r0 : List AOper := [oo 2 (.box 8 (.s 0)),
 oo 3 (.box 3 (.s 1)),
 oo 4 (.new [.emp, .emp, .emp, .v (.int .i64 0), .v (.int .i64 0), .v (.int .i64 0), .emp, .emp]),
 oo 5 (.mov (.c (.v (.int .i64 0))))]
def F32r1 : List AOper := [oo 10 (.load (some 8) (.s 2)),
 oo 11 (.call (.c (.fn 42 [])) [.s 10]),
 oo 12 (.agg [.emp, .emp, .emp, .v (.int .i64 0), .v (.int .i64 0), .v (.int .i64 0), .emp, .emp] [(0, (8, .s 11))]),
 oo 13 (.box 8 (.s 12)),
 oo 6 (.mov (.s 13))]
def F32r2 : List AOper := [oo 15 (.mov (.s 6)),
 oo 16 (.fad 0 (.s 3)),
 oo 17 (.load none (.s 16)),
 oo 18 (.call (.c (.fn 58 [])) [.s 15, .s 17]),
 oo 14 (.mov (.s 18)),
 oo 19 (.ext 0 (.s 14)),
 oo 20 (.ext 1 (.s 14)),
 oo 7 (.mov (.s 19)),
 oo 8 (.mov (.s 20))]
def F32r3 : List AOper := [oo 9 (.mov (.c (.v (.int .i64 0))))]
def F32r4 : List AOper := [oo 25 (.mov (.s 7)),
 oo 26 (.isn .fn false (.s 25)),
 oo 24 (.mov (.s 26))]
def F32r5 : List AOper := [oo 9 (.mov (.c (.v (.int .i64 7))))]
def F32r6 : List AOper := [oo 28 (.fad 2 (.s 3)),
 oo 29 (.load none (.s 28)),
 oo 30 (.bin false .neq (.s 29) (.c (.v (.string ⟨#[]⟩)))),
 oo 31 (.mov (.s 30)),
 ot 32 (.fad 0 (.s 3)) 31,
 ot 33 (.load none (.s 32)) 31,
 ot 34 (.bin false .neq (.s 33) (.c (.v (.int .i64 1)))) 31,
 oo 35 (.pick (.s 31) (.s 34) (.c (.v (.bool false)))),
 oo 27 (.mov (.s 35))]
def F32r7 : List AOper := [oo 36 (.fad 1 (.s 3)),
 oo 37 (.load none (.s 36)),
 oo 38 (.bin false .neq (.s 37) (.c (.v (.int .i64 0)))),
 oo 39 (.mov (.s 38)),
 ot 40 (.mov (.s 8)) 39,
 ot 41 (.un .not (.s 40)) 39,
 oo 42 (.pick (.s 39) (.s 41) (.c (.v (.bool false)))),
 oo 27 (.mov (.s 42))]
def F32r8 : List AOper := [oo 9 (.mov (.c (.v (.int .i64 1))))]
def F32r9 : List AOper := [oo 21 (.mov (.s 7)),
 oo 22 (.load (some 3) (.s 3)),
 oo 23 (.call (.s 21) [.s 22]),
 oo 9 (.mov (.s 23))]
def F32r10 : List AOper := [oo 43 (.mov (.s 9)),
 oo 44 (.bin false .neq (.s 43) (.c (.v (.int .i64 0))))]
def F32r11 : List AOper := [oo 45 (.agg [.emp, .emp, .emp, .v (.int .i64 0), .v (.int .i64 0), .v (.int .i64 0), .emp, .emp] []),
 oo 46 (.mov (.s 9)),
 ow (.store 8 (.s 4) (.s 45)),
 oo 5 (.mov (.s 46))]
def F32r12 : List AOper := [oo 47 (.mov (.s 6)),
 oo 48 (.nilc (.s 47)),
 oo 49 (.fad 0 (.s 48)),
 oo 50 (.load (some 8) (.s 49)),
 ow (.store 8 (.s 4) (.s 50)),
 oo 5 (.mov (.c (.v (.int .i64 0))))]
def F32 : AFn := ⟨51, [.cell 4 (some 8), .tmp 5],
  .seq (.reg F32r0 none)
  (.seq (.reg F32r1 none)
  (.seq (.reg F32r2 none)
  (.seq (.reg F32r3 none)
  (.seq (.block 0 (
    .seq (.reg F32r4 none)
    (.cond (.s 24)
      (.reg F32r5 none)
      (.seq (.seq (.reg F32r6 none)
      (.cond (.s 27)
        (.skip)
        (.reg F32r7 none)))
      (.cond (.s 27)
        (.reg F32r8 none)
        (.reg F32r9 none))))))
  (.seq (.seq (.reg F32r10 none)
  (.cond (.s 44)
    (.seq (.reg F32r11 none)
    (.ret))
    (.skip)))
  (.seq (.reg F32r12 none)
  (.ret)))))))⟩
theorem F32_ok : cFunc Try.prog 32 = some F32 := by kernel_rfl
theorem F32_call : callable Try.prog 32 = true := by kernel_rfl
/-- supercargoref.setText -/
def F33r0 : List AOper := [oo 6 (.mov (.c .emp))]
def F33r1 : List AOper := [oo 8 (.bsl 1 0 [.v (.string ⟨#[]⟩)] []),
 oo 9 (.mov (.s 0)),
 oo 10 (.app 1 16 (.s 8) (.s 9)),
 oo 7 (.mov (.s 10))]
def F33r2 : List AOper := [oo 11 (.mov (.s 7)),
 oo 12 (.mov (.s 1)),
 oo 13 (.mov (.s 2)),
 oo 14 (.iad 1 (.s 11) (.s 12)),
 ow (.store 1 (.s 14) (.s 13))]
def F33r3 : List AOper := [oo 15 (.mov (.s 7)),
 oo 6 (.mov (.s 15))]
def F33 : AFn := ⟨16, [.tmp 6],
  .seq (.reg F33r0 none)
  (.seq (.reg F33r1 none)
  (.seq (.reg F33r2 none)
  (.seq (.reg F33r3 none)
  (.ret))))⟩
theorem F33_ok : cFunc Try.prog 33 = some F33 := by kernel_rfl
theorem F33_call : callable Try.prog 33 = true := by kernel_rfl
/-- supercargoref.withoutInt -/
def F34r0 : List AOper := [oo 4 (.mov (.c .emp))]
def F34r1 : List AOper := [oo 5 (.bsl 1 0 [.v (.int .i64 0)] []),
 oo 6 (.mov (.s 0)),
 oo 7 (.mov (.s 1)),
 oo 8 (.slc 1 (.s 6) none (some (.s 7)) none),
 oo 9 (.app 1 8 (.s 5) (.s 8)),
 oo 10 (.mov (.s 0)),
 oo 11 (.mov (.s 1)),
 oo 12 (.bin false .add (.s 11) (.c (.v (.int .i64 1)))),
 oo 13 (.slc 1 (.s 10) (some (.s 12)) none none),
 oo 14 (.app 1 8 (.s 9) (.s 13)),
 oo 4 (.mov (.s 14))]
def F34 : AFn := ⟨15, [.tmp 4],
  .seq (.reg F34r0 none)
  (.seq (.reg F34r1 (some [[], [], [], [1, 2], [0, 3, 1, 2], [], [], [6], [5, 7, 6], [4, 8, 0, 3, 1, 2, 5, 7, 6], [9, 0, 1, 2, 3, 4, 5, 6, 7, 8]]))
  (.ret))⟩
theorem F34_ok : cFunc Try.prog 34 = some F34 := by kernel_rfl
theorem F34_call : callable Try.prog 34 = true := by kernel_rfl
/-- supercargoref.SameInts -/
def F35r0 : List AOper := [oo 4 (.mov (.c (.v (.bool false))))]
def F35r1 : List AOper := [oo 6 (.mov (.s 0)),
 oo 7 (.len false (.s 6)),
 oo 8 (.mov (.s 1)),
 oo 9 (.len false (.s 8)),
 oo 10 (.bin false .neq (.s 7) (.s 9))]
def F35r2 : List AOper := [oo 4 (.mov (.c (.v (.bool false))))]
def F35r3 : List AOper := [oo 5 (.mov (.c (.v (.int .i64 0))))]
def F35r4 : List AOper := [oo 11 (.mov (.s 5)),
 oo 12 (.mov (.s 0)),
 oo 13 (.len false (.s 12)),
 oo 14 (.bin false .lss (.s 11) (.s 13))]
def F35r5 : List AOper := [oo 17 (.mov (.s 0)),
 oo 18 (.mov (.s 5)),
 oo 19 (.iad 1 (.s 17) (.s 18)),
 oo 20 (.load none (.s 19)),
 oo 21 (.mov (.s 1)),
 oo 22 (.mov (.s 5)),
 oo 23 (.iad 1 (.s 21) (.s 22)),
 oo 24 (.load none (.s 23)),
 oo 25 (.bin false .neq (.s 20) (.s 24))]
def F35r6 : List AOper := [oo 4 (.mov (.c (.v (.bool false))))]
def F35r7 : List AOper := [oo 15 (.mov (.s 5)),
 oo 16 (.bin false .add (.s 15) (.c (.v (.int .i64 1)))),
 oo 5 (.mov (.s 16))]
def F35r8 : List AOper := [oo 4 (.mov (.c (.v (.bool true))))]
def F35 : AFn := ⟨26, [.tmp 4],
  .seq (.reg F35r0 none)
  (.seq (.seq (.reg F35r1 none)
  (.cond (.s 10)
    (.seq (.reg F35r2 none)
    (.ret))
    (.skip)))
  (.seq (.seq (.reg F35r3 none)
  (.block 0 (
    .loop (
      .seq (.seq (.reg F35r4 none)
      (.cond (.s 14)
        (.skip)
        (.exit 0)))
      (.seq (.block 1 (
        .seq (.reg F35r5 (some [[], [], [0, 1], [2, 0, 1], [], [], [4, 5], [6, 4, 5], [3, 7, 2, 0, 1, 6, 4, 5]]))
        (.cond (.s 25)
          (.seq (.reg F35r6 none)
          (.ret))
          (.skip))))
      (.reg F35r7 none))))))
  (.seq (.reg F35r8 none)
  (.ret))))⟩
theorem F35_ok : cFunc Try.prog 35 = some F35 := by kernel_rfl
theorem F35_call : callable Try.prog 35 = true := by kernel_rfl
/-- slices.ContainsFunc[[]string,string] -/
def F36r0 : List AOper := [oo 4 (.mov (.c (.v (.bool false))))]
def F36r1 : List AOper := [oo 5 (.mov (.s 0)),
 oo 6 (.mov (.s 1)),
 oo 7 (.call (.c (.fn 59 [])) [.s 5, .s 6]),
 oo 8 (.bin false .geq (.s 7) (.c (.v (.int .i64 0)))),
 oo 4 (.mov (.s 8))]
def F36 : AFn := ⟨9, [.tmp 4],
  .seq (.reg F36r0 none)
  (.seq (.reg F36r1 none)
  (.ret))⟩
theorem F36_ok : cFunc Try.prog 36 = some F36 := by kernel_rfl
theorem F36_call : callable Try.prog 36 = true := by kernel_rfl
/-- ship.long -/
def F37r0 : List AOper := [oo 2 (.mov (.c (.v (.bool false))))]
def F37r1 : List AOper := [oo 3 (.mov (.s 0)),
 oo 4 (.len true (.s 3)),
 oo 5 (.bin false .gtr (.s 4) (.c (.v (.int .i64 64)))),
 oo 2 (.mov (.s 5))]
def F37 : AFn := ⟨6, [.tmp 2],
  .seq (.reg F37r0 none)
  (.seq (.reg F37r1 none)
  (.ret))⟩
theorem F37_ok : cFunc Try.prog 37 = some F37 := by kernel_rfl
theorem F37_call : callable Try.prog 37 = true := by kernel_rfl
/-- ship.records -/
def F38r0 : List AOper := [oo 1 (.box 8 (.s 0)),
 oo 2 (.mov (.c (.v (.int .i64 0))))]
def F38r1 : List AOper := [oo 5 (.fad 2 (.s 1)),
 oo 6 (.load none (.s 5)),
 oo 7 (.len false (.s 6)),
 oo 8 (.mov (.c (.v (.int .i64 0))))]
def F38r2 : List AOper := [oo 9 (.bin false .lss (.s 8) (.s 7))]
def F38r3 : List AOper := [oo 10 (.iad 2 (.s 6) (.s 8)),
 oo 11 (.load (some 2) (.s 10)),
 oo 4 (.new [.v (.int .i64 0), .v (.string ⟨#[]⟩)]),
 ow (.store 2 (.s 4) (.s 11))]
def F38r4 : List AOper := [oo 13 (.fad 0 (.s 4)),
 oo 14 (.load none (.s 13)),
 oo 15 (.fad 0 (.s 1)),
 oo 16 (.load none (.s 15)),
 oo 17 (.len false (.s 16)),
 oo 18 (.bin false .sub (.s 17) (.c (.v (.int .i64 1)))),
 oo 19 (.call (.c (.fn 31 [])) [.s 14, .c (.v (.int .i64 0)), .s 18]),
 oo 20 (.un .not (.s 19)),
 oo 12 (.mov (.s 20))]
def F38r5 : List AOper := [oo 2 (.mov (.c (.v (.int .i64 3))))]
def F38r6 : List AOper := [oo 22 (.fad 1 (.s 4)),
 oo 23 (.load none (.s 22)),
 oo 24 (.call (.c (.fn 37 [])) [.s 23]),
 oo 21 (.mov (.s 24))]
def F38r7 : List AOper := [oo 2 (.mov (.c (.v (.int .i64 2))))]
def F38r8 : List AOper := [oo 25 (.bin false .add (.s 8) (.c (.v (.int .i64 1)))),
 oo 8 (.mov (.s 25))]
def F38r9 : List AOper := [oo 2 (.mov (.c (.v (.int .i64 0))))]
def F38 : AFn := ⟨26, [.tmp 2],
  .seq (.reg F38r0 none)
  (.seq (.seq (.reg F38r1 none)
  (.block 0 (
    .loop (
      .seq (.reg F38r2 none)
      (.seq (.cond (.s 9)
        (.skip)
        (.exit 0))
      (.seq (.block 1 (
        .seq (.reg F38r3 none)
        (.block 2 (
          .seq (.reg F38r4 none)
          (.cond (.s 12)
            (.seq (.reg F38r5 none)
            (.ret))
            (.seq (.reg F38r6 none)
            (.cond (.s 21)
              (.seq (.reg F38r7 none)
              (.ret))
              (.skip))))))))
      (.reg F38r8 none)))))))
  (.seq (.reg F38r9 none)
  (.ret)))⟩
theorem F38_ok : cFunc Try.prog 38 = some F38 := by kernel_rfl
theorem F38_call : callable Try.prog 38 = true := by kernel_rfl
/-- slices.ContainsFunc[[]int,int] -/
def F39r0 : List AOper := [oo 4 (.mov (.c (.v (.bool false))))]
def F39r1 : List AOper := [oo 5 (.mov (.s 0)),
 oo 6 (.mov (.s 1)),
 oo 7 (.call (.c (.fn 60 [])) [.s 5, .s 6]),
 oo 8 (.bin false .geq (.s 7) (.c (.v (.int .i64 0)))),
 oo 4 (.mov (.s 8))]
def F39 : AFn := ⟨9, [.tmp 4],
  .seq (.reg F39r0 none)
  (.seq (.reg F39r1 none)
  (.ret))⟩
theorem F39_ok : cFunc Try.prog 39 = some F39 := by kernel_rfl
theorem F39_call : callable Try.prog 39 = true := by kernel_rfl
/-- ship.Check$1 -/
def F40r0 : List AOper := [oo 3 (.mov (.c (.v (.bool false))))]
def F40r1 : List AOper := [oo 4 (.mov (.s 0)),
 oo 5 (.load none (.s 1)),
 oo 6 (.call (.c (.fn 31 [])) [.s 4, .c (.v (.int .i64 1)), .s 5]),
 oo 7 (.un .not (.s 6)),
 oo 3 (.mov (.s 7))]
def F40 : AFn := ⟨8, [.tmp 3],
  .seq (.reg F40r0 none)
  (.seq (.reg F40r1 none)
  (.ret))⟩
theorem F40_ok : cFunc Try.prog 40 = some F40 := by kernel_rfl
theorem F40_call : callable Try.prog 40 = true := by kernel_rfl
/-- ship.Check$2 -/
def F41r0 : List AOper := [oo 3 (.mov (.c (.v (.bool false))))]
def F41r1 : List AOper := [oo 4 (.mov (.s 0)),
 oo 5 (.fad 4 (.s 1)),
 oo 6 (.load none (.s 5)),
 oo 7 (.call (.c (.fn 31 [])) [.s 4, .c (.v (.int .i64 0)), .s 6]),
 oo 8 (.un .not (.s 7)),
 oo 3 (.mov (.s 8))]
def F41 : AFn := ⟨9, [.tmp 3],
  .seq (.reg F41r0 none)
  (.seq (.reg F41r1 none)
  (.ret))⟩
theorem F41_ok : cFunc Try.prog 41 = some F41 := by kernel_rfl
theorem F41_call : callable Try.prog 41 = true := by kernel_rfl
/-- ship.Own -/
def F42r0 : List AOper := [oo 1 (.box 8 (.s 0)),
 oo 2 (.new [.emp, .emp, .emp, .v (.int .i64 0), .v (.int .i64 0), .v (.int .i64 0), .emp, .emp])]
def F42r1 : List AOper := [oo 3 (.fad 0 (.s 1)),
 oo 4 (.load none (.s 3)),
 oo 5 (.call (.c (.fn 61 [])) [.s 4]),
 oo 6 (.fad 1 (.s 1)),
 oo 7 (.load none (.s 6)),
 oo 8 (.call (.c (.fn 61 [])) [.s 7]),
 oo 9 (.fad 2 (.s 1)),
 oo 10 (.load none (.s 9)),
 oo 11 (.call (.c (.fn 62 [])) [.s 10]),
 oo 12 (.fad 0 (.s 1)),
 ow (.store 1 (.s 12) (.s 5)),
 oo 13 (.fad 1 (.s 1)),
 ow (.store 1 (.s 13) (.s 8)),
 oo 14 (.fad 2 (.s 1)),
 ow (.store 1 (.s 14) (.s 11))]
def F42r2 : List AOper := [oo 15 (.fad 6 (.s 1)),
 oo 16 (.load none (.s 15)),
 oo 17 (.call (.c (.fn 50 [])) [.s 16]),
 oo 18 (.fad 7 (.s 1)),
 oo 19 (.load none (.s 18)),
 oo 20 (.call (.c (.fn 50 [])) [.s 19]),
 oo 21 (.fad 6 (.s 1)),
 ow (.store 1 (.s 21) (.s 17)),
 oo 22 (.fad 7 (.s 1)),
 ow (.store 1 (.s 22) (.s 20))]
def F42r3 : List AOper := [oo 23 (.load (some 8) (.s 1)),
 ow (.store 8 (.s 2) (.s 23))]
def F42 : AFn := ⟨24, [.cell 2 (some 8)],
  .seq (.reg F42r0 none)
  (.seq (.reg F42r1 (some [[], [0], [1, 0], [], [3], [4, 2, 3, 1, 0], [], [6], [7, 5, 6, 4, 2, 3, 1, 0], [0, 1, 2, 3, 4, 6, 7], [9, 2, 8, 0, 1, 3, 4, 6, 7, 5], [0, 1, 2, 3, 4, 5, 6, 7, 9, 10, 8], [11, 5, 10, 0, 1, 2, 3, 4, 6, 7, 9, 8], [0, 1, 2, 3, 4, 5, 6, 7, 8, 9, 10, 11, 12], [13, 8, 12, 0, 1, 2, 3, 4, 5, 6, 7, 9, 10, 11]]))
  (.seq (.reg F42r2 (some [[], [0], [1, 0], [], [3], [4, 2, 3, 1, 0], [0, 1, 2, 3, 4], [6, 2, 5, 0, 1, 3, 4], [0, 1, 2, 3, 4, 5, 6, 7], [8, 5, 7, 0, 1, 2, 3, 4, 6]]))
  (.seq (.reg F42r3 none)
  (.ret))))⟩
theorem F42_ok : cFunc Try.prog 42 = some F42 := by kernel_rfl
theorem F42_call : callable Try.prog 42 = true := by kernel_rfl
/-- slices.Clone[[]int,int] -/
def F50r0 : List AOper := [oo 2 (.mov (.c .emp))]
def F50r1 : List AOper := [oo 3 (.mov (.s 0)),
 oo 4 (.isn .sl false (.s 3))]
def F50r2 : List AOper := [oo 2 (.mov (.c .emp))]
def F50r3 : List AOper := [oo 5 (.bsl 1 0 [.v (.int .i64 0)] []),
 oo 6 (.mov (.s 0)),
 oo 7 (.app 1 8 (.s 5) (.s 6)),
 oo 2 (.mov (.s 7))]
def F50 : AFn := ⟨8, [.tmp 2],
  .seq (.reg F50r0 none)
  (.seq (.seq (.reg F50r1 none)
  (.cond (.s 4)
    (.seq (.reg F50r2 none)
    (.ret))
    (.skip)))
  (.seq (.reg F50r3 none)
  (.ret)))⟩
theorem F50_ok : cFunc Try.prog 50 = some F50 := by kernel_rfl
theorem F50_call : callable Try.prog 50 = true := by kernel_rfl
/-- (ship.skipper).does -/
def F58r0 : List AOper := [oo 4 (.mov (.c (.v .nilFunc))),
 oo 5 (.mov (.c (.v (.bool false))))]
def F58r1 : List AOper := [oo 7 (.mov (.s 0)),
 oo 8 (.mkb 73 [.s 7]),
 oo 9 (.mov (.s 0)),
 oo 10 (.mkb 74 [.s 9]),
 oo 11 (.mov (.s 0)),
 oo 12 (.mkb 75 [.s 11]),
 oo 13 (.mov (.s 0)),
 oo 14 (.mkb 76 [.s 13]),
 oo 15 (.mov (.s 0)),
 oo 16 (.mkb 77 [.s 15]),
 oo 17 (.mov (.s 0)),
 oo 18 (.mkb 78 [.s 17]),
 oo 19 (.mov (.s 0)),
 oo 20 (.mkb 79 [.s 19]),
 oo 21 (.mov (.s 0)),
 oo 22 (.mkb 80 [.s 21]),
 oo 23 (.agg [.v .nilFunc, .v .nilFunc, .v .nilFunc, .v .nilFunc, .v .nilFunc, .v .nilFunc, .v .nilFunc, .v .nilFunc, .v .nilFunc] [(1, (1, .s 8)), (2, (1, .s 10)), (3, (1, .s 12)), (4, (1, .s 14)), (5, (1, .s 16)), (6, (1, .s 18)), (7, (1, .s 20)), (8, (1, .s 22))]),
 oo 6 (.new [.v .nilFunc, .v .nilFunc, .v .nilFunc, .v .nilFunc, .v .nilFunc, .v .nilFunc, .v .nilFunc, .v .nilFunc, .v .nilFunc]),
 ow (.store 9 (.s 6) (.s 23))]
def F58r2 : List AOper := [oo 24 (.mov (.s 1)),
 oo 25 (.call (.c (.fn 31 [])) [.s 24, .c (.v (.int .i64 1)), .c (.v (.int .i64 8))]),
 oo 26 (.un .not (.s 25))]
def F58r3 : List AOper := [oo 4 (.mov (.c (.v .nilFunc))),
 oo 5 (.mov (.c (.v (.bool false))))]
def F58r4 : List AOper := [oo 27 (.mov (.s 1)),
 oo 28 (.iap 1 9 (.s 6) (.s 27)),
 oo 29 (.load none (.s 28)),
 oo 30 (.mov (.s 1)),
 oo 31 (.bin false .neq (.s 30) (.c (.v (.int .i64 2)))),
 oo 32 (.mov (.s 31)),
 ot 33 (.mov (.s 1)) 32,
 ot 34 (.bin false .lss (.s 33) (.c (.v (.int .i64 7)))) 32,
 oo 35 (.pick (.s 32) (.s 34) (.c (.v (.bool false)))),
 oo 4 (.mov (.s 29)),
 oo 5 (.mov (.s 35))]
def F58 : AFn := ⟨36, [.tmp 4, .tmp 5],
  .seq (.reg F58r0 none)
  (.seq (.reg F58r1 none)
  (.seq (.seq (.reg F58r2 none)
  (.cond (.s 26)
    (.seq (.reg F58r3 none)
    (.ret))
    (.skip)))
  (.seq (.reg F58r4 none)
  (.ret))))⟩
theorem F58_ok : cFunc Try.prog 58 = some F58 := by kernel_rfl
theorem F58_call : callable Try.prog 58 = true := by kernel_rfl
/-- slices.IndexFunc[[]string,string] -/
def F59r0 : List AOper := [oo 4 (.mov (.c (.v (.int .i64 0))))]
def F59r1 : List AOper := [oo 6 (.mov (.s 0)),
 oo 7 (.len false (.s 6)),
 oo 8 (.mov (.c (.v (.int .i64 0))))]
def F59r2 : List AOper := [oo 9 (.bin false .lss (.s 8) (.s 7))]
def F59r3 : List AOper := [oo 10 (.mov (.s 8)),
 oo 5 (.mov (.s 10))]
def F59r4 : List AOper := [oo 11 (.mov (.s 1)),
 oo 12 (.mov (.s 0)),
 oo 13 (.mov (.s 5)),
 oo 14 (.iad 1 (.s 12) (.s 13)),
 oo 15 (.load none (.s 14)),
 oo 16 (.call (.s 11) [.s 15])]
def F59r5 : List AOper := [oo 17 (.mov (.s 5)),
 oo 4 (.mov (.s 17))]
def F59r6 : List AOper := [oo 18 (.bin false .add (.s 8) (.c (.v (.int .i64 1)))),
 oo 8 (.mov (.s 18))]
def F59r7 : List AOper := [oo 4 (.mov (.c (.v (.int .i64 (-1)))))]
def F59 : AFn := ⟨19, [.tmp 4],
  .seq (.reg F59r0 none)
  (.seq (.seq (.reg F59r1 none)
  (.block 0 (
    .loop (
      .seq (.reg F59r2 none)
      (.seq (.cond (.s 9)
        (.skip)
        (.exit 0))
      (.seq (.block 1 (
        .seq (.reg F59r3 none)
        (.seq (.reg F59r4 none)
        (.cond (.s 16)
          (.seq (.reg F59r5 none)
          (.ret))
          (.skip)))))
      (.reg F59r6 none)))))))
  (.seq (.reg F59r7 none)
  (.ret)))⟩
theorem F59_ok : cFunc Try.prog 59 = some F59 := by kernel_rfl
theorem F59_call : callable Try.prog 59 = true := by kernel_rfl
/-- slices.IndexFunc[[]int,int] -/
def F60r0 : List AOper := [oo 4 (.mov (.c (.v (.int .i64 0))))]
def F60r1 : List AOper := [oo 6 (.mov (.s 0)),
 oo 7 (.len false (.s 6)),
 oo 8 (.mov (.c (.v (.int .i64 0))))]
def F60r2 : List AOper := [oo 9 (.bin false .lss (.s 8) (.s 7))]
def F60r3 : List AOper := [oo 10 (.mov (.s 8)),
 oo 5 (.mov (.s 10))]
def F60r4 : List AOper := [oo 11 (.mov (.s 1)),
 oo 12 (.mov (.s 0)),
 oo 13 (.mov (.s 5)),
 oo 14 (.iad 1 (.s 12) (.s 13)),
 oo 15 (.load none (.s 14)),
 oo 16 (.call (.s 11) [.s 15])]
def F60r5 : List AOper := [oo 17 (.mov (.s 5)),
 oo 4 (.mov (.s 17))]
def F60r6 : List AOper := [oo 18 (.bin false .add (.s 8) (.c (.v (.int .i64 1)))),
 oo 8 (.mov (.s 18))]
def F60r7 : List AOper := [oo 4 (.mov (.c (.v (.int .i64 (-1)))))]
def F60 : AFn := ⟨19, [.tmp 4],
  .seq (.reg F60r0 none)
  (.seq (.seq (.reg F60r1 none)
  (.block 0 (
    .loop (
      .seq (.reg F60r2 none)
      (.seq (.cond (.s 9)
        (.skip)
        (.exit 0))
      (.seq (.block 1 (
        .seq (.reg F60r3 none)
        (.seq (.reg F60r4 none)
        (.cond (.s 16)
          (.seq (.reg F60r5 none)
          (.ret))
          (.skip)))))
      (.reg F60r6 none)))))))
  (.seq (.reg F60r7 none)
  (.ret)))⟩
theorem F60_ok : cFunc Try.prog 60 = some F60 := by kernel_rfl
theorem F60_call : callable Try.prog 60 = true := by kernel_rfl
/-- slices.Clone[[]string,string] -/
def F61r0 : List AOper := [oo 2 (.mov (.c .emp))]
def F61r1 : List AOper := [oo 3 (.mov (.s 0)),
 oo 4 (.isn .sl false (.s 3))]
def F61r2 : List AOper := [oo 2 (.mov (.c .emp))]
def F61r3 : List AOper := [oo 5 (.bsl 1 0 [.v (.string ⟨#[]⟩)] []),
 oo 6 (.mov (.s 0)),
 oo 7 (.app 1 16 (.s 5) (.s 6)),
 oo 2 (.mov (.s 7))]
def F61 : AFn := ⟨8, [.tmp 2],
  .seq (.reg F61r0 none)
  (.seq (.seq (.reg F61r1 none)
  (.cond (.s 4)
    (.seq (.reg F61r2 none)
    (.ret))
    (.skip)))
  (.seq (.reg F61r3 none)
  (.ret)))⟩
theorem F61_ok : cFunc Try.prog 61 = some F61 := by kernel_rfl
theorem F61_call : callable Try.prog 61 = true := by kernel_rfl
/-- slices.Clone[[]api.Record,api.Record] -/
def F62r0 : List AOper := [oo 2 (.mov (.c .emp))]
def F62r1 : List AOper := [oo 3 (.mov (.s 0)),
 oo 4 (.isn .sl false (.s 3))]
def F62r2 : List AOper := [oo 2 (.mov (.c .emp))]
def F62r3 : List AOper := [oo 5 (.bsl 2 0 [.v (.int .i64 0), .v (.string ⟨#[]⟩)] []),
 oo 6 (.mov (.s 0)),
 oo 7 (.app 2 24 (.s 5) (.s 6)),
 oo 2 (.mov (.s 7))]
def F62 : AFn := ⟨8, [.tmp 2],
  .seq (.reg F62r0 none)
  (.seq (.seq (.reg F62r1 none)
  (.cond (.s 4)
    (.seq (.reg F62r2 none)
    (.ret))
    (.skip)))
  (.seq (.reg F62r3 none)
  (.ret)))⟩
theorem F62_ok : cFunc Try.prog 62 = some F62 := by kernel_rfl
theorem F62_call : callable Try.prog 62 = true := by kernel_rfl
/-- (ship.skipper).write -/
def F73r0 : List AOper := [oo 3 (.box 3 (.s 1)),
 oo 4 (.mov (.c (.v (.int .i64 0))))]
def F73r1 : List AOper := [oo 6 (.fad 1 (.s 3)),
 oo 7 (.load none (.s 6)),
 oo 8 (.mov (.s 0)),
 oo 9 (.nilc (.s 8)),
 oo 10 (.fad 0 (.s 9)),
 oo 11 (.fad 0 (.s 10)),
 oo 12 (.load none (.s 11)),
 oo 13 (.len false (.s 12)),
 oo 14 (.bin false .sub (.s 13) (.c (.v (.int .i64 1)))),
 oo 15 (.call (.c (.fn 31 [])) [.s 7, .c (.v (.int .i64 0)), .s 14]),
 oo 16 (.un .not (.s 15)),
 oo 5 (.mov (.s 16))]
def F73r2 : List AOper := [oo 4 (.mov (.c (.v (.int .i64 3))))]
def F73r3 : List AOper := [oo 18 (.fad 2 (.s 3)),
 oo 19 (.load none (.s 18)),
 oo 20 (.call (.c (.fn 37 [])) [.s 19]),
 oo 17 (.mov (.s 20))]
def F73r4 : List AOper := [oo 21 (.mov (.s 0)),
 oo 22 (.nilc (.s 21)),
 oo 23 (.fad 0 (.s 22)),
 oo 24 (.fad 2 (.s 23)),
 oo 25 (.load none (.s 24)),
 oo 26 (.len false (.s 25)),
 oo 27 (.bin false .eql (.s 26) (.c (.v (.int .i64 60)))),
 oo 17 (.mov (.s 27))]
def F73r5 : List AOper := [oo 4 (.mov (.c (.v (.int .i64 2))))]
def F73r6 : List AOper := [oo 28 (.mov (.s 0)),
 oo 29 (.nilc (.s 28)),
 oo 30 (.fad 0 (.s 29)),
 oo 31 (.fad 0 (.s 30)),
 oo 32 (.load none (.s 31)),
 oo 33 (.fad 1 (.s 3)),
 oo 34 (.load none (.s 33)),
 oo 35 (.fad 2 (.s 3)),
 oo 36 (.load none (.s 35)),
 oo 37 (.iad 1 (.s 32) (.s 34)),
 ow (.store 1 (.s 37) (.s 36))]
def F73r7 : List AOper := [oo 38 (.mov (.s 0)),
 oo 39 (.mov (.s 0)),
 oo 40 (.nilc (.s 39)),
 oo 41 (.fad 0 (.s 40)),
 oo 42 (.fad 2 (.s 41)),
 oo 43 (.load none (.s 42)),
 oo 44 (.fad 1 (.s 3)),
 oo 45 (.load none (.s 44)),
 oo 46 (.fad 2 (.s 3)),
 oo 47 (.load none (.s 46)),
 oo 48 (.agg [.v (.int .i64 0), .v (.string ⟨#[]⟩)] [(0, (1, .s 45)), (1, (1, .s 47))]),
 oo 49 (.bsl 2 1 [.v (.int .i64 0), .v (.string ⟨#[]⟩)] [(0, .s 48)]),
 oo 50 (.app 2 24 (.s 43) (.s 49)),
 oo 51 (.nilc (.s 38)),
 oo 52 (.fad 0 (.s 51)),
 oo 53 (.fad 2 (.s 52)),
 ow (.store 1 (.s 53) (.s 50))]
def F73r8 : List AOper := [oo 4 (.mov (.c (.v (.int .i64 0))))]
def F73 : AFn := ⟨54, [.tmp 4],
  .seq (.reg F73r0 none)
  (.seq (.block 0 (
    .seq (.reg F73r1 (some [[], [0], [], [2], [3, 2], [4, 3, 2], [5, 4, 3, 2], [6, 5, 4, 3, 2], [7, 6, 5, 4, 3, 2], [1, 8, 0, 7, 6, 5, 4, 3, 2], [9, 1, 8, 0, 7, 6, 5, 4, 3, 2], [10, 9, 1, 8, 0, 7, 6, 5, 4, 3, 2]]))
    (.cond (.s 5)
      (.seq (.reg F73r2 none)
      (.ret))
      (.seq (.seq (.reg F73r3 none)
      (.cond (.s 17)
        (.skip)
        (.reg F73r4 none)))
      (.cond (.s 17)
        (.seq (.reg F73r5 none)
        (.ret))
        (.skip))))))
  (.seq (.reg F73r6 (some [[], [0], [1, 0], [2, 1, 0], [3, 2, 1, 0], [], [5], [], [7], [4, 6, 0, 1, 2, 3, 5, 7, 8], [9, 8, 0, 1, 2, 3, 4, 5, 6, 7]]))
  (.seq (.reg F73r7 (some [[], [], [1], [2, 1], [3, 2, 1], [4, 3, 2, 1], [], [6], [], [8], [7, 9, 6, 8], [10, 7, 9, 6, 8], [5, 11, 4, 3, 2, 1, 10, 7, 9, 6, 8], [0, 1, 2, 3, 4, 5, 6, 7, 8, 9, 10, 11, 12], [13, 0, 1, 2, 3, 4, 5, 6, 7, 8, 9, 10, 11, 12], [14, 0, 1, 2, 3, 4, 5, 6, 7, 8, 9, 10, 11, 12, 13], [15, 12, 0, 1, 2, 3, 4, 5, 6, 7, 8, 9, 10, 11, 14, 13]]))
  (.seq (.reg F73r8 none)
  (.ret)))))⟩
theorem F73_ok : cFunc Try.prog 73 = some F73 := by kernel_rfl
theorem F73_call : callable Try.prog 73 = true := by kernel_rfl
/-- (ship.skipper).send -/
def F74r0 : List AOper := [oo 3 (.box 3 (.s 1)),
 oo 4 (.mov (.c (.v (.int .i64 0))))]
def F74r1 : List AOper := [oo 5 (.mov (.s 0)),
 oo 6 (.nilc (.s 5)),
 oo 7 (.fad 0 (.s 6)),
 oo 8 (.fad 3 (.s 7)),
 oo 9 (.load none (.s 8)),
 oo 10 (.mov (.s 0)),
 oo 11 (.nilc (.s 10)),
 oo 12 (.fad 0 (.s 11)),
 oo 13 (.fad 2 (.s 12)),
 oo 14 (.load none (.s 13)),
 oo 15 (.len false (.s 14)),
 oo 16 (.bin false .eql (.s 9) (.s 15))]
def F74r2 : List AOper := [oo 4 (.mov (.c (.v (.int .i64 5))))]
def F74r3 : List AOper := [oo 17 (.mov (.s 0)),
 oo 18 (.nilc (.s 17)),
 oo 19 (.fad 0 (.s 18)),
 oo 20 (.fad 3 (.s 19)),
 oo 21 (.load none (.s 20)),
 oo 22 (.bin false .add (.s 21) (.c (.v (.int .i64 1)))),
 oo 23 (.nilc (.s 17)),
 oo 24 (.fad 0 (.s 23)),
 oo 25 (.fad 3 (.s 24)),
 ow (.store 1 (.s 25) (.s 22))]
def F74r4 : List AOper := [oo 26 (.mov (.s 0)),
 oo 27 (.nilc (.s 26)),
 oo 28 (.fad 0 (.s 27)),
 oo 29 (.fad 6 (.s 28)),
 oo 30 (.mov (.s 0)),
 oo 31 (.nilc (.s 30)),
 oo 32 (.fad 0 (.s 31)),
 oo 33 (.fad 3 (.s 32)),
 oo 34 (.load none (.s 33)),
 oo 35 (.call (.c (.fn 82 [])) [.s 29, .s 34]),
 oo 4 (.mov (.s 35))]
def F74 : AFn := ⟨36, [.tmp 4],
  .seq (.reg F74r0 none)
  (.seq (.seq (.reg F74r1 (some [[], [0], [1, 0], [2, 1, 0], [3, 2, 1, 0], [], [5], [6, 5], [7, 6, 5], [8, 7, 6, 5], [9, 8, 7, 6, 5], [4, 10, 3, 2, 1, 0, 9, 8, 7, 6, 5]]))
  (.cond (.s 16)
    (.seq (.reg F74r2 none)
    (.ret))
    (.skip)))
  (.seq (.reg F74r3 none)
  (.seq (.reg F74r4 (some [[], [0], [1, 0], [2, 1, 0], [], [4], [5, 4], [6, 5, 4], [7, 6, 5, 4], [3, 8, 2, 1, 0, 7, 6, 5, 4], [9, 0, 1, 2, 3, 4, 5, 6, 7, 8]]))
  (.ret))))⟩
theorem F74_ok : cFunc Try.prog 74 = some F74 := by kernel_rfl
theorem F74_call : callable Try.prog 74 = true := by kernel_rfl
/-- (ship.skipper).pass -/
def F75r0 : List AOper := [oo 3 (.box 3 (.s 1)),
 oo 4 (.mov (.c (.v (.int .i64 0))))]
def F75r1 : List AOper := [oo 9 (.mov (.s 0)),
 oo 10 (.nilc (.s 9)),
 oo 11 (.fad 0 (.s 10)),
 oo 12 (.fad 6 (.s 11)),
 oo 13 (.fad 1 (.s 3)),
 oo 14 (.load none (.s 13)),
 oo 15 (.call (.c (.fn 83 [])) [.s 12, .s 14]),
 oo 8 (.mov (.s 15)),
 oo 16 (.ext 0 (.s 8)),
 oo 17 (.ext 1 (.s 8)),
 oo 5 (.mov (.s 16)),
 oo 6 (.mov (.s 17))]
def F75r2 : List AOper := [oo 18 (.mov (.s 6)),
 oo 19 (.bin false .neq (.s 18) (.c (.v (.int .i64 0))))]
def F75r3 : List AOper := [oo 20 (.mov (.s 6)),
 oo 4 (.mov (.s 20))]
def F75r4 : List AOper := [oo 21 (.mov (.s 5)),
 oo 22 (.mov (.s 0)),
 oo 23 (.nilc (.s 22)),
 oo 24 (.fad 0 (.s 23)),
 oo 25 (.fad 4 (.s 24)),
 oo 26 (.load none (.s 25)),
 oo 27 (.bin false .add (.s 26) (.c (.v (.int .i64 1)))),
 oo 28 (.bin false .eql (.s 21) (.s 27))]
def F75r5 : List AOper := [oo 29 (.mov (.s 0)),
 oo 30 (.nilc (.s 29)),
 oo 31 (.fad 0 (.s 30)),
 oo 32 (.fad 2 (.s 31)),
 oo 33 (.load none (.s 32)),
 oo 34 (.mov (.s 5)),
 oo 35 (.bin false .sub (.s 34) (.c (.v (.int .i64 1)))),
 oo 36 (.iad 2 (.s 33) (.s 35)),
 oo 37 (.load (some 2) (.s 36)),
 oo 7 (.new [.v (.int .i64 0), .v (.string ⟨#[]⟩)]),
 ow (.store 2 (.s 7) (.s 37))]
def F75r6 : List AOper := [oo 38 (.mov (.s 0)),
 oo 39 (.nilc (.s 38)),
 oo 40 (.fad 0 (.s 39)),
 oo 41 (.fad 1 (.s 40)),
 oo 42 (.load none (.s 41)),
 oo 43 (.fad 0 (.s 7)),
 oo 44 (.load none (.s 43)),
 oo 45 (.fad 1 (.s 7)),
 oo 46 (.load none (.s 45)),
 oo 47 (.iad 1 (.s 42) (.s 44)),
 ow (.store 1 (.s 47) (.s 46))]
def F75r7 : List AOper := [oo 48 (.mov (.s 0)),
 oo 49 (.mov (.s 5)),
 oo 50 (.nilc (.s 48)),
 oo 51 (.fad 0 (.s 50)),
 oo 52 (.fad 4 (.s 51)),
 ow (.store 1 (.s 52) (.s 49))]
def F75r8 : List AOper := [oo 53 (.mov (.s 0)),
 oo 54 (.nilc (.s 53)),
 oo 55 (.fad 0 (.s 54)),
 oo 56 (.fad 7 (.s 55)),
 oo 57 (.mov (.s 0)),
 oo 58 (.nilc (.s 57)),
 oo 59 (.fad 0 (.s 58)),
 oo 60 (.fad 4 (.s 59)),
 oo 61 (.load none (.s 60)),
 oo 62 (.call (.c (.fn 82 [])) [.s 56, .s 61]),
 oo 4 (.mov (.s 62))]
def F75 : AFn := ⟨63, [.tmp 4],
  .seq (.reg F75r0 none)
  (.seq (.reg F75r1 (some [[], [0], [1, 0], [2, 1, 0], [], [4], [3, 5, 2, 1, 0, 4], [6, 3, 5, 2, 1, 0, 4], [7, 6, 3, 5, 2, 1, 0, 4], [7, 6, 3, 5, 2, 1, 0, 4], [8, 6, 0, 1, 2, 3, 4, 5, 7], [9, 10, 0, 1, 2, 3, 4, 5, 6, 7, 8]]))
  (.seq (.seq (.reg F75r2 none)
  (.cond (.s 19)
    (.seq (.reg F75r3 none)
    (.ret))
    (.skip)))
  (.seq (.seq (.reg F75r4 none)
  (.cond (.s 28)
    (.seq (.reg F75r5 none)
    (.seq (.reg F75r6 (some [[], [0], [1, 0], [2, 1, 0], [3, 2, 1, 0], [], [5], [], [7], [4, 6, 0, 1, 2, 3, 5, 7, 8], [9, 8, 0, 1, 2, 3, 4, 5, 6, 7]]))
    (.reg F75r7 none)))
    (.skip)))
  (.seq (.reg F75r8 (some [[], [0], [1, 0], [2, 1, 0], [], [4], [5, 4], [6, 5, 4], [7, 6, 5, 4], [3, 8, 2, 1, 0, 7, 6, 5, 4], [9, 0, 1, 2, 3, 4, 5, 6, 7, 8]]))
  (.ret)))))⟩
theorem F75_ok : cFunc Try.prog 75 = some F75 := by kernel_rfl
theorem F75_call : callable Try.prog 75 = true := by kernel_rfl
/-- (ship.skipper).lose -/
def F76r0 : List AOper := [oo 3 (.box 3 (.s 1)),
 oo 4 (.mov (.c (.v (.int .i64 0))))]
def F76r1 : List AOper := [oo 8 (.mov (.s 0)),
 oo 9 (.nilc (.s 8)),
 oo 10 (.fad 0 (.s 9)),
 oo 11 (.fad 6 (.s 10)),
 oo 12 (.fad 1 (.s 3)),
 oo 13 (.load none (.s 12)),
 oo 14 (.call (.c (.fn 83 [])) [.s 11, .s 13]),
 oo 7 (.mov (.s 14)),
 oo 15 (.ext 0 (.s 7)),
 oo 16 (.ext 1 (.s 7)),
 oo 5 (.mov (.s 15)),
 oo 6 (.mov (.s 16))]
def F76r2 : List AOper := [oo 17 (.mov (.s 6)),
 oo 4 (.mov (.s 17))]
def F76 : AFn := ⟨18, [.tmp 4],
  .seq (.reg F76r0 none)
  (.seq (.reg F76r1 (some [[], [0], [1, 0], [2, 1, 0], [], [4], [3, 5, 2, 1, 0, 4], [6, 3, 5, 2, 1, 0, 4], [7, 6, 3, 5, 2, 1, 0, 4], [7, 6, 3, 5, 2, 1, 0, 4], [8, 6, 0, 1, 2, 3, 4, 5, 7], [9, 10, 0, 1, 2, 3, 4, 5, 6, 7, 8]]))
  (.seq (.reg F76r2 none)
  (.ret)))⟩
theorem F76_ok : cFunc Try.prog 76 = some F76 := by kernel_rfl
theorem F76_call : callable Try.prog 76 = true := by kernel_rfl
/-- (ship.skipper).hear -/
def F77r0 : List AOper := [oo 3 (.box 3 (.s 1)),
 oo 4 (.mov (.c (.v (.int .i64 0))))]
def F77r1 : List AOper := [oo 8 (.mov (.s 0)),
 oo 9 (.nilc (.s 8)),
 oo 10 (.fad 0 (.s 9)),
 oo 11 (.fad 7 (.s 10)),
 oo 12 (.fad 1 (.s 3)),
 oo 13 (.load none (.s 12)),
 oo 14 (.call (.c (.fn 83 [])) [.s 11, .s 13]),
 oo 7 (.mov (.s 14)),
 oo 15 (.ext 0 (.s 7)),
 oo 16 (.ext 1 (.s 7)),
 oo 5 (.mov (.s 15)),
 oo 6 (.mov (.s 16))]
def F77r2 : List AOper := [oo 17 (.mov (.s 6)),
 oo 18 (.bin false .eql (.s 17) (.c (.v (.int .i64 0))))]
def F77r3 : List AOper := [oo 19 (.mov (.s 0)),
 oo 20 (.mov (.s 0)),
 oo 21 (.nilc (.s 20)),
 oo 22 (.fad 0 (.s 21)),
 oo 23 (.fad 5 (.s 22)),
 oo 24 (.load none (.s 23)),
 oo 25 (.mov (.s 5)),
 oo 26 (.mnx true (.s 24) (.s 25)),
 oo 27 (.nilc (.s 19)),
 oo 28 (.fad 0 (.s 27)),
 oo 29 (.fad 5 (.s 28)),
 ow (.store 1 (.s 29) (.s 26))]
def F77r4 : List AOper := [oo 30 (.mov (.s 0)),
 oo 31 (.mov (.s 0)),
 oo 32 (.nilc (.s 31)),
 oo 33 (.fad 0 (.s 32)),
 oo 34 (.fad 3 (.s 33)),
 oo 35 (.load none (.s 34)),
 oo 36 (.mov (.s 0)),
 oo 37 (.nilc (.s 36)),
 oo 38 (.fad 0 (.s 37)),
 oo 39 (.fad 5 (.s 38)),
 oo 40 (.load none (.s 39)),
 oo 41 (.mnx true (.s 35) (.s 40)),
 oo 42 (.nilc (.s 30)),
 oo 43 (.fad 0 (.s 42)),
 oo 44 (.fad 3 (.s 43)),
 ow (.store 1 (.s 44) (.s 41))]
def F77r5 : List AOper := [oo 45 (.mov (.s 6)),
 oo 4 (.mov (.s 45))]
def F77 : AFn := ⟨46, [.tmp 4],
  .seq (.reg F77r0 none)
  (.seq (.reg F77r1 (some [[], [0], [1, 0], [2, 1, 0], [], [4], [3, 5, 2, 1, 0, 4], [6, 3, 5, 2, 1, 0, 4], [7, 6, 3, 5, 2, 1, 0, 4], [7, 6, 3, 5, 2, 1, 0, 4], [8, 6, 0, 1, 2, 3, 4, 5, 7], [9, 10, 0, 1, 2, 3, 4, 5, 6, 7, 8]]))
  (.seq (.seq (.reg F77r2 none)
  (.cond (.s 18)
    (.seq (.reg F77r3 none)
    (.reg F77r4 (some [[], [], [1], [2, 1], [3, 2, 1], [4, 3, 2, 1], [], [6], [7, 6], [8, 7, 6], [9, 8, 7, 6], [5, 10, 4, 3, 2, 1, 9, 8, 7, 6], [0, 1, 2, 3, 4, 5, 6, 7, 8, 9, 10, 11], [12, 0, 1, 2, 3, 4, 5, 6, 7, 8, 9, 10, 11], [13, 0, 1, 2, 3, 4, 5, 6, 7, 8, 9, 10, 11, 12], [14, 11, 0, 1, 2, 3, 4, 5, 6, 7, 8, 9, 10, 13, 12]])))
    (.skip)))
  (.seq (.reg F77r5 none)
  (.ret))))⟩
theorem F77_ok : cFunc Try.prog 77 = some F77 := by kernel_rfl
theorem F77_call : callable Try.prog 77 = true := by kernel_rfl
/-- (ship.skipper).drop -/
def F78r0 : List AOper := [oo 3 (.box 3 (.s 1)),
 oo 4 (.mov (.c (.v (.int .i64 0))))]
def F78r1 : List AOper := [oo 8 (.mov (.s 0)),
 oo 9 (.nilc (.s 8)),
 oo 10 (.fad 0 (.s 9)),
 oo 11 (.fad 7 (.s 10)),
 oo 12 (.fad 1 (.s 3)),
 oo 13 (.load none (.s 12)),
 oo 14 (.call (.c (.fn 83 [])) [.s 11, .s 13]),
 oo 7 (.mov (.s 14)),
 oo 15 (.ext 0 (.s 7)),
 oo 16 (.ext 1 (.s 7)),
 oo 5 (.mov (.s 15)),
 oo 6 (.mov (.s 16))]
def F78r2 : List AOper := [oo 17 (.mov (.s 6)),
 oo 4 (.mov (.s 17))]
def F78 : AFn := ⟨18, [.tmp 4],
  .seq (.reg F78r0 none)
  (.seq (.reg F78r1 (some [[], [0], [1, 0], [2, 1, 0], [], [4], [3, 5, 2, 1, 0, 4], [6, 3, 5, 2, 1, 0, 4], [7, 6, 3, 5, 2, 1, 0, 4], [7, 6, 3, 5, 2, 1, 0, 4], [8, 6, 0, 1, 2, 3, 4, 5, 7], [9, 10, 0, 1, 2, 3, 4, 5, 6, 7, 8]]))
  (.seq (.reg F78r2 none)
  (.ret)))⟩
theorem F78_ok : cFunc Try.prog 78 = some F78 := by kernel_rfl
theorem F78_call : callable Try.prog 78 = true := by kernel_rfl
/-- (ship.skipper).again -/
def F79r0 : List AOper := [oo 3 (.box 3 (.s 1)),
 oo 4 (.mov (.c (.v (.int .i64 0))))]
def F79r1 : List AOper := [oo 5 (.mov (.s 0)),
 oo 6 (.mov (.s 0)),
 oo 7 (.nilc (.s 6)),
 oo 8 (.fad 0 (.s 7)),
 oo 9 (.fad 5 (.s 8)),
 oo 10 (.load none (.s 9)),
 oo 11 (.nilc (.s 5)),
 oo 12 (.fad 0 (.s 11)),
 oo 13 (.fad 3 (.s 12)),
 ow (.store 1 (.s 13) (.s 10))]
def F79r2 : List AOper := [oo 4 (.mov (.c (.v (.int .i64 0))))]
def F79 : AFn := ⟨14, [.tmp 4],
  .seq (.reg F79r0 none)
  (.seq (.reg F79r1 none)
  (.seq (.reg F79r2 none)
  (.ret)))⟩
theorem F79_ok : cFunc Try.prog 79 = some F79 := by kernel_rfl
theorem F79_call : callable Try.prog 79 = true := by kernel_rfl
/-- (ship.skipper).turn -/
def F80r0 : List AOper := [oo 3 (.box 3 (.s 1)),
 oo 4 (.mov (.c (.v (.int .i64 0))))]
def F80r1 : List AOper := [oo 5 (.mov (.s 0)),
 oo 6 (.mov (.s 0)),
 oo 7 (.nilc (.s 6)),
 oo 8 (.fad 0 (.s 7)),
 oo 9 (.fad 1 (.s 8)),
 oo 10 (.load none (.s 9)),
 oo 11 (.call (.c (.fn 61 [])) [.s 10]),
 oo 12 (.mov (.s 0)),
 oo 13 (.nilc (.s 12)),
 oo 14 (.fad 0 (.s 13)),
 oo 15 (.fad 1 (.s 14)),
 oo 16 (.load none (.s 15)),
 oo 17 (.agg [.emp, .emp, .emp, .v (.int .i64 0), .v (.int .i64 0), .v (.int .i64 0), .emp, .emp] [(0, (1, .s 11)), (1, (1, .s 16))]),
 oo 18 (.nilc (.s 5)),
 oo 19 (.fad 0 (.s 18)),
 ow (.store 8 (.s 19) (.s 17))]
def F80r2 : List AOper := [oo 4 (.mov (.c (.v (.int .i64 0))))]
def F80 : AFn := ⟨20, [.tmp 4],
  .seq (.reg F80r0 none)
  (.seq (.reg F80r1 (some [[], [], [1], [2, 1], [3, 2, 1], [4, 3, 2, 1], [5, 4, 3, 2, 1], [], [7], [8, 7], [9, 8, 7], [10, 9, 8, 7], [6, 11, 5, 4, 3, 2, 1, 10, 9, 8, 7], [0, 1, 2, 3, 4, 5, 6, 7, 8, 9, 10, 11, 12], [13, 0, 1, 2, 3, 4, 5, 6, 7, 8, 9, 10, 11, 12], [14, 12, 6, 0, 1, 2, 3, 4, 5, 7, 8, 9, 10, 11, 13]]))
  (.seq (.reg F80r2 none)
  (.ret)))⟩
theorem F80_ok : cFunc Try.prog 80 = some F80 := by kernel_rfl
theorem F80_call : callable Try.prog 80 = true := by kernel_rfl
/-- ship.put -/
def F82r0 : List AOper := [oo 4 (.mov (.c (.v (.int .i64 0))))]
def F82r1 : List AOper := [oo 5 (.mov (.s 0)),
 oo 6 (.nilc (.s 5)),
 oo 7 (.load none (.s 6)),
 oo 8 (.len false (.s 7)),
 oo 9 (.bin false .eql (.s 8) (.c (.v (.int .i64 60))))]
def F82r2 : List AOper := [oo 4 (.mov (.c (.v (.int .i64 2))))]
def F82r3 : List AOper := [oo 10 (.mov (.s 0)),
 oo 11 (.mov (.s 0)),
 oo 12 (.nilc (.s 11)),
 oo 13 (.load none (.s 12)),
 oo 14 (.mov (.s 1)),
 oo 15 (.bsl 1 1 [.v (.int .i64 0)] [(0, .s 14)]),
 oo 16 (.app 1 8 (.s 13) (.s 15)),
 oo 17 (.nilc (.s 10)),
 ow (.store 1 (.s 17) (.s 16))]
def F82r4 : List AOper := [oo 4 (.mov (.c (.v (.int .i64 0))))]
def F82 : AFn := ⟨18, [.tmp 4],
  .seq (.reg F82r0 none)
  (.seq (.seq (.reg F82r1 none)
  (.cond (.s 9)
    (.seq (.reg F82r2 none)
    (.ret))
    (.skip)))
  (.seq (.reg F82r3 none)
  (.seq (.reg F82r4 none)
  (.ret))))⟩
theorem F82_ok : cFunc Try.prog 82 = some F82 := by kernel_rfl
theorem F82_call : callable Try.prog 82 = true := by kernel_rfl
/-- ship.take -/
def F83r0 : List AOper := [oo 4 (.mov (.c (.v (.int .i64 0)))),
 oo 5 (.mov (.c (.v (.int .i64 0))))]
def F83r1 : List AOper := [oo 7 (.mov (.s 1)),
 oo 8 (.mov (.s 0)),
 oo 9 (.nilc (.s 8)),
 oo 10 (.load none (.s 9)),
 oo 11 (.len false (.s 10)),
 oo 12 (.bin false .sub (.s 11) (.c (.v (.int .i64 1)))),
 oo 13 (.call (.c (.fn 31 [])) [.s 7, .c (.v (.int .i64 0)), .s 12]),
 oo 14 (.un .not (.s 13))]
def F83r2 : List AOper := [oo 4 (.mov (.c (.v (.int .i64 0)))),
 oo 5 (.mov (.c (.v (.int .i64 3))))]
def F83r3 : List AOper := [oo 15 (.mov (.s 0)),
 oo 16 (.nilc (.s 15)),
 oo 17 (.load none (.s 16)),
 oo 18 (.mov (.s 1)),
 oo 19 (.iad 1 (.s 17) (.s 18)),
 oo 20 (.load none (.s 19)),
 oo 6 (.mov (.s 20))]
def F83r4 : List AOper := [oo 21 (.mov (.s 0)),
 oo 22 (.mov (.s 0)),
 oo 23 (.nilc (.s 22)),
 oo 24 (.load none (.s 23)),
 oo 25 (.mov (.s 1)),
 oo 26 (.mov (.s 1)),
 oo 27 (.bin false .add (.s 26) (.c (.v (.int .i64 1)))),
 oo 28 (.call (.c (.fn 84 [])) [.s 24, .s 25, .s 27]),
 oo 29 (.nilc (.s 21)),
 ow (.store 1 (.s 29) (.s 28))]
def F83r5 : List AOper := [oo 30 (.mov (.s 6)),
 oo 4 (.mov (.s 30)),
 oo 5 (.mov (.c (.v (.int .i64 0))))]
def F83 : AFn := ⟨31, [.tmp 4, .tmp 5],
  .seq (.reg F83r0 none)
  (.seq (.seq (.reg F83r1 none)
  (.cond (.s 14)
    (.seq (.reg F83r2 none)
    (.ret))
    (.skip)))
  (.seq (.reg F83r3 none)
  (.seq (.reg F83r4 none)
  (.seq (.reg F83r5 none)
  (.ret)))))⟩
theorem F83_ok : cFunc Try.prog 83 = some F83 := by kernel_rfl
theorem F83_call : callable Try.prog 83 = true := by kernel_rfl
/-- slices.Delete[[]int,int] -/
def F84r0 : List AOper := [oo 6 (.mov (.c .emp))]
def F84r1 : List AOper := [oo 8 (.mov (.s 0)),
 oo 9 (.mov (.s 1)),
 oo 10 (.mov (.s 2)),
 oo 11 (.mov (.s 0)),
 oo 12 (.len false (.s 11)),
 oo 13 (.slc 1 (.s 8) (some (.s 9)) (some (.s 10)) (some (.s 12)))]
def F84r2 : List AOper := [oo 14 (.mov (.s 1)),
 oo 15 (.mov (.s 2)),
 oo 16 (.bin false .eql (.s 14) (.s 15))]
def F84r3 : List AOper := [oo 17 (.mov (.s 0)),
 oo 6 (.mov (.s 17))]
def F84r4 : List AOper := [oo 18 (.mov (.s 0)),
 oo 19 (.len false (.s 18)),
 oo 7 (.mov (.s 19))]
def F84r5 : List AOper := [oo 20 (.mov (.s 0)),
 oo 21 (.mov (.s 1)),
 oo 22 (.slc 1 (.s 20) none (some (.s 21)) none),
 oo 23 (.mov (.s 0)),
 oo 24 (.mov (.s 2)),
 oo 25 (.slc 1 (.s 23) (some (.s 24)) none none),
 oo 26 (.app 1 8 (.s 22) (.s 25)),
 oo 0 (.mov (.s 26))]
def F84r6 : List AOper := [oo 27 (.mov (.s 0)),
 oo 28 (.mov (.s 0)),
 oo 29 (.len false (.s 28)),
 oo 30 (.mov (.s 7)),
 oo 31 (.slc 1 (.s 27) (some (.s 29)) (some (.s 30)) none),
 ow (.clr [.v (.int .i64 0)] (.s 31))]
def F84r7 : List AOper := [oo 32 (.mov (.s 0)),
 oo 6 (.mov (.s 32))]
def F84 : AFn := ⟨33, [.tmp 6],
  .seq (.reg F84r0 none)
  (.seq (.reg F84r1 none)
  (.seq (.seq (.reg F84r2 none)
  (.cond (.s 16)
    (.seq (.reg F84r3 none)
    (.ret))
    (.skip)))
  (.seq (.reg F84r4 none)
  (.seq (.reg F84r5 (some [[], [], [0, 1], [], [], [3, 4], [2, 5, 0, 1, 3, 4], [6, 0, 1, 2, 3, 4, 5]]))
  (.seq (.reg F84r6 none)
  (.seq (.reg F84r7 none)
  (.ret)))))))⟩
theorem F84_ok : cFunc Try.prog 84 = some F84 := by kernel_rfl
theorem F84_call : callable Try.prog 84 = true := by kernel_rfl
end Go.Proofs.Ythdcanpbgaaneaa
