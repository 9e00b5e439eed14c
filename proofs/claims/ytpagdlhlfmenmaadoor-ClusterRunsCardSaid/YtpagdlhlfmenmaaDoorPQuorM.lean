/- Sums over sets of nodes: the heaviest nodes are the fewest. Plain. No condition. -/
import Derived.Test.YtpagdlhlfmenmaaDoorRows
import Derived.Test.YtpagdlhlfmenmaaDoorPAvSide
import Derived.Test.YtpagdlhlfmenmaaDoorPAvFlo
import Derived.Test.YtpagdlhlfmenmaaDoorPAvMap
import Derived.Laws.Bits64
import Derived.Laws.Bits64b
set_option linter.unusedSimpArgs false
set_option linter.unusedVariables false
set_option maxRecDepth 100000
namespace Go.Proofs.YtpagdlhlfmenmaaDoor
abbrev cl (f : Nat) (as_ : List Arg) : AO := .call (.c (.fn f [])) as_
abbrev cd (k : Nat) (y z : AC) : AC := .cond (.s k) y z
abbrev bi (o : BinOp) (a b : Arg) : AO := .bin false o a b
abbrev lq (n k : Nat) : AO := .load (some n) (.s k)
abbrev RL := List AOper
abbrev zi (n : Int) : AV := .v (.int .i64 n)
abbrev zs : AV := .v (.string ⟨#[]⟩)
abbrev ci (n : Int) : Arg := .c (zi n)
abbrev cT : Arg := .c (.v (.bool true))
abbrev cF : Arg := .c (.v (.bool false))
abbrev ld (k : Nat) : AO := .load none (.s k)
abbrev ms (k : Nat) : AO := .mov (.s k)
abbrev fd (a k : Nat) : AO := .fad a (.s k)
abbrev sr (R : List AOper) (b : AC) : AC := .seq (.reg R none) b
abbrev rg (R : List AOper) : AC := .reg R none
def F4r0 : RL := [oo 3 (.box 7 (.s 0)),
 oo 6 (.mov cF)]
def F4r1 : RL := [oo 20 (lq 7 3),
 oo 21 (ms 1),
 oo 22 (cl 20 [.s 20, .s 21]),
 oo 19 (ms 22),
 oo 23 (.ext 0 (.s 19)),
 oo 24 (.ext 1 (.s 19)),
 oo 25 (.ext 2 (.s 19)),
 oo 7 (.new [.emp, zi 0, .emp, .emp, .emp, .emp, zi 0]),
 ow (.store 7 (.s 7) (.s 23)),
 oo 8 (ms 24),
 oo 9 (ms 25)]
def F4r2 : RL := [oo 27 (lq 7 3),
 oo 28 (ms 1),
 oo 29 (cl 21 [.s 27, .s 28]),
 oo 26 (ms 29),
 oo 30 (.ext 0 (.s 26)),
 oo 31 (.ext 1 (.s 26)),
 oo 32 (.ext 2 (.s 26)),
 oo 10 (.new [.emp, zi 0, .emp, .emp, .emp, .emp, zi 0]),
 ow (.store 7 (.s 10) (.s 30)),
 oo 11 (ms 31),
 oo 12 (ms 32)]
def F4r3 : RL := [oo 33 (cl 16 []),
 oo 34 (.un .not (.s 33)),
 oo 35 (ms 34),
 on 36 (lq 7 7) 35,
 on 37 (lq 7 10) 35,
 on 38 (cl 17 [.s 36, .s 37]) 35,
 on 39 (.un .not (.s 38)) 35,
 oo 40 (.pick (.s 35) cT (.s 39)),
 oo 41 (ms 40),
 on 42 (ms 8) 41,
 on 43 (ms 11) 41,
 on 44 (bi .neq (.s 42) (.s 43)) 41,
 oo 45 (.pick (.s 41) cT (.s 44)),
 oo 46 (ms 45),
 on 47 (ms 9) 46,
 on 48 (ms 12) 46,
 on 49 (bi .neq (.s 47) (.s 48)) 46,
 oo 50 (.pick (.s 46) cT (.s 49))]
def F4r4 : RL := [oo 6 (.mov cF)]
def F4r5 : RL := [oo 51 (ms 9),
 oo 52 (bi .neq (.s 51) (ci 0)),
 oo 53 (ms 52),
 on 54 (ms 2) 53,
 on 55 (bi .lss (.s 54) (ci 0)) 53,
 oo 56 (.pick (.s 53) cT (.s 55)),
 oo 57 (ms 56),
 on 58 (ms 2) 57,
 on 59 (ms 1) 57,
 on 60 (.len false (.s 59)) 57,
 on 61 (bi .gtr (.s 58) (.s 60)) 57,
 oo 62 (.pick (.s 57) cT (.s 61))]
def F4r6 : RL := [oo 6 (.mov cT)]
def F4r7 : RL := [oo 64 (lq 7 3),
 oo 65 (ms 1),
 oo 66 (ms 2),
 oo 67 (.slc 3 (.s 65) none (some (.s 66)) none),
 oo 68 (cl 20 [.s 64, .s 67]),
 oo 63 (ms 68),
 oo 69 (.ext 0 (.s 63)),
 oo 70 (.ext 1 (.s 63)),
 oo 71 (.ext 2 (.s 63)),
 oo 13 (.new [.emp, zi 0, .emp, .emp, .emp, .emp, zi 0]),
 ow (.store 7 (.s 13) (.s 69)),
 oo 14 (ms 70),
 oo 15 (ms 71)]
def F4r8 : RL := [oo 73 (lq 7 13),
 oo 74 (ms 1),
 oo 75 (ms 2),
 oo 76 (.slc 3 (.s 74) (some (.s 75)) none none),
 oo 77 (cl 20 [.s 73, .s 76]),
 oo 72 (ms 77),
 oo 78 (.ext 0 (.s 72)),
 oo 79 (.ext 1 (.s 72)),
 oo 80 (.ext 2 (.s 72)),
 oo 16 (.new [.emp, zi 0, .emp, .emp, .emp, .emp, zi 0]),
 ow (.store 7 (.s 16) (.s 78)),
 oo 17 (ms 79),
 oo 18 (ms 80)]
def F4r9 : RL := [oo 81 (ms 15),
 oo 82 (bi .eql (.s 81) (ci 0)),
 oo 83 (ms 82),
 ot 84 (ms 18) 83,
 ot 85 (bi .eql (.s 84) (ci 0)) 83,
 oo 86 (.pick (.s 83) (.s 85) cF),
 oo 87 (ms 86),
 ot 88 (lq 7 16) 87,
 ot 89 (lq 7 7) 87,
 ot 90 (cl 17 [.s 88, .s 89]) 87,
 oo 91 (.pick (.s 87) (.s 90) cF),
 oo 92 (ms 91),
 ot 93 (ms 14) 92,
 ot 94 (ms 17) 92,
 ot 95 (bi .add (.s 93) (.s 94)) 92,
 ot 96 (ms 8) 92,
 ot 97 (bi .eql (.s 95) (.s 96)) 92,
 oo 98 (.pick (.s 92) (.s 97) cF),
 oo 99 (ms 98),
 ot 100 (lq 7 7) 99,
 ot 101 (cl 18 [.s 100]) 99,
 ot 102 (bi .eql (.s 101) (ci 0)) 99,
 oo 103 (.pick (.s 99) (.s 102) cF),
 oo 6 (ms 103)]
def F4 : AFn := ⟨104, [.tmp 6],
  sr F4r0
  (sr F4r1
  (sr F4r2
  (.seq (sr F4r3
  (cd 50
    (sr F4r4
    (.ret))
    (.skip)))
  (.seq (sr F4r5
  (cd 62
    (sr F4r6
    (.ret))
    (.skip)))
  (.seq (.reg F4r7 (some [[], [], [], [1, 2], [0, 3, 1, 2], [4, 0, 3, 1, 2], [5, 4, 0, 3, 1, 2], [5, 4, 0, 3, 1, 2], [5, 4, 0, 3, 1, 2], [], [9, 6, 4, 0, 1, 2, 3, 5], [7, 10, 0, 1, 2, 3, 4, 5, 6, 9], [8, 11, 0, 1, 2, 3, 4, 5, 6, 7, 9, 10]]))
  (.seq (.reg F4r8 (some [[], [], [], [1, 2], [0, 3, 1, 2], [4, 0, 3, 1, 2], [5, 4, 0, 3, 1, 2], [5, 4, 0, 3, 1, 2], [5, 4, 0, 3, 1, 2], [], [9, 6, 4, 0, 1, 2, 3, 5], [7, 10, 0, 1, 2, 3, 4, 5, 6, 9], [8, 11, 0, 1, 2, 3, 4, 5, 6, 7, 9, 10]]))
  (sr F4r9
  (.ret))))))))⟩
theorem F4_ok : cFunc Tryd.prog 4 = some F4 := by kernel_rfl
theorem F4_call : callable Tryd.prog 4 = true := by kernel_rfl
def F12r0 : RL := [oo 1 (.box 2 (.s 0)),
 oo 2 (.new [.emp, zi 0, .emp, .emp, .emp, .emp, zi 0]),
 oo 3 (.mov (ci 0))]
def F12r1 : RL := [oo 6 (fd 0 1),
 oo 7 (ld 6),
 oo 8 (fd 1 1),
 oo 9 (ld 8),
 oo 10 (cl 35 [.s 7, .s 9]),
 oo 4 (ms 10)]
def F12r2 : RL := [oo 11 (ms 4),
 oo 12 (bi .neq (.s 11) (ci 0))]
def F12r3 : RL := [oo 13 (.agg [.emp, zi 0, .emp, .emp, .emp, .emp, zi 0] []),
 oo 14 (ms 4),
 ow (.store 7 (.s 2) (.s 13)),
 oo 3 (ms 14)]
def F12r4 : RL := [oo 15 (fd 0 1),
 oo 16 (ld 15),
 oo 17 (.len false (.s 16)),
 oo 5 (ms 17)]
def F12r5 : RL := [oo 18 (fd 0 1),
 oo 19 (ld 18),
 oo 20 (cl 36 [.s 19]),
 oo 21 (fd 1 1),
 oo 22 (ld 21),
 oo 23 (.agg [.emp, zi 0] [(0, (1, .s 20)), (1, (1, .s 22))]),
 oo 24 (ms 5),
 oo 25 (.msl 3 32 [zi 0, zi 0, zs] (.s 24) (.s 24)),
 oo 26 (.agg [.emp, zi 0, .emp, .emp, .emp, .emp, zi 0] [(0, (2, .s 23)), (2, (1, .s 25))]),
 ow (.store 7 (.s 2) (.s 26)),
 oo 3 (.mov (ci 0))]
def F12 : AFn := ⟨27, [.cell 2 (some 7), .tmp 3],
  sr F12r0
  (.seq (sr F12r1
  (sr F12r2
  (cd 12
    (sr F12r3
    (.ret))
    (.skip))))
  (sr F12r4
  (.seq (.reg F12r5 (some [[], [0], [1, 0], [], [3], [2, 4, 1, 0, 3], [], [6], [5, 7, 2, 4, 1, 0, 3, 6], [8, 2, 0, 1, 3, 4, 5, 6, 7], [9, 0, 1, 2, 3, 4, 5, 6, 7, 8]]))
  (.ret))))⟩
theorem F12_ok : cFunc Tryd.prog 12 = some F12 := by kernel_rfl
theorem F12_call : callable Tryd.prog 12 = true := by kernel_rfl
def F13r0 : RL := [oo 2 (.box 7 (.s 0)),
 oo 3 (.box 3 (.s 1)),
 oo 4 (.new [.emp, zi 0, .emp, .emp, .emp, .emp, zi 0]),
 oo 5 (.mov (ci 0))]
def F13r1 : RL := [oo 7 (lq 7 2),
 oo 8 (cl 18 [.s 7]),
 oo 6 (ms 8)]
def F13r2 : RL := [oo 9 (ms 6),
 oo 10 (bi .neq (.s 9) (ci 0))]
def F13r3 : RL := [oo 11 (.agg [.emp, zi 0, .emp, .emp, .emp, .emp, zi 0] []),
 oo 12 (ms 6),
 ow (.store 7 (.s 4) (.s 11)),
 oo 5 (ms 12)]
def F13r4 : RL := [oo 13 (lq 7 2),
 oo 14 (lq 3 3),
 oo 15 (cl 37 [.s 13, .s 14]),
 oo 16 (.ext 0 (.s 15)),
 oo 17 (.ext 1 (.s 15)),
 ow (.store 7 (.s 4) (.s 16)),
 oo 5 (ms 17)]
def F13 : AFn := ⟨18, [.cell 4 (some 7), .tmp 5],
  sr F13r0
  (.seq (sr F13r1
  (sr F13r2
  (cd 10
    (sr F13r3
    (.ret))
    (.skip))))
  (sr F13r4
  (.ret)))⟩
theorem F13_ok : cFunc Tryd.prog 13 = some F13 := by kernel_rfl
theorem F13_call : callable Tryd.prog 13 = true := by kernel_rfl
def F15r0 : RL := [oo 2 (.box 7 (.s 0)),
 oo 3 (.box 3 (.s 1)),
 oo 4 (.new [.emp, zi 0, .emp, .emp, .emp, .emp, zi 0]),
 oo 5 (.mov (ci 0))]
def F15r1 : RL := [oo 10 (lq 7 2),
 oo 11 (cl 19 [.s 10]),
 oo 6 (ms 11)]
def F15r2 : RL := [oo 12 (ms 6),
 oo 13 (bi .neq (.s 12) (ci 0))]
def F15r3 : RL := [oo 14 (.agg [.emp, zi 0, .emp, .emp, .emp, .emp, zi 0] []),
 oo 15 (ms 6),
 ow (.store 7 (.s 4) (.s 14)),
 oo 5 (ms 15)]
def F15r4 : RL := [oo 16 (fd 6 2),
 oo 17 (ld 16),
 oo 18 (bi .eql (.s 17) (ci 1000000))]
def F15r5 : RL := [oo 19 (.agg [.emp, zi 0, .emp, .emp, .emp, .emp, zi 0] []),
 ow (.store 7 (.s 4) (.s 19)),
 oo 5 (.mov (ci 2))]
def F15r6 : RL := [oo 20 (fd 0 3),
 oo 21 (ld 20),
 oo 22 (bi .lss (.s 21) (ci 1)),
 oo 23 (ms 22),
 on 24 (fd 0 3) 23,
 on 25 (ld 24) 23,
 on 26 (bi .gtr (.s 25) (ci 5)) 23,
 oo 27 (.pick (.s 23) cT (.s 26))]
def F15r7 : RL := [oo 28 (.agg [.emp, zi 0, .emp, .emp, .emp, .emp, zi 0] []),
 ow (.store 7 (.s 4) (.s 28)),
 oo 5 (.mov (ci 7))]
def F15r8 : RL := [oo 29 (fd 0 3),
 oo 30 (ld 29),
 oo 31 (bi .neq (.s 30) (ci 2)),
 oo 32 (ms 31),
 ot 33 (fd 2 3) 32,
 ot 34 (ld 33) 32,
 ot 35 (.len true (.s 34)) 32,
 ot 36 (bi .gtr (.s 35) (ci 0)) 32,
 oo 37 (.pick (.s 32) (.s 36) cF),
 oo 38 (ms 37),
 on 39 (fd 0 3) 38,
 on 40 (ld 39) 38,
 on 41 (bi .leq (.s 40) (ci 2)) 38,
 on 42 (ms 41) 38,
 ot 43 (fd 1 3) 42,
 ot 44 (ld 43) 42,
 ot 45 (bi .neq (.s 44) (ci 0)) 42,
 on 46 (.pick (.s 42) (.s 45) cF) 38,
 oo 47 (.pick (.s 38) cT (.s 46))]
def F15r9 : RL := [oo 48 (.agg [.emp, zi 0, .emp, .emp, .emp, .emp, zi 0] []),
 ow (.store 7 (.s 4) (.s 48)),
 oo 5 (.mov (ci 1))]
def F15r10 : RL := [oo 49 (fd 6 2),
 oo 50 (ld 49),
 oo 51 (bi .add (.s 50) (ci 1)),
 oo 52 (fd 6 2),
 ow (.store 1 (.s 52) (.s 51))]
def F15r11 : RL := [oo 53 (fd 0 3),
 oo 54 (ld 53),
 oo 55 (bi .leq (.s 54) (ci 2))]
def F15r12 : RL := [oo 56 (fd 3 2),
 oo 57 (ld 56),
 oo 58 (.len false (.s 57)),
 oo 59 (bi .eql (.s 58) (ci 31))]
def F15r13 : RL := [oo 60 (.agg [.emp, zi 0, .emp, .emp, .emp, .emp, zi 0] []),
 ow (.store 7 (.s 4) (.s 60)),
 oo 5 (.mov (ci 2))]
def F15r14 : RL := [oo 62 (fd 0 2),
 oo 63 (lq 2 62),
 oo 64 (fd 3 2),
 oo 65 (ld 64),
 oo 66 (.len false (.s 65)),
 oo 67 (fd 0 3),
 oo 68 (ld 67),
 oo 69 (fd 2 3),
 oo 70 (ld 69),
 oo 71 (cl 39 [.s 63, .s 66, .s 68, .s 70]),
 oo 61 (ms 71),
 oo 72 (.ext 0 (.s 61)),
 oo 73 (.ext 1 (.s 61)),
 oo 74 (.ext 2 (.s 61)),
 oo 7 (.new [zi 0, zi 0, zi 0, zs, zi 0, zi 0, zs, .v (.int .u64 0)]),
 ow (.store 8 (.s 7) (.s 72)),
 oo 8 (ms 73),
 oo 9 (ms 74)]
def F15r15 : RL := [oo 75 (ms 9),
 oo 76 (bi .neq (.s 75) (ci 0))]
def F15r16 : RL := [oo 77 (.agg [.emp, zi 0, .emp, .emp, .emp, .emp, zi 0] []),
 oo 78 (ms 9),
 ow (.store 7 (.s 4) (.s 77)),
 oo 5 (ms 78)]
def F15r17 : RL := [oo 79 (.bsl 8 0 [zi 0, zi 0, zi 0, zs, zi 0, zi 0, zs, .v (.int .u64 0)] []),
 oo 80 (fd 3 2),
 oo 81 (ld 80),
 oo 82 (.app 8 80 (.s 79) (.s 81)),
 oo 83 (lq 8 7),
 oo 84 (.bsl 8 1 [zi 0, zi 0, zi 0, zs, zi 0, zi 0, zs, .v (.int .u64 0)] [(0, .s 83)]),
 oo 85 (.app 8 80 (.s 82) (.s 84)),
 oo 86 (fd 3 2),
 ow (.store 1 (.s 86) (.s 85))]
def F15r18 : RL := [oo 87 (.bsl 2 0 [zi 0, zi 0] []),
 oo 88 (fd 4 2),
 oo 89 (ld 88),
 oo 90 (.app 2 16 (.s 87) (.s 89)),
 oo 91 (fd 6 2),
 oo 92 (ld 91),
 oo 93 (.agg [zi 0, zi 0] [(0, (1, .s 92))]),
 oo 94 (.bsl 2 1 [zi 0, zi 0] [(0, .s 93)]),
 oo 95 (.app 2 16 (.s 90) (.s 94)),
 oo 96 (fd 4 2),
 ow (.store 1 (.s 96) (.s 95))]
def F15r19 : RL := [oo 97 (.bsl 6 0 [zi 0, zi 0, zi 0, zi 0, zi 0, zs] []),
 oo 98 (fd 5 2),
 oo 99 (ld 98),
 oo 100 (.app 6 56 (.s 97) (.s 99)),
 oo 101 (ms 8),
 oo 102 (.app 6 56 (.s 100) (.s 101)),
 oo 103 (fd 5 2),
 ow (.store 1 (.s 103) (.s 102))]
def F15r20 : RL := [oo 104 (fd 1 3),
 oo 105 (ld 104),
 oo 106 (bi .lss (.s 105) (ci 0)),
 oo 107 (ms 106),
 on 108 (fd 1 3) 107,
 on 109 (ld 108) 107,
 on 110 (fd 5 2) 107,
 on 111 (ld 110) 107,
 on 112 (.len false (.s 111)) 107,
 on 113 (bi .geq (.s 109) (.s 112)) 107,
 oo 114 (.pick (.s 107) cT (.s 113))]
def F15r21 : RL := [oo 115 (.agg [.emp, zi 0, .emp, .emp, .emp, .emp, zi 0] []),
 ow (.store 7 (.s 4) (.s 115)),
 oo 5 (.mov (ci 3))]
def F15r22 : RL := [oo 116 (fd 0 3),
 oo 117 (ld 116),
 oo 118 (bi .eql (.s 117) (ci 3))]
def F15r23 : RL := [oo 119 (lq 7 2),
 oo 120 (fd 1 3),
 oo 121 (ld 120),
 oo 122 (cl 40 [.s 119, .s 121]),
 ow (.store 7 (.s 2) (.s 122))]
def F15r24 : RL := [oo 123 (fd 0 3),
 oo 124 (ld 123),
 oo 125 (bi .eql (.s 124) (ci 4))]
def F15r25 : RL := [oo 126 (fd 5 2),
 oo 127 (ld 126),
 oo 128 (fd 1 3),
 oo 129 (ld 128),
 oo 130 (cl 41 [.s 127, .s 129]),
 oo 131 (fd 5 2),
 ow (.store 1 (.s 131) (.s 130))]
def F15r26 : RL := [oo 132 (fd 0 3),
 oo 133 (ld 132),
 oo 134 (bi .eql (.s 133) (ci 5))]
def F15r27 : RL := [oo 135 (.bsl 6 0 [zi 0, zi 0, zi 0, zi 0, zi 0, zs] []),
 oo 136 (fd 5 2),
 oo 137 (ld 136),
 oo 138 (.app 6 56 (.s 135) (.s 137)),
 oo 139 (fd 5 2),
 oo 140 (ld 139),
 oo 141 (fd 1 3),
 oo 142 (ld 141),
 oo 143 (.iad 6 (.s 140) (.s 142)),
 oo 144 (lq 6 143),
 oo 145 (.bsl 6 1 [zi 0, zi 0, zi 0, zi 0, zi 0, zs] [(0, .s 144)]),
 oo 146 (.app 6 56 (.s 138) (.s 145)),
 oo 147 (fd 5 2),
 ow (.store 1 (.s 147) (.s 146))]
def F15r28 : RL := [oo 148 (fd 5 2),
 oo 149 (ld 148),
 oo 150 (.len false (.s 149)),
 oo 151 (bi .gtr (.s 150) (ci 200))]
def F15r29 : RL := [oo 152 (.agg [.emp, zi 0, .emp, .emp, .emp, .emp, zi 0] []),
 ow (.store 7 (.s 4) (.s 152)),
 oo 5 (.mov (ci 2))]
def F15r30 : RL := [oo 153 (lq 7 2),
 ow (.store 7 (.s 4) (.s 153)),
 oo 5 (.mov (ci 0))]
def F15 : AFn := ⟨154, [.cell 4 (some 7), .tmp 5],
  sr F15r0
  (sr F15r1
  (.seq (sr F15r2
  (cd 13
    (sr F15r3
    (.ret))
    (.skip)))
  (.seq (sr F15r4
  (cd 18
    (sr F15r5
    (.ret))
    (.skip)))
  (.seq (sr F15r6
  (cd 27
    (sr F15r7
    (.ret))
    (.skip)))
  (.seq (sr F15r8
  (cd 47
    (sr F15r9
    (.ret))
    (.skip)))
  (sr F15r10
  (.seq (sr F15r11
  (cd 55
    (.seq (sr F15r12
    (cd 59
      (sr F15r13
      (.ret))
      (.skip)))
    (sr F15r14
    (.seq (sr F15r15
    (cd 76
      (sr F15r16
      (.ret))
      (.skip)))
    (.seq (.reg F15r17 (some [[], [], [1], [0, 2, 1], [], [4], [3, 5, 0, 2, 1, 4], [0, 1, 2, 3, 4, 5, 6], [7, 6, 0, 1, 2, 3, 4, 5]]))
    (.seq (.reg F15r18 (some [[], [], [1], [0, 2, 1], [], [4], [5, 4], [6, 5, 4], [3, 7, 0, 2, 1, 6, 5, 4], [0, 1, 2, 3, 4, 5, 6, 7, 8], [9, 8, 0, 1, 2, 3, 4, 5, 6, 7]]))
    (rg F15r19))))))
    (.seq (sr F15r20
    (cd 114
      (sr F15r21
      (.ret))
      (.skip)))
    (.seq (sr F15r22
    (cd 118
      (rg F15r23)
      (.skip)))
    (.seq (sr F15r24
    (cd 125
      (rg F15r25)
      (.skip)))
    (sr F15r26
    (cd 134
      (.reg F15r27 (some [[], [], [1], [0, 2, 1], [], [4], [], [6], [5, 7, 4, 6], [8, 5, 7, 4, 6], [9, 8, 5, 7, 4, 6], [3, 10, 0, 2, 1, 9, 8, 5, 7, 4, 6], [0, 1, 2, 3, 4, 5, 6, 7, 8, 9, 10, 11], [12, 11, 0, 1, 2, 3, 4, 5, 6, 7, 8, 9, 10]]))
      (.skip))))))))
  (.seq (sr F15r28
  (cd 151
    (sr F15r29
    (.ret))
    (.skip)))
  (sr F15r30
  (.ret))))))))))⟩
theorem F15_ok : cFunc Tryd.prog 15 = some F15 := by kernel_rfl
theorem F15_call : callable Tryd.prog 15 = true := by kernel_rfl
def F16r0 : RL := [oo 0 (.mov cF)]
def F16r1 : RL := [oo 10 (cl 42 []),
 oo 11 (cl 12 [.s 10]),
 oo 9 (ms 11),
 oo 12 (.ext 0 (.s 9)),
 oo 13 (.ext 1 (.s 9)),
 oo 1 (.new [.emp, zi 0, .emp, .emp, .emp, .emp, zi 0]),
 ow (.store 7 (.s 1) (.s 12)),
 oo 2 (ms 13)]
def F16r2 : RL := [oo 14 (.agg [zi 0, zi 0, zs] [(0, (1, ci 2)), (2, (1, .c (.v (.string ⟨#[97]⟩))))]),
 oo 15 (.bsl 3 1 [zi 0, zi 0, zs] [(0, .s 14)]),
 oo 16 (cl 43 [ci 12]),
 oo 17 (.app 3 32 (.s 15) (.s 16)),
 oo 3 (ms 17)]
def F16r3 : RL := [oo 19 (lq 7 1),
 oo 20 (ms 3),
 oo 21 (.agg [zi 0, zi 0, zs] [(0, (1, ci 1))]),
 oo 22 (.bsl 3 1 [zi 0, zi 0, zs] [(0, .s 21)]),
 oo 23 (.app 3 32 (.s 20) (.s 22)),
 oo 24 (cl 43 [ci 12]),
 oo 25 (.app 3 32 (.s 23) (.s 24)),
 oo 26 (cl 20 [.s 19, .s 25]),
 oo 18 (ms 26),
 oo 27 (.ext 0 (.s 18)),
 oo 28 (.ext 1 (.s 18)),
 oo 29 (.ext 2 (.s 18)),
 oo 4 (.new [.emp, zi 0, .emp, .emp, .emp, .emp, zi 0]),
 ow (.store 7 (.s 4) (.s 27)),
 oo 5 (ms 28),
 oo 6 (ms 29)]
def F16r4 : RL := [oo 31 (lq 7 1),
 oo 32 (.agg [zi 0, zi 0, zs] [(0, (1, ci 3))]),
 oo 33 (cl 13 [.s 31, .s 32]),
 oo 30 (ms 33),
 oo 34 (.ext 0 (.s 30)),
 oo 35 (.ext 1 (.s 30)),
 oo 7 (.new [.emp, zi 0, .emp, .emp, .emp, .emp, zi 0]),
 ow (.store 7 (.s 7) (.s 34)),
 oo 8 (ms 35)]
def F16r5 : RL := [oo 36 (ms 2),
 oo 37 (bi .eql (.s 36) (ci 0)),
 oo 38 (ms 37),
 ot 39 (ms 6) 38,
 ot 40 (bi .eql (.s 39) (ci 0)) 38,
 oo 41 (.pick (.s 38) (.s 40) cF),
 oo 42 (ms 41),
 ot 43 (ms 5) 42,
 ot 44 (bi .eql (.s 43) (ci 26)) 42,
 oo 45 (.pick (.s 42) (.s 44) cF),
 oo 46 (ms 45),
 ot 47 (fd 3 4) 46,
 ot 48 (ld 47) 46,
 ot 49 (.len false (.s 48)) 46,
 ot 50 (bi .eql (.s 49) (ci 2)) 46,
 oo 51 (.pick (.s 46) (.s 50) cF),
 oo 52 (ms 51),
 ot 53 (fd 3 4) 52,
 ot 54 (ld 53) 52,
 ot 55 (.iad 8 (.s 54) (ci 0)) 52,
 ot 56 (fd 2 55) 52,
 ot 57 (ld 56) 52,
 ot 58 (bi .eql (.s 57) (ci 3)) 52,
 oo 59 (.pick (.s 52) (.s 58) cF),
 oo 60 (ms 59),
 ot 61 (fd 3 4) 60,
 ot 62 (ld 61) 60,
 ot 63 (.iad 8 (.s 62) (ci 1)) 60,
 ot 64 (fd 4 63) 60,
 ot 65 (lq 3 64) 60,
 ot 66 (cl 29 [ci 1, ci 0, .c (.v (.string ⟨#[97]⟩))]) 60,
 ot 67 (.eqs false 3 [(0, .int), (1, .int), (2, .str)] (.s 65) (.s 66)) 60,
 oo 68 (.pick (.s 60) (.s 67) cF),
 oo 69 (ms 68),
 ot 70 (fd 4 4) 69,
 ot 71 (ld 70) 69,
 ot 72 (.iad 2 (.s 71) (ci 1)) 69,
 ot 73 (fd 1 72) 69,
 ot 74 (ld 73) 69,
 ot 75 (bi .gtr (.s 74) (ci 0)) 69,
 oo 76 (.pick (.s 69) (.s 75) cF),
 oo 77 (ms 76),
 ot 78 (fd 5 4) 77,
 ot 79 (ld 78) 77,
 ot 80 (.len false (.s 79)) 77,
 ot 81 (bi .eql (.s 80) (ci 0)) 77,
 oo 82 (.pick (.s 77) (.s 81) cF),
 oo 83 (ms 82),
 ot 84 (ms 8) 83,
 ot 85 (bi .eql (.s 84) (ci 3)) 83,
 oo 86 (.pick (.s 83) (.s 85) cF),
 oo 87 (ms 86),
 ot 88 (lq 7 1) 87,
 ot 89 (cl 18 [.s 88]) 87,
 ot 90 (bi .eql (.s 89) (ci 0)) 87,
 oo 91 (.pick (.s 87) (.s 90) cF),
 oo 0 (ms 91)]
def F16 : AFn := ⟨92, [.tmp 0],
  sr F16r0
  (sr F16r1
  (sr F16r2
  (.seq (.reg F16r3 (some [[], [], [], [2], [1, 3, 2], [4, 1, 3, 2], [4, 5, 1, 3, 2], [0, 6, 4, 5, 1, 3, 2], [7, 0, 6, 4, 5, 1, 3, 2], [8, 7, 0, 6, 4, 5, 1, 3, 2], [8, 7, 0, 6, 4, 5, 1, 3, 2], [8, 7, 0, 6, 4, 5, 1, 3, 2], [], [12, 9, 7, 0, 1, 2, 3, 4, 5, 6, 8], [10, 13, 0, 1, 2, 3, 4, 5, 6, 7, 8, 9, 12], [11, 14, 0, 1, 2, 3, 4, 5, 6, 7, 8, 9, 10, 12, 13]]))
  (sr F16r4
  (.seq (.reg F16r5 (some [[], [0], [1, 0], [2, 1, 0], [3, 2, 1, 0], [2, 4, 1, 0, 3], [5, 2, 4, 1, 0, 3], [6, 5, 2, 4, 1, 0, 3], [7, 6, 5, 2, 4, 1, 0, 3], [6, 8, 5, 2, 4, 1, 0, 3, 7], [9, 6, 8, 5, 2, 4, 1, 0, 3, 7], [10, 9, 6, 8, 5, 2, 4, 1, 0, 3, 7], [11, 10, 9, 6, 8, 5, 2, 4, 1, 0, 3, 7], [12, 10, 11, 9, 6, 8, 5, 2, 4, 1, 0, 3, 7], [13, 10, 12, 11, 9, 6, 8, 5, 2, 4, 1, 0, 3, 7], [10, 14, 9, 6, 8, 5, 2, 4, 1, 0, 3, 7, 13, 12, 11], [15, 10, 14, 9, 6, 8, 5, 2, 4, 1, 0, 3, 7, 13, 12, 11], [16, 15, 10, 14, 9, 6, 8, 5, 2, 4, 1, 0, 3, 7, 13, 12, 11], [17, 16, 15, 10, 14, 9, 6, 8, 5, 2, 4, 1, 0, 3, 7, 13, 12, 11], [18, 16, 17, 15, 10, 14, 9, 6, 8, 5, 2, 4, 1, 0, 3, 7, 13, 12, 11], [19, 16, 18, 17, 15, 10, 14, 9, 6, 8, 5, 2, 4, 1, 0, 3, 7, 13, 12, 11], [20, 16, 19, 18, 17, 15, 10, 14, 9, 6, 8, 5, 2, 4, 1, 0, 3, 7, 13, 12, 11], [21, 16, 20, 19, 18, 17, 15, 10, 14, 9, 6, 8, 5, 2, 4, 1, 0, 3, 7, 13, 12, 11], [16, 22, 15, 10, 14, 9, 6, 8, 5, 2, 4, 1, 0, 3, 7, 13, 12, 11, 21, 20, 19, 18, 17], [23, 16, 22, 15, 10, 14, 9, 6, 8, 5, 2, 4, 1, 0, 3, 7, 13, 12, 11, 21, 20, 19, 18, 17], [24, 23, 16, 22, 15, 10, 14, 9, 6, 8, 5, 2, 4, 1, 0, 3, 7, 13, 12, 11, 21, 20, 19, 18, 17], [25, 24, 23, 16, 22, 15, 10, 14, 9, 6, 8, 5, 2, 4, 1, 0, 3, 7, 13, 12, 11, 21, 20, 19, 18, 17], [26, 24, 25, 23, 16, 22, 15, 10, 14, 9, 6, 8, 5, 2, 4, 1, 0, 3, 7, 13, 12, 11, 21, 20, 19, 18, 17], [27, 24, 26, 25, 23, 16, 22, 15, 10, 14, 9, 6, 8, 5, 2, 4, 1, 0, 3, 7, 13, 12, 11, 21, 20, 19, 18, 17], [28, 24, 27, 26, 25, 23, 16, 22, 15, 10, 14, 9, 6, 8, 5, 2, 4, 1, 0, 3, 7, 13, 12, 11, 21, 20, 19, 18, 17], [24, 23, 16, 22, 15, 10, 14, 9, 6, 8, 5, 2, 4, 1, 0, 3, 7, 13, 12, 11, 21, 20, 19, 18, 17], [29, 30, 24, 28, 27, 26, 25, 23, 16, 22, 15, 10, 14, 9, 6, 8, 5, 2, 4, 1, 0, 3, 7, 13, 12, 11, 21, 20, 19, 18, 17], [24, 31, 23, 16, 22, 15, 10, 14, 9, 6, 8, 5, 2, 4, 1, 0, 3, 7, 13, 12, 11, 21, 20, 19, 18, 17, 29, 30, 28, 27, 26, 25], [32, 30, 24, 31, 23, 16, 22, 15, 10, 14, 9, 6, 8, 5, 2, 4, 1, 0, 3, 7, 13, 12, 11, 21, 20, 19, 18, 17, 29, 28, 27, 26, 25], [33, 32, 30, 24, 31, 23, 16, 22, 15, 10, 14, 9, 6, 8, 5, 2, 4, 1, 0, 3, 7, 13, 12, 11, 21, 20, 19, 18, 17, 29, 28, 27, 26, 25], [34, 33, 32, 30, 24, 31, 23, 16, 22, 15, 10, 14, 9, 6, 8, 5, 2, 4, 1, 0, 3, 7, 13, 12, 11, 21, 20, 19, 18, 17, 29, 28, 27, 26, 25], [35, 33, 34, 32, 30, 24, 31, 23, 16, 22, 15, 10, 14, 9, 6, 8, 5, 2, 4, 1, 0, 3, 7, 13, 12, 11, 21, 20, 19, 18, 17, 29, 28, 27, 26, 25], [36, 33, 35, 34, 32, 30, 24, 31, 23, 16, 22, 15, 10, 14, 9, 6, 8, 5, 2, 4, 1, 0, 3, 7, 13, 12, 11, 21, 20, 19, 18, 17, 29, 28, 27, 26, 25], [37, 33, 36, 35, 34, 32, 30, 24, 31, 23, 16, 22, 15, 10, 14, 9, 6, 8, 5, 2, 4, 1, 0, 3, 7, 13, 12, 11, 21, 20, 19, 18, 17, 29, 28, 27, 26, 25], [38, 33, 37, 36, 35, 34, 32, 30, 24, 31, 23, 16, 22, 15, 10, 14, 9, 6, 8, 5, 2, 4, 1, 0, 3, 7, 13, 12, 11, 21, 20, 19, 18, 17, 29, 28, 27, 26, 25], [33, 39, 32, 30, 24, 31, 23, 16, 22, 15, 10, 14, 9, 6, 8, 5, 2, 4, 1, 0, 3, 7, 13, 12, 11, 21, 20, 19, 18, 17, 29, 28, 27, 26, 25, 38, 37, 36, 35, 34], [40, 33, 39, 32, 30, 24, 31, 23, 16, 22, 15, 10, 14, 9, 6, 8, 5, 2, 4, 1, 0, 3, 7, 13, 12, 11, 21, 20, 19, 18, 17, 29, 28, 27, 26, 25, 38, 37, 36, 35, 34], [41, 40, 33, 39, 32, 30, 24, 31, 23, 16, 22, 15, 10, 14, 9, 6, 8, 5, 2, 4, 1, 0, 3, 7, 13, 12, 11, 21, 20, 19, 18, 17, 29, 28, 27, 26, 25, 38, 37, 36, 35, 34], [42, 41, 40, 33, 39, 32, 30, 24, 31, 23, 16, 22, 15, 10, 14, 9, 6, 8, 5, 2, 4, 1, 0, 3, 7, 13, 12, 11, 21, 20, 19, 18, 17, 29, 28, 27, 26, 25, 38, 37, 36, 35, 34], [43, 41, 42, 40, 33, 39, 32, 30, 24, 31, 23, 16, 22, 15, 10, 14, 9, 6, 8, 5, 2, 4, 1, 0, 3, 7, 13, 12, 11, 21, 20, 19, 18, 17, 29, 28, 27, 26, 25, 38, 37, 36, 35, 34], [44, 41, 43, 42, 40, 33, 39, 32, 30, 24, 31, 23, 16, 22, 15, 10, 14, 9, 6, 8, 5, 2, 4, 1, 0, 3, 7, 13, 12, 11, 21, 20, 19, 18, 17, 29, 28, 27, 26, 25, 38, 37, 36, 35, 34], [41, 45, 40, 33, 39, 32, 30, 24, 31, 23, 16, 22, 15, 10, 14, 9, 6, 8, 5, 2, 4, 1, 0, 3, 7, 13, 12, 11, 21, 20, 19, 18, 17, 29, 28, 27, 26, 25, 38, 37, 36, 35, 34, 44, 43, 42], [46, 41, 45, 40, 33, 39, 32, 30, 24, 31, 23, 16, 22, 15, 10, 14, 9, 6, 8, 5, 2, 4, 1, 0, 3, 7, 13, 12, 11, 21, 20, 19, 18, 17, 29, 28, 27, 26, 25, 38, 37, 36, 35, 34, 44, 43, 42], [47, 46, 41, 45, 40, 33, 39, 32, 30, 24, 31, 23, 16, 22, 15, 10, 14, 9, 6, 8, 5, 2, 4, 1, 0, 3, 7, 13, 12, 11, 21, 20, 19, 18, 17, 29, 28, 27, 26, 25, 38, 37, 36, 35, 34, 44, 43, 42], [48, 47, 46, 41, 45, 40, 33, 39, 32, 30, 24, 31, 23, 16, 22, 15, 10, 14, 9, 6, 8, 5, 2, 4, 1, 0, 3, 7, 13, 12, 11, 21, 20, 19, 18, 17, 29, 28, 27, 26, 25, 38, 37, 36, 35, 34, 44, 43, 42], [47, 49, 46, 41, 45, 40, 33, 39, 32, 30, 24, 31, 23, 16, 22, 15, 10, 14, 9, 6, 8, 5, 2, 4, 1, 0, 3, 7, 13, 12, 11, 21, 20, 19, 18, 17, 29, 28, 27, 26, 25, 38, 37, 36, 35, 34, 44, 43, 42, 48], [50, 47, 49, 46, 41, 45, 40, 33, 39, 32, 30, 24, 31, 23, 16, 22, 15, 10, 14, 9, 6, 8, 5, 2, 4, 1, 0, 3, 7, 13, 12, 11, 21, 20, 19, 18, 17, 29, 28, 27, 26, 25, 38, 37, 36, 35, 34, 44, 43, 42, 48], [51, 50, 47, 49, 46, 41, 45, 40, 33, 39, 32, 30, 24, 31, 23, 16, 22, 15, 10, 14, 9, 6, 8, 5, 2, 4, 1, 0, 3, 7, 13, 12, 11, 21, 20, 19, 18, 17, 29, 28, 27, 26, 25, 38, 37, 36, 35, 34, 44, 43, 42, 48], [52, 51, 50, 47, 49, 46, 41, 45, 40, 33, 39, 32, 30, 24, 31, 23, 16, 22, 15, 10, 14, 9, 6, 8, 5, 2, 4, 1, 0, 3, 7, 13, 12, 11, 21, 20, 19, 18, 17, 29, 28, 27, 26, 25, 38, 37, 36, 35, 34, 44, 43, 42, 48], [53, 51, 52, 50, 47, 49, 46, 41, 45, 40, 33, 39, 32, 30, 24, 31, 23, 16, 22, 15, 10, 14, 9, 6, 8, 5, 2, 4, 1, 0, 3, 7, 13, 12, 11, 21, 20, 19, 18, 17, 29, 28, 27, 26, 25, 38, 37, 36, 35, 34, 44, 43, 42, 48], [51, 54, 50, 47, 49, 46, 41, 45, 40, 33, 39, 32, 30, 24, 31, 23, 16, 22, 15, 10, 14, 9, 6, 8, 5, 2, 4, 1, 0, 3, 7, 13, 12, 11, 21, 20, 19, 18, 17, 29, 28, 27, 26, 25, 38, 37, 36, 35, 34, 44, 43, 42, 48, 53, 52], [55, 53, 0, 1, 2, 3, 4, 5, 6, 7, 8, 9, 10, 11, 12, 13, 14, 15, 16, 17, 18, 19, 20, 21, 22, 23, 24, 25, 26, 27, 28, 29, 30, 31, 32, 33, 34, 35, 36, 37, 38, 39, 40, 41, 42, 43, 44, 45, 46, 47, 48, 49, 50, 51, 52, 54]]))
  (.ret))))))⟩
theorem F16_ok : cFunc Tryd.prog 16 = some F16 := by kernel_rfl
theorem F16_call : callable Tryd.prog 16 = true := by kernel_rfl
def F17r0 : RL := [oo 2 (.box 7 (.s 0)),
 oo 3 (.box 7 (.s 1)),
 oo 4 (.mov cF)]
def F17r1 : RL := [oo 8 (fd 0 2),
 oo 9 (fd 0 8),
 oo 10 (ld 9),
 oo 11 (fd 0 3),
 oo 12 (fd 0 11),
 oo 13 (ld 12),
 oo 14 (cl 44 [.s 10, .s 13]),
 oo 15 (.un .not (.s 14)),
 oo 16 (ms 15),
 on 17 (fd 0 2) 16,
 on 18 (fd 1 17) 16,
 on 19 (ld 18) 16,
 on 20 (fd 0 3) 16,
 on 21 (fd 1 20) 16,
 on 22 (ld 21) 16,
 on 23 (bi .neq (.s 19) (.s 22)) 16,
 oo 24 (.pick (.s 16) cT (.s 23)),
 oo 25 (ms 24),
 on 26 (fd 2 2) 25,
 on 27 (ld 26) 25,
 on 28 (.len false (.s 27)) 25,
 on 29 (fd 2 3) 25,
 on 30 (ld 29) 25,
 on 31 (.len false (.s 30)) 25,
 on 32 (bi .neq (.s 28) (.s 31)) 25,
 oo 33 (.pick (.s 25) cT (.s 32)),
 oo 34 (ms 33),
 on 35 (fd 3 2) 34,
 on 36 (ld 35) 34,
 on 37 (.len false (.s 36)) 34,
 on 38 (fd 3 3) 34,
 on 39 (ld 38) 34,
 on 40 (.len false (.s 39)) 34,
 on 41 (bi .neq (.s 37) (.s 40)) 34,
 oo 42 (.pick (.s 34) cT (.s 41)),
 oo 43 (ms 42),
 on 44 (fd 4 2) 43,
 on 45 (ld 44) 43,
 on 46 (.len false (.s 45)) 43,
 on 47 (fd 4 3) 43,
 on 48 (ld 47) 43,
 on 49 (.len false (.s 48)) 43,
 on 50 (bi .neq (.s 46) (.s 49)) 43,
 oo 51 (.pick (.s 43) cT (.s 50)),
 oo 52 (ms 51),
 on 53 (fd 5 2) 52,
 on 54 (ld 53) 52,
 on 55 (fd 5 3) 52,
 on 56 (ld 55) 52,
 on 57 (cl 45 [.s 54, .s 56]) 52,
 on 58 (.un .not (.s 57)) 52,
 oo 59 (.pick (.s 52) cT (.s 58)),
 oo 60 (ms 59),
 on 61 (fd 6 2) 60,
 on 62 (ld 61) 60,
 on 63 (fd 6 3) 60,
 on 64 (ld 63) 60,
 on 65 (bi .neq (.s 62) (.s 64)) 60,
 oo 66 (.pick (.s 60) cT (.s 65))]
def F17r2 : RL := [oo 4 (.mov cF)]
def F17r3 : RL := [oo 5 (.mov (ci 0))]
def F17r4 : RL := [oo 67 (ms 5),
 oo 68 (fd 2 2),
 oo 69 (ld 68),
 oo 70 (.len false (.s 69)),
 oo 71 (bi .lss (.s 67) (.s 70))]
def F17r5 : RL := [oo 74 (fd 2 2),
 oo 75 (ld 74),
 oo 76 (ms 5),
 oo 77 (.iad 3 (.s 75) (.s 76)),
 oo 78 (lq 3 77),
 oo 79 (fd 2 3),
 oo 80 (ld 79),
 oo 81 (ms 5),
 oo 82 (.iad 3 (.s 80) (.s 81)),
 oo 83 (lq 3 82),
 oo 84 (.eqs true 3 [(0, .int), (1, .int), (2, .str)] (.s 78) (.s 83))]
def F17r6 : RL := [oo 4 (.mov cF)]
def F17r7 : RL := [oo 72 (ms 5),
 oo 73 (bi .add (.s 72) (ci 1)),
 oo 5 (ms 73)]
def F17r8 : RL := [oo 6 (.mov (ci 0))]
def F17r9 : RL := [oo 85 (ms 6),
 oo 86 (fd 3 2),
 oo 87 (ld 86),
 oo 88 (.len false (.s 87)),
 oo 89 (bi .lss (.s 85) (.s 88))]
def F17r10 : RL := [oo 92 (fd 3 2),
 oo 93 (ld 92),
 oo 94 (ms 6),
 oo 95 (.iad 8 (.s 93) (.s 94)),
 oo 96 (lq 8 95),
 oo 97 (fd 3 3),
 oo 98 (ld 97),
 oo 99 (ms 6),
 oo 100 (.iad 8 (.s 98) (.s 99)),
 oo 101 (lq 8 100),
 oo 102 (.eqs true 8 [(0, .int), (1, .int), (2, .int), (3, .str), (4, .int), (5, .int), (6, .str), (7, .int)] (.s 96) (.s 101))]
def F17r11 : RL := [oo 4 (.mov cF)]
def F17r12 : RL := [oo 90 (ms 6),
 oo 91 (bi .add (.s 90) (ci 1)),
 oo 6 (ms 91)]
def F17r13 : RL := [oo 7 (.mov (ci 0))]
def F17r14 : RL := [oo 103 (ms 7),
 oo 104 (fd 4 2),
 oo 105 (ld 104),
 oo 106 (.len false (.s 105)),
 oo 107 (bi .lss (.s 103) (.s 106))]
def F17r15 : RL := [oo 110 (fd 4 2),
 oo 111 (ld 110),
 oo 112 (ms 7),
 oo 113 (.iad 2 (.s 111) (.s 112)),
 oo 114 (lq 2 113),
 oo 115 (fd 4 3),
 oo 116 (ld 115),
 oo 117 (ms 7),
 oo 118 (.iad 2 (.s 116) (.s 117)),
 oo 119 (lq 2 118),
 oo 120 (.eqs true 2 [(0, .int), (1, .int)] (.s 114) (.s 119))]
def F17r16 : RL := [oo 4 (.mov cF)]
def F17r17 : RL := [oo 108 (ms 7),
 oo 109 (bi .add (.s 108) (ci 1)),
 oo 7 (ms 109)]
def F17r18 : RL := [oo 4 (.mov cT)]
def F17 : AFn := ⟨121, [.tmp 4],
  sr F17r0
  (.seq (sr F17r1
  (cd 66
    (sr F17r2
    (.ret))
    (.skip)))
  (.seq (sr F17r3
  (.block 0 (
    .loop (
      .seq (sr F17r4
      (cd 71
        (.skip)
        (.exit 0)))
      (.seq (.block 1 (
        .seq (.reg F17r5 (some [[], [0], [], [1, 2, 0], [3, 1, 2, 0], [], [5], [], [6, 7, 5], [8, 6, 7, 5], [4, 9, 3, 1, 2, 0, 8, 6, 7, 5]]))
        (cd 84
          (sr F17r6
          (.ret))
          (.skip))))
      (rg F17r7))))))
  (.seq (sr F17r8
  (.block 2 (
    .loop (
      .seq (sr F17r9
      (cd 89
        (.skip)
        (.exit 2)))
      (.seq (.block 3 (
        .seq (.reg F17r10 (some [[], [0], [], [1, 2, 0], [3, 1, 2, 0], [], [5], [], [6, 7, 5], [8, 6, 7, 5], [4, 9, 3, 1, 2, 0, 8, 6, 7, 5]]))
        (cd 102
          (sr F17r11
          (.ret))
          (.skip))))
      (rg F17r12))))))
  (.seq (sr F17r13
  (.block 4 (
    .loop (
      .seq (sr F17r14
      (cd 107
        (.skip)
        (.exit 4)))
      (.seq (.block 5 (
        .seq (.reg F17r15 (some [[], [0], [], [1, 2, 0], [3, 1, 2, 0], [], [5], [], [6, 7, 5], [8, 6, 7, 5], [4, 9, 3, 1, 2, 0, 8, 6, 7, 5]]))
        (cd 120
          (sr F17r16
          (.ret))
          (.skip))))
      (rg F17r17))))))
  (sr F17r18
  (.ret))))))⟩
theorem F17_ok : cFunc Tryd.prog 17 = some F17 := by kernel_rfl
theorem F17_call : callable Tryd.prog 17 = true := by kernel_rfl
def F18r0 : RL := [oo 1 (.box 7 (.s 0)),
 oo 2 (.mov (ci 0))]
def F18r1 : RL := [oo 10 (fd 0 1),
 oo 11 (fd 0 10),
 oo 12 (ld 11),
 oo 13 (fd 0 1),
 oo 14 (fd 1 13),
 oo 15 (ld 14),
 oo 16 (cl 35 [.s 12, .s 15]),
 oo 3 (ms 16)]
def F18r2 : RL := [oo 17 (ms 3),
 oo 18 (bi .neq (.s 17) (ci 0))]
def F18r3 : RL := [oo 19 (ms 3),
 oo 2 (ms 19)]
def F18r4 : RL := [oo 20 (fd 2 1),
 oo 21 (ld 20),
 oo 22 (.len false (.s 21)),
 oo 23 (fd 0 1),
 oo 24 (fd 0 23),
 oo 25 (ld 24),
 oo 26 (.len false (.s 25)),
 oo 27 (bi .neq (.s 22) (.s 26))]
def F18r5 : RL := [oo 2 (.mov (ci 1))]
def F18r6 : RL := [oo 28 (fd 2 1),
 oo 29 (ld 28),
 oo 30 (.len false (.s 29)),
 oo 31 (.mov (ci 0))]
def F18r7 : RL := [oo 32 (bi .lss (.s 31) (.s 30))]
def F18r8 : RL := [oo 33 (.iad 3 (.s 29) (.s 31)),
 oo 34 (lq 3 33),
 oo 5 (.new [zi 0, zi 0, zs]),
 ow (.store 3 (.s 5) (.s 34))]
def F18r9 : RL := [oo 35 (lq 3 5),
 oo 36 (cl 46 [.s 35]),
 oo 6 (ms 36)]
def F18r10 : RL := [oo 37 (ms 6),
 oo 38 (bi .neq (.s 37) (ci 0))]
def F18r11 : RL := [oo 39 (ms 6),
 oo 2 (ms 39)]
def F18r12 : RL := [oo 40 (bi .add (.s 31) (ci 1)),
 oo 31 (ms 40)]
def F18r13 : RL := [oo 41 (.agg [.v .nilFunc, .v .nilFunc] [(0, (1, .c (.fn 47 []))), (1, (1, .c (.fn 48 [])))]),
 oo 42 (.mov (ci 0))]
def F18r14 : RL := [oo 43 (bi .lss (.s 42) (ci 2))]
def F18r15 : RL := [oo 44 (.ixa 1 2 none (.s 41) (.s 42)),
 oo 8 (ms 44)]
def F18r16 : RL := [oo 45 (ms 8),
 oo 46 (lq 7 1),
 oo 47 (.call (.s 45) [.s 46]),
 oo 9 (ms 47)]
def F18r17 : RL := [oo 48 (ms 9),
 oo 49 (bi .neq (.s 48) (ci 0))]
def F18r18 : RL := [oo 50 (ms 9),
 oo 2 (ms 50)]
def F18r19 : RL := [oo 51 (bi .add (.s 42) (ci 1)),
 oo 42 (ms 51)]
def F18r20 : RL := [oo 52 (fd 6 1),
 oo 53 (ld 52),
 oo 54 (bi .lss (.s 53) (ci 0)),
 oo 55 (ms 54),
 on 56 (fd 6 1) 55,
 on 57 (ld 56) 55,
 on 58 (bi .gtr (.s 57) (ci 1000000)) 55,
 oo 59 (.pick (.s 55) cT (.s 58))]
def F18r21 : RL := [oo 2 (.mov (ci 3))]
def F18r22 : RL := [oo 2 (.mov (ci 0))]
def F18 : AFn := ⟨60, [.tmp 2],
  sr F18r0
  (.seq (sr F18r1
  (sr F18r2
  (cd 18
    (sr F18r3
    (.ret))
    (.skip))))
  (.seq (sr F18r4
  (cd 27
    (sr F18r5
    (.ret))
    (.skip)))
  (.seq (sr F18r6
  (.block 0 (
    .loop (
      sr F18r7
      (.seq (cd 32
        (.skip)
        (.exit 0))
      (.seq (.block 1 (
        sr F18r8
        (sr F18r9
        (sr F18r10
        (cd 38
          (sr F18r11
          (.ret))
          (.skip))))))
      (rg F18r12)))))))
  (.seq (sr F18r13
  (.block 2 (
    .loop (
      sr F18r14
      (.seq (cd 43
        (.skip)
        (.exit 2))
      (.seq (.block 3 (
        sr F18r15
        (sr F18r16
        (sr F18r17
        (cd 49
          (sr F18r18
          (.ret))
          (.skip))))))
      (rg F18r19)))))))
  (.seq (sr F18r20
  (cd 59
    (sr F18r21
    (.ret))
    (.skip)))
  (sr F18r22
  (.ret)))))))⟩
theorem F18_ok : cFunc Tryd.prog 18 = some F18 := by kernel_rfl
theorem F18_call : callable Tryd.prog 18 = true := by kernel_rfl
def F19r0 : RL := [oo 1 (.box 7 (.s 0)),
 oo 2 (.mov (ci 0))]
def F19r1 : RL := [oo 9 (fd 0 1),
 oo 10 (fd 0 9),
 oo 11 (ld 10),
 oo 12 (fd 0 1),
 oo 13 (fd 1 12),
 oo 14 (ld 13),
 oo 15 (cl 38 [.s 11, .s 14]),
 oo 3 (ms 15)]
def F19r2 : RL := [oo 16 (ms 3),
 oo 17 (bi .neq (.s 16) (ci 0))]
def F19r3 : RL := [oo 18 (ms 3),
 oo 2 (ms 18)]
def F19r4 : RL := [oo 19 (fd 2 1),
 oo 20 (ld 19),
 oo 21 (.len false (.s 20)),
 oo 22 (fd 0 1),
 oo 23 (fd 0 22),
 oo 24 (ld 23),
 oo 25 (.len false (.s 24)),
 oo 26 (bi .neq (.s 21) (.s 25))]
def F19r5 : RL := [oo 2 (.mov (ci 1))]
def F19r6 : RL := [oo 4 (.mov (ci 0))]
def F19r7 : RL := [oo 27 (ms 4),
 oo 28 (fd 2 1),
 oo 29 (ld 28),
 oo 30 (.len false (.s 29)),
 oo 31 (bi .lss (.s 27) (.s 30))]
def F19r8 : RL := [oo 34 (fd 2 1),
 oo 35 (ld 34),
 oo 36 (ms 4),
 oo 37 (.iad 3 (.s 35) (.s 36)),
 oo 38 (lq 3 37),
 oo 39 (cl 49 [.s 38]),
 oo 3 (ms 39)]
def F19r9 : RL := [oo 40 (ms 3),
 oo 41 (bi .neq (.s 40) (ci 0))]
def F19r10 : RL := [oo 42 (ms 3),
 oo 2 (ms 42)]
def F19r11 : RL := [oo 32 (ms 4),
 oo 33 (bi .add (.s 32) (ci 1)),
 oo 4 (ms 33)]
def F19r12 : RL := [oo 43 (fd 3 1),
 oo 44 (ld 43),
 oo 45 (.len false (.s 44)),
 oo 46 (bi .gtr (.s 45) (ci 31))]
def F19r13 : RL := [oo 2 (.mov (ci 2))]
def F19r14 : RL := [oo 47 (fd 3 1),
 oo 48 (ld 47),
 oo 49 (.len false (.s 48)),
 oo 50 (fd 4 1),
 oo 51 (ld 50),
 oo 52 (.len false (.s 51)),
 oo 53 (bi .neq (.s 49) (.s 52))]
def F19r15 : RL := [oo 2 (.mov (ci 1))]
def F19r16 : RL := [oo 5 (.mov (ci 0))]
def F19r17 : RL := [oo 54 (ms 5),
 oo 55 (fd 3 1),
 oo 56 (ld 55),
 oo 57 (.len false (.s 56)),
 oo 58 (bi .lss (.s 54) (.s 57))]
def F19r18 : RL := [oo 61 (fd 3 1),
 oo 62 (ld 61),
 oo 63 (ms 5),
 oo 64 (.iad 8 (.s 62) (.s 63)),
 oo 65 (fd 0 64),
 oo 66 (ld 65),
 oo 67 (ms 5),
 oo 68 (bi .neq (.s 66) (.s 67))]
def F19r19 : RL := [oo 2 (.mov (ci 1))]
def F19r20 : RL := [oo 69 (fd 0 1),
 oo 70 (lq 2 69),
 oo 71 (fd 3 1),
 oo 72 (ld 71),
 oo 73 (ms 5),
 oo 74 (.iad 8 (.s 72) (.s 73)),
 oo 75 (lq 8 74),
 oo 76 (cl 50 [.s 70, .s 75]),
 oo 3 (ms 76)]
def F19r21 : RL := [oo 77 (ms 3),
 oo 78 (bi .neq (.s 77) (ci 0))]
def F19r22 : RL := [oo 79 (ms 3),
 oo 2 (ms 79)]
def F19r23 : RL := [oo 80 (fd 4 1),
 oo 81 (ld 80),
 oo 82 (ms 5),
 oo 83 (.iad 2 (.s 81) (.s 82)),
 oo 84 (lq 2 83),
 oo 6 (.new [zi 0, zi 0]),
 ow (.store 2 (.s 6) (.s 84))]
def F19r24 : RL := [oo 85 (fd 3 1),
 oo 86 (ld 85),
 oo 87 (ms 5),
 oo 88 (.iad 8 (.s 86) (.s 87)),
 oo 89 (fd 2 88),
 oo 90 (ld 89),
 oo 91 (bi .eql (.s 90) (ci 3)),
 oo 7 (ms 91)]
def F19r25 : RL := [oo 92 (fd 0 6),
 oo 93 (ld 92),
 oo 94 (bi .lss (.s 93) (ci 1)),
 oo 95 (ms 94),
 on 96 (fd 0 6) 95,
 on 97 (ld 96) 95,
 on 98 (fd 6 1) 95,
 on 99 (ld 98) 95,
 on 100 (bi .gtr (.s 97) (.s 99)) 95,
 oo 101 (.pick (.s 95) cT (.s 100)),
 oo 102 (ms 101),
 on 103 (ms 7) 102,
 on 104 (.un .not (.s 103)) 102,
 on 105 (ms 104) 102,
 ot 106 (fd 1 6) 105,
 ot 107 (ld 106) 105,
 ot 108 (bi .neq (.s 107) (ci 0)) 105,
 on 109 (.pick (.s 105) (.s 108) cF) 102,
 oo 110 (.pick (.s 102) cT (.s 109)),
 oo 111 (ms 110),
 on 112 (ms 7) 111,
 on 113 (ms 112) 111,
 ot 114 (fd 1 6) 113,
 ot 115 (ld 114) 113,
 ot 116 (fd 0 6) 113,
 ot 117 (ld 116) 113,
 ot 118 (bi .lss (.s 115) (.s 117)) 113,
 ot 119 (ms 118) 113,
 on 120 (fd 1 6) 119,
 on 121 (ld 120) 119,
 on 122 (fd 6 1) 119,
 on 123 (ld 122) 119,
 on 124 (bi .gtr (.s 121) (.s 123)) 119,
 ot 125 (.pick (.s 119) cT (.s 124)) 113,
 on 126 (.pick (.s 113) (.s 125) cF) 111,
 oo 127 (.pick (.s 111) cT (.s 126))]
def F19r26 : RL := [oo 2 (.mov (ci 4))]
def F19r27 : RL := [oo 59 (ms 5),
 oo 60 (bi .add (.s 59) (ci 1)),
 oo 5 (ms 60)]
def F19r28 : RL := [oo 128 (fd 5 1),
 oo 129 (ld 128),
 oo 130 (.len false (.s 129)),
 oo 131 (bi .gtr (.s 130) (ci 200))]
def F19r29 : RL := [oo 2 (.mov (ci 2))]
def F19r30 : RL := [oo 8 (.mov (ci 0))]
def F19r31 : RL := [oo 132 (ms 8),
 oo 133 (fd 5 1),
 oo 134 (ld 133),
 oo 135 (.len false (.s 134)),
 oo 136 (bi .lss (.s 132) (.s 135))]
def F19r32 : RL := [oo 139 (fd 5 1),
 oo 140 (ld 139),
 oo 141 (ms 8),
 oo 142 (.iad 6 (.s 140) (.s 141)),
 oo 143 (lq 6 142),
 oo 144 (cl 51 [.s 143]),
 oo 3 (ms 144)]
def F19r33 : RL := [oo 145 (ms 3),
 oo 146 (bi .neq (.s 145) (ci 0))]
def F19r34 : RL := [oo 147 (ms 3),
 oo 2 (ms 147)]
def F19r35 : RL := [oo 148 (fd 5 1),
 oo 149 (ld 148),
 oo 150 (ms 8),
 oo 151 (.iad 6 (.s 149) (.s 150)),
 oo 152 (fd 2 151),
 oo 153 (ld 152),
 oo 154 (fd 2 1),
 oo 155 (ld 154),
 oo 156 (.len false (.s 155)),
 oo 157 (bi .geq (.s 153) (.s 156)),
 oo 158 (ms 157),
 on 159 (fd 5 1) 158,
 on 160 (ld 159) 158,
 on 161 (ms 8) 158,
 on 162 (.iad 6 (.s 160) (.s 161)) 158,
 on 163 (fd 1 162) 158,
 on 164 (ld 163) 158,
 on 165 (fd 3 1) 158,
 on 166 (ld 165) 158,
 on 167 (.len false (.s 166)) 158,
 on 168 (bi .geq (.s 164) (.s 167)) 158,
 oo 169 (.pick (.s 158) cT (.s 168))]
def F19r36 : RL := [oo 2 (.mov (ci 3))]
def F19r37 : RL := [oo 137 (ms 8),
 oo 138 (bi .add (.s 137) (ci 1)),
 oo 8 (ms 138)]
def F19r38 : RL := [oo 170 (fd 6 1),
 oo 171 (ld 170),
 oo 172 (bi .lss (.s 171) (ci 0)),
 oo 173 (ms 172),
 on 174 (fd 6 1) 173,
 on 175 (ld 174) 173,
 on 176 (bi .gtr (.s 175) (ci 1000000)) 173,
 oo 177 (.pick (.s 173) cT (.s 176))]
def F19r39 : RL := [oo 2 (.mov (ci 3))]
def F19r40 : RL := [oo 2 (.mov (ci 0))]
def F19 : AFn := ⟨178, [.tmp 2],
  sr F19r0
  (sr F19r1
  (.seq (sr F19r2
  (cd 17
    (sr F19r3
    (.ret))
    (.skip)))
  (.seq (sr F19r4
  (cd 26
    (sr F19r5
    (.ret))
    (.skip)))
  (.seq (sr F19r6
  (.block 0 (
    .loop (
      .seq (sr F19r7
      (cd 31
        (.skip)
        (.exit 0)))
      (.seq (.block 1 (
        sr F19r8
        (sr F19r9
        (cd 41
          (sr F19r10
          (.ret))
          (.skip)))))
      (rg F19r11))))))
  (.seq (sr F19r12
  (cd 46
    (sr F19r13
    (.ret))
    (.skip)))
  (.seq (sr F19r14
  (cd 53
    (sr F19r15
    (.ret))
    (.skip)))
  (.seq (sr F19r16
  (.block 2 (
    .loop (
      .seq (sr F19r17
      (cd 58
        (.skip)
        (.exit 2)))
      (.seq (.block 3 (
        .seq (sr F19r18
        (cd 68
          (sr F19r19
          (.ret))
          (.skip)))
        (.seq (.reg F19r20 (some [[], [0], [], [2], [], [3, 4, 2], [5, 3, 4, 2], [1, 6, 0, 5, 3, 4, 2], [7, 0, 1, 2, 3, 4, 5, 6]]))
        (.seq (sr F19r21
        (cd 78
          (sr F19r22
          (.ret))
          (.skip)))
        (sr F19r23
        (sr F19r24
        (sr F19r25
        (cd 127
          (sr F19r26
          (.ret))
          (.skip)))))))))
      (rg F19r27))))))
  (.seq (sr F19r28
  (cd 131
    (sr F19r29
    (.ret))
    (.skip)))
  (.seq (sr F19r30
  (.block 4 (
    .loop (
      .seq (sr F19r31
      (cd 136
        (.skip)
        (.exit 4)))
      (.seq (.block 5 (
        sr F19r32
        (.seq (sr F19r33
        (cd 146
          (sr F19r34
          (.ret))
          (.skip)))
        (.seq (.reg F19r35 (some [[], [0], [], [1, 2, 0], [3, 1, 2, 0], [4, 3, 1, 2, 0], [], [6], [7, 6], [5, 8, 4, 3, 1, 2, 0, 7, 6], [9, 5, 8, 4, 3, 1, 2, 0, 7, 6], [10, 9, 5, 8, 4, 3, 1, 2, 0, 7, 6], [11, 10, 9, 5, 8, 4, 3, 1, 2, 0, 7, 6], [10, 9, 5, 8, 4, 3, 1, 2, 0, 7, 6], [12, 13, 10, 11, 9, 5, 8, 4, 3, 1, 2, 0, 7, 6], [14, 10, 12, 13, 11, 9, 5, 8, 4, 3, 1, 2, 0, 7, 6], [15, 10, 14, 12, 13, 11, 9, 5, 8, 4, 3, 1, 2, 0, 7, 6], [10, 9, 5, 8, 4, 3, 1, 2, 0, 7, 6], [17, 10, 9, 5, 8, 4, 3, 1, 2, 0, 7, 6], [18, 10, 17, 9, 5, 8, 4, 3, 1, 2, 0, 7, 6], [16, 19, 10, 15, 14, 12, 13, 11, 9, 5, 8, 4, 3, 1, 2, 0, 7, 6, 18, 17], [10, 20, 9, 5, 8, 4, 3, 1, 2, 0, 7, 6, 16, 19, 15, 14, 12, 13, 11, 18, 17]]))
        (cd 169
          (sr F19r36
          (.ret))
          (.skip))))))
      (rg F19r37))))))
  (.seq (sr F19r38
  (cd 177
    (sr F19r39
    (.ret))
    (.skip)))
  (sr F19r40
  (.ret))))))))))))⟩
theorem F19_ok : cFunc Tryd.prog 19 = some F19 := by kernel_rfl
theorem F19_call : callable Tryd.prog 19 = true := by kernel_rfl
def F20r0 : RL := [oo 2 (.box 7 (.s 0)),
 oo 4 (.new [.emp, zi 0, .emp, .emp, .emp, .emp, zi 0]),
 oo 5 (.mov (ci 0)),
 oo 6 (.mov (ci 0))]
def F20r1 : RL := [oo 13 (lq 7 2),
 oo 14 (cl 18 [.s 13]),
 oo 7 (ms 14)]
def F20r2 : RL := [oo 15 (ms 7),
 oo 16 (bi .eql (.s 15) (ci 0)),
 oo 17 (ms 16),
 ot 18 (ms 1) 17,
 ot 19 (.len false (.s 18)) 17,
 ot 20 (bi .gtr (.s 19) (ci 200)) 17,
 oo 21 (.pick (.s 17) (.s 20) cF)]
def F20r3 : RL := [oo 7 (.mov (ci 2))]
def F20r4 : RL := [oo 22 (ms 7),
 oo 23 (bi .neq (.s 22) (ci 0))]
def F20r5 : RL := [oo 24 (.agg [.emp, zi 0, .emp, .emp, .emp, .emp, zi 0] []),
 oo 25 (ms 7),
 ow (.store 7 (.s 4) (.s 24)),
 oo 5 (.mov (ci 0)),
 oo 6 (ms 25)]
def F20r6 : RL := [oo 26 (lq 7 2),
 oo 27 (cl 52 [.s 26]),
 ow (.store 7 (.s 2) (.s 27))]
def F20r7 : RL := [oo 8 (.mov (ci 0))]
def F20r8 : RL := [oo 28 (ms 1),
 oo 29 (.len false (.s 28)),
 oo 30 (.mov (ci 0))]
def F20r9 : RL := [oo 31 (bi .lss (.s 30) (.s 29))]
def F20r10 : RL := [oo 32 (.iad 3 (.s 28) (.s 30)),
 oo 33 (lq 3 32),
 oo 10 (.new [zi 0, zi 0, zs]),
 ow (.store 3 (.s 10) (.s 33))]
def F20r11 : RL := [oo 35 (lq 7 2),
 oo 36 (lq 3 10),
 oo 37 (cl 37 [.s 35, .s 36]),
 oo 34 (ms 37),
 oo 38 (.ext 0 (.s 34)),
 oo 39 (.ext 1 (.s 34)),
 oo 11 (.new [.emp, zi 0, .emp, .emp, .emp, .emp, zi 0]),
 ow (.store 7 (.s 11) (.s 38)),
 oo 12 (ms 39)]
def F20r12 : RL := [oo 40 (ms 12),
 oo 41 (bi .eql (.s 40) (ci 0))]
def F20r13 : RL := [oo 42 (lq 7 11),
 ow (.store 7 (.s 2) (.s 42))]
def F20r14 : RL := [oo 43 (ms 8),
 oo 44 (bi .add (.s 43) (ci 1)),
 oo 8 (ms 44)]
def F20r15 : RL := [oo 45 (bi .add (.s 30) (ci 1)),
 oo 30 (ms 45)]
def F20r16 : RL := [oo 46 (lq 7 2),
 oo 47 (ms 8),
 ow (.store 7 (.s 4) (.s 46)),
 oo 5 (ms 47),
 oo 6 (.mov (ci 0))]
def F20 : AFn := ⟨48, [.cell 4 (some 7), .tmp 5, .tmp 6],
  sr F20r0
  (sr F20r1
  (.seq (sr F20r2
  (cd 21
    (rg F20r3)
    (.skip)))
  (.seq (sr F20r4
  (cd 23
    (sr F20r5
    (.ret))
    (.skip)))
  (sr F20r6
  (sr F20r7
  (.seq (sr F20r8
  (.block 0 (
    .loop (
      sr F20r9
      (.seq (cd 31
        (.skip)
        (.exit 0))
      (.seq (.block 1 (
        sr F20r10
        (sr F20r11
        (sr F20r12
        (cd 41
          (sr F20r13
          (rg F20r14))
          (.skip))))))
      (rg F20r15)))))))
  (sr F20r16
  (.ret))))))))⟩
theorem F20_ok : cFunc Tryd.prog 20 = some F20 := by kernel_rfl
theorem F20_call : callable Tryd.prog 20 = true := by kernel_rfl
def F21r0 : RL := [oo 2 (.box 7 (.s 0)),
 oo 4 (.new [.emp, zi 0, .emp, .emp, .emp, .emp, zi 0]),
 oo 5 (.mov (ci 0)),
 oo 6 (.mov (ci 0))]
def F21r1 : RL := [oo 12 (lq 7 2),
 oo 13 (cl 19 [.s 12]),
 oo 7 (ms 13)]
def F21r2 : RL := [oo 14 (ms 7),
 oo 15 (bi .eql (.s 14) (ci 0)),
 oo 16 (ms 15),
 ot 17 (ms 1) 16,
 ot 18 (.len false (.s 17)) 16,
 ot 19 (bi .gtr (.s 18) (ci 200)) 16,
 oo 20 (.pick (.s 16) (.s 19) cF)]
def F21r3 : RL := [oo 7 (.mov (ci 2))]
def F21r4 : RL := [oo 21 (ms 7),
 oo 22 (bi .neq (.s 21) (ci 0))]
def F21r5 : RL := [oo 23 (.agg [.emp, zi 0, .emp, .emp, .emp, .emp, zi 0] []),
 oo 24 (ms 7),
 ow (.store 7 (.s 4) (.s 23)),
 oo 5 (.mov (ci 0)),
 oo 6 (ms 24)]
def F21r6 : RL := [oo 8 (.mov (ci 0))]
def F21r7 : RL := [oo 9 (.mov (ci 0))]
def F21r8 : RL := [oo 25 (ms 9),
 oo 26 (ms 1),
 oo 27 (.len false (.s 26)),
 oo 28 (bi .lss (.s 25) (.s 27))]
def F21r9 : RL := [oo 32 (lq 7 2),
 oo 33 (ms 1),
 oo 34 (ms 9),
 oo 35 (.iad 3 (.s 33) (.s 34)),
 oo 36 (lq 3 35),
 oo 37 (cl 15 [.s 32, .s 36]),
 oo 31 (ms 37),
 oo 38 (.ext 0 (.s 31)),
 oo 39 (.ext 1 (.s 31)),
 oo 10 (.new [.emp, zi 0, .emp, .emp, .emp, .emp, zi 0]),
 ow (.store 7 (.s 10) (.s 38)),
 oo 11 (ms 39)]
def F21r10 : RL := [oo 40 (ms 11),
 oo 41 (bi .eql (.s 40) (ci 0))]
def F21r11 : RL := [oo 42 (lq 7 10),
 ow (.store 7 (.s 2) (.s 42))]
def F21r12 : RL := [oo 43 (ms 8),
 oo 44 (bi .add (.s 43) (ci 1)),
 oo 8 (ms 44)]
def F21r13 : RL := [oo 29 (ms 9),
 oo 30 (bi .add (.s 29) (ci 1)),
 oo 9 (ms 30)]
def F21r14 : RL := [oo 45 (lq 7 2),
 oo 46 (ms 8),
 ow (.store 7 (.s 4) (.s 45)),
 oo 5 (ms 46),
 oo 6 (.mov (ci 0))]
def F21 : AFn := ⟨47, [.cell 4 (some 7), .tmp 5, .tmp 6],
  sr F21r0
  (sr F21r1
  (.seq (sr F21r2
  (cd 20
    (rg F21r3)
    (.skip)))
  (.seq (sr F21r4
  (cd 22
    (sr F21r5
    (.ret))
    (.skip)))
  (sr F21r6
  (.seq (sr F21r7
  (.block 0 (
    .loop (
      .seq (sr F21r8
      (cd 28
        (.skip)
        (.exit 0)))
      (.seq (.block 1 (
        .seq (.reg F21r9 (some [[], [], [], [1, 2], [3, 1, 2], [0, 4, 3, 1, 2], [5, 0, 4, 3, 1, 2], [6, 5, 0, 4, 3, 1, 2], [6, 5, 0, 4, 3, 1, 2], [], [9, 7, 5, 0, 1, 2, 3, 4, 6], [8, 10, 0, 1, 2, 3, 4, 5, 6, 7, 9]]))
        (sr F21r10
        (cd 41
          (sr F21r11
          (rg F21r12))
          (.skip)))))
      (rg F21r13))))))
  (sr F21r14
  (.ret)))))))⟩
theorem F21_ok : cFunc Tryd.prog 21 = some F21 := by kernel_rfl
theorem F21_call : callable Tryd.prog 21 = true := by kernel_rfl
def F23r0 : RL := [oo 2 (.box 2 (.s 0)),
 oo 3 (.box 2 (.s 1)),
 oo 4 (.mov cF)]
def F23r1 : RL := [oo 5 (lq 2 2),
 oo 6 (lq 2 3),
 oo 7 (cl 53 [.s 5, .s 6]),
 oo 8 (bi .lss (.s 7) (ci 0)),
 oo 4 (ms 8)]
def F23 : AFn := ⟨9, [.tmp 4],
  sr F23r0
  (sr F23r1
  (.ret))⟩
theorem F23_ok : cFunc Tryd.prog 23 = some F23 := by kernel_rfl
theorem F23_call : callable Tryd.prog 23 = true := by kernel_rfl
def F24r0 : RL := [oo 6 (.mov cF),
 oo 7 (.mov (ci 0))]
def F24r1 : RL := [oo 11 (ms 0),
 oo 12 (ms 1),
 oo 13 (cl 35 [.s 11, .s 12]),
 oo 8 (ms 13)]
def F24r2 : RL := [oo 14 (ms 8),
 oo 15 (bi .neq (.s 14) (ci 0))]
def F24r3 : RL := [oo 16 (ms 8),
 oo 6 (.mov cF),
 oo 7 (ms 16)]
def F24r4 : RL := [oo 18 (ms 0),
 oo 19 (ms 2),
 oo 20 (cl 54 [.s 18, .s 19]),
 oo 17 (ms 20),
 oo 21 (.ext 0 (.s 17)),
 oo 22 (.ext 1 (.s 17)),
 oo 9 (ms 21),
 oo 10 (ms 22)]
def F24r5 : RL := [oo 23 (ms 10),
 oo 24 (bi .eql (.s 23) (ci 0)),
 oo 25 (ms 24),
 ot 26 (ms 9) 25,
 ot 27 (ms 1) 25,
 ot 28 (bi .geq (.s 26) (.s 27)) 25,
 oo 29 (.pick (.s 25) (.s 28) cF),
 oo 30 (ms 10),
 oo 6 (ms 29),
 oo 7 (ms 30)]
def F24 : AFn := ⟨31, [.tmp 6, .tmp 7],
  sr F24r0
  (.seq (sr F24r1
  (sr F24r2
  (cd 15
    (sr F24r3
    (.ret))
    (.skip))))
  (sr F24r4
  (sr F24r5
  (.ret))))⟩
theorem F24_ok : cFunc Tryd.prog 24 = some F24 := by kernel_rfl
theorem F24_call : callable Tryd.prog 24 = true := by kernel_rfl
def F29r0 : RL := [oo 6 (.new [zi 0, zi 0, zs])]
def F29r1 : RL := [oo 7 (ms 0),
 oo 8 (ms 1),
 oo 9 (cl 30 [.s 7, .s 8]),
 oo 10 (ms 2),
 oo 11 (.agg [zi 0, zi 0, zs] [(0, (2, .s 9)), (2, (1, .s 10))]),
 ow (.store 3 (.s 6) (.s 11))]
def F29 : AFn := ⟨12, [.cell 6 (some 3)],
  sr F29r0
  (sr F29r1
  (.ret))⟩
theorem F29_ok : cFunc Tryd.prog 29 = some F29 := by kernel_rfl
theorem F29_call : callable Tryd.prog 29 = true := by kernel_rfl
def F30r0 : RL := [oo 4 (.new [zi 0, zi 0])]
def F30r1 : RL := [oo 5 (ms 0),
 oo 6 (ms 1),
 oo 7 (.agg [zi 0, zi 0] [(0, (1, .s 5)), (1, (1, .s 6))]),
 ow (.store 2 (.s 4) (.s 7))]
def F30 : AFn := ⟨8, [.cell 4 (some 2)],
  sr F30r0
  (sr F30r1
  (.ret))⟩
theorem F30_ok : cFunc Tryd.prog 30 = some F30 := by kernel_rfl
theorem F30_call : callable Tryd.prog 30 = true := by kernel_rfl
def F34r0 : RL := [oo 4 (.mov cF)]
def F34r1 : RL := [oo 5 (ms 0),
 oo 6 (ms 1),
 oo 7 (bi .shr (.s 5) (.s 6)),
 oo 8 (bi .rem (.s 7) (.c (.v (.int .u64 2)))),
 oo 9 (bi .eql (.s 8) (.c (.v (.int .u64 1)))),
 oo 4 (ms 9)]
def F34 : AFn := ⟨10, [.tmp 4],
  sr F34r0
  (sr F34r1
  (.ret))⟩
theorem F34_ok : cFunc Tryd.prog 34 = some F34 := by kernel_rfl
theorem F34_call : callable Tryd.prog 34 = true := by kernel_rfl
def F35r0 : RL := [oo 4 (.mov (ci 0))]
def F35r1 : RL := [oo 8 (ms 0),
 oo 9 (cl 59 [.s 8]),
 oo 7 (ms 9),
 oo 10 (.ext 0 (.s 7)),
 oo 11 (.ext 1 (.s 7)),
 oo 5 (ms 10),
 oo 6 (ms 11)]
def F35r2 : RL := [oo 13 (ms 6),
 oo 14 (bi .neq (.s 13) (ci 0)),
 oo 12 (ms 14)]
def F35r3 : RL := [oo 15 (ms 6),
 oo 4 (ms 15)]
def F35r4 : RL := [oo 17 (ms 1),
 oo 18 (bi .lss (.s 17) (ci 1)),
 oo 19 (ms 18),
 on 20 (ms 1) 19,
 on 21 (ms 5) 19,
 on 22 (bi .gtr (.s 20) (.s 21)) 19,
 oo 23 (.pick (.s 19) cT (.s 22)),
 oo 16 (ms 23)]
def F35r5 : RL := [oo 4 (.mov (ci 3))]
def F35r6 : RL := [oo 25 (ms 1),
 oo 26 (bi .mul (ci 2) (.s 25)),
 oo 27 (ms 5),
 oo 28 (bi .leq (.s 26) (.s 27)),
 oo 24 (ms 28)]
def F35r7 : RL := [oo 4 (.mov (ci 4))]
def F35r8 : RL := [oo 4 (.mov (ci 0))]
def F35 : AFn := ⟨29, [.tmp 4],
  sr F35r0
  (sr F35r1
  (.seq (.block 0 (
    sr F35r2
    (cd 12
      (sr F35r3
      (.ret))
      (sr F35r4
      (cd 16
        (sr F35r5
        (.ret))
        (sr F35r6
        (cd 24
          (sr F35r7
          (.ret))
          (.skip))))))))
  (sr F35r8
  (.ret))))⟩
theorem F35_ok : cFunc Tryd.prog 35 = some F35 := by kernel_rfl
theorem F35_call : callable Tryd.prog 35 = true := by kernel_rfl
def F36r0 : RL := [oo 2 (.mov (.c .emp))]
def F36r1 : RL := [oo 3 (ms 0),
 oo 4 (.isn .sl false (.s 3))]
def F36r2 : RL := [oo 2 (.mov (.c .emp))]
def F36r3 : RL := [oo 5 (.bsl 1 0 [zi 0] []),
 oo 6 (ms 0),
 oo 7 (.app 1 8 (.s 5) (.s 6)),
 oo 2 (ms 7)]
def F36 : AFn := ⟨8, [.tmp 2],
  sr F36r0
  (.seq (sr F36r1
  (cd 4
    (sr F36r2
    (.ret))
    (.skip)))
  (sr F36r3
  (.ret)))⟩
theorem F36_ok : cFunc Tryd.prog 36 = some F36 := by kernel_rfl
theorem F36_call : callable Tryd.prog 36 = true := by kernel_rfl
def F37r0 : RL := [oo 2 (.box 7 (.s 0)),
 oo 3 (.box 3 (.s 1)),
 oo 4 (.new [.emp, zi 0, .emp, .emp, .emp, .emp, zi 0]),
 oo 5 (.mov (ci 0))]
def F37r1 : RL := [oo 8 (fd 6 2),
 oo 9 (ld 8),
 oo 10 (bi .eql (.s 9) (ci 1000000))]
def F37r2 : RL := [oo 11 (.agg [.emp, zi 0, .emp, .emp, .emp, .emp, zi 0] []),
 ow (.store 7 (.s 4) (.s 11)),
 oo 5 (.mov (ci 2))]
def F37r3 : RL := [oo 12 (lq 7 2),
 oo 13 (cl 52 [.s 12]),
 oo 14 (.agg [.emp, zi 0, .emp, .emp, .emp, .emp, zi 0] [(0, (7, .s 13))]),
 oo 15 (.box 7 (.s 14)),
 oo 6 (ms 15)]
def F37r4 : RL := [oo 16 (ms 6),
 oo 17 (lq 3 3),
 oo 18 (cl 61 [.s 16, .s 17]),
 oo 7 (ms 18)]
def F37r5 : RL := [oo 19 (ms 7),
 oo 20 (bi .neq (.s 19) (ci 0))]
def F37r6 : RL := [oo 21 (.agg [.emp, zi 0, .emp, .emp, .emp, .emp, zi 0] []),
 oo 22 (ms 7),
 ow (.store 7 (.s 4) (.s 21)),
 oo 5 (ms 22)]
def F37r7 : RL := [oo 23 (ms 6),
 oo 24 (.nilc (.s 23)),
 oo 25 (fd 0 24),
 oo 26 (lq 7 25),
 ow (.store 7 (.s 4) (.s 26)),
 oo 5 (.mov (ci 0))]
def F37 : AFn := ⟨27, [.cell 4 (some 7), .tmp 5],
  sr F37r0
  (.seq (sr F37r1
  (cd 10
    (sr F37r2
    (.ret))
    (.skip)))
  (sr F37r3
  (.seq (sr F37r4
  (sr F37r5
  (cd 20
    (sr F37r6
    (.ret))
    (.skip))))
  (sr F37r7
  (.ret)))))⟩
theorem F37_ok : cFunc Tryd.prog 37 = some F37 := by kernel_rfl
theorem F37_call : callable Tryd.prog 37 = true := by kernel_rfl
def F38r0 : RL := [oo 4 (.mov (ci 0))]
def F38r1 : RL := [oo 8 (ms 0),
 oo 9 (cl 62 [.s 8]),
 oo 7 (ms 9),
 oo 10 (.ext 0 (.s 7)),
 oo 11 (.ext 1 (.s 7)),
 oo 5 (ms 10),
 oo 6 (ms 11)]
def F38r2 : RL := [oo 12 (ms 6),
 oo 13 (bi .neq (.s 12) (ci 0))]
def F38r3 : RL := [oo 14 (ms 6),
 oo 4 (ms 14)]
def F38r4 : RL := [oo 15 (ms 1),
 oo 16 (bi .lss (.s 15) (ci 1)),
 oo 17 (ms 16),
 on 18 (ms 1) 17,
 on 19 (ms 5) 17,
 on 20 (bi .gtr (.s 18) (.s 19)) 17,
 oo 21 (.pick (.s 17) cT (.s 20))]
def F38r5 : RL := [oo 4 (.mov (ci 3))]
def F38r6 : RL := [oo 22 (ms 1),
 oo 23 (bi .mul (.s 22) (ci 2)),
 oo 24 (ms 5),
 oo 25 (bi .leq (.s 23) (.s 24))]
def F38r7 : RL := [oo 4 (.mov (ci 4))]
def F38r8 : RL := [oo 4 (.mov (ci 0))]
def F38 : AFn := ⟨26, [.tmp 4],
  sr F38r0
  (sr F38r1
  (.seq (sr F38r2
  (cd 13
    (sr F38r3
    (.ret))
    (.skip)))
  (.seq (sr F38r4
  (cd 21
    (sr F38r5
    (.ret))
    (.skip)))
  (.seq (sr F38r6
  (cd 25
    (sr F38r7
    (.ret))
    (.skip)))
  (sr F38r8
  (.ret))))))⟩
theorem F38_ok : cFunc Tryd.prog 38 = some F38 := by kernel_rfl
theorem F38_call : callable Tryd.prog 38 = true := by kernel_rfl
def F39r0 : RL := [oo 4 (.box 2 (.s 0)),
 oo 8 (.new [zi 0, zi 0, zi 0, zs, zi 0, zi 0, zs, .v (.int .u64 0)]),
 oo 9 (.mov (.c .emp)),
 oo 10 (.mov (ci 0))]
def F39r1 : RL := [oo 13 (ms 1),
 oo 14 (ms 2),
 oo 15 (ms 3),
 oo 16 (.agg [zi 0, zi 0, zi 0, zs, zi 0, zi 0, zs, .v (.int .u64 0)] [(0, (1, .s 13)), (1, (1, .s 14)), (2, (1, ci 1)), (3, (1, .s 15))]),
 oo 11 (.new [zi 0, zi 0, zi 0, zs, zi 0, zi 0, zs, .v (.int .u64 0)]),
 ow (.store 8 (.s 11) (.s 16))]
def F39r2 : RL := [oo 17 (lq 2 4),
 oo 18 (lq 8 11),
 oo 19 (cl 50 [.s 17, .s 18]),
 oo 12 (ms 19)]
def F39r3 : RL := [oo 20 (ms 12),
 oo 21 (bi .neq (.s 20) (ci 0))]
def F39r4 : RL := [oo 22 (.agg [zi 0, zi 0, zi 0, zs, zi 0, zi 0, zs, .v (.int .u64 0)] []),
 oo 23 (ms 12),
 ow (.store 8 (.s 8) (.s 22)),
 oo 9 (.mov (.c .emp)),
 oo 10 (ms 23)]
def F39r5 : RL := [oo 24 (lq 8 11),
 oo 25 (fd 0 4),
 oo 26 (ld 25),
 oo 27 (.len false (.s 26)),
 oo 28 (ms 1),
 oo 29 (.agg [zi 0, zi 0, zi 0, zi 0, zi 0, zs] [(0, (1, ci 1)), (1, (1, .s 28))]),
 oo 30 (cl 63 [.s 27, .s 29]),
 ow (.store 8 (.s 8) (.s 24)),
 oo 9 (ms 30),
 oo 10 (.mov (ci 0))]
def F39 : AFn := ⟨31, [.cell 8 (some 8), .tmp 9, .tmp 10],
  sr F39r0
  (sr F39r1
  (sr F39r2
  (.seq (sr F39r3
  (cd 21
    (sr F39r4
    (.ret))
    (.skip)))
  (.seq (.reg F39r5 (some [[], [], [1], [2, 1], [], [4], [3, 5, 2, 1, 4], [0, 6, 3, 5, 2, 1, 4], [6, 7, 0, 1, 2, 3, 4, 5], [8, 0, 1, 2, 3, 4, 5, 6, 7]]))
  (.ret)))))⟩
theorem F39_ok : cFunc Tryd.prog 39 = some F39 := by kernel_rfl
theorem F39_call : callable Tryd.prog 39 = true := by kernel_rfl
def F40r0 : RL := [oo 2 (.box 7 (.s 0)),
 oo 4 (.new [.emp, zi 0, .emp, .emp, .emp, .emp, zi 0])]
def F40r1 : RL := [oo 15 (fd 5 2),
 oo 16 (ld 15),
 oo 17 (ms 1),
 oo 18 (.iad 6 (.s 16) (.s 17)),
 oo 19 (lq 6 18),
 oo 5 (.new [zi 0, zi 0, zi 0, zi 0, zi 0, zs]),
 ow (.store 6 (.s 5) (.s 19))]
def F40r2 : RL := [oo 20 (fd 5 2),
 oo 21 (ld 20),
 oo 22 (ms 1),
 oo 23 (cl 41 [.s 21, .s 22]),
 oo 24 (fd 5 2),
 ow (.store 1 (.s 24) (.s 23))]
def F40r3 : RL := [oo 25 (fd 0 5),
 oo 26 (ld 25),
 oo 27 (bi .eql (.s 26) (ci 1)),
 oo 28 (ms 27),
 on 29 (fd 0 5) 28,
 on 30 (ld 29) 28,
 on 31 (bi .eql (.s 30) (ci 3)) 28,
 oo 32 (.pick (.s 28) cT (.s 31))]
def F40r4 : RL := [oo 34 (fd 2 2),
 oo 35 (ld 34),
 oo 36 (fd 2 5),
 oo 37 (ld 36),
 oo 38 (.iad 3 (.s 35) (.s 37)),
 oo 39 (lq 3 38),
 oo 40 (lq 6 5),
 oo 41 (cl 64 [.s 39, .s 40]),
 oo 33 (ms 41),
 oo 42 (.ext 0 (.s 33)),
 oo 43 (.ext 1 (.s 33)),
 oo 44 (.ext 2 (.s 33)),
 oo 6 (.new [zi 0, zi 0, zs]),
 ow (.store 3 (.s 6) (.s 42)),
 oo 7 (ms 43),
 oo 8 (ms 44)]
def F40r5 : RL := [oo 45 (.bsl 3 0 [zi 0, zi 0, zs] []),
 oo 46 (fd 2 2),
 oo 47 (ld 46),
 oo 48 (.app 3 32 (.s 45) (.s 47)),
 oo 9 (ms 48)]
def F40r6 : RL := [oo 49 (ms 9),
 oo 50 (fd 2 5),
 oo 51 (ld 50),
 oo 52 (lq 3 6),
 oo 53 (.iad 3 (.s 49) (.s 51)),
 ow (.store 3 (.s 53) (.s 52))]
def F40r7 : RL := [oo 54 (ms 9),
 oo 55 (fd 2 2),
 ow (.store 1 (.s 55) (.s 54))]
def F40r8 : RL := [oo 56 (fd 5 2),
 oo 57 (ld 56),
 oo 58 (ms 7),
 oo 59 (.app 6 56 (.s 57) (.s 58)),
 oo 60 (fd 5 2),
 ow (.store 1 (.s 60) (.s 59))]
def F40r9 : RL := [oo 61 (lq 7 2),
 ow (.store 7 (.s 4) (.s 61))]
def F40r10 : RL := [oo 63 (fd 0 2),
 oo 64 (lq 2 63),
 oo 65 (fd 3 2),
 oo 66 (ld 65),
 oo 67 (fd 1 5),
 oo 68 (ld 67),
 oo 69 (.iad 8 (.s 66) (.s 68)),
 oo 70 (lq 8 69),
 oo 71 (lq 6 5),
 oo 72 (cl 65 [.s 64, .s 70, .s 71]),
 oo 62 (ms 72),
 oo 73 (.ext 0 (.s 62)),
 oo 74 (.ext 1 (.s 62)),
 oo 75 (.ext 2 (.s 62)),
 oo 10 (.new [zi 0, zi 0, zi 0, zs, zi 0, zi 0, zs, .v (.int .u64 0)]),
 ow (.store 8 (.s 10) (.s 73)),
 oo 11 (ms 74),
 oo 12 (ms 75)]
def F40r11 : RL := [oo 76 (fd 2 10),
 oo 77 (ld 76),
 oo 78 (bi .eql (.s 77) (ci 3)),
 oo 79 (ms 78),
 ot 80 (fd 3 2) 79,
 ot 81 (ld 80) 79,
 ot 82 (fd 1 5) 79,
 ot 83 (ld 82) 79,
 ot 84 (.iad 8 (.s 81) (.s 83)) 79,
 ot 85 (fd 2 84) 79,
 ot 86 (ld 85) 79,
 ot 87 (bi .neq (.s 86) (ci 3)) 79,
 oo 88 (.pick (.s 79) (.s 87) cF)]
def F40r12 : RL := [oo 89 (.bsl 2 0 [zi 0, zi 0] []),
 oo 90 (fd 4 2),
 oo 91 (ld 90),
 oo 92 (.app 2 16 (.s 89) (.s 91)),
 oo 13 (ms 92)]
def F40r13 : RL := [oo 93 (ms 13),
 oo 94 (fd 1 5),
 oo 95 (ld 94),
 oo 96 (fd 6 2),
 oo 97 (ld 96),
 oo 98 (.iad 2 (.s 93) (.s 95)),
 oo 99 (fd 1 98),
 ow (.store 1 (.s 99) (.s 97))]
def F40r14 : RL := [oo 100 (ms 13),
 oo 101 (fd 4 2),
 ow (.store 1 (.s 101) (.s 100))]
def F40r15 : RL := [oo 102 (.bsl 8 0 [zi 0, zi 0, zi 0, zs, zi 0, zi 0, zs, .v (.int .u64 0)] []),
 oo 103 (fd 3 2),
 oo 104 (ld 103),
 oo 105 (.app 8 80 (.s 102) (.s 104)),
 oo 14 (ms 105)]
def F40r16 : RL := [oo 106 (ms 14),
 oo 107 (fd 1 5),
 oo 108 (ld 107),
 oo 109 (lq 8 10),
 oo 110 (.iad 8 (.s 106) (.s 108)),
 ow (.store 8 (.s 110) (.s 109))]
def F40r17 : RL := [oo 111 (ms 14),
 oo 112 (fd 3 2),
 ow (.store 1 (.s 112) (.s 111))]
def F40r18 : RL := [oo 113 (fd 5 2),
 oo 114 (ld 113),
 oo 115 (ms 11),
 oo 116 (.app 6 56 (.s 114) (.s 115)),
 oo 117 (fd 5 2),
 ow (.store 1 (.s 117) (.s 116))]
def F40r19 : RL := [oo 118 (lq 7 2),
 ow (.store 7 (.s 4) (.s 118))]
def F40 : AFn := ⟨119, [.cell 4 (some 7)],
  sr F40r0
  (sr F40r1
  (sr F40r2
  (.seq (sr F40r3
  (cd 32
    (.seq (.reg F40r4 (some [[], [0], [], [2], [1, 3, 0, 2], [4, 1, 3, 0, 2], [], [5, 6, 4, 1, 3, 0, 2], [7, 5, 6, 4, 1, 3, 0, 2], [8, 7, 5, 6, 4, 1, 3, 0, 2], [8, 7, 5, 6, 4, 1, 3, 0, 2], [8, 7, 5, 6, 4, 1, 3, 0, 2], [], [12, 9, 7, 0, 1, 2, 3, 4, 5, 6, 8], [10, 13, 0, 1, 2, 3, 4, 5, 6, 7, 8, 9, 12], [11, 14, 0, 1, 2, 3, 4, 5, 6, 7, 8, 9, 10, 12, 13]]))
    (sr F40r5
    (sr F40r6
    (sr F40r7
    (sr F40r8
    (sr F40r9
    (.ret)))))))
    (.skip)))
  (.seq (.reg F40r10 (some [[], [0], [], [2], [], [4], [3, 5, 2, 4], [6, 3, 5, 2, 4], [], [1, 7, 8, 0, 6, 3, 5, 2, 4], [9, 1, 7, 8, 0, 6, 3, 5, 2, 4], [10, 9, 1, 7, 8, 0, 6, 3, 5, 2, 4], [10, 9, 1, 7, 8, 0, 6, 3, 5, 2, 4], [10, 9, 1, 7, 8, 0, 6, 3, 5, 2, 4], [], [14, 11, 9, 0, 1, 2, 3, 4, 5, 6, 7, 8, 10], [12, 15, 0, 1, 2, 3, 4, 5, 6, 7, 8, 9, 10, 11, 14], [13, 16, 0, 1, 2, 3, 4, 5, 6, 7, 8, 9, 10, 11, 12, 14, 15]]))
  (.seq (sr F40r11
  (cd 88
    (sr F40r12
    (sr F40r13
    (rg F40r14)))
    (.skip)))
  (sr F40r15
  (sr F40r16
  (sr F40r17
  (sr F40r18
  (sr F40r19
  (.ret)))))))))))⟩
theorem F40_ok : cFunc Tryd.prog 40 = some F40 := by kernel_rfl
theorem F40_call : callable Tryd.prog 40 = true := by kernel_rfl
def F41r0 : RL := [oo 4 (.mov (.c .emp))]
def F41r1 : RL := [oo 5 (.bsl 6 0 [zi 0, zi 0, zi 0, zi 0, zi 0, zs] []),
 oo 6 (ms 0),
 oo 7 (ms 1),
 oo 8 (.slc 6 (.s 6) none (some (.s 7)) none),
 oo 9 (.app 6 56 (.s 5) (.s 8)),
 oo 10 (ms 0),
 oo 11 (ms 1),
 oo 12 (bi .add (.s 11) (ci 1)),
 oo 13 (.slc 6 (.s 10) (some (.s 12)) none none),
 oo 14 (.app 6 56 (.s 9) (.s 13)),
 oo 4 (ms 14)]
def F41 : AFn := ⟨15, [.tmp 4],
  sr F41r0
  (.seq (.reg F41r1 (some [[], [], [], [1, 2], [0, 3, 1, 2], [], [], [6], [5, 7, 6], [4, 8, 0, 3, 1, 2, 5, 7, 6], [9, 0, 1, 2, 3, 4, 5, 6, 7, 8]]))
  (.ret))⟩
theorem F41_ok : cFunc Tryd.prog 41 = some F41 := by kernel_rfl
theorem F41_call : callable Tryd.prog 41 = true := by kernel_rfl
def F42r0 : RL := [oo 0 (.new [.emp, zi 0])]
def F42r1 : RL := [oo 1 (.bsl 1 3 [zi 0] [(0, ci 1), (1, ci 1), (2, ci 1)]),
 oo 2 (.agg [.emp, zi 0] [(0, (1, .s 1)), (1, (1, ci 2))]),
 ow (.store 2 (.s 0) (.s 2))]
def F42 : AFn := ⟨3, [.cell 0 (some 2)],
  sr F42r0
  (sr F42r1
  (.ret))⟩
theorem F42_ok : cFunc Tryd.prog 42 = some F42 := by kernel_rfl
theorem F42_call : callable Tryd.prog 42 = true := by kernel_rfl
def F43r0 : RL := [oo 2 (.mov (.c .emp))]
def F43r1 : RL := [oo 3 (.mov (.c .emp))]
def F43r2 : RL := [oo 4 (.mov (ci 0))]
def F43r3 : RL := [oo 5 (ms 4),
 oo 6 (ms 0),
 oo 7 (bi .lss (.s 5) (.s 6))]
def F43r4 : RL := [oo 10 (ms 3),
 oo 11 (.agg [zi 0, zi 0, zs] [(0, (1, ci 3))]),
 oo 12 (.bsl 3 1 [zi 0, zi 0, zs] [(0, .s 11)]),
 oo 13 (.app 3 32 (.s 10) (.s 12)),
 oo 3 (ms 13)]
def F43r5 : RL := [oo 8 (ms 4),
 oo 9 (bi .add (.s 8) (ci 1)),
 oo 4 (ms 9)]
def F43r6 : RL := [oo 14 (ms 3),
 oo 2 (ms 14)]
def F43 : AFn := ⟨15, [.tmp 2],
  sr F43r0
  (sr F43r1
  (.seq (sr F43r2
  (.block 0 (
    .loop (
      .seq (sr F43r3
      (cd 7
        (.skip)
        (.exit 0)))
      (.seq (.block 1 (
        rg F43r4))
      (rg F43r5))))))
  (sr F43r6
  (.ret))))⟩
theorem F43_ok : cFunc Tryd.prog 43 = some F43 := by kernel_rfl
theorem F43_call : callable Tryd.prog 43 = true := by kernel_rfl
def F44r0 : RL := [oo 4 (.mov cF)]
def F44r1 : RL := [oo 6 (ms 0),
 oo 7 (.len false (.s 6)),
 oo 8 (ms 1),
 oo 9 (.len false (.s 8)),
 oo 10 (bi .neq (.s 7) (.s 9))]
def F44r2 : RL := [oo 4 (.mov cF)]
def F44r3 : RL := [oo 5 (.mov (ci 0))]
def F44r4 : RL := [oo 11 (ms 5),
 oo 12 (ms 0),
 oo 13 (.len false (.s 12)),
 oo 14 (bi .lss (.s 11) (.s 13))]
def F44r5 : RL := [oo 17 (ms 0),
 oo 18 (ms 5),
 oo 19 (.iad 1 (.s 17) (.s 18)),
 oo 20 (ld 19),
 oo 21 (ms 1),
 oo 22 (ms 5),
 oo 23 (.iad 1 (.s 21) (.s 22)),
 oo 24 (ld 23),
 oo 25 (bi .neq (.s 20) (.s 24))]
def F44r6 : RL := [oo 4 (.mov cF)]
def F44r7 : RL := [oo 15 (ms 5),
 oo 16 (bi .add (.s 15) (ci 1)),
 oo 5 (ms 16)]
def F44r8 : RL := [oo 4 (.mov cT)]
def F44 : AFn := ⟨26, [.tmp 4],
  sr F44r0
  (.seq (sr F44r1
  (cd 10
    (sr F44r2
    (.ret))
    (.skip)))
  (.seq (sr F44r3
  (.block 0 (
    .loop (
      .seq (sr F44r4
      (cd 14
        (.skip)
        (.exit 0)))
      (.seq (.block 1 (
        .seq (.reg F44r5 (some [[], [], [0, 1], [2, 0, 1], [], [], [4, 5], [6, 4, 5], [3, 7, 2, 0, 1, 6, 4, 5]]))
        (cd 25
          (sr F44r6
          (.ret))
          (.skip))))
      (rg F44r7))))))
  (sr F44r8
  (.ret))))⟩
theorem F44_ok : cFunc Tryd.prog 44 = some F44 := by kernel_rfl
theorem F44_call : callable Tryd.prog 44 = true := by kernel_rfl
def F45r0 : RL := [oo 4 (.mov cF)]
def F45r1 : RL := [oo 6 (ms 0),
 oo 7 (.len false (.s 6)),
 oo 8 (ms 1),
 oo 9 (.len false (.s 8)),
 oo 10 (bi .neq (.s 7) (.s 9))]
def F45r2 : RL := [oo 4 (.mov cF)]
def F45r3 : RL := [oo 5 (.mov (ci 0))]
def F45r4 : RL := [oo 11 (ms 5),
 oo 12 (ms 0),
 oo 13 (.len false (.s 12)),
 oo 14 (bi .lss (.s 11) (.s 13))]
def F45r5 : RL := [oo 17 (ms 0),
 oo 18 (ms 5),
 oo 19 (.iad 6 (.s 17) (.s 18)),
 oo 20 (lq 6 19),
 oo 21 (ms 1),
 oo 22 (ms 5),
 oo 23 (.iad 6 (.s 21) (.s 22)),
 oo 24 (lq 6 23),
 oo 25 (.eqs true 6 [(0, .int), (1, .int), (2, .int), (3, .int), (4, .int), (5, .str)] (.s 20) (.s 24))]
def F45r6 : RL := [oo 4 (.mov cF)]
def F45r7 : RL := [oo 15 (ms 5),
 oo 16 (bi .add (.s 15) (ci 1)),
 oo 5 (ms 16)]
def F45r8 : RL := [oo 4 (.mov cT)]
def F45 : AFn := ⟨26, [.tmp 4],
  sr F45r0
  (.seq (sr F45r1
  (cd 10
    (sr F45r2
    (.ret))
    (.skip)))
  (.seq (sr F45r3
  (.block 0 (
    .loop (
      .seq (sr F45r4
      (cd 14
        (.skip)
        (.exit 0)))
      (.seq (.block 1 (
        .seq (.reg F45r5 (some [[], [], [0, 1], [2, 0, 1], [], [], [4, 5], [6, 4, 5], [3, 7, 2, 0, 1, 6, 4, 5]]))
        (cd 25
          (sr F45r6
          (.ret))
          (.skip))))
      (rg F45r7))))))
  (sr F45r8
  (.ret))))⟩
theorem F45_ok : cFunc Tryd.prog 45 = some F45 := by kernel_rfl
theorem F45_call : callable Tryd.prog 45 = true := by kernel_rfl
def F46r0 : RL := [oo 1 (.box 3 (.s 0)),
 oo 2 (.mov (ci 0))]
def F46r1 : RL := [oo 4 (fd 0 1),
 oo 5 (lq 2 4),
 oo 6 (cl 66 [.s 5]),
 oo 3 (ms 6)]
def F46r2 : RL := [oo 7 (ms 3),
 oo 8 (bi .eql (.s 7) (ci 0)),
 oo 9 (ms 8),
 ot 10 (fd 2 1) 9,
 ot 11 (ld 10) 9,
 ot 12 (.len true (.s 11)) 9,
 ot 13 (bi .gtr (.s 12) (ci 64)) 9,
 oo 14 (.pick (.s 9) (.s 13) cF)]
def F46r3 : RL := [oo 3 (.mov (ci 2))]
def F46r4 : RL := [oo 15 (ms 3),
 oo 2 (ms 15)]
def F46 : AFn := ⟨16, [.tmp 2],
  sr F46r0
  (sr F46r1
  (.seq (sr F46r2
  (cd 14
    (rg F46r3)
    (.skip)))
  (sr F46r4
  (.ret))))⟩
theorem F46_ok : cFunc Tryd.prog 46 = some F46 := by kernel_rfl
theorem F46_call : callable Tryd.prog 46 = true := by kernel_rfl
def F47r0 : RL := [oo 1 (.box 7 (.s 0)),
 oo 2 (.mov (ci 0))]
def F47r1 : RL := [oo 7 (fd 3 1),
 oo 8 (ld 7),
 oo 9 (.len false (.s 8)),
 oo 10 (bi .gtr (.s 9) (ci 31)),
 oo 6 (ms 10)]
def F47r2 : RL := [oo 2 (.mov (ci 2))]
def F47r3 : RL := [oo 12 (fd 3 1),
 oo 13 (ld 12),
 oo 14 (.len false (.s 13)),
 oo 15 (fd 4 1),
 oo 16 (ld 15),
 oo 17 (.len false (.s 16)),
 oo 18 (bi .neq (.s 14) (.s 17)),
 oo 11 (ms 18)]
def F47r4 : RL := [oo 2 (.mov (ci 1))]
def F47r5 : RL := [oo 19 (fd 3 1),
 oo 20 (ld 19),
 oo 21 (.len false (.s 20)),
 oo 22 (.mov (ci 0))]
def F47r6 : RL := [oo 23 (bi .lss (.s 22) (.s 21))]
def F47r7 : RL := [oo 24 (ms 22),
 oo 25 (.iad 8 (.s 20) (.s 22)),
 oo 26 (lq 8 25),
 oo 4 (.new [zi 0, zi 0, zi 0, zs, zi 0, zi 0, zs, .v (.int .u64 0)]),
 oo 3 (ms 24),
 ow (.store 8 (.s 4) (.s 26))]
def F47r8 : RL := [oo 27 (fd 0 4),
 oo 28 (ld 27),
 oo 29 (ms 3),
 oo 30 (bi .neq (.s 28) (.s 29))]
def F47r9 : RL := [oo 2 (.mov (ci 1))]
def F47r10 : RL := [oo 31 (fd 0 1),
 oo 32 (lq 2 31),
 oo 33 (lq 8 4),
 oo 34 (cl 67 [.s 32, .s 33]),
 oo 5 (ms 34)]
def F47r11 : RL := [oo 35 (ms 5),
 oo 36 (bi .neq (.s 35) (ci 0))]
def F47r12 : RL := [oo 37 (ms 5),
 oo 2 (ms 37)]
def F47r13 : RL := [oo 38 (fd 4 1),
 oo 39 (ld 38),
 oo 40 (ms 3),
 oo 41 (.iad 2 (.s 39) (.s 40)),
 oo 42 (lq 2 41),
 oo 43 (lq 8 4),
 oo 44 (fd 6 1),
 oo 45 (ld 44),
 oo 46 (cl 68 [.s 42, .s 43, .s 45]),
 oo 47 (.un .not (.s 46))]
def F47r14 : RL := [oo 2 (.mov (ci 4))]
def F47r15 : RL := [oo 48 (bi .add (.s 22) (ci 1)),
 oo 22 (ms 48)]
def F47r16 : RL := [oo 2 (.mov (ci 0))]
def F47 : AFn := ⟨49, [.tmp 2],
  sr F47r0
  (.seq (.block 0 (
    sr F47r1
    (cd 6
      (sr F47r2
      (.ret))
      (sr F47r3
      (cd 11
        (sr F47r4
        (.ret))
        (.skip))))))
  (.seq (sr F47r5
  (.block 1 (
    .loop (
      sr F47r6
      (.seq (cd 23
        (.skip)
        (.exit 1))
      (.seq (.block 2 (
        sr F47r7
        (.seq (sr F47r8
        (cd 30
          (sr F47r9
          (.ret))
          (.skip)))
        (.seq (sr F47r10
        (sr F47r11
        (cd 36
          (sr F47r12
          (.ret))
          (.skip))))
        (.seq (.reg F47r13 (some [[], [0], [], [1, 2, 0], [3, 1, 2, 0], [], [], [6], [4, 5, 7, 3, 1, 2, 0, 6], [8, 4, 5, 7, 3, 1, 2, 0, 6]]))
        (cd 47
          (sr F47r14
          (.ret))
          (.skip)))))))
      (rg F47r15)))))))
  (sr F47r16
  (.ret))))⟩
theorem F47_ok : cFunc Tryd.prog 47 = some F47 := by kernel_rfl
theorem F47_call : callable Tryd.prog 47 = true := by kernel_rfl
def F48r0 : RL := [oo 1 (.box 7 (.s 0)),
 oo 2 (.mov (ci 0))]
def F48r1 : RL := [oo 6 (fd 5 1),
 oo 7 (ld 6),
 oo 8 (.len false (.s 7)),
 oo 9 (bi .gtr (.s 8) (ci 200))]
def F48r2 : RL := [oo 2 (.mov (ci 2))]
def F48r3 : RL := [oo 10 (fd 5 1),
 oo 11 (ld 10),
 oo 12 (.len false (.s 11)),
 oo 13 (.mov (ci 0))]
def F48r4 : RL := [oo 14 (bi .lss (.s 13) (.s 12))]
def F48r5 : RL := [oo 15 (.iad 6 (.s 11) (.s 13)),
 oo 16 (lq 6 15),
 oo 4 (.new [zi 0, zi 0, zi 0, zi 0, zi 0, zs]),
 ow (.store 6 (.s 4) (.s 16))]
def F48r6 : RL := [oo 17 (lq 6 4),
 oo 18 (cl 69 [.s 17]),
 oo 5 (ms 18)]
def F48r7 : RL := [oo 19 (ms 5),
 oo 20 (bi .neq (.s 19) (ci 0))]
def F48r8 : RL := [oo 21 (ms 5),
 oo 2 (ms 21)]
def F48r9 : RL := [oo 22 (fd 2 4),
 oo 23 (ld 22),
 oo 24 (fd 2 1),
 oo 25 (ld 24),
 oo 26 (.len false (.s 25)),
 oo 27 (bi .geq (.s 23) (.s 26)),
 oo 28 (ms 27),
 on 29 (fd 1 4) 28,
 on 30 (ld 29) 28,
 on 31 (fd 3 1) 28,
 on 32 (ld 31) 28,
 on 33 (.len false (.s 32)) 28,
 on 34 (bi .geq (.s 30) (.s 33)) 28,
 oo 35 (.pick (.s 28) cT (.s 34))]
def F48r10 : RL := [oo 2 (.mov (ci 3))]
def F48r11 : RL := [oo 36 (bi .add (.s 13) (ci 1)),
 oo 13 (ms 36)]
def F48r12 : RL := [oo 2 (.mov (ci 0))]
def F48 : AFn := ⟨37, [.tmp 2],
  sr F48r0
  (.seq (sr F48r1
  (cd 9
    (sr F48r2
    (.ret))
    (.skip)))
  (.seq (sr F48r3
  (.block 0 (
    .loop (
      sr F48r4
      (.seq (cd 14
        (.skip)
        (.exit 0))
      (.seq (.block 1 (
        sr F48r5
        (.seq (sr F48r6
        (sr F48r7
        (cd 20
          (sr F48r8
          (.ret))
          (.skip))))
        (sr F48r9
        (cd 35
          (sr F48r10
          (.ret))
          (.skip))))))
      (rg F48r11)))))))
  (sr F48r12
  (.ret))))⟩
theorem F48_ok : cFunc Tryd.prog 48 = some F48 := by kernel_rfl
theorem F48_call : callable Tryd.prog 48 = true := by kernel_rfl
def F49r0 : RL := [oo 1 (.box 3 (.s 0)),
 oo 2 (.mov (ci 0))]
def F49r1 : RL := [oo 4 (fd 0 1),
 oo 5 (lq 2 4),
 oo 6 (cl 70 [.s 5]),
 oo 3 (ms 6)]
def F49r2 : RL := [oo 7 (ms 3),
 oo 8 (bi .eql (.s 7) (ci 0)),
 oo 9 (ms 8),
 ot 10 (fd 2 1) 9,
 ot 11 (ld 10) 9,
 ot 12 (.len true (.s 11)) 9,
 ot 13 (bi .gtr (.s 12) (ci 64)) 9,
 oo 14 (.pick (.s 9) (.s 13) cF)]
def F49r3 : RL := [oo 3 (.mov (ci 2))]
def F49r4 : RL := [oo 15 (ms 3),
 oo 2 (ms 15)]
def F49 : AFn := ⟨16, [.tmp 2],
  sr F49r0
  (sr F49r1
  (.seq (sr F49r2
  (cd 14
    (rg F49r3)
    (.skip)))
  (sr F49r4
  (.ret))))⟩
theorem F49_ok : cFunc Tryd.prog 49 = some F49 := by kernel_rfl
theorem F49_call : callable Tryd.prog 49 = true := by kernel_rfl
def F50r0 : RL := [oo 2 (.box 2 (.s 0)),
 oo 3 (.box 8 (.s 1)),
 oo 4 (.mov (ci 0))]
def F50r1 : RL := [oo 6 (fd 0 2),
 oo 7 (ld 6),
 oo 8 (fd 1 2),
 oo 9 (ld 8),
 oo 10 (cl 38 [.s 7, .s 9]),
 oo 5 (ms 10)]
def F50r2 : RL := [oo 11 (ms 5),
 oo 12 (bi .neq (.s 11) (ci 0))]
def F50r3 : RL := [oo 13 (ms 5),
 oo 4 (ms 13)]
def F50r4 : RL := [oo 14 (fd 0 3),
 oo 15 (ld 14),
 oo 16 (bi .lss (.s 15) (ci 0)),
 oo 17 (ms 16),
 on 18 (fd 0 3) 17,
 on 19 (ld 18) 17,
 on 20 (bi .gtr (.s 19) (ci 30)) 17,
 oo 21 (.pick (.s 17) cT (.s 20))]
def F50r5 : RL := [oo 4 (.mov (ci 3))]
def F50r6 : RL := [oo 22 (fd 1 3),
 oo 23 (ld 22),
 oo 24 (bi .lss (.s 23) (ci 1)),
 oo 25 (ms 24),
 on 26 (fd 1 3) 25,
 on 27 (ld 26) 25,
 on 28 (bi .gtr (.s 27) (ci 2)) 25,
 oo 29 (.pick (.s 25) cT (.s 28)),
 oo 30 (ms 29),
 on 31 (fd 2 3) 30,
 on 32 (ld 31) 30,
 on 33 (bi .lss (.s 32) (ci 1)) 30,
 oo 34 (.pick (.s 30) cT (.s 33)),
 oo 35 (ms 34),
 on 36 (fd 2 3) 35,
 on 37 (ld 36) 35,
 on 38 (bi .gtr (.s 37) (ci 3)) 35,
 oo 39 (.pick (.s 35) cT (.s 38))]
def F50r7 : RL := [oo 4 (.mov (ci 7))]
def F50r8 : RL := [oo 40 (fd 3 3),
 oo 41 (ld 40),
 oo 42 (.len true (.s 41)),
 oo 43 (bi .gtr (.s 42) (ci 64))]
def F50r9 : RL := [oo 4 (.mov (ci 2))]
def F50r10 : RL := [oo 44 (fd 1 3),
 oo 45 (ld 44),
 oo 46 (bi .eql (.s 45) (ci 1)),
 oo 47 (ms 46),
 ot 48 (fd 3 3) 47,
 ot 49 (ld 48) 47,
 ot 50 (.len true (.s 49)) 47,
 ot 51 (bi .gtr (.s 50) (ci 0)) 47,
 oo 52 (.pick (.s 47) (.s 51) cF)]
def F50r11 : RL := [oo 4 (.mov (ci 1))]
def F50r12 : RL := [oo 53 (fd 4 3),
 oo 54 (lq 3 53),
 oo 55 (cl 49 [.s 54]),
 oo 5 (ms 55)]
def F50r13 : RL := [oo 56 (ms 5),
 oo 57 (bi .neq (.s 56) (ci 0))]
def F50r14 : RL := [oo 58 (ms 5),
 oo 4 (ms 58)]
def F50r15 : RL := [oo 59 (fd 7 3),
 oo 60 (ld 59),
 oo 61 (fd 0 2),
 oo 62 (ld 61),
 oo 63 (.len false (.s 62)),
 oo 64 (bi .shl (.c (.v (.int .u64 1))) (.s 63)),
 oo 65 (bi .geq (.s 60) (.s 64))]
def F50r16 : RL := [oo 4 (.mov (ci 3))]
def F50r17 : RL := [oo 4 (.mov (ci 0))]
def F50 : AFn := ⟨66, [.tmp 4],
  sr F50r0
  (sr F50r1
  (.seq (sr F50r2
  (cd 12
    (sr F50r3
    (.ret))
    (.skip)))
  (.seq (sr F50r4
  (cd 21
    (sr F50r5
    (.ret))
    (.skip)))
  (.seq (sr F50r6
  (cd 39
    (sr F50r7
    (.ret))
    (.skip)))
  (.seq (sr F50r8
  (cd 43
    (sr F50r9
    (.ret))
    (.skip)))
  (.seq (sr F50r10
  (cd 52
    (sr F50r11
    (.ret))
    (.skip)))
  (sr F50r12
  (.seq (sr F50r13
  (cd 57
    (sr F50r14
    (.ret))
    (.skip)))
  (.seq (.seq (.reg F50r15 (some [[], [0], [], [2], [3, 2], [4, 3, 2], [1, 5, 0, 4, 3, 2]]))
  (cd 65
    (sr F50r16
    (.ret))
    (.skip)))
  (sr F50r17
  (.ret)))))))))))⟩
theorem F50_ok : cFunc Tryd.prog 50 = some F50 := by kernel_rfl
theorem F50_call : callable Tryd.prog 50 = true := by kernel_rfl
def F51r0 : RL := [oo 1 (.box 6 (.s 0)),
 oo 2 (.mov (ci 0))]
def F51r1 : RL := [oo 4 (fd 0 1),
 oo 5 (ld 4),
 oo 6 (bi .lss (.s 5) (ci 1)),
 oo 7 (ms 6),
 on 8 (fd 0 1) 7,
 on 9 (ld 8) 7,
 on 10 (bi .gtr (.s 9) (ci 4)) 7,
 oo 11 (.pick (.s 7) cT (.s 10))]
def F51r2 : RL := [oo 2 (.mov (ci 7))]
def F51r3 : RL := [oo 12 (fd 1 1),
 oo 13 (ld 12),
 oo 14 (bi .lss (.s 13) (ci 0)),
 oo 15 (ms 14),
 on 16 (fd 1 1) 15,
 on 17 (ld 16) 15,
 on 18 (bi .gtr (.s 17) (ci 30)) 15,
 oo 19 (.pick (.s 15) cT (.s 18)),
 oo 20 (ms 19),
 on 21 (fd 2 1) 20,
 on 22 (ld 21) 20,
 on 23 (bi .lss (.s 22) (ci 0)) 20,
 oo 24 (.pick (.s 20) cT (.s 23)),
 oo 25 (ms 24),
 on 26 (fd 2 1) 25,
 on 27 (ld 26) 25,
 on 28 (bi .gtr (.s 27) (ci 11)) 25,
 oo 29 (.pick (.s 25) cT (.s 28))]
def F51r4 : RL := [oo 2 (.mov (ci 3))]
def F51r5 : RL := [oo 30 (fd 3 1),
 oo 31 (lq 3 30),
 oo 32 (cl 49 [.s 31]),
 oo 3 (ms 32)]
def F51r6 : RL := [oo 33 (ms 3),
 oo 34 (bi .neq (.s 33) (ci 0))]
def F51r7 : RL := [oo 35 (ms 3),
 oo 2 (ms 35)]
def F51r8 : RL := [oo 36 (fd 0 1),
 oo 37 (ld 36),
 oo 38 (cl 71 [.s 37]),
 oo 39 (.un .not (.s 38)),
 oo 40 (ms 39),
 ot 41 (fd 3 1) 40,
 ot 42 (lq 3 41) 40,
 ot 43 (.agg [zi 0, zi 0, zs] []) 40,
 ot 44 (.eqs true 3 [(0, .int), (1, .int), (2, .str)] (.s 42) (.s 43)) 40,
 oo 45 (.pick (.s 40) (.s 44) cF)]
def F51r9 : RL := [oo 2 (.mov (ci 1))]
def F51r10 : RL := [oo 2 (.mov (ci 0))]
def F51 : AFn := ⟨46, [.tmp 2],
  sr F51r0
  (.seq (sr F51r1
  (cd 11
    (sr F51r2
    (.ret))
    (.skip)))
  (.seq (sr F51r3
  (cd 29
    (sr F51r4
    (.ret))
    (.skip)))
  (sr F51r5
  (.seq (sr F51r6
  (cd 34
    (sr F51r7
    (.ret))
    (.skip)))
  (.seq (sr F51r8
  (cd 45
    (sr F51r9
    (.ret))
    (.skip)))
  (sr F51r10
  (.ret)))))))⟩
theorem F51_ok : cFunc Tryd.prog 51 = some F51 := by kernel_rfl
theorem F51_call : callable Tryd.prog 51 = true := by kernel_rfl
def F52r0 : RL := [oo 1 (.box 7 (.s 0)),
 oo 2 (.new [.emp, zi 0, .emp, .emp, .emp, .emp, zi 0])]
def F52r1 : RL := [oo 3 (fd 0 1),
 oo 4 (fd 0 3),
 oo 5 (ld 4),
 oo 6 (cl 36 [.s 5]),
 oo 7 (fd 0 1),
 oo 8 (fd 1 7),
 oo 9 (ld 8),
 oo 10 (.agg [.emp, zi 0] [(0, (1, .s 6)), (1, (1, .s 9))]),
 oo 11 (fd 2 1),
 oo 12 (ld 11),
 oo 13 (cl 72 [.s 12]),
 oo 14 (fd 3 1),
 oo 15 (ld 14),
 oo 16 (cl 73 [.s 15]),
 oo 17 (fd 4 1),
 oo 18 (ld 17),
 oo 19 (cl 74 [.s 18]),
 oo 20 (fd 5 1),
 oo 21 (ld 20),
 oo 22 (cl 75 [.s 21]),
 oo 23 (fd 6 1),
 oo 24 (ld 23),
 oo 25 (.agg [.emp, zi 0, .emp, .emp, .emp, .emp, zi 0] [(0, (2, .s 10)), (2, (1, .s 13)), (3, (1, .s 16)), (4, (1, .s 19)), (5, (1, .s 22)), (6, (1, .s 24))]),
 ow (.store 7 (.s 2) (.s 25))]
def F52 : AFn := ⟨26, [.cell 2 (some 7)],
  sr F52r0
  (.seq (.reg F52r1 (some [[], [0], [1, 0], [2, 1, 0], [], [4], [5, 4], [3, 6, 2, 1, 0, 5, 4], [], [8], [9, 3, 8, 2, 1, 0], [], [11], [12, 10, 11, 9, 3, 8, 2, 1, 0], [], [14], [15, 13, 14, 12, 10, 11, 9, 3, 8, 2, 1, 0], [], [17], [18, 16, 17, 15, 13, 14, 12, 10, 11, 9, 3, 8, 2, 1, 0], [], [20], [7, 10, 13, 16, 19, 21, 3, 6, 2, 1, 0, 5, 4, 9, 8, 12, 11, 15, 14, 18, 17, 20], [22, 19, 0, 1, 2, 3, 4, 5, 6, 7, 8, 9, 10, 11, 12, 13, 14, 15, 16, 17, 18, 20, 21]]))
  (.ret))⟩
theorem F52_ok : cFunc Tryd.prog 52 = some F52 := by kernel_rfl
theorem F52_call : callable Tryd.prog 52 = true := by kernel_rfl
def F53r0 : RL := [oo 2 (.box 2 (.s 0)),
 oo 3 (.box 2 (.s 1)),
 oo 4 (.mov (ci 0))]
def F53r1 : RL := [oo 5 (fd 0 2),
 oo 6 (ld 5),
 oo 7 (fd 0 3),
 oo 8 (ld 7),
 oo 9 (cl 77 [.s 6, .s 8]),
 oo 10 (fd 1 2),
 oo 11 (ld 10),
 oo 12 (fd 1 3),
 oo 13 (ld 12),
 oo 14 (cl 77 [.s 11, .s 13]),
 oo 15 (.bsl 1 2 [zi 0] [(0, .s 9), (1, .s 14)]),
 oo 16 (cl 76 [.s 15]),
 oo 4 (ms 16)]
def F53 : AFn := ⟨17, [.tmp 4],
  sr F53r0
  (.seq (.reg F53r1 (some [[], [0], [], [2], [1, 3, 0, 2], [], [5], [], [7], [6, 8, 4, 5, 7, 1, 3, 0, 2], [4, 9, 1, 3, 0, 2, 6, 8, 5, 7], [10, 9, 4, 1, 3, 0, 2, 6, 8, 5, 7], [11, 0, 1, 2, 3, 4, 5, 6, 7, 8, 9, 10]]))
  (.ret))⟩
theorem F53_ok : cFunc Tryd.prog 53 = some F53 := by kernel_rfl
theorem F53_call : callable Tryd.prog 53 = true := by kernel_rfl
def F54r0 : RL := [oo 4 (.mov (ci 0)),
 oo 5 (.mov (ci 0))]
def F54r1 : RL := [oo 9 (ms 0),
 oo 10 (cl 59 [.s 9]),
 oo 8 (ms 10),
 oo 11 (.ext 0 (.s 8)),
 oo 12 (.ext 1 (.s 8)),
 oo 6 (ms 11),
 oo 7 (ms 12)]
def F54r2 : RL := [oo 13 (ms 7),
 oo 14 (bi .neq (.s 13) (ci 0))]
def F54r3 : RL := [oo 15 (ms 7),
 oo 4 (.mov (ci 0)),
 oo 5 (ms 15)]
def F54r4 : RL := [oo 16 (ms 1),
 oo 17 (cl 78 [.s 16]),
 oo 18 (ms 0),
 oo 19 (.len false (.s 18)),
 oo 20 (bi .gtr (.s 17) (.s 19))]
def F54r5 : RL := [oo 4 (.mov (ci 0)),
 oo 5 (.mov (ci 3))]
def F54r6 : RL := [oo 21 (ms 1),
 oo 22 (bi .neq (.s 21) (.c (.v (.int .u64 0))))]
def F54r7 : RL := [oo 27 (ms 4),
 oo 28 (ms 0),
 oo 29 (ms 1),
 oo 30 (cl 79 [.s 29]),
 oo 31 (.iad 1 (.s 28) (.s 30)),
 oo 32 (ld 31),
 oo 33 (bi .add (.s 27) (.s 32)),
 oo 4 (ms 33)]
def F54r8 : RL := [oo 23 (ms 1),
 oo 24 (ms 1),
 oo 25 (bi .sub (.s 24) (.c (.v (.int .u64 1)))),
 oo 26 (bi .and (.s 23) (.s 25)),
 oo 1 (ms 26)]
def F54r9 : RL := [oo 34 (ms 4),
 oo 4 (ms 34),
 oo 5 (.mov (ci 0))]
def F54 : AFn := ⟨35, [.tmp 4, .tmp 5],
  sr F54r0
  (.seq (sr F54r1
  (sr F54r2
  (cd 14
    (sr F54r3
    (.ret))
    (.skip))))
  (.seq (sr F54r4
  (cd 20
    (sr F54r5
    (.ret))
    (.skip)))
  (.seq (.block 0 (
    .loop (
      .seq (sr F54r6
      (cd 22
        (.skip)
        (.exit 0)))
      (.seq (.block 1 (
        rg F54r7))
      (rg F54r8)))))
  (sr F54r9
  (.ret)))))⟩
theorem F54_ok : cFunc Tryd.prog 54 = some F54 := by kernel_rfl
theorem F54_call : callable Tryd.prog 54 = true := by kernel_rfl
def F59r0 : RL := [oo 2 (.mov (ci 0)),
 oo 3 (.mov (ci 0))]
def F59r1 : RL := [oo 7 (ms 0),
 oo 8 (.len false (.s 7)),
 oo 9 (bi .eql (.s 8) (ci 0)),
 oo 6 (ms 9)]
def F59r2 : RL := [oo 2 (.mov (ci 0)),
 oo 3 (.mov (ci 8))]
def F59r3 : RL := [oo 11 (ms 0),
 oo 12 (.len false (.s 11)),
 oo 13 (bi .gtr (.s 12) (ci 12)),
 oo 10 (ms 13)]
def F59r4 : RL := [oo 2 (.mov (ci 0)),
 oo 3 (.mov (ci 2))]
def F59r5 : RL := [oo 14 (ms 0),
 oo 15 (.len false (.s 14)),
 oo 16 (.mov (ci 0))]
def F59r6 : RL := [oo 17 (bi .lss (.s 16) (.s 15))]
def F59r7 : RL := [oo 18 (.iad 1 (.s 14) (.s 16)),
 oo 19 (ld 18),
 oo 5 (ms 19)]
def F59r8 : RL := [oo 20 (ms 5),
 oo 21 (bi .lss (.s 20) (ci 0)),
 oo 22 (ms 21),
 on 23 (ms 5) 22,
 on 24 (bi .gtr (.s 23) (ci 100)) 22,
 oo 25 (.pick (.s 22) cT (.s 24))]
def F59r9 : RL := [oo 2 (.mov (ci 0)),
 oo 3 (.mov (ci 3))]
def F59r10 : RL := [oo 26 (ms 2),
 oo 27 (ms 5),
 oo 28 (bi .add (.s 26) (.s 27)),
 oo 2 (ms 28)]
def F59r11 : RL := [oo 29 (bi .add (.s 16) (ci 1)),
 oo 16 (ms 29)]
def F59r12 : RL := [oo 30 (ms 2),
 oo 2 (ms 30),
 oo 3 (.mov (ci 0))]
def F59 : AFn := ⟨31, [.tmp 2, .tmp 3],
  sr F59r0
  (.seq (.block 0 (
    sr F59r1
    (cd 6
      (sr F59r2
      (.ret))
      (sr F59r3
      (cd 10
        (sr F59r4
        (.ret))
        (.skip))))))
  (.seq (sr F59r5
  (.block 1 (
    .loop (
      sr F59r6
      (.seq (cd 17
        (.skip)
        (.exit 1))
      (.seq (.block 2 (
        sr F59r7
        (.seq (sr F59r8
        (cd 25
          (sr F59r9
          (.ret))
          (.skip)))
        (rg F59r10))))
      (rg F59r11)))))))
  (sr F59r12
  (.ret))))⟩
theorem F59_ok : cFunc Tryd.prog 59 = some F59 := by kernel_rfl
theorem F59_call : callable Tryd.prog 59 = true := by kernel_rfl
def F61r0 : RL := [oo 3 (.box 3 (.s 1)),
 oo 4 (.mov (ci 0))]
def F61r1 : RL := [oo 7 (ms 0),
 oo 8 (.nilc (.s 7)),
 oo 9 (fd 0 8),
 oo 10 (fd 6 9),
 oo 11 (ld 10),
 oo 12 (bi .add (.s 11) (ci 1)),
 oo 13 (.nilc (.s 7)),
 oo 14 (fd 0 13),
 oo 15 (fd 6 14),
 ow (.store 1 (.s 15) (.s 12))]
def F61r2 : RL := [oo 16 (fd 0 3),
 oo 17 (ld 16),
 oo 18 (bi .eql (.s 17) (ci 1)),
 oo 19 (ms 18),
 on 20 (fd 0 3) 19,
 on 21 (ld 20) 19,
 on 22 (bi .eql (.s 21) (ci 2)) 19,
 oo 23 (.pick (.s 19) cT (.s 22)),
 oo 5 (ms 23)]
def F61r3 : RL := [oo 25 (fd 0 3),
 oo 26 (ld 25),
 oo 27 (bi .lss (.s 26) (ci 1)),
 oo 28 (ms 27),
 on 29 (fd 0 3) 28,
 on 30 (ld 29) 28,
 on 31 (bi .gtr (.s 30) (ci 5)) 28,
 oo 32 (.pick (.s 28) cT (.s 31)),
 oo 24 (ms 32)]
def F61r4 : RL := [oo 4 (.mov (ci 7))]
def F61r5 : RL := [oo 34 (fd 2 3),
 oo 35 (ld 34),
 oo 36 (bi .neq (.s 35) (.c (zs))),
 oo 37 (ms 36),
 ot 38 (fd 0 3) 37,
 ot 39 (ld 38) 37,
 ot 40 (bi .neq (.s 39) (ci 2)) 37,
 oo 41 (.pick (.s 37) (.s 40) cF),
 oo 33 (ms 41)]
def F61r6 : RL := [oo 42 (ms 5),
 oo 43 (ms 42),
 ot 44 (fd 1 3) 43,
 ot 45 (ld 44) 43,
 ot 46 (bi .neq (.s 45) (ci 0)) 43,
 oo 47 (.pick (.s 43) (.s 46) cF),
 oo 33 (ms 47)]
def F61r7 : RL := [oo 4 (.mov (ci 1))]
def F61r8 : RL := [oo 49 (fd 0 3),
 oo 50 (ld 49),
 oo 51 (bi .eql (.s 50) (ci 1)),
 oo 48 (ms 51)]
def F61r9 : RL := [oo 52 (ms 0),
 oo 53 (cl 94 [.s 52, ci 1, .c (zs)]),
 oo 4 (ms 53)]
def F61r10 : RL := [oo 55 (fd 0 3),
 oo 56 (ld 55),
 oo 57 (bi .eql (.s 56) (ci 2)),
 oo 54 (ms 57)]
def F61r11 : RL := [oo 58 (ms 0),
 oo 59 (fd 2 3),
 oo 60 (ld 59),
 oo 61 (cl 94 [.s 58, ci 2, .s 60]),
 oo 4 (ms 61)]
def F61r12 : RL := [oo 63 (fd 1 3),
 oo 64 (ld 63),
 oo 65 (bi .lss (.s 64) (ci 0)),
 oo 66 (ms 65),
 on 67 (fd 1 3) 66,
 on 68 (ld 67) 66,
 on 69 (ms 0) 66,
 on 70 (.nilc (.s 69)) 66,
 on 71 (fd 0 70) 66,
 on 72 (fd 5 71) 66,
 on 73 (ld 72) 66,
 on 74 (.len false (.s 73)) 66,
 on 75 (bi .geq (.s 68) (.s 74)) 66,
 oo 76 (.pick (.s 66) cT (.s 75)),
 oo 62 (ms 76)]
def F61r13 : RL := [oo 4 (.mov (ci 3))]
def F61r14 : RL := [oo 77 (ms 0),
 oo 78 (.nilc (.s 77)),
 oo 79 (fd 0 78),
 oo 80 (fd 5 79),
 oo 81 (ld 80),
 oo 82 (fd 1 3),
 oo 83 (ld 82),
 oo 84 (.iad 6 (.s 81) (.s 83)),
 oo 85 (lq 6 84),
 oo 6 (.new [zi 0, zi 0, zi 0, zi 0, zi 0, zs]),
 ow (.store 6 (.s 6) (.s 85))]
def F61r15 : RL := [oo 86 (fd 0 3),
 oo 87 (ld 86),
 oo 88 (bi .eql (.s 87) (ci 5))]
def F61r16 : RL := [oo 89 (ms 0),
 oo 90 (lq 6 6),
 oo 91 (.bsl 6 1 [zi 0, zi 0, zi 0, zi 0, zi 0, zs] [(0, .s 90)]),
 oo 92 (cl 95 [.s 89, .s 91]),
 oo 4 (ms 92)]
def F61r17 : RL := [oo 93 (ms 0),
 oo 94 (ms 0),
 oo 95 (.nilc (.s 94)),
 oo 96 (fd 0 95),
 oo 97 (fd 5 96),
 oo 98 (ld 97),
 oo 99 (fd 1 3),
 oo 100 (ld 99),
 oo 101 (fd 1 3),
 oo 102 (ld 101),
 oo 103 (bi .add (.s 102) (ci 1)),
 oo 104 (cl 96 [.s 98, .s 100, .s 103]),
 oo 105 (.nilc (.s 93)),
 oo 106 (fd 0 105),
 oo 107 (fd 5 106),
 ow (.store 1 (.s 107) (.s 104))]
def F61r18 : RL := [oo 108 (fd 0 3),
 oo 109 (ld 108),
 oo 110 (bi .eql (.s 109) (ci 4))]
def F61r19 : RL := [oo 4 (.mov (ci 0))]
def F61r20 : RL := [oo 111 (ms 0),
 oo 112 (lq 6 6),
 oo 113 (cl 97 [.s 111, .s 112]),
 oo 4 (ms 113)]
def F61 : AFn := ⟨114, [.tmp 4],
  sr F61r0
  (sr F61r1
  (sr F61r2
  (.seq (.block 0 (
    sr F61r3
    (cd 24
      (sr F61r4
      (.ret))
      (.seq (sr F61r5
      (cd 33
        (.skip)
        (rg F61r6)))
      (cd 33
        (sr F61r7
        (.ret))
        (sr F61r8
        (cd 48
          (sr F61r9
          (.ret))
          (sr F61r10
          (cd 54
            (sr F61r11
            (.ret))
            (.seq (.reg F61r12 (some [[], [0], [1, 0], [2, 1, 0], [3, 2, 1, 0], [4, 3, 2, 1, 0], [3, 2, 1, 0], [6, 3, 2, 1, 0], [7, 3, 6, 2, 1, 0], [8, 3, 7, 6, 2, 1, 0], [9, 3, 8, 7, 6, 2, 1, 0], [10, 3, 9, 8, 7, 6, 2, 1, 0], [5, 11, 3, 4, 2, 1, 0, 10, 9, 8, 7, 6], [3, 12, 2, 1, 0, 5, 11, 4, 10, 9, 8, 7, 6], [13, 3, 12, 2, 1, 0, 5, 11, 4, 10, 9, 8, 7, 6]]))
            (cd 62
              (sr F61r13
              (.ret))
              (.skip))))))))))))
  (.seq (.reg F61r14 (some [[], [0], [1, 0], [2, 1, 0], [3, 2, 1, 0], [], [5], [4, 6, 3, 2, 1, 0, 5], [7, 4, 6, 3, 2, 1, 0, 5], [], [9, 8, 0, 1, 2, 3, 4, 5, 6, 7]]))
  (.seq (sr F61r15
  (cd 88
    (sr F61r16
    (.ret))
    (.skip)))
  (.seq (.reg F61r17 (some [[], [], [1], [2, 1], [3, 2, 1], [4, 3, 2, 1], [], [6], [], [8], [9, 8], [5, 7, 10, 4, 3, 2, 1, 6, 9, 8], [0, 1, 2, 3, 4, 5, 6, 7, 8, 9, 10, 11], [12, 0, 1, 2, 3, 4, 5, 6, 7, 8, 9, 10, 11], [13, 0, 1, 2, 3, 4, 5, 6, 7, 8, 9, 10, 11, 12], [14, 11, 0, 1, 2, 3, 4, 5, 6, 7, 8, 9, 10, 13, 12]]))
  (.seq (sr F61r18
  (cd 110
    (sr F61r19
    (.ret))
    (.skip)))
  (sr F61r20
  (.ret)))))))))⟩
theorem F61_ok : cFunc Tryd.prog 61 = some F61 := by kernel_rfl
theorem F61_call : callable Tryd.prog 61 = true := by kernel_rfl
def F62r0 : RL := [oo 2 (.mov (ci 0)),
 oo 3 (.mov (ci 0))]
def F62r1 : RL := [oo 6 (ms 0),
 oo 7 (.len false (.s 6)),
 oo 8 (bi .eql (.s 7) (ci 0))]
def F62r2 : RL := [oo 2 (.mov (ci 0)),
 oo 3 (.mov (ci 8))]
def F62r3 : RL := [oo 9 (ms 0),
 oo 10 (.len false (.s 9)),
 oo 11 (bi .gtr (.s 10) (ci 12))]
def F62r4 : RL := [oo 2 (.mov (ci 0)),
 oo 3 (.mov (ci 2))]
def F62r5 : RL := [oo 4 (.mov (ci 0))]
def F62r6 : RL := [oo 5 (.mov (ci 0))]
def F62r7 : RL := [oo 12 (ms 5),
 oo 13 (ms 0),
 oo 14 (.len false (.s 13)),
 oo 15 (bi .lss (.s 12) (.s 14))]
def F62r8 : RL := [oo 18 (ms 0),
 oo 19 (ms 5),
 oo 20 (.iad 1 (.s 18) (.s 19)),
 oo 21 (ld 20),
 oo 22 (bi .lss (.s 21) (ci 0)),
 oo 23 (ms 22),
 on 24 (ms 0) 23,
 on 25 (ms 5) 23,
 on 26 (.iad 1 (.s 24) (.s 25)) 23,
 on 27 (ld 26) 23,
 on 28 (bi .gtr (.s 27) (ci 100)) 23,
 oo 29 (.pick (.s 23) cT (.s 28))]
def F62r9 : RL := [oo 2 (.mov (ci 0)),
 oo 3 (.mov (ci 3))]
def F62r10 : RL := [oo 30 (ms 4),
 oo 31 (ms 0),
 oo 32 (ms 5),
 oo 33 (.iad 1 (.s 31) (.s 32)),
 oo 34 (ld 33),
 oo 35 (bi .add (.s 30) (.s 34)),
 oo 4 (ms 35)]
def F62r11 : RL := [oo 16 (ms 5),
 oo 17 (bi .add (.s 16) (ci 1)),
 oo 5 (ms 17)]
def F62r12 : RL := [oo 36 (ms 4),
 oo 2 (ms 36),
 oo 3 (.mov (ci 0))]
def F62 : AFn := ⟨37, [.tmp 2, .tmp 3],
  sr F62r0
  (.seq (sr F62r1
  (cd 8
    (sr F62r2
    (.ret))
    (.skip)))
  (.seq (sr F62r3
  (cd 11
    (sr F62r4
    (.ret))
    (.skip)))
  (sr F62r5
  (.seq (sr F62r6
  (.block 0 (
    .loop (
      .seq (sr F62r7
      (cd 15
        (.skip)
        (.exit 0)))
      (.seq (.block 1 (
        .seq (sr F62r8
        (cd 29
          (sr F62r9
          (.ret))
          (.skip)))
        (rg F62r10)))
      (rg F62r11))))))
  (sr F62r12
  (.ret))))))⟩
theorem F62_ok : cFunc Tryd.prog 62 = some F62 := by kernel_rfl
theorem F62_call : callable Tryd.prog 62 = true := by kernel_rfl
def F63r0 : RL := [oo 3 (.box 6 (.s 1)),
 oo 4 (.mov (.c .emp))]
def F63r1 : RL := [oo 5 (.mov (.c .emp))]
def F63r2 : RL := [oo 6 (.mov (ci 0))]
def F63r3 : RL := [oo 7 (ms 6),
 oo 8 (ms 0),
 oo 9 (bi .lss (.s 7) (.s 8))]
def F63r4 : RL := [oo 12 (ms 6),
 oo 13 (fd 2 3),
 ow (.store 1 (.s 13) (.s 12))]
def F63r5 : RL := [oo 14 (ms 5),
 oo 15 (lq 6 3),
 oo 16 (.bsl 6 1 [zi 0, zi 0, zi 0, zi 0, zi 0, zs] [(0, .s 15)]),
 oo 17 (.app 6 56 (.s 14) (.s 16)),
 oo 5 (ms 17)]
def F63r6 : RL := [oo 10 (ms 6),
 oo 11 (bi .add (.s 10) (ci 1)),
 oo 6 (ms 11)]
def F63r7 : RL := [oo 18 (ms 5),
 oo 4 (ms 18)]
def F63 : AFn := ⟨19, [.tmp 4],
  sr F63r0
  (sr F63r1
  (.seq (sr F63r2
  (.block 0 (
    .loop (
      .seq (sr F63r3
      (cd 9
        (.skip)
        (.exit 0)))
      (.seq (.block 1 (
        sr F63r4
        (rg F63r5)))
      (rg F63r6))))))
  (sr F63r7
  (.ret))))⟩
theorem F63_ok : cFunc Tryd.prog 63 = some F63 := by kernel_rfl
theorem F63_call : callable Tryd.prog 63 = true := by kernel_rfl
def F64r0 : RL := [oo 2 (.box 3 (.s 0)),
 oo 3 (.box 6 (.s 1)),
 oo 4 (.new [zi 0, zi 0, zs]),
 oo 5 (.mov (.c .emp)),
 oo 6 (.mov (ci 0))]
def F64r1 : RL := [oo 10 (lq 3 2),
 oo 11 (cl 49 [.s 10]),
 oo 7 (ms 11)]
def F64r2 : RL := [oo 12 (ms 7),
 oo 13 (bi .eql (.s 12) (ci 0))]
def F64r3 : RL := [oo 14 (lq 6 3),
 oo 15 (cl 51 [.s 14]),
 oo 7 (ms 15)]
def F64r4 : RL := [oo 16 (ms 7),
 oo 17 (bi .neq (.s 16) (ci 0))]
def F64r5 : RL := [oo 18 (.agg [zi 0, zi 0, zs] []),
 oo 19 (ms 7),
 ow (.store 3 (.s 4) (.s 18)),
 oo 5 (.mov (.c .emp)),
 oo 6 (ms 19)]
def F64r6 : RL := [oo 20 (fd 0 3),
 oo 21 (ld 20),
 oo 22 (bi .eql (.s 21) (ci 1))]
def F64r7 : RL := [oo 23 (lq 3 2),
 oo 24 (fd 1 3),
 oo 25 (ld 24),
 oo 26 (fd 2 3),
 oo 27 (ld 26),
 oo 28 (lq 3 2),
 oo 29 (.agg [zi 0, zi 0, zi 0, zi 0, zi 0, zs] [(0, (1, ci 2)), (1, (1, .s 25)), (2, (1, .s 27)), (3, (3, .s 28))]),
 oo 30 (.bsl 6 1 [zi 0, zi 0, zi 0, zi 0, zi 0, zs] [(0, .s 29)]),
 ow (.store 3 (.s 4) (.s 23)),
 oo 5 (ms 30),
 oo 6 (.mov (ci 0))]
def F64r8 : RL := [oo 31 (fd 0 3),
 oo 32 (ld 31),
 oo 33 (bi .eql (.s 32) (ci 3))]
def F64r9 : RL := [oo 35 (lq 3 2),
 oo 36 (fd 3 3),
 oo 37 (lq 3 36),
 oo 38 (cl 98 [.s 35, .s 37]),
 oo 34 (ms 38),
 oo 39 (.ext 0 (.s 34)),
 oo 40 (.ext 1 (.s 34)),
 oo 8 (.new [zi 0, zi 0, zs]),
 ow (.store 3 (.s 8) (.s 39)),
 oo 9 (ms 40)]
def F64r10 : RL := [oo 41 (lq 3 8),
 oo 42 (fd 1 3),
 oo 43 (ld 42),
 oo 44 (fd 2 3),
 oo 45 (ld 44),
 oo 46 (.agg [zi 0, zi 0, zi 0, zi 0, zi 0, zs] [(0, (1, ci 4)), (1, (1, .s 43)), (2, (1, .s 45))]),
 oo 47 (.bsl 6 1 [zi 0, zi 0, zi 0, zi 0, zi 0, zs] [(0, .s 46)]),
 ow (.store 3 (.s 4) (.s 41)),
 oo 5 (ms 47),
 oo 6 (.mov (ci 0))]
def F64r11 : RL := [oo 48 (lq 3 2),
 ow (.store 3 (.s 4) (.s 48)),
 oo 5 (.mov (.c .emp)),
 oo 6 (.mov (ci 0))]
def F64 : AFn := ⟨49, [.cell 4 (some 3), .tmp 5, .tmp 6],
  sr F64r0
  (sr F64r1
  (.seq (sr F64r2
  (cd 13
    (rg F64r3)
    (.skip)))
  (.seq (sr F64r4
  (cd 17
    (sr F64r5
    (.ret))
    (.skip)))
  (.seq (sr F64r6
  (cd 22
    (.seq (.reg F64r7 (some [[], [], [1], [], [3], [], [2, 4, 5, 1, 3], [6, 2, 4, 5, 1, 3], [0], [7, 8, 0, 1, 2, 3, 4, 5, 6], [9, 0, 1, 2, 3, 4, 5, 6, 7, 8]]))
    (.ret))
    (.skip)))
  (.seq (sr F64r8
  (cd 33
    (sr F64r9
    (.seq (.reg F64r10 (some [[], [], [1], [], [3], [2, 4, 1, 3], [5, 2, 4, 1, 3], [0], [6, 7, 0, 1, 2, 3, 4, 5], [8, 0, 1, 2, 3, 4, 5, 6, 7]]))
    (.ret)))
    (.skip)))
  (sr F64r11
  (.ret)))))))⟩
theorem F64_ok : cFunc Tryd.prog 64 = some F64 := by kernel_rfl
theorem F64_call : callable Tryd.prog 64 = true := by kernel_rfl
def F65r0 : RL := [oo 3 (.box 2 (.s 0)),
 oo 4 (.box 8 (.s 1)),
 oo 5 (.box 6 (.s 2)),
 oo 6 (.new [zi 0, zi 0, zi 0, zs, zi 0, zi 0, zs, .v (.int .u64 0)]),
 oo 7 (.mov (.c .emp)),
 oo 8 (.mov (ci 0))]
def F65r1 : RL := [oo 14 (lq 2 3),
 oo 15 (lq 8 4),
 oo 16 (cl 50 [.s 14, .s 15]),
 oo 9 (ms 16)]
def F65r2 : RL := [oo 17 (ms 9),
 oo 18 (bi .eql (.s 17) (ci 0))]
def F65r3 : RL := [oo 19 (lq 6 5),
 oo 20 (cl 51 [.s 19]),
 oo 9 (ms 20)]
def F65r4 : RL := [oo 21 (ms 9),
 oo 22 (bi .neq (.s 21) (ci 0))]
def F65r5 : RL := [oo 23 (.agg [zi 0, zi 0, zi 0, zs, zi 0, zi 0, zs, .v (.int .u64 0)] []),
 oo 24 (ms 9),
 ow (.store 8 (.s 6) (.s 23)),
 oo 7 (.mov (.c .emp)),
 oo 8 (ms 24)]
def F65r6 : RL := [oo 25 (fd 2 4),
 oo 26 (ld 25),
 oo 27 (bi .eql (.s 26) (ci 1)),
 oo 28 (ms 27),
 ot 29 (fd 0 5) 28,
 ot 30 (ld 29) 28,
 ot 31 (bi .eql (.s 30) (ci 2)) 28,
 oo 32 (.pick (.s 28) (.s 31) cF),
 oo 33 (ms 32),
 on 34 (fd 2 4) 33,
 on 35 (ld 34) 33,
 on 36 (bi .eql (.s 35) (ci 2)) 33,
 on 37 (ms 36) 33,
 ot 38 (fd 0 5) 37,
 ot 39 (ld 38) 37,
 ot 40 (bi .eql (.s 39) (ci 4)) 37,
 on 41 (.pick (.s 37) (.s 40) cF) 33,
 oo 42 (.pick (.s 33) cT (.s 41)),
 oo 10 (ms 42)]
def F65r7 : RL := [oo 43 (ms 10),
 oo 44 (.un .not (.s 43)),
 oo 45 (ms 44),
 on 46 (fd 1 5) 45,
 on 47 (ld 46) 45,
 on 48 (fd 0 4) 45,
 on 49 (ld 48) 45,
 on 50 (bi .neq (.s 47) (.s 49)) 45,
 oo 51 (.pick (.s 45) cT (.s 50)),
 oo 52 (ms 51),
 on 53 (fd 2 5) 52,
 on 54 (ld 53) 52,
 on 55 (fd 0 3) 52,
 on 56 (ld 55) 52,
 on 57 (.len false (.s 56)) 52,
 on 58 (bi .geq (.s 54) (.s 57)) 52,
 oo 59 (.pick (.s 52) cT (.s 58)),
 oo 60 (ms 59),
 on 61 (fd 7 4) 60,
 on 62 (ld 61) 60,
 on 63 (fd 2 5) 60,
 on 64 (ld 63) 60,
 on 65 (cl 34 [.s 62, .s 64]) 60,
 oo 66 (.pick (.s 60) cT (.s 65))]
def F65r8 : RL := [oo 67 (lq 8 4),
 ow (.store 8 (.s 6) (.s 67)),
 oo 7 (.mov (.c .emp)),
 oo 8 (.mov (ci 0))]
def F65r9 : RL := [oo 68 (lq 8 4),
 oo 11 (.new [zi 0, zi 0, zi 0, zs, zi 0, zi 0, zs, .v (.int .u64 0)]),
 ow (.store 8 (.s 11) (.s 68))]
def F65r10 : RL := [oo 69 (fd 7 11),
 oo 70 (ld 69),
 oo 71 (fd 2 5),
 oo 72 (ld 71),
 oo 73 (bi .shl (.c (.v (.int .u64 1))) (.s 72)),
 oo 74 (bi .add (.s 70) (.s 73)),
 oo 75 (fd 7 11),
 ow (.store 1 (.s 75) (.s 74))]
def F65r11 : RL := [oo 76 (fd 2 4),
 oo 77 (ld 76),
 oo 78 (bi .eql (.s 77) (ci 1))]
def F65r12 : RL := [oo 80 (fd 4 4),
 oo 81 (lq 3 80),
 oo 82 (fd 3 5),
 oo 83 (lq 3 82),
 oo 84 (.bsl 3 2 [zi 0, zi 0, zs] [(0, .s 81), (1, .s 83)]),
 oo 85 (cl 99 [.s 84]),
 oo 79 (ms 85),
 oo 86 (.ext 0 (.s 79)),
 oo 87 (.ext 1 (.s 79)),
 oo 88 (fd 4 11),
 ow (.store 3 (.s 88) (.s 86))]
def F65r13 : RL := [oo 89 (fd 0 3),
 oo 90 (ld 89),
 oo 91 (fd 7 11),
 oo 92 (ld 91),
 oo 93 (cl 100 [.s 90, .s 92]),
 oo 94 (fd 1 3),
 oo 95 (ld 94),
 oo 96 (bi .lss (.s 93) (.s 95))]
def F65r14 : RL := [oo 97 (lq 8 11),
 ow (.store 8 (.s 6) (.s 97)),
 oo 7 (.mov (.c .emp)),
 oo 8 (.mov (ci 0))]
def F65r15 : RL := [oo 98 (fd 2 4),
 oo 99 (ld 98),
 oo 100 (bi .eql (.s 99) (ci 2))]
def F65r16 : RL := [oo 101 (fd 2 11),
 ow (.store 1 (.s 101) (ci 3))]
def F65r17 : RL := [oo 102 (lq 8 11),
 ow (.store 8 (.s 6) (.s 102)),
 oo 7 (.mov (.c .emp)),
 oo 8 (.mov (ci 0))]
def F65r18 : RL := [oo 103 (fd 1 4),
 oo 104 (ld 103),
 oo 105 (bi .eql (.s 104) (ci 2))]
def F65r19 : RL := [oo 107 (fd 4 11),
 oo 108 (fd 0 107),
 oo 109 (lq 2 108),
 oo 110 (.bsl 2 1 [zi 0, zi 0] [(0, .s 109)]),
 oo 111 (fd 0 4),
 oo 112 (ld 111),
 oo 113 (cl 101 [.s 110, .s 112]),
 oo 106 (ms 113),
 oo 114 (.ext 0 (.s 106)),
 oo 115 (.ext 1 (.s 106)),
 oo 12 (.new [zi 0, zi 0]),
 ow (.store 2 (.s 12) (.s 114)),
 oo 13 (ms 115)]
def F65r20 : RL := [oo 116 (ms 13),
 oo 117 (bi .neq (.s 116) (ci 0))]
def F65r21 : RL := [oo 118 (lq 8 4),
 ow (.store 8 (.s 6) (.s 118)),
 oo 7 (.mov (.c .emp)),
 oo 8 (.mov (ci 0))]
def F65r22 : RL := [oo 119 (lq 2 12),
 oo 120 (fd 3 4),
 oo 121 (ld 120),
 oo 122 (.agg [zi 0, zi 0, zs] [(0, (2, .s 119)), (2, (1, .s 121))]),
 oo 123 (fd 4 11),
 ow (.store 3 (.s 123) (.s 122))]
def F65r23 : RL := [oo 124 (fd 2 11),
 ow (.store 1 (.s 124) (ci 2))]
def F65r24 : RL := [oo 125 (fd 7 11),
 ow (.store 1 (.s 125) (.c (.v (.int .u64 0))))]
def F65r25 : RL := [oo 126 (lq 8 11),
 oo 127 (fd 0 3),
 oo 128 (ld 127),
 oo 129 (.len false (.s 128)),
 oo 130 (fd 0 4),
 oo 131 (ld 130),
 oo 132 (fd 4 11),
 oo 133 (lq 3 132),
 oo 134 (.agg [zi 0, zi 0, zi 0, zi 0, zi 0, zs] [(0, (1, ci 3)), (1, (1, .s 131)), (3, (3, .s 133))]),
 oo 135 (cl 63 [.s 129, .s 134]),
 ow (.store 8 (.s 6) (.s 126)),
 oo 7 (ms 135),
 oo 8 (.mov (ci 0))]
def F65 : AFn := ⟨136, [.cell 6 (some 8), .tmp 7, .tmp 8],
  sr F65r0
  (sr F65r1
  (.seq (sr F65r2
  (cd 18
    (rg F65r3)
    (.skip)))
  (.seq (sr F65r4
  (cd 22
    (sr F65r5
    (.ret))
    (.skip)))
  (sr F65r6
  (.seq (sr F65r7
  (cd 66
    (sr F65r8
    (.ret))
    (.skip)))
  (sr F65r9
  (.seq (.reg F65r10 (some [[], [0], [], [2], [3, 2], [1, 4, 0, 3, 2], [0, 1, 2, 3, 4, 5], [6, 5, 0, 1, 2, 3, 4]]))
  (.seq (sr F65r11
  (cd 78
    (rg F65r12)
    (.skip)))
  (.seq (.seq (.reg F65r13 (some [[], [0], [], [2], [1, 3, 0, 2], [], [5], [4, 6, 1, 3, 0, 2, 5]]))
  (cd 96
    (sr F65r14
    (.ret))
    (.skip)))
  (.seq (sr F65r15
  (cd 100
    (sr F65r16
    (sr F65r17
    (.ret)))
    (.skip)))
  (.seq (sr F65r18
  (cd 105
    (sr F65r19
    (.seq (sr F65r20
    (cd 117
      (sr F65r21
      (.ret))
      (.skip)))
    (rg F65r22)))
    (.skip)))
  (sr F65r23
  (sr F65r24
  (.seq (.reg F65r25 (some [[], [], [1], [2, 1], [], [4], [], [6], [5, 7, 4, 6], [3, 8, 2, 1, 5, 7, 4, 6], [0, 9, 3, 8, 2, 1, 5, 7, 4, 6], [9, 10, 0, 1, 2, 3, 4, 5, 6, 7, 8], [11, 0, 1, 2, 3, 4, 5, 6, 7, 8, 9, 10]]))
  (.ret)))))))))))))))⟩
theorem F65_ok : cFunc Tryd.prog 65 = some F65 := by kernel_rfl
theorem F65_call : callable Tryd.prog 65 = true := by kernel_rfl
def F66r0 : RL := [oo 1 (.box 2 (.s 0)),
 oo 2 (.mov (ci 0))]
def F66r1 : RL := [oo 3 (fd 0 1),
 oo 4 (ld 3),
 oo 5 (bi .lss (.s 4) (ci 0)),
 oo 6 (ms 5),
 on 7 (fd 0 1) 6,
 on 8 (ld 7) 6,
 on 9 (bi .gtr (.s 8) (ci 1000000)) 6,
 oo 10 (.pick (.s 6) cT (.s 9)),
 oo 11 (ms 10),
 on 12 (fd 1 1) 11,
 on 13 (ld 12) 11,
 on 14 (cl 102 [.s 13]) 11,
 on 15 (.un .not (.s 14)) 11,
 oo 16 (.pick (.s 11) cT (.s 15))]
def F66r2 : RL := [oo 2 (.mov (ci 3))]
def F66r3 : RL := [oo 2 (.mov (ci 0))]
def F66 : AFn := ⟨17, [.tmp 2],
  sr F66r0
  (.seq (sr F66r1
  (cd 16
    (sr F66r2
    (.ret))
    (.skip)))
  (sr F66r3
  (.ret)))⟩
theorem F66_ok : cFunc Tryd.prog 66 = some F66 := by kernel_rfl
theorem F66_call : callable Tryd.prog 66 = true := by kernel_rfl
def F67r0 : RL := [oo 2 (.box 2 (.s 0)),
 oo 3 (.box 8 (.s 1)),
 oo 4 (.mov (ci 0))]
def F67r1 : RL := [oo 7 (fd 0 2),
 oo 8 (ld 7),
 oo 9 (fd 1 2),
 oo 10 (ld 9),
 oo 11 (cl 35 [.s 8, .s 10]),
 oo 5 (ms 11)]
def F67r2 : RL := [oo 12 (ms 5),
 oo 13 (bi .neq (.s 12) (ci 0))]
def F67r3 : RL := [oo 14 (ms 5),
 oo 4 (ms 14)]
def F67r4 : RL := [oo 16 (fd 0 3),
 oo 17 (ld 16),
 oo 18 (cl 103 [.s 17, ci 0, ci 30]),
 oo 19 (.un .not (.s 18)),
 oo 15 (ms 19)]
def F67r5 : RL := [oo 4 (.mov (ci 3))]
def F67r6 : RL := [oo 21 (fd 1 3),
 oo 22 (ld 21),
 oo 23 (cl 103 [.s 22, ci 1, ci 2]),
 oo 24 (.un .not (.s 23)),
 oo 20 (ms 24)]
def F67r7 : RL := [oo 25 (fd 2 3),
 oo 26 (ld 25),
 oo 27 (cl 103 [.s 26, ci 1, ci 3]),
 oo 28 (.un .not (.s 27)),
 oo 20 (ms 28)]
def F67r8 : RL := [oo 4 (.mov (ci 7))]
def F67r9 : RL := [oo 30 (fd 3 3),
 oo 31 (ld 30),
 oo 32 (.len true (.s 31)),
 oo 33 (bi .gtr (.s 32) (ci 64)),
 oo 29 (ms 33)]
def F67r10 : RL := [oo 4 (.mov (ci 2))]
def F67r11 : RL := [oo 35 (fd 1 3),
 oo 36 (ld 35),
 oo 37 (bi .eql (.s 36) (ci 1)),
 oo 38 (ms 37),
 ot 39 (fd 3 3) 38,
 ot 40 (ld 39) 38,
 ot 41 (bi .neq (.s 40) (.c (zs))) 38,
 oo 42 (.pick (.s 38) (.s 41) cF),
 oo 34 (ms 42)]
def F67r12 : RL := [oo 4 (.mov (ci 1))]
def F67r13 : RL := [oo 43 (fd 4 3),
 oo 44 (lq 3 43),
 oo 45 (cl 46 [.s 44]),
 oo 6 (ms 45)]
def F67r14 : RL := [oo 46 (ms 6),
 oo 47 (bi .eql (.s 46) (ci 0)),
 oo 48 (ms 47),
 ot 49 (fd 7 3) 48,
 ot 50 (ld 49) 48,
 ot 51 (cl 78 [.s 50]) 48,
 ot 52 (fd 0 2) 48,
 ot 53 (ld 52) 48,
 ot 54 (.len false (.s 53)) 48,
 ot 55 (bi .gtr (.s 51) (.s 54)) 48,
 oo 56 (.pick (.s 48) (.s 55) cF)]
def F67r15 : RL := [oo 6 (.mov (ci 3))]
def F67r16 : RL := [oo 57 (ms 6),
 oo 4 (ms 57)]
def F67 : AFn := ⟨58, [.tmp 4],
  sr F67r0
  (.seq (sr F67r1
  (sr F67r2
  (cd 13
    (sr F67r3
    (.ret))
    (.skip))))
  (.seq (.block 0 (
    sr F67r4
    (cd 15
      (sr F67r5
      (.ret))
      (.seq (sr F67r6
      (cd 20
        (.skip)
        (rg F67r7)))
      (cd 20
        (sr F67r8
        (.ret))
        (sr F67r9
        (cd 29
          (sr F67r10
          (.ret))
          (sr F67r11
          (cd 34
            (sr F67r12
            (.ret))
            (.skip))))))))))
  (sr F67r13
  (.seq (.seq (.reg F67r14 (some [[], [0], [1, 0], [2, 1, 0], [3, 2, 1, 0], [4, 2, 3, 1, 0], [2, 1, 0], [6, 2, 1, 0], [7, 2, 6, 1, 0], [5, 8, 2, 4, 3, 1, 0, 7, 6], [2, 9, 1, 0, 5, 8, 4, 3, 7, 6]]))
  (cd 56
    (rg F67r15)
    (.skip)))
  (sr F67r16
  (.ret))))))⟩
theorem F67_ok : cFunc Tryd.prog 67 = some F67 := by kernel_rfl
theorem F67_call : callable Tryd.prog 67 = true := by kernel_rfl
def F68r0 : RL := [oo 3 (.box 2 (.s 0)),
 oo 4 (.box 8 (.s 1)),
 oo 6 (.mov cF)]
def F68r1 : RL := [oo 7 (fd 0 3),
 oo 8 (ld 7),
 oo 9 (bi .lss (.s 8) (ci 1)),
 oo 10 (ms 9),
 on 11 (fd 0 3) 10,
 on 12 (ld 11) 10,
 on 13 (ms 2) 10,
 on 14 (bi .gtr (.s 12) (.s 13)) 10,
 oo 15 (.pick (.s 10) cT (.s 14))]
def F68r2 : RL := [oo 6 (.mov cF)]
def F68r3 : RL := [oo 16 (fd 2 4),
 oo 17 (ld 16),
 oo 18 (bi .neq (.s 17) (ci 3))]
def F68r4 : RL := [oo 19 (fd 1 3),
 oo 20 (ld 19),
 oo 21 (bi .eql (.s 20) (ci 0)),
 oo 6 (ms 21)]
def F68r5 : RL := [oo 22 (fd 1 3),
 oo 23 (ld 22),
 oo 24 (fd 0 3),
 oo 25 (ld 24),
 oo 26 (bi .geq (.s 23) (.s 25)),
 oo 27 (ms 26),
 ot 28 (fd 1 3) 27,
 ot 29 (ld 28) 27,
 ot 30 (ms 2) 27,
 ot 31 (bi .leq (.s 29) (.s 30)) 27,
 oo 32 (.pick (.s 27) (.s 31) cF),
 oo 6 (ms 32)]
def F68 : AFn := ⟨33, [.tmp 6],
  sr F68r0
  (.seq (sr F68r1
  (cd 15
    (sr F68r2
    (.ret))
    (.skip)))
  (.seq (sr F68r3
  (cd 18
    (sr F68r4
    (.ret))
    (.skip)))
  (sr F68r5
  (.ret))))⟩
theorem F68_ok : cFunc Tryd.prog 68 = some F68 := by kernel_rfl
theorem F68_call : callable Tryd.prog 68 = true := by kernel_rfl
def F69r0 : RL := [oo 1 (.box 6 (.s 0)),
 oo 2 (.mov (ci 0))]
def F69r1 : RL := [oo 5 (fd 0 1),
 oo 6 (ld 5),
 oo 7 (cl 104 [.s 6]),
 oo 8 (.un .not (.s 7)),
 oo 4 (ms 8)]
def F69r2 : RL := [oo 2 (.mov (ci 7))]
def F69r3 : RL := [oo 10 (fd 1 1),
 oo 11 (ld 10),
 oo 12 (bi .lss (.s 11) (ci 0)),
 oo 13 (ms 12),
 on 14 (fd 1 1) 13,
 on 15 (ld 14) 13,
 on 16 (bi .geq (.s 15) (ci 31)) 13,
 oo 17 (.pick (.s 13) cT (.s 16)),
 oo 9 (ms 17)]
def F69r4 : RL := [oo 18 (fd 2 1),
 oo 19 (ld 18),
 oo 20 (bi .lss (.s 19) (ci 0)),
 oo 21 (ms 20),
 on 22 (fd 2 1) 21,
 on 23 (ld 22) 21,
 on 24 (bi .geq (.s 23) (ci 12)) 21,
 oo 25 (.pick (.s 21) cT (.s 24)),
 oo 9 (ms 25)]
def F69r5 : RL := [oo 2 (.mov (ci 3))]
def F69r6 : RL := [oo 26 (fd 3 1),
 oo 27 (lq 3 26),
 oo 28 (cl 46 [.s 27]),
 oo 3 (ms 28)]
def F69r7 : RL := [oo 29 (ms 3),
 oo 30 (bi .eql (.s 29) (ci 0)),
 oo 31 (ms 30),
 ot 32 (fd 0 1) 31,
 ot 33 (ld 32) 31,
 ot 34 (cl 105 [.s 33]) 31,
 ot 35 (.un .not (.s 34)) 31,
 oo 36 (.pick (.s 31) (.s 35) cF),
 oo 37 (ms 36),
 ot 38 (fd 3 1) 37,
 ot 39 (lq 3 38) 37,
 ot 40 (.agg [zi 0, zi 0, zs] []) 37,
 ot 41 (.eqs true 3 [(0, .int), (1, .int), (2, .str)] (.s 39) (.s 40)) 37,
 oo 42 (.pick (.s 37) (.s 41) cF)]
def F69r8 : RL := [oo 3 (.mov (ci 1))]
def F69r9 : RL := [oo 43 (ms 3),
 oo 2 (ms 43)]
def F69 : AFn := ⟨44, [.tmp 2],
  sr F69r0
  (.seq (.block 0 (
    sr F69r1
    (cd 4
      (sr F69r2
      (.ret))
      (.seq (sr F69r3
      (cd 9
        (.skip)
        (rg F69r4)))
      (cd 9
        (sr F69r5
        (.ret))
        (.skip))))))
  (sr F69r6
  (.seq (sr F69r7
  (cd 42
    (rg F69r8)
    (.skip)))
  (sr F69r9
  (.ret)))))⟩
theorem F69_ok : cFunc Tryd.prog 69 = some F69 := by kernel_rfl
theorem F69_call : callable Tryd.prog 69 = true := by kernel_rfl
def F70r0 : RL := [oo 1 (.box 2 (.s 0)),
 oo 2 (.mov (ci 0))]
def F70r1 : RL := [oo 3 (fd 0 1),
 oo 4 (ld 3),
 oo 5 (bi .lss (.s 4) (ci 0)),
 oo 6 (ms 5),
 on 7 (fd 0 1) 6,
 on 8 (ld 7) 6,
 on 9 (bi .gtr (.s 8) (ci 1000000)) 6,
 oo 10 (.pick (.s 6) cT (.s 9)),
 oo 11 (ms 10),
 on 12 (fd 1 1) 11,
 on 13 (ld 12) 11,
 on 14 (bi .lss (.s 13) (ci 0)) 11,
 oo 15 (.pick (.s 11) cT (.s 14)),
 oo 16 (ms 15),
 on 17 (fd 1 1) 16,
 on 18 (ld 17) 16,
 on 19 (bi .gtr (.s 18) (ci 31)) 16,
 oo 20 (.pick (.s 16) cT (.s 19))]
def F70r2 : RL := [oo 2 (.mov (ci 3))]
def F70r3 : RL := [oo 2 (.mov (ci 0))]
def F70 : AFn := ⟨21, [.tmp 2],
  sr F70r0
  (.seq (sr F70r1
  (cd 20
    (sr F70r2
    (.ret))
    (.skip)))
  (sr F70r3
  (.ret)))⟩
theorem F70_ok : cFunc Tryd.prog 70 = some F70 := by kernel_rfl
theorem F70_call : callable Tryd.prog 70 = true := by kernel_rfl
def F71r0 : RL := [oo 2 (.mov cF)]
def F71r1 : RL := [oo 3 (ms 0),
 oo 4 (bi .eql (.s 3) (ci 2)),
 oo 5 (ms 4),
 on 6 (ms 0) 5,
 on 7 (bi .eql (.s 6) (ci 3)) 5,
 oo 8 (.pick (.s 5) cT (.s 7)),
 oo 2 (ms 8)]
def F71 : AFn := ⟨9, [.tmp 2],
  sr F71r0
  (sr F71r1
  (.ret))⟩
theorem F71_ok : cFunc Tryd.prog 71 = some F71 := by kernel_rfl
theorem F71_call : callable Tryd.prog 71 = true := by kernel_rfl
def F72r0 : RL := [oo 2 (.mov (.c .emp))]
def F72r1 : RL := [oo 3 (ms 0),
 oo 4 (.isn .sl false (.s 3))]
def F72r2 : RL := [oo 2 (.mov (.c .emp))]
def F72r3 : RL := [oo 5 (.bsl 3 0 [zi 0, zi 0, zs] []),
 oo 6 (ms 0),
 oo 7 (.app 3 32 (.s 5) (.s 6)),
 oo 2 (ms 7)]
def F72 : AFn := ⟨8, [.tmp 2],
  sr F72r0
  (.seq (sr F72r1
  (cd 4
    (sr F72r2
    (.ret))
    (.skip)))
  (sr F72r3
  (.ret)))⟩
theorem F72_ok : cFunc Tryd.prog 72 = some F72 := by kernel_rfl
theorem F72_call : callable Tryd.prog 72 = true := by kernel_rfl
def F73r0 : RL := [oo 2 (.mov (.c .emp))]
def F73r1 : RL := [oo 3 (ms 0),
 oo 4 (.isn .sl false (.s 3))]
def F73r2 : RL := [oo 2 (.mov (.c .emp))]
def F73r3 : RL := [oo 5 (.bsl 8 0 [zi 0, zi 0, zi 0, zs, zi 0, zi 0, zs, .v (.int .u64 0)] []),
 oo 6 (ms 0),
 oo 7 (.app 8 80 (.s 5) (.s 6)),
 oo 2 (ms 7)]
def F73 : AFn := ⟨8, [.tmp 2],
  sr F73r0
  (.seq (sr F73r1
  (cd 4
    (sr F73r2
    (.ret))
    (.skip)))
  (sr F73r3
  (.ret)))⟩
theorem F73_ok : cFunc Tryd.prog 73 = some F73 := by kernel_rfl
theorem F73_call : callable Tryd.prog 73 = true := by kernel_rfl
def F74r0 : RL := [oo 2 (.mov (.c .emp))]
def F74r1 : RL := [oo 3 (ms 0),
 oo 4 (.isn .sl false (.s 3))]
def F74r2 : RL := [oo 2 (.mov (.c .emp))]
def F74r3 : RL := [oo 5 (.bsl 2 0 [zi 0, zi 0] []),
 oo 6 (ms 0),
 oo 7 (.app 2 16 (.s 5) (.s 6)),
 oo 2 (ms 7)]
def F74 : AFn := ⟨8, [.tmp 2],
  sr F74r0
  (.seq (sr F74r1
  (cd 4
    (sr F74r2
    (.ret))
    (.skip)))
  (sr F74r3
  (.ret)))⟩
theorem F74_ok : cFunc Tryd.prog 74 = some F74 := by kernel_rfl
theorem F74_call : callable Tryd.prog 74 = true := by kernel_rfl
def F75r0 : RL := [oo 2 (.mov (.c .emp))]
def F75r1 : RL := [oo 3 (ms 0),
 oo 4 (.isn .sl false (.s 3))]
def F75r2 : RL := [oo 2 (.mov (.c .emp))]
def F75r3 : RL := [oo 5 (.bsl 6 0 [zi 0, zi 0, zi 0, zi 0, zi 0, zs] []),
 oo 6 (ms 0),
 oo 7 (.app 6 56 (.s 5) (.s 6)),
 oo 2 (ms 7)]
def F75 : AFn := ⟨8, [.tmp 2],
  sr F75r0
  (.seq (sr F75r1
  (cd 4
    (sr F75r2
    (.ret))
    (.skip)))
  (sr F75r3
  (.ret)))⟩
theorem F75_ok : cFunc Tryd.prog 75 = some F75 := by kernel_rfl
theorem F75_call : callable Tryd.prog 75 = true := by kernel_rfl
def F76r0 : RL := [oo 2 (.mov (ci 0))]
def F76r1 : RL := [oo 3 (.mov (ci 0))]
def F76r2 : RL := [oo 6 (ms 0),
 oo 7 (.len false (.s 6)),
 oo 8 (.mov (ci 0))]
def F76r3 : RL := [oo 9 (bi .lss (.s 8) (.s 7))]
def F76r4 : RL := [oo 10 (.iad 1 (.s 6) (.s 8)),
 oo 11 (ld 10),
 oo 5 (ms 11)]
def F76r5 : RL := [oo 12 (ms 5),
 oo 13 (ms 3),
 oo 14 (bi .neq (.s 12) (.s 13))]
def F76r6 : RL := [oo 15 (ms 5),
 oo 2 (ms 15)]
def F76r7 : RL := [oo 16 (bi .add (.s 8) (ci 1)),
 oo 8 (ms 16)]
def F76r8 : RL := [oo 17 (ms 3),
 oo 2 (ms 17)]
def F76 : AFn := ⟨18, [.tmp 2],
  sr F76r0
  (sr F76r1
  (.seq (sr F76r2
  (.block 0 (
    .loop (
      sr F76r3
      (.seq (cd 9
        (.skip)
        (.exit 0))
      (.seq (.block 1 (
        sr F76r4
        (sr F76r5
        (cd 14
          (sr F76r6
          (.ret))
          (.skip)))))
      (rg F76r7)))))))
  (sr F76r8
  (.ret))))⟩
theorem F76_ok : cFunc Tryd.prog 76 = some F76 := by kernel_rfl
theorem F76_call : callable Tryd.prog 76 = true := by kernel_rfl
def F77r0 : RL := [oo 4 (.mov (ci 0))]
def F77r1 : RL := [oo 7 (ms 0),
 oo 8 (cl 106 [.s 7]),
 oo 5 (ms 8)]
def F77r2 : RL := [oo 9 (ms 1),
 oo 10 (cl 106 [.s 9]),
 oo 6 (ms 10)]
def F77r3 : RL := [oo 11 (ms 5)]
def F77r4 : RL := [oo 12 (ms 6)]
def F77r5 : RL := [oo 4 (.mov (ci 0))]
def F77r6 : RL := [oo 4 (.mov (ci (-1)))]
def F77r7 : RL := [oo 13 (ms 6)]
def F77r8 : RL := [oo 4 (.mov (ci 1))]
def F77r9 : RL := [oo 14 (ms 0),
 oo 15 (ms 1),
 oo 16 (bi .lss (.s 14) (.s 15))]
def F77r10 : RL := [oo 4 (.mov (ci (-1)))]
def F77r11 : RL := [oo 17 (ms 0),
 oo 18 (ms 1),
 oo 19 (bi .gtr (.s 17) (.s 18))]
def F77r12 : RL := [oo 4 (.mov (ci 1))]
def F77r13 : RL := [oo 4 (.mov (ci 0))]
def F77 : AFn := ⟨20, [.tmp 4],
  sr F77r0
  (sr F77r1
  (sr F77r2
  (.seq (sr F77r3
  (cd 11
    (.seq (sr F77r4
    (cd 12
      (sr F77r5
      (.ret))
      (.skip)))
    (sr F77r6
    (.ret)))
    (.skip)))
  (.seq (sr F77r7
  (cd 13
    (sr F77r8
    (.ret))
    (.skip)))
  (.seq (sr F77r9
  (cd 16
    (sr F77r10
    (.ret))
    (.skip)))
  (.seq (sr F77r11
  (cd 19
    (sr F77r12
    (.ret))
    (.skip)))
  (sr F77r13
  (.ret))))))))⟩
theorem F77_ok : cFunc Tryd.prog 77 = some F77 := by kernel_rfl
theorem F77_call : callable Tryd.prog 77 = true := by kernel_rfl
def F78r0 : RL := [oo 2 (.mov (ci 0))]
def F78r1 : RL := [oo 3 (ms 0),
 oo 4 (bi .geq (.s 3) (.c (.v (.int .u64 4294967296))))]
def F78r2 : RL := [oo 5 (ms 0),
 oo 6 (bi .shr (.s 5) (.c (.v (.int .u64 32)))),
 oo 0 (ms 6)]
def F78r3 : RL := [oo 2 (.mov (ci 32))]
def F78r4 : RL := [oo 7 (ms 0),
 oo 8 (bi .geq (.s 7) (.c (.v (.int .u64 65536))))]
def F78r5 : RL := [oo 9 (ms 0),
 oo 10 (bi .shr (.s 9) (.c (.v (.int .u64 16)))),
 oo 0 (ms 10)]
def F78r6 : RL := [oo 11 (ms 2),
 oo 12 (bi .add (.s 11) (ci 16)),
 oo 2 (ms 12)]
def F78r7 : RL := [oo 13 (ms 0),
 oo 14 (bi .geq (.s 13) (.c (.v (.int .u64 256))))]
def F78r8 : RL := [oo 15 (ms 0),
 oo 16 (bi .shr (.s 15) (.c (.v (.int .u64 8)))),
 oo 0 (ms 16)]
def F78r9 : RL := [oo 17 (ms 2),
 oo 18 (bi .add (.s 17) (ci 8)),
 oo 2 (ms 18)]
def F78r10 : RL := [oo 19 (ms 2),
 oo 20 (ms 0),
 oo 21 (.conv .u8 (.s 20)),
 oo 22 (.six (.c (.v (.string ⟨#[0, 1, 2, 2, 3, 3, 3, 3, 4, 4, 4, 4, 4, 4, 4, 4, 5, 5, 5, 5, 5, 5, 5, 5, 5, 5, 5, 5, 5, 5, 5, 5, 6, 6, 6, 6, 6, 6, 6, 6, 6, 6, 6, 6, 6, 6, 6, 6, 6, 6, 6, 6, 6, 6, 6, 6, 6, 6, 6, 6, 6, 6, 6, 6, 7, 7, 7, 7, 7, 7, 7, 7, 7, 7, 7, 7, 7, 7, 7, 7, 7, 7, 7, 7, 7, 7, 7, 7, 7, 7, 7, 7, 7, 7, 7, 7, 7, 7, 7, 7, 7, 7, 7, 7, 7, 7, 7, 7, 7, 7, 7, 7, 7, 7, 7, 7, 7, 7, 7, 7, 7, 7, 7, 7, 7, 7, 7, 7, 8, 8, 8, 8, 8, 8, 8, 8, 8, 8, 8, 8, 8, 8, 8, 8, 8, 8, 8, 8, 8, 8, 8, 8, 8, 8, 8, 8, 8, 8, 8, 8, 8, 8, 8, 8, 8, 8, 8, 8, 8, 8, 8, 8, 8, 8, 8, 8, 8, 8, 8, 8, 8, 8, 8, 8, 8, 8, 8, 8, 8, 8, 8, 8, 8, 8, 8, 8, 8, 8, 8, 8, 8, 8, 8, 8, 8, 8, 8, 8, 8, 8, 8, 8, 8, 8, 8, 8, 8, 8, 8, 8, 8, 8, 8, 8, 8, 8, 8, 8, 8, 8, 8, 8, 8, 8, 8, 8, 8, 8, 8, 8, 8, 8, 8, 8, 8, 8, 8, 8, 8, 8, 8, 8, 8, 8, 8, 8]⟩))) (.s 21)),
 oo 23 (.conv .i64 (.s 22)),
 oo 24 (bi .add (.s 19) (.s 23)),
 oo 2 (ms 24)]
def F78 : AFn := ⟨25, [.tmp 2],
  sr F78r0
  (.seq (sr F78r1
  (cd 4
    (sr F78r2
    (rg F78r3))
    (.skip)))
  (.seq (sr F78r4
  (cd 8
    (sr F78r5
    (rg F78r6))
    (.skip)))
  (.seq (sr F78r7
  (cd 14
    (sr F78r8
    (rg F78r9))
    (.skip)))
  (sr F78r10
  (.ret)))))⟩
theorem F78_ok : cFunc Tryd.prog 78 = some F78 := by kernel_rfl
theorem F78_call : callable Tryd.prog 78 = true := by kernel_rfl
def F79r0 : RL := [oo 2 (.mov (ci 0))]
def F79r1 : RL := [oo 3 (ms 0),
 oo 4 (bi .eql (.s 3) (.c (.v (.int .u64 0))))]
def F79r2 : RL := [oo 2 (.mov (ci 64))]
def F79r3 : RL := [oo 5 (ms 0),
 oo 6 (ms 0),
 oo 7 (.un .neg (.s 6)),
 oo 8 (bi .and (.s 5) (.s 7)),
 oo 9 (bi .mul (.s 8) (.c (.v (.int .u64 285870213051353865)))),
 oo 10 (bi .shr (.s 9) (.c (.v (.int .u64 58)))),
 oo 11 (.iap 1 64 (.c (.pim [.v (.int .u8 0), .v (.int .u8 1), .v (.int .u8 56), .v (.int .u8 2), .v (.int .u8 57), .v (.int .u8 49), .v (.int .u8 28), .v (.int .u8 3), .v (.int .u8 61), .v (.int .u8 58), .v (.int .u8 42), .v (.int .u8 50), .v (.int .u8 38), .v (.int .u8 29), .v (.int .u8 17), .v (.int .u8 4), .v (.int .u8 62), .v (.int .u8 47), .v (.int .u8 59), .v (.int .u8 36), .v (.int .u8 45), .v (.int .u8 43), .v (.int .u8 51), .v (.int .u8 22), .v (.int .u8 53), .v (.int .u8 39), .v (.int .u8 33), .v (.int .u8 30), .v (.int .u8 24), .v (.int .u8 18), .v (.int .u8 12), .v (.int .u8 5), .v (.int .u8 63), .v (.int .u8 55), .v (.int .u8 48), .v (.int .u8 27), .v (.int .u8 60), .v (.int .u8 41), .v (.int .u8 37), .v (.int .u8 16), .v (.int .u8 46), .v (.int .u8 35), .v (.int .u8 44), .v (.int .u8 21), .v (.int .u8 52), .v (.int .u8 32), .v (.int .u8 23), .v (.int .u8 11), .v (.int .u8 54), .v (.int .u8 26), .v (.int .u8 40), .v (.int .u8 15), .v (.int .u8 34), .v (.int .u8 20), .v (.int .u8 31), .v (.int .u8 10), .v (.int .u8 25), .v (.int .u8 14), .v (.int .u8 19), .v (.int .u8 9), .v (.int .u8 13), .v (.int .u8 8), .v (.int .u8 7), .v (.int .u8 6)] 0)) (.s 10)),
 oo 12 (ld 11),
 oo 13 (.conv .i64 (.s 12)),
 oo 2 (ms 13)]
def F79 : AFn := ⟨14, [.tmp 2],
  sr F79r0
  (.seq (sr F79r1
  (cd 4
    (sr F79r2
    (.ret))
    (.skip)))
  (sr F79r3
  (.ret)))⟩
theorem F79_ok : cFunc Tryd.prog 79 = some F79 := by kernel_rfl
theorem F79_call : callable Tryd.prog 79 = true := by kernel_rfl
def F94r0 : RL := [oo 6 (.mov (ci 0))]
def F94r1 : RL := [oo 10 (ms 0),
 oo 11 (.nilc (.s 10)),
 oo 12 (fd 0 11),
 oo 13 (fd 3 12),
 oo 14 (ld 13),
 oo 15 (.len false (.s 14)),
 oo 16 (bi .eql (.s 15) (ci 31))]
def F94r2 : RL := [oo 6 (.mov (ci 2))]
def F94r3 : RL := [oo 18 (ms 0),
 oo 19 (.nilc (.s 18)),
 oo 20 (fd 0 19),
 oo 21 (fd 0 20),
 oo 22 (lq 2 21),
 oo 23 (ms 0),
 oo 24 (.nilc (.s 23)),
 oo 25 (fd 0 24),
 oo 26 (fd 3 25),
 oo 27 (ld 26),
 oo 28 (.len false (.s 27)),
 oo 29 (ms 1),
 oo 30 (ms 2),
 oo 31 (cl 119 [.s 22, .s 28, .s 29, .s 30]),
 oo 17 (ms 31),
 oo 32 (.ext 0 (.s 17)),
 oo 33 (.ext 1 (.s 17)),
 oo 34 (.ext 2 (.s 17)),
 oo 7 (.new [zi 0, zi 0, zi 0, zs, zi 0, zi 0, zs, .v (.int .u64 0)]),
 ow (.store 8 (.s 7) (.s 32)),
 oo 8 (ms 33),
 oo 9 (ms 34)]
def F94r4 : RL := [oo 35 (ms 9),
 oo 36 (bi .neq (.s 35) (ci 0))]
def F94r5 : RL := [oo 37 (ms 9),
 oo 6 (ms 37)]
def F94r6 : RL := [oo 38 (ms 0),
 oo 39 (ms 0),
 oo 40 (.nilc (.s 39)),
 oo 41 (fd 0 40),
 oo 42 (fd 3 41),
 oo 43 (ld 42),
 oo 44 (lq 8 7),
 oo 45 (.bsl 8 1 [zi 0, zi 0, zi 0, zs, zi 0, zi 0, zs, .v (.int .u64 0)] [(0, .s 44)]),
 oo 46 (.app 8 80 (.s 43) (.s 45)),
 oo 47 (.nilc (.s 38)),
 oo 48 (fd 0 47),
 oo 49 (fd 3 48),
 ow (.store 1 (.s 49) (.s 46))]
def F94r7 : RL := [oo 50 (ms 0),
 oo 51 (ms 0),
 oo 52 (.nilc (.s 51)),
 oo 53 (fd 0 52),
 oo 54 (fd 4 53),
 oo 55 (ld 54),
 oo 56 (ms 0),
 oo 57 (.nilc (.s 56)),
 oo 58 (fd 0 57),
 oo 59 (fd 6 58),
 oo 60 (ld 59),
 oo 61 (.agg [zi 0, zi 0] [(0, (1, .s 60))]),
 oo 62 (.bsl 2 1 [zi 0, zi 0] [(0, .s 61)]),
 oo 63 (.app 2 16 (.s 55) (.s 62)),
 oo 64 (.nilc (.s 50)),
 oo 65 (fd 0 64),
 oo 66 (fd 4 65),
 ow (.store 1 (.s 66) (.s 63))]
def F94r8 : RL := [oo 67 (ms 0),
 oo 68 (ms 8),
 oo 69 (cl 95 [.s 67, .s 68]),
 oo 6 (ms 69)]
def F94 : AFn := ⟨70, [.tmp 6],
  sr F94r0
  (.seq (sr F94r1
  (cd 16
    (sr F94r2
    (.ret))
    (.skip)))
  (.seq (.reg F94r3 (some [[], [0], [1, 0], [2, 1, 0], [3, 2, 1, 0], [], [5], [6, 5], [7, 6, 5], [8, 7, 6, 5], [9, 8, 7, 6, 5], [], [], [4, 10, 11, 12, 3, 2, 1, 0, 9, 8, 7, 6, 5], [13, 4, 10, 11, 12, 3, 2, 1, 0, 9, 8, 7, 6, 5], [14, 13, 4, 10, 11, 12, 3, 2, 1, 0, 9, 8, 7, 6, 5], [14, 13, 4, 10, 11, 12, 3, 2, 1, 0, 9, 8, 7, 6, 5], [14, 13, 4, 10, 11, 12, 3, 2, 1, 0, 9, 8, 7, 6, 5], [], [18, 15, 13, 0, 1, 2, 3, 4, 5, 6, 7, 8, 9, 10, 11, 12, 14], [16, 19, 0, 1, 2, 3, 4, 5, 6, 7, 8, 9, 10, 11, 12, 13, 14, 15, 18], [17, 20, 0, 1, 2, 3, 4, 5, 6, 7, 8, 9, 10, 11, 12, 13, 14, 15, 16, 18, 19]]))
  (.seq (sr F94r4
  (cd 36
    (sr F94r5
    (.ret))
    (.skip)))
  (.seq (.reg F94r6 (some [[], [], [1], [2, 1], [3, 2, 1], [4, 3, 2, 1], [], [6], [5, 7, 4, 3, 2, 1, 6], [0, 1, 2, 3, 4, 5, 6, 7, 8], [9, 0, 1, 2, 3, 4, 5, 6, 7, 8], [10, 0, 1, 2, 3, 4, 5, 6, 7, 8, 9], [11, 8, 0, 1, 2, 3, 4, 5, 6, 7, 10, 9]]))
  (.seq (.reg F94r7 (some [[], [], [1], [2, 1], [3, 2, 1], [4, 3, 2, 1], [], [6], [7, 6], [8, 7, 6], [9, 8, 7, 6], [10, 9, 8, 7, 6], [11, 10, 9, 8, 7, 6], [5, 12, 4, 3, 2, 1, 11, 10, 9, 8, 7, 6], [0, 1, 2, 3, 4, 5, 6, 7, 8, 9, 10, 11, 12, 13], [14, 0, 1, 2, 3, 4, 5, 6, 7, 8, 9, 10, 11, 12, 13], [15, 0, 1, 2, 3, 4, 5, 6, 7, 8, 9, 10, 11, 12, 13, 14], [16, 13, 0, 1, 2, 3, 4, 5, 6, 7, 8, 9, 10, 11, 12, 15, 14]]))
  (sr F94r8
  (.ret)))))))⟩
theorem F94_ok : cFunc Tryd.prog 94 = some F94 := by kernel_rfl
theorem F94_call : callable Tryd.prog 94 = true := by kernel_rfl
def F95r0 : RL := [oo 4 (.mov (ci 0))]
def F95r1 : RL := [oo 5 (ms 0),
 oo 6 (ms 0),
 oo 7 (.nilc (.s 6)),
 oo 8 (fd 0 7),
 oo 9 (fd 5 8),
 oo 10 (ld 9),
 oo 11 (ms 1),
 oo 12 (.app 6 56 (.s 10) (.s 11)),
 oo 13 (.nilc (.s 5)),
 oo 14 (fd 0 13),
 oo 15 (fd 5 14),
 ow (.store 1 (.s 15) (.s 12))]
def F95r2 : RL := [oo 16 (ms 0),
 oo 17 (.nilc (.s 16)),
 oo 18 (fd 0 17),
 oo 19 (fd 5 18),
 oo 20 (ld 19),
 oo 21 (.len false (.s 20)),
 oo 22 (bi .gtr (.s 21) (ci 200))]
def F95r3 : RL := [oo 4 (.mov (ci 2))]
def F95r4 : RL := [oo 4 (.mov (ci 0))]
def F95 : AFn := ⟨23, [.tmp 4],
  sr F95r0
  (sr F95r1
  (.seq (sr F95r2
  (cd 22
    (sr F95r3
    (.ret))
    (.skip)))
  (sr F95r4
  (.ret))))⟩
theorem F95_ok : cFunc Tryd.prog 95 = some F95 := by kernel_rfl
theorem F95_call : callable Tryd.prog 95 = true := by kernel_rfl
def F96r0 : RL := [oo 6 (.mov (.c .emp))]
def F96r1 : RL := [oo 8 (ms 0),
 oo 9 (ms 1),
 oo 10 (ms 2),
 oo 11 (ms 0),
 oo 12 (.len false (.s 11)),
 oo 13 (.slc 6 (.s 8) (some (.s 9)) (some (.s 10)) (some (.s 12)))]
def F96r2 : RL := [oo 14 (ms 1),
 oo 15 (ms 2),
 oo 16 (bi .eql (.s 14) (.s 15))]
def F96r3 : RL := [oo 17 (ms 0),
 oo 6 (ms 17)]
def F96r4 : RL := [oo 18 (ms 0),
 oo 19 (.len false (.s 18)),
 oo 7 (ms 19)]
def F96r5 : RL := [oo 20 (ms 0),
 oo 21 (ms 1),
 oo 22 (.slc 6 (.s 20) none (some (.s 21)) none),
 oo 23 (ms 0),
 oo 24 (ms 2),
 oo 25 (.slc 6 (.s 23) (some (.s 24)) none none),
 oo 26 (.app 6 56 (.s 22) (.s 25)),
 oo 0 (ms 26)]
def F96r6 : RL := [oo 27 (ms 0),
 oo 28 (ms 0),
 oo 29 (.len false (.s 28)),
 oo 30 (ms 7),
 oo 31 (.slc 6 (.s 27) (some (.s 29)) (some (.s 30)) none),
 ow (.clr [zi 0, zi 0, zi 0, zi 0, zi 0, zs] (.s 31))]
def F96r7 : RL := [oo 32 (ms 0),
 oo 6 (ms 32)]
def F96 : AFn := ⟨33, [.tmp 6],
  sr F96r0
  (sr F96r1
  (.seq (sr F96r2
  (cd 16
    (sr F96r3
    (.ret))
    (.skip)))
  (sr F96r4
  (.seq (.reg F96r5 (some [[], [], [0, 1], [], [], [3, 4], [2, 5, 0, 1, 3, 4], [6, 0, 1, 2, 3, 4, 5]]))
  (sr F96r6
  (sr F96r7
  (.ret)))))))⟩
theorem F96_ok : cFunc Tryd.prog 96 = some F96 := by kernel_rfl
theorem F96_call : callable Tryd.prog 96 = true := by kernel_rfl
def F97r0 : RL := [oo 3 (.box 6 (.s 1)),
 oo 4 (.mov (ci 0))]
def F97r1 : RL := [oo 5 (.mov (.c .emp))]
def F97r2 : RL := [oo 8 (fd 0 3),
 oo 9 (ld 8)]
def F97r3 : RL := [oo 66 (bi .eql (.s 9) (ci 1)),
 oo 65 (ms 66)]
def F97r4 : RL := [oo 67 (bi .eql (.s 9) (ci 3)),
 oo 65 (ms 67)]
def F97r5 : RL := [oo 69 (ms 0),
 oo 70 (.nilc (.s 69)),
 oo 71 (fd 0 70),
 oo 72 (fd 2 71),
 oo 73 (ld 72),
 oo 74 (fd 2 3),
 oo 75 (ld 74),
 oo 76 (ms 0),
 oo 77 (.nilc (.s 76)),
 oo 78 (fd 0 77),
 oo 79 (fd 2 78),
 oo 80 (ld 79),
 oo 81 (fd 2 3),
 oo 82 (ld 81),
 oo 83 (.iad 3 (.s 80) (.s 82)),
 oo 84 (lq 3 83),
 oo 85 (lq 6 3),
 oo 86 (cl 120 [.s 84, .s 85]),
 oo 68 (ms 86),
 oo 87 (.ext 0 (.s 68)),
 oo 88 (.ext 1 (.s 68)),
 oo 89 (.ext 2 (.s 68)),
 oo 90 (.iad 3 (.s 73) (.s 75)),
 ow (.store 3 (.s 90) (.s 87)),
 oo 5 (ms 88)]
def F97r6 : RL := [oo 10 (ms 0),
 oo 11 (.nilc (.s 10)),
 oo 12 (fd 0 11),
 oo 13 (fd 3 12),
 oo 14 (ld 13),
 oo 15 (fd 1 3),
 oo 16 (ld 15),
 oo 17 (.iad 8 (.s 14) (.s 16)),
 oo 6 (ms 17)]
def F97r7 : RL := [oo 18 (ms 6),
 oo 19 (.nilc (.s 18)),
 oo 20 (fd 2 19),
 oo 21 (ld 20),
 oo 7 (ms 21)]
def F97r8 : RL := [oo 23 (ms 6),
 oo 24 (ms 0),
 oo 25 (.nilc (.s 24)),
 oo 26 (fd 0 25),
 oo 27 (fd 0 26),
 oo 28 (lq 2 27),
 oo 29 (ms 6),
 oo 30 (.nilc (.s 29)),
 oo 31 (lq 8 30),
 oo 32 (lq 6 3),
 oo 33 (cl 121 [.s 28, .s 31, .s 32]),
 oo 22 (ms 33),
 oo 34 (.ext 0 (.s 22)),
 oo 35 (.ext 1 (.s 22)),
 oo 36 (.ext 2 (.s 22)),
 oo 37 (.nilc (.s 23)),
 ow (.store 8 (.s 37) (.s 34)),
 oo 5 (ms 35)]
def F97r9 : RL := [oo 38 (ms 6),
 oo 39 (.nilc (.s 38)),
 oo 40 (fd 2 39),
 oo 41 (ld 40),
 oo 42 (bi .eql (.s 41) (ci 3)),
 oo 43 (ms 42),
 ot 44 (ms 7) 43,
 ot 45 (ms 6) 43,
 ot 46 (.nilc (.s 45)) 43,
 ot 47 (fd 2 46) 43,
 ot 48 (ld 47) 43,
 ot 49 (bi .neq (.s 44) (.s 48)) 43,
 oo 50 (.pick (.s 43) (.s 49) cF)]
def F97r10 : RL := [oo 51 (ms 0),
 oo 52 (.nilc (.s 51)),
 oo 53 (fd 0 52),
 oo 54 (fd 4 53),
 oo 55 (ld 54),
 oo 56 (fd 1 3),
 oo 57 (ld 56),
 oo 58 (ms 0),
 oo 59 (.nilc (.s 58)),
 oo 60 (fd 0 59),
 oo 61 (fd 6 60),
 oo 62 (ld 61),
 oo 63 (.iad 2 (.s 55) (.s 57)),
 oo 64 (fd 1 63),
 ow (.store 1 (.s 64) (.s 62))]
def F97r11 : RL := [oo 91 (ms 0),
 oo 92 (ms 5),
 oo 93 (cl 95 [.s 91, .s 92]),
 oo 4 (ms 93)]
def F97 : AFn := ⟨94, [.tmp 4],
  sr F97r0
  (sr F97r1
  (.seq (sr F97r2
  (.block 0 (
    .seq (sr F97r3
    (cd 65
      (.skip)
      (rg F97r4)))
    (cd 65
      (.reg F97r5 (some [[], [0], [1, 0], [2, 1, 0], [3, 2, 1, 0], [], [5], [], [7], [8, 7], [9, 8, 7], [10, 9, 8, 7], [], [12], [11, 13, 10, 9, 8, 7, 12], [14, 11, 13, 10, 9, 8, 7, 12], [], [15, 16, 14, 11, 13, 10, 9, 8, 7, 12], [17, 15, 16, 14, 11, 13, 10, 9, 8, 7, 12], [18, 17, 15, 16, 14, 11, 13, 10, 9, 8, 7, 12], [18, 17, 15, 16, 14, 11, 13, 10, 9, 8, 7, 12], [18, 17, 15, 16, 14, 11, 13, 10, 9, 8, 7, 12], [4, 6, 0, 1, 2, 3, 5, 7, 8, 9, 10, 11, 12, 13, 14, 15, 16, 17, 18, 19], [22, 19, 17, 0, 1, 2, 3, 4, 5, 6, 7, 8, 9, 10, 11, 12, 13, 14, 15, 16, 18], [20, 23, 0, 1, 2, 3, 4, 5, 6, 7, 8, 9, 10, 11, 12, 13, 14, 15, 16, 17, 18, 19, 22]]))
      (.seq (.reg F97r6 (some [[], [0], [1, 0], [2, 1, 0], [3, 2, 1, 0], [], [5], [4, 6, 3, 2, 1, 0, 5], [7, 0, 1, 2, 3, 4, 5, 6]]))
      (sr F97r7
      (.seq (.reg F97r8 (some [[], [], [1], [2, 1], [3, 2, 1], [4, 3, 2, 1], [], [6], [7, 6], [], [5, 8, 9, 4, 3, 2, 1, 7, 6], [10, 5, 8, 9, 4, 3, 2, 1, 7, 6], [11, 10, 5, 8, 9, 4, 3, 2, 1, 7, 6], [11, 10, 5, 8, 9, 4, 3, 2, 1, 7, 6], [11, 10, 5, 8, 9, 4, 3, 2, 1, 7, 6], [0, 1, 2, 3, 4, 5, 6, 7, 8, 9, 10, 11, 12], [15, 12, 10, 0, 1, 2, 3, 4, 5, 6, 7, 8, 9, 11], [13, 16, 0, 1, 2, 3, 4, 5, 6, 7, 8, 9, 10, 11, 12, 15]]))
      (sr F97r9
      (cd 50
        (.reg F97r10 (some [[], [0], [1, 0], [2, 1, 0], [3, 2, 1, 0], [], [5], [], [7], [8, 7], [9, 8, 7], [10, 9, 8, 7], [4, 6, 0, 1, 2, 3, 5, 7, 8, 9, 10, 11], [12, 0, 1, 2, 3, 4, 5, 6, 7, 8, 9, 10, 11], [13, 11, 0, 1, 2, 3, 4, 5, 6, 7, 8, 9, 10, 12]]))
        (.skip))))))))))
  (sr F97r11
  (.ret))))⟩
theorem F97_ok : cFunc Tryd.prog 97 = some F97 := by kernel_rfl
theorem F97_call : callable Tryd.prog 97 = true := by kernel_rfl
def F98r0 : RL := [oo 2 (.box 3 (.s 0)),
 oo 3 (.box 3 (.s 1)),
 oo 4 (.new [zi 0, zi 0, zs]),
 oo 5 (.mov (ci 0))]
def F98r1 : RL := [oo 7 (lq 3 2),
 oo 8 (cl 49 [.s 7]),
 oo 6 (ms 8)]
def F98r2 : RL := [oo 9 (ms 6),
 oo 10 (bi .eql (.s 9) (ci 0))]
def F98r3 : RL := [oo 11 (lq 3 3),
 oo 12 (cl 49 [.s 11]),
 oo 6 (ms 12)]
def F98r4 : RL := [oo 13 (ms 6),
 oo 14 (bi .neq (.s 13) (ci 0))]
def F98r5 : RL := [oo 15 (.agg [zi 0, zi 0, zs] []),
 oo 16 (ms 6),
 ow (.store 3 (.s 4) (.s 15)),
 oo 5 (ms 16)]
def F98r6 : RL := [oo 17 (fd 0 2),
 oo 18 (lq 2 17),
 oo 19 (fd 0 3),
 oo 20 (lq 2 19),
 oo 21 (cl 122 [.s 18, .s 20])]
def F98r7 : RL := [oo 22 (lq 3 3),
 ow (.store 3 (.s 4) (.s 22)),
 oo 5 (.mov (ci 0))]
def F98r8 : RL := [oo 23 (lq 3 2),
 ow (.store 3 (.s 4) (.s 23)),
 oo 5 (.mov (ci 0))]
def F98 : AFn := ⟨24, [.cell 4 (some 3), .tmp 5],
  sr F98r0
  (sr F98r1
  (.seq (sr F98r2
  (cd 10
    (rg F98r3)
    (.skip)))
  (.seq (sr F98r4
  (cd 14
    (sr F98r5
    (.ret))
    (.skip)))
  (.seq (sr F98r6
  (cd 21
    (sr F98r7
    (.ret))
    (.skip)))
  (sr F98r8
  (.ret))))))⟩
theorem F98_ok : cFunc Tryd.prog 98 = some F98 := by kernel_rfl
theorem F98_call : callable Tryd.prog 98 = true := by kernel_rfl
def F99r0 : RL := [oo 2 (.new [zi 0, zi 0, zs]),
 oo 3 (.mov (ci 0))]
def F99r1 : RL := [oo 9 (ms 0),
 oo 10 (.len false (.s 9)),
 oo 11 (bi .gtr (.s 10) (ci 12))]
def F99r2 : RL := [oo 12 (.agg [zi 0, zi 0, zs] []),
 ow (.store 3 (.s 2) (.s 12)),
 oo 3 (.mov (ci 2))]
def F99r3 : RL := [oo 4 (.mov (ci 0))]
def F99r4 : RL := [oo 13 (ms 4),
 oo 14 (ms 0),
 oo 15 (.len false (.s 14)),
 oo 16 (bi .lss (.s 13) (.s 15))]
def F99r5 : RL := [oo 19 (ms 0),
 oo 20 (ms 4),
 oo 21 (.iad 3 (.s 19) (.s 20)),
 oo 22 (lq 3 21),
 oo 23 (cl 49 [.s 22]),
 oo 5 (ms 23)]
def F99r6 : RL := [oo 24 (ms 5),
 oo 25 (bi .neq (.s 24) (ci 0))]
def F99r7 : RL := [oo 26 (.agg [zi 0, zi 0, zs] []),
 oo 27 (ms 5),
 ow (.store 3 (.s 2) (.s 26)),
 oo 3 (ms 27)]
def F99r8 : RL := [oo 17 (ms 4),
 oo 18 (bi .add (.s 17) (ci 1)),
 oo 4 (ms 18)]
def F99r9 : RL := [oo 6 (.mov (ci 0))]
def F99r10 : RL := [oo 28 (ms 6),
 oo 29 (ms 0),
 oo 30 (.len false (.s 29)),
 oo 31 (bi .lss (.s 28) (.s 30))]
def F99r11 : RL := [oo 7 (.mov cF)]
def F99r12 : RL := [oo 8 (.mov (ci 0))]
def F99r13 : RL := [oo 34 (ms 8),
 oo 35 (ms 0),
 oo 36 (.len false (.s 35)),
 oo 37 (bi .lss (.s 34) (.s 36))]
def F99r14 : RL := [oo 40 (ms 7),
 oo 41 (ms 40),
 on 42 (ms 0) 41,
 on 43 (ms 6) 41,
 on 44 (.iad 3 (.s 42) (.s 43)) 41,
 on 45 (fd 0 44) 41,
 on 46 (lq 2 45) 41,
 on 47 (ms 0) 41,
 on 48 (ms 8) 41,
 on 49 (.iad 3 (.s 47) (.s 48)) 41,
 on 50 (fd 0 49) 41,
 on 51 (lq 2 50) 41,
 on 52 (cl 122 [.s 46, .s 51]) 41,
 oo 53 (.pick (.s 41) cT (.s 52)),
 oo 7 (ms 53)]
def F99r15 : RL := [oo 38 (ms 8),
 oo 39 (bi .add (.s 38) (ci 1)),
 oo 8 (ms 39)]
def F99r16 : RL := [oo 54 (ms 7),
 oo 55 (.un .not (.s 54))]
def F99r17 : RL := [oo 56 (ms 0),
 oo 57 (ms 6),
 oo 58 (.iad 3 (.s 56) (.s 57)),
 oo 59 (lq 3 58),
 ow (.store 3 (.s 2) (.s 59)),
 oo 3 (.mov (ci 0))]
def F99r18 : RL := [oo 32 (ms 6),
 oo 33 (bi .add (.s 32) (ci 1)),
 oo 6 (ms 33)]
def F99r19 : RL := [oo 60 (.agg [zi 0, zi 0, zs] []),
 ow (.store 3 (.s 2) (.s 60)),
 oo 3 (.mov (ci 0))]
def F99 : AFn := ⟨61, [.cell 2 (some 3), .tmp 3],
  sr F99r0
  (.seq (sr F99r1
  (cd 11
    (sr F99r2
    (.ret))
    (.skip)))
  (.seq (sr F99r3
  (.block 0 (
    .loop (
      .seq (sr F99r4
      (cd 16
        (.skip)
        (.exit 0)))
      (.seq (.block 1 (
        sr F99r5
        (sr F99r6
        (cd 25
          (sr F99r7
          (.ret))
          (.skip)))))
      (rg F99r8))))))
  (.seq (sr F99r9
  (.block 2 (
    .loop (
      .seq (sr F99r10
      (cd 31
        (.skip)
        (.exit 2)))
      (.seq (.block 3 (
        sr F99r11
        (.seq (sr F99r12
        (.block 4 (
          .loop (
            .seq (sr F99r13
            (cd 37
              (.skip)
              (.exit 4)))
            (.seq (.block 5 (
              .reg F99r14 (some [[], [0], [1, 0], [1, 0], [2, 3, 1, 0], [4, 1, 2, 3, 0], [5, 1, 4, 2, 3, 0], [1, 0], [1, 0], [7, 8, 1, 0], [9, 1, 7, 8, 0], [10, 1, 9, 7, 8, 0], [6, 11, 1, 5, 4, 2, 3, 0, 10, 9, 7, 8], [1, 12, 0, 6, 11, 5, 4, 2, 3, 10, 9, 7, 8], [13, 12, 0, 1, 2, 3, 4, 5, 6, 7, 8, 9, 10, 11]])))
            (rg F99r15))))))
        (sr F99r16
        (cd 55
          (sr F99r17
          (.ret))
          (.skip))))))
      (rg F99r18))))))
  (sr F99r19
  (.ret)))))⟩
theorem F99_ok : cFunc Tryd.prog 99 = some F99 := by kernel_rfl
theorem F99_call : callable Tryd.prog 99 = true := by kernel_rfl
def F100r0 : RL := [oo 4 (.mov (ci 0))]
def F100r1 : RL := [oo 5 (.mov (ci 0))]
def F100r2 : RL := [oo 6 (.mov (ci 0))]
def F100r3 : RL := [oo 7 (ms 6),
 oo 8 (ms 0),
 oo 9 (.len false (.s 8)),
 oo 10 (bi .lss (.s 7) (.s 9))]
def F100r4 : RL := [oo 13 (ms 1),
 oo 14 (ms 6),
 oo 15 (cl 34 [.s 13, .s 14])]
def F100r5 : RL := [oo 16 (ms 5),
 oo 17 (ms 0),
 oo 18 (ms 6),
 oo 19 (.iad 1 (.s 17) (.s 18)),
 oo 20 (ld 19),
 oo 21 (bi .add (.s 16) (.s 20)),
 oo 5 (ms 21)]
def F100r6 : RL := [oo 11 (ms 6),
 oo 12 (bi .add (.s 11) (ci 1)),
 oo 6 (ms 12)]
def F100r7 : RL := [oo 22 (ms 5),
 oo 4 (ms 22)]
def F100 : AFn := ⟨23, [.tmp 4],
  sr F100r0
  (sr F100r1
  (.seq (sr F100r2
  (.block 0 (
    .loop (
      .seq (sr F100r3
      (cd 10
        (.skip)
        (.exit 0)))
      (.seq (.block 1 (
        sr F100r4
        (cd 15
          (rg F100r5)
          (.skip))))
      (rg F100r6))))))
  (sr F100r7
  (.ret))))⟩
theorem F100_ok : cFunc Tryd.prog 100 = some F100 := by kernel_rfl
theorem F100_call : callable Tryd.prog 100 = true := by kernel_rfl
def F101r0 : RL := [oo 4 (.new [zi 0, zi 0]),
 oo 5 (.mov (ci 0))]
def F101r1 : RL := [oo 9 (ms 0),
 oo 10 (cl 123 [.s 9]),
 oo 8 (ms 10),
 oo 11 (.ext 0 (.s 8)),
 oo 12 (.ext 1 (.s 8)),
 oo 6 (.new [zi 0, zi 0]),
 ow (.store 2 (.s 6) (.s 11)),
 oo 7 (ms 12)]
def F101r2 : RL := [oo 13 (ms 7),
 oo 14 (bi .neq (.s 13) (ci 0))]
def F101r3 : RL := [oo 15 (.agg [zi 0, zi 0] []),
 oo 16 (ms 7),
 ow (.store 2 (.s 4) (.s 15)),
 oo 5 (ms 16)]
def F101r4 : RL := [oo 17 (ms 1),
 oo 18 (bi .lss (.s 17) (ci 0)),
 oo 19 (ms 18),
 on 20 (ms 1) 19,
 on 21 (bi .gtr (.s 20) (ci 31)) 19,
 oo 22 (.pick (.s 19) cT (.s 21)),
 oo 23 (ms 22),
 on 24 (fd 0 6) 23,
 on 25 (ld 24) 23,
 on 26 (bi .geq (.s 25) (ci 1000000)) 23,
 oo 27 (.pick (.s 23) cT (.s 26))]
def F101r5 : RL := [oo 28 (.agg [zi 0, zi 0] []),
 ow (.store 2 (.s 4) (.s 28)),
 oo 5 (.mov (ci 3))]
def F101r6 : RL := [oo 29 (fd 0 6),
 oo 30 (ld 29),
 oo 31 (bi .add (.s 30) (ci 1)),
 oo 32 (ms 1),
 oo 33 (.agg [zi 0, zi 0] [(0, (1, .s 31)), (1, (1, .s 32))]),
 ow (.store 2 (.s 4) (.s 33)),
 oo 5 (.mov (ci 0))]
def F101 : AFn := ⟨34, [.cell 4 (some 2), .tmp 5],
  sr F101r0
  (sr F101r1
  (.seq (sr F101r2
  (cd 14
    (sr F101r3
    (.ret))
    (.skip)))
  (.seq (sr F101r4
  (cd 27
    (sr F101r5
    (.ret))
    (.skip)))
  (sr F101r6
  (.ret)))))⟩
theorem F101_ok : cFunc Tryd.prog 101 = some F101 := by kernel_rfl
theorem F101_call : callable Tryd.prog 101 = true := by kernel_rfl
def F102r0 : RL := [oo 2 (.mov cF)]
def F102r1 : RL := [oo 3 (ms 0),
 oo 4 (bi .geq (.s 3) (ci 0)),
 oo 5 (ms 4),
 ot 6 (ms 0) 5,
 ot 7 (bi .leq (.s 6) (ci 31)) 5,
 oo 8 (.pick (.s 5) (.s 7) cF),
 oo 2 (ms 8)]
def F102 : AFn := ⟨9, [.tmp 2],
  sr F102r0
  (sr F102r1
  (.ret))⟩
theorem F102_ok : cFunc Tryd.prog 102 = some F102 := by kernel_rfl
theorem F102_call : callable Tryd.prog 102 = true := by kernel_rfl
def F103r0 : RL := [oo 6 (.mov cF)]
def F103r1 : RL := [oo 7 (ms 0),
 oo 8 (ms 1),
 oo 9 (bi .geq (.s 7) (.s 8)),
 oo 10 (ms 9),
 ot 11 (ms 0) 10,
 ot 12 (ms 2) 10,
 ot 13 (bi .leq (.s 11) (.s 12)) 10,
 oo 14 (.pick (.s 10) (.s 13) cF),
 oo 6 (ms 14)]
def F103 : AFn := ⟨15, [.tmp 6],
  sr F103r0
  (sr F103r1
  (.ret))⟩
theorem F103_ok : cFunc Tryd.prog 103 = some F103 := by kernel_rfl
theorem F103_call : callable Tryd.prog 103 = true := by kernel_rfl
def F104r0 : RL := [oo 2 (.mov cF)]
def F104r1 : RL := [oo 3 (ms 0),
 oo 4 (bi .geq (.s 3) (ci 1)),
 oo 5 (ms 4),
 ot 6 (ms 0) 5,
 ot 7 (bi .leq (.s 6) (ci 4)) 5,
 oo 8 (.pick (.s 5) (.s 7) cF),
 oo 2 (ms 8)]
def F104 : AFn := ⟨9, [.tmp 2],
  sr F104r0
  (sr F104r1
  (.ret))⟩
theorem F104_ok : cFunc Tryd.prog 104 = some F104 := by kernel_rfl
theorem F104_call : callable Tryd.prog 104 = true := by kernel_rfl
def F105r0 : RL := [oo 2 (.mov cF)]
def F105r1 : RL := [oo 3 (ms 0),
 oo 4 (bi .eql (.s 3) (ci 2)),
 oo 5 (ms 4),
 on 6 (ms 0) 5,
 on 7 (bi .eql (.s 6) (ci 3)) 5,
 oo 8 (.pick (.s 5) cT (.s 7)),
 oo 2 (ms 8)]
def F105 : AFn := ⟨9, [.tmp 2],
  sr F105r0
  (sr F105r1
  (.ret))⟩
theorem F105_ok : cFunc Tryd.prog 105 = some F105 := by kernel_rfl
theorem F105_call : callable Tryd.prog 105 = true := by kernel_rfl
def F106r0 : RL := [oo 2 (.mov cF)]
def F106r1 : RL := [oo 3 (ms 0),
 oo 4 (ms 0),
 oo 5 (bi .neq (.s 3) (.s 4)),
 oo 2 (ms 5)]
def F106 : AFn := ⟨6, [.tmp 2],
  sr F106r0
  (sr F106r1
  (.ret))⟩
theorem F106_ok : cFunc Tryd.prog 106 = some F106 := by kernel_rfl
theorem F106_call : callable Tryd.prog 106 = true := by kernel_rfl
def F119r0 : RL := [oo 4 (.box 2 (.s 0)),
 oo 8 (.new [zi 0, zi 0, zi 0, zs, zi 0, zi 0, zs, .v (.int .u64 0)]),
 oo 9 (.mov (.c .emp)),
 oo 10 (.mov (ci 0))]
def F119r1 : RL := [oo 13 (ms 1),
 oo 14 (ms 2),
 oo 15 (ms 3),
 oo 16 (.agg [zi 0, zi 0, zi 0, zs, zi 0, zi 0, zs, .v (.int .u64 0)] [(0, (1, .s 13)), (1, (1, .s 14)), (2, (1, ci 1)), (3, (1, .s 15))]),
 oo 11 (.new [zi 0, zi 0, zi 0, zs, zi 0, zi 0, zs, .v (.int .u64 0)]),
 ow (.store 8 (.s 11) (.s 16))]
def F119r2 : RL := [oo 17 (lq 2 4),
 oo 18 (lq 8 11),
 oo 19 (cl 67 [.s 17, .s 18]),
 oo 12 (ms 19)]
def F119r3 : RL := [oo 20 (ms 12),
 oo 21 (bi .neq (.s 20) (ci 0))]
def F119r4 : RL := [oo 22 (.agg [zi 0, zi 0, zi 0, zs, zi 0, zi 0, zs, .v (.int .u64 0)] []),
 oo 23 (ms 12),
 ow (.store 8 (.s 8) (.s 22)),
 oo 9 (.mov (.c .emp)),
 oo 10 (ms 23)]
def F119r5 : RL := [oo 24 (lq 8 11),
 oo 25 (lq 2 4),
 oo 26 (ms 1),
 oo 27 (.agg [zi 0, zi 0, zi 0, zi 0, zi 0, zs] [(0, (1, ci 1)), (1, (1, .s 26))]),
 oo 28 (cl 137 [.s 25, .s 27]),
 ow (.store 8 (.s 8) (.s 24)),
 oo 9 (ms 28),
 oo 10 (.mov (ci 0))]
def F119 : AFn := ⟨29, [.cell 8 (some 8), .tmp 9, .tmp 10],
  sr F119r0
  (sr F119r1
  (.seq (sr F119r2
  (sr F119r3
  (cd 21
    (sr F119r4
    (.ret))
    (.skip))))
  (.seq (.reg F119r5 (some [[], [], [], [2], [1, 3, 2], [0, 4, 1, 3, 2], [4, 5, 0, 1, 2, 3], [6, 0, 1, 2, 3, 4, 5]]))
  (.ret))))⟩
theorem F119_ok : cFunc Tryd.prog 119 = some F119 := by kernel_rfl
theorem F119_call : callable Tryd.prog 119 = true := by kernel_rfl
def F120r0 : RL := [oo 2 (.box 3 (.s 0)),
 oo 3 (.box 6 (.s 1)),
 oo 4 (.new [zi 0, zi 0, zs]),
 oo 5 (.mov (.c .emp)),
 oo 6 (.mov (ci 0))]
def F120r1 : RL := [oo 8 (lq 3 2),
 oo 9 (cl 46 [.s 8]),
 oo 7 (ms 9)]
def F120r2 : RL := [oo 10 (ms 7),
 oo 11 (bi .eql (.s 10) (ci 0))]
def F120r3 : RL := [oo 12 (lq 6 3),
 oo 13 (cl 69 [.s 12]),
 oo 7 (ms 13)]
def F120r4 : RL := [oo 14 (ms 7),
 oo 15 (bi .neq (.s 14) (ci 0))]
def F120r5 : RL := [oo 16 (.agg [zi 0, zi 0, zs] []),
 oo 17 (ms 7),
 ow (.store 3 (.s 4) (.s 16)),
 oo 5 (.mov (.c .emp)),
 oo 6 (ms 17)]
def F120r6 : RL := [oo 18 (fd 0 3),
 oo 19 (ld 18)]
def F120r7 : RL := [oo 21 (bi .eql (.s 19) (ci 1)),
 oo 20 (ms 21)]
def F120r8 : RL := [oo 22 (lq 3 2),
 oo 23 (fd 1 3),
 oo 24 (ld 23),
 oo 25 (fd 2 3),
 oo 26 (ld 25),
 oo 27 (lq 3 2),
 oo 28 (.agg [zi 0, zi 0, zi 0, zi 0, zi 0, zs] [(0, (1, ci 2)), (1, (1, .s 24)), (2, (1, .s 26)), (3, (3, .s 27))]),
 oo 29 (.bsl 6 1 [zi 0, zi 0, zi 0, zi 0, zi 0, zs] [(0, .s 28)]),
 ow (.store 3 (.s 4) (.s 22)),
 oo 5 (ms 29),
 oo 6 (.mov (ci 0))]
def F120r9 : RL := [oo 31 (bi .eql (.s 19) (ci 3)),
 oo 30 (ms 31)]
def F120r10 : RL := [oo 32 (lq 3 2),
 oo 33 (fd 3 3),
 oo 34 (lq 3 33),
 oo 35 (cl 138 [.s 32, .s 34]),
 oo 36 (fd 1 3),
 oo 37 (ld 36),
 oo 38 (fd 2 3),
 oo 39 (ld 38),
 oo 40 (.agg [zi 0, zi 0, zi 0, zi 0, zi 0, zs] [(0, (1, ci 4)), (1, (1, .s 37)), (2, (1, .s 39))]),
 oo 41 (.bsl 6 1 [zi 0, zi 0, zi 0, zi 0, zi 0, zs] [(0, .s 40)]),
 ow (.store 3 (.s 4) (.s 35)),
 oo 5 (ms 41),
 oo 6 (.mov (ci 0))]
def F120r11 : RL := [oo 42 (lq 3 2),
 ow (.store 3 (.s 4) (.s 42)),
 oo 5 (.mov (.c .emp)),
 oo 6 (.mov (ci 0))]
def F120 : AFn := ⟨43, [.cell 4 (some 3), .tmp 5, .tmp 6],
  sr F120r0
  (sr F120r1
  (.seq (sr F120r2
  (cd 11
    (rg F120r3)
    (.skip)))
  (.seq (sr F120r4
  (cd 15
    (sr F120r5
    (.ret))
    (.skip)))
  (.seq (sr F120r6
  (.block 0 (
    sr F120r7
    (cd 20
      (.seq (.reg F120r8 (some [[], [], [1], [], [3], [], [2, 4, 5, 1, 3], [6, 2, 4, 5, 1, 3], [0], [7, 8, 0, 1, 2, 3, 4, 5, 6], [9, 0, 1, 2, 3, 4, 5, 6, 7, 8]]))
      (.ret))
      (sr F120r9
      (cd 30
        (.seq (.reg F120r10 (some [[], [], [1], [0, 2, 1], [], [4], [], [6], [5, 7, 4, 6], [8, 5, 7, 4, 6], [3, 0, 1, 2], [9, 10, 0, 1, 2, 3, 4, 5, 6, 7, 8], [11, 0, 1, 2, 3, 4, 5, 6, 7, 8, 9, 10]]))
        (.ret))
        (.skip)))))))
  (sr F120r11
  (.ret))))))⟩
theorem F120_ok : cFunc Tryd.prog 120 = some F120 := by kernel_rfl
theorem F120_call : callable Tryd.prog 120 = true := by kernel_rfl
def F121r0 : RL := [oo 3 (.box 2 (.s 0)),
 oo 4 (.box 8 (.s 1)),
 oo 5 (.box 6 (.s 2)),
 oo 6 (.new [zi 0, zi 0, zi 0, zs, zi 0, zi 0, zs, .v (.int .u64 0)]),
 oo 7 (.mov (.c .emp)),
 oo 8 (.mov (ci 0))]
def F121r1 : RL := [oo 13 (lq 2 3),
 oo 14 (lq 8 4),
 oo 15 (cl 67 [.s 13, .s 14]),
 oo 9 (ms 15)]
def F121r2 : RL := [oo 16 (ms 9),
 oo 17 (bi .eql (.s 16) (ci 0))]
def F121r3 : RL := [oo 18 (lq 6 5),
 oo 19 (cl 69 [.s 18]),
 oo 9 (ms 19)]
def F121r4 : RL := [oo 20 (ms 9),
 oo 21 (bi .neq (.s 20) (ci 0))]
def F121r5 : RL := [oo 22 (.agg [zi 0, zi 0, zi 0, zs, zi 0, zi 0, zs, .v (.int .u64 0)] []),
 oo 23 (ms 9),
 ow (.store 8 (.s 6) (.s 22)),
 oo 7 (.mov (.c .emp)),
 oo 8 (ms 23)]
def F121r6 : RL := [oo 24 (lq 8 4),
 oo 25 (lq 2 3),
 oo 26 (.agg [zi 0, zi 0, zi 0, zs, zi 0, zi 0, zs, .v (.int .u64 0), .emp, zi 0] [(0, (8, .s 24)), (8, (2, .s 25))]),
 oo 27 (.box 10 (.s 26)),
 oo 10 (ms 27)]
def F121r7 : RL := [oo 29 (ms 10),
 oo 30 (lq 6 5),
 oo 31 (cl 139 [.s 29, .s 30]),
 oo 28 (ms 31),
 oo 32 (.ext 0 (.s 28)),
 oo 33 (.ext 1 (.s 28)),
 oo 11 (ms 32),
 oo 12 (ms 33)]
def F121r8 : RL := [oo 34 (ms 12),
 oo 35 (.un .not (.s 34))]
def F121r9 : RL := [oo 36 (lq 8 4),
 ow (.store 8 (.s 6) (.s 36)),
 oo 7 (.mov (.c .emp)),
 oo 8 (.mov (ci 0))]
def F121r10 : RL := [oo 37 (ms 10),
 oo 38 (.nilc (.s 37)),
 oo 39 (fd 0 38),
 oo 40 (lq 8 39),
 oo 41 (ms 11),
 ow (.store 8 (.s 6) (.s 40)),
 oo 7 (ms 41),
 oo 8 (.mov (ci 0))]
def F121 : AFn := ⟨42, [.cell 6 (some 8), .tmp 7, .tmp 8],
  sr F121r0
  (sr F121r1
  (.seq (sr F121r2
  (cd 17
    (rg F121r3)
    (.skip)))
  (.seq (sr F121r4
  (cd 21
    (sr F121r5
    (.ret))
    (.skip)))
  (sr F121r6
  (sr F121r7
  (.seq (sr F121r8
  (cd 35
    (sr F121r9
    (.ret))
    (.skip)))
  (sr F121r10
  (.ret))))))))⟩
theorem F121_ok : cFunc Tryd.prog 121 = some F121 := by kernel_rfl
theorem F121_call : callable Tryd.prog 121 = true := by kernel_rfl
def F122r0 : RL := [oo 2 (.box 2 (.s 0)),
 oo 3 (.box 2 (.s 1)),
 oo 4 (.mov cF)]
def F122r1 : RL := [oo 5 (fd 0 2),
 oo 6 (ld 5),
 oo 7 (fd 0 3),
 oo 8 (ld 7),
 oo 9 (bi .eql (.s 6) (.s 8))]
def F122r2 : RL := [oo 10 (fd 1 2),
 oo 11 (ld 10),
 oo 12 (fd 1 3),
 oo 13 (ld 12),
 oo 14 (bi .lss (.s 11) (.s 13)),
 oo 4 (ms 14)]
def F122r3 : RL := [oo 15 (fd 0 2),
 oo 16 (ld 15),
 oo 17 (fd 0 3),
 oo 18 (ld 17),
 oo 19 (bi .lss (.s 16) (.s 18)),
 oo 4 (ms 19)]
def F122 : AFn := ⟨20, [.tmp 4],
  sr F122r0
  (.seq (sr F122r1
  (cd 9
    (sr F122r2
    (.ret))
    (.skip)))
  (sr F122r3
  (.ret)))⟩
theorem F122_ok : cFunc Tryd.prog 122 = some F122 := by kernel_rfl
theorem F122_call : callable Tryd.prog 122 = true := by kernel_rfl
def F123r0 : RL := [oo 2 (.new [zi 0, zi 0]),
 oo 3 (.mov (ci 0))]
def F123r1 : RL := [oo 7 (ms 0),
 oo 8 (.len false (.s 7)),
 oo 9 (bi .gtr (.s 8) (ci 64))]
def F123r2 : RL := [oo 10 (.agg [zi 0, zi 0] []),
 ow (.store 2 (.s 2) (.s 10)),
 oo 3 (.mov (ci 2))]
def F123r3 : RL := [oo 11 (.agg [zi 0, zi 0] []),
 oo 4 (.new [zi 0, zi 0]),
 ow (.store 2 (.s 4) (.s 11))]
def F123r4 : RL := [oo 12 (ms 0),
 oo 13 (.len false (.s 12)),
 oo 14 (bi .sub (.s 13) (ci 1)),
 oo 5 (ms 14)]
def F123r5 : RL := [oo 15 (ms 5),
 oo 16 (bi .geq (.s 15) (ci 0))]
def F123r6 : RL := [oo 19 (lq 2 4),
 oo 20 (ms 0),
 oo 21 (ms 5),
 oo 22 (.iad 2 (.s 20) (.s 21)),
 oo 23 (lq 2 22),
 oo 24 (cl 122 [.s 19, .s 23])]
def F123r7 : RL := [oo 25 (ms 0),
 oo 26 (ms 5),
 oo 27 (.iad 2 (.s 25) (.s 26)),
 oo 28 (lq 2 27),
 ow (.store 2 (.s 4) (.s 28))]
def F123r8 : RL := [oo 17 (ms 5),
 oo 18 (bi .sub (.s 17) (ci 1)),
 oo 5 (ms 18)]
def F123r9 : RL := [oo 6 (.mov (ci 0))]
def F123r10 : RL := [oo 29 (ms 6),
 oo 30 (ms 0),
 oo 31 (.len false (.s 30)),
 oo 32 (bi .lss (.s 29) (.s 31))]
def F123r11 : RL := [oo 35 (ms 0),
 oo 36 (ms 6),
 oo 37 (.iad 2 (.s 35) (.s 36)),
 oo 38 (lq 2 37),
 oo 39 (cl 70 [.s 38]),
 oo 40 (bi .neq (.s 39) (ci 0))]
def F123r12 : RL := [oo 41 (.agg [zi 0, zi 0] []),
 ow (.store 2 (.s 2) (.s 41)),
 oo 3 (.mov (ci 3))]
def F123r13 : RL := [oo 33 (ms 6),
 oo 34 (bi .add (.s 33) (ci 1)),
 oo 6 (ms 34)]
def F123r14 : RL := [oo 42 (lq 2 4),
 ow (.store 2 (.s 2) (.s 42)),
 oo 3 (.mov (ci 0))]
def F123 : AFn := ⟨43, [.cell 2 (some 2), .tmp 3],
  sr F123r0
  (.seq (sr F123r1
  (cd 9
    (sr F123r2
    (.ret))
    (.skip)))
  (sr F123r3
  (.seq (sr F123r4
  (.block 0 (
    .loop (
      .seq (sr F123r5
      (cd 16
        (.skip)
        (.exit 0)))
      (.seq (.block 1 (
        .seq (.reg F123r6 (some [[], [], [], [1, 2], [3, 1, 2], [0, 4, 3, 1, 2]]))
        (cd 24
          (rg F123r7)
          (.skip))))
      (rg F123r8))))))
  (.seq (sr F123r9
  (.block 2 (
    .loop (
      .seq (sr F123r10
      (cd 32
        (.skip)
        (.exit 2)))
      (.seq (.block 3 (
        sr F123r11
        (cd 40
          (sr F123r12
          (.ret))
          (.skip))))
      (rg F123r13))))))
  (sr F123r14
  (.ret))))))⟩
theorem F123_ok : cFunc Tryd.prog 123 = some F123 := by kernel_rfl
theorem F123_call : callable Tryd.prog 123 = true := by kernel_rfl
def F137r0 : RL := [oo 2 (.box 2 (.s 0)),
 oo 3 (.box 6 (.s 1)),
 oo 4 (.mov (.c .emp))]
def F137r1 : RL := [oo 5 (.mov (.c .emp))]
def F137r2 : RL := [oo 7 (fd 0 2),
 oo 8 (ld 7),
 oo 9 (.len false (.s 8)),
 oo 10 (.mov (ci 0))]
def F137r3 : RL := [oo 11 (bi .lss (.s 10) (.s 9))]
def F137r4 : RL := [oo 12 (ms 10),
 oo 6 (ms 12)]
def F137r5 : RL := [oo 13 (ms 6),
 oo 14 (fd 2 3),
 ow (.store 1 (.s 14) (.s 13))]
def F137r6 : RL := [oo 15 (ms 5),
 oo 16 (lq 6 3),
 oo 17 (.bsl 6 1 [zi 0, zi 0, zi 0, zi 0, zi 0, zs] [(0, .s 16)]),
 oo 18 (.app 6 56 (.s 15) (.s 17)),
 oo 5 (ms 18)]
def F137r7 : RL := [oo 19 (bi .add (.s 10) (ci 1)),
 oo 10 (ms 19)]
def F137r8 : RL := [oo 20 (ms 5),
 oo 4 (ms 20)]
def F137 : AFn := ⟨21, [.tmp 4],
  sr F137r0
  (sr F137r1
  (.seq (sr F137r2
  (.block 0 (
    .loop (
      sr F137r3
      (.seq (cd 11
        (.skip)
        (.exit 0))
      (.seq (.block 1 (
        sr F137r4
        (sr F137r5
        (rg F137r6))))
      (rg F137r7)))))))
  (sr F137r8
  (.ret))))⟩
theorem F137_ok : cFunc Tryd.prog 137 = some F137 := by kernel_rfl
theorem F137_call : callable Tryd.prog 137 = true := by kernel_rfl
def F138r0 : RL := [oo 2 (.box 3 (.s 0)),
 oo 3 (.box 3 (.s 1)),
 oo 4 (.new [zi 0, zi 0, zs])]
def F138r1 : RL := [oo 5 (fd 0 2),
 oo 6 (lq 2 5),
 oo 7 (fd 0 3),
 oo 8 (lq 2 7),
 oo 9 (cl 23 [.s 6, .s 8])]
def F138r2 : RL := [oo 10 (lq 3 3),
 ow (.store 3 (.s 4) (.s 10))]
def F138r3 : RL := [oo 11 (lq 3 2),
 ow (.store 3 (.s 4) (.s 11))]
def F138 : AFn := ⟨12, [.cell 4 (some 3)],
  sr F138r0
  (.seq (sr F138r1
  (cd 9
    (sr F138r2
    (.ret))
    (.skip)))
  (sr F138r3
  (.ret)))⟩
theorem F138_ok : cFunc Tryd.prog 138 = some F138 := by kernel_rfl
theorem F138_call : callable Tryd.prog 138 = true := by kernel_rfl
def F139r0 : RL := [oo 3 (.box 6 (.s 1)),
 oo 4 (.mov (.c .emp)),
 oo 5 (.mov cF)]
def F139r1 : RL := [oo 10 (fd 2 3),
 oo 11 (ld 10),
 oo 12 (bi .shl (.c (.v (.int .u64 1))) (.s 11)),
 oo 6 (ms 12)]
def F139r2 : RL := [oo 13 (.mkm),
 ow (.mup .int (.s 13) (ci 1) (ci 2)),
 ow (.mup .int (.s 13) (ci 2) (ci 4)),
 oo 14 (ms 13),
 oo 7 (ms 14)]
def F139r3 : RL := [oo 15 (fd 1 3),
 oo 16 (ld 15),
 oo 17 (ms 0),
 oo 18 (.nilc (.s 17)),
 oo 19 (fd 0 18),
 oo 20 (fd 0 19),
 oo 21 (ld 20),
 oo 22 (bi .neq (.s 16) (.s 21)),
 oo 23 (ms 22),
 on 24 (fd 0 3) 23,
 on 25 (ld 24) 23,
 on 26 (ms 7) 23,
 on 27 (ms 0) 23,
 on 28 (.nilc (.s 27)) 23,
 on 29 (fd 0 28) 23,
 on 30 (fd 2 29) 23,
 on 31 (ld 30) 23,
 on 32 (.mlk .int (zi 0) (.s 26) (.s 31)) 23,
 on 33 (bi .neq (.s 25) (.s 32)) 23,
 oo 34 (.pick (.s 23) cT (.s 33)),
 oo 35 (ms 34),
 on 36 (fd 2 3) 35,
 on 37 (ld 36) 35,
 on 38 (ms 0) 35,
 on 39 (.nilc (.s 38)) 35,
 on 40 (fd 8 39) 35,
 on 41 (fd 0 40) 35,
 on 42 (ld 41) 35,
 on 43 (.len false (.s 42)) 35,
 on 44 (bi .geq (.s 37) (.s 43)) 35,
 oo 45 (.pick (.s 35) cT (.s 44)),
 oo 46 (ms 45),
 on 47 (ms 0) 46,
 on 48 (.nilc (.s 47)) 46,
 on 49 (fd 0 48) 46,
 on 50 (fd 7 49) 46,
 on 51 (ld 50) 46,
 on 52 (ms 6) 46,
 on 53 (bi .and (.s 51) (.s 52)) 46,
 on 54 (bi .neq (.s 53) (.c (.v (.int .u64 0)))) 46,
 oo 55 (.pick (.s 46) cT (.s 54))]
def F139r4 : RL := [oo 4 (.mov (.c .emp)),
 oo 5 (.mov cF)]
def F139r5 : RL := [oo 56 (ms 0),
 oo 57 (.nilc (.s 56)),
 oo 58 (fd 0 57),
 oo 59 (fd 7 58),
 oo 60 (ld 59),
 oo 61 (ms 6),
 oo 62 (bi .or (.s 60) (.s 61)),
 oo 63 (.nilc (.s 56)),
 oo 64 (fd 0 63),
 oo 65 (fd 7 64),
 ow (.store 1 (.s 65) (.s 62))]
def F139r6 : RL := [oo 66 (ms 0),
 oo 67 (.nilc (.s 66)),
 oo 68 (fd 0 67),
 oo 69 (fd 2 68),
 oo 70 (ld 69),
 oo 71 (bi .eql (.s 70) (ci 1))]
def F139r7 : RL := [oo 72 (ms 0),
 oo 73 (ms 0),
 oo 74 (.nilc (.s 73)),
 oo 75 (fd 0 74),
 oo 76 (fd 4 75),
 oo 77 (lq 3 76),
 oo 78 (fd 3 3),
 oo 79 (lq 3 78),
 oo 80 (cl 138 [.s 77, .s 79]),
 oo 81 (.nilc (.s 72)),
 oo 82 (fd 0 81),
 oo 83 (fd 4 82),
 ow (.store 3 (.s 83) (.s 80))]
def F139r8 : RL := [oo 85 (ms 0),
 oo 86 (.nilc (.s 85)),
 oo 87 (fd 8 86),
 oo 88 (fd 0 87),
 oo 89 (ld 88),
 oo 90 (ms 0),
 oo 91 (.nilc (.s 90)),
 oo 92 (fd 8 91),
 oo 93 (fd 1 92),
 oo 94 (ld 93),
 oo 95 (ms 0),
 oo 96 (.nilc (.s 95)),
 oo 97 (fd 0 96),
 oo 98 (fd 7 97),
 oo 99 (ld 98),
 oo 100 (cl 24 [.s 89, .s 94, .s 99]),
 oo 84 (ms 100),
 oo 101 (.ext 0 (.s 84)),
 oo 102 (.ext 1 (.s 84)),
 oo 8 (ms 101),
 oo 9 (ms 102)]
def F139r9 : RL := [oo 103 (ms 8),
 oo 104 (.un .not (.s 103))]
def F139r10 : RL := [oo 4 (.mov (.c .emp)),
 oo 5 (.mov cT)]
def F139r11 : RL := [oo 105 (ms 0),
 oo 106 (.nilc (.s 105)),
 oo 107 (fd 0 106),
 oo 108 (fd 2 107),
 oo 109 (ld 108),
 oo 110 (bi .eql (.s 109) (ci 2))]
def F139r12 : RL := [oo 111 (ms 0),
 oo 112 (.nilc (.s 111)),
 oo 113 (fd 0 112),
 oo 114 (fd 2 113),
 ow (.store 1 (.s 114) (ci 3))]
def F139r13 : RL := [oo 4 (.mov (.c .emp)),
 oo 5 (.mov cT)]
def F139r14 : RL := [oo 115 (ms 0),
 oo 116 (cl 149 [.s 115]),
 oo 117 (.un .not (.s 116))]
def F139r15 : RL := [oo 4 (.mov (.c .emp)),
 oo 5 (.mov cF)]
def F139r16 : RL := [oo 118 (ms 0),
 oo 119 (ms 0),
 oo 120 (.nilc (.s 118)),
 oo 121 (fd 0 120),
 oo 122 (fd 2 121),
 ow (.store 1 (.s 122) (ci 2)),
 oo 123 (.nilc (.s 119)),
 oo 124 (fd 0 123),
 oo 125 (fd 7 124),
 ow (.store 1 (.s 125) (.c (.v (.int .u64 0))))]
def F139r17 : RL := [oo 126 (ms 0),
 oo 127 (.nilc (.s 126)),
 oo 128 (fd 8 127),
 oo 129 (lq 2 128),
 oo 130 (ms 0),
 oo 131 (.nilc (.s 130)),
 oo 132 (fd 0 131),
 oo 133 (fd 0 132),
 oo 134 (ld 133),
 oo 135 (ms 0),
 oo 136 (.nilc (.s 135)),
 oo 137 (fd 0 136),
 oo 138 (fd 4 137),
 oo 139 (lq 3 138),
 oo 140 (.agg [zi 0, zi 0, zi 0, zi 0, zi 0, zs] [(0, (1, ci 3)), (1, (1, .s 134)), (3, (3, .s 139))]),
 oo 141 (cl 137 [.s 129, .s 140]),
 oo 4 (ms 141),
 oo 5 (.mov cT)]
def F139 : AFn := ⟨142, [.tmp 4, .tmp 5],
  sr F139r0
  (sr F139r1
  (sr F139r2
  (.seq (.seq (.reg F139r3 (some [[], [0], [], [2], [3, 2], [4, 3, 2], [5, 4, 3, 2], [1, 6, 0, 5, 4, 3, 2], [7, 1, 6, 0, 5, 4, 3, 2], [8, 7, 1, 6, 0, 5, 4, 3, 2], [9, 8, 7, 1, 6, 0, 5, 4, 3, 2], [8, 7, 1, 6, 0, 5, 4, 3, 2], [8, 7, 1, 6, 0, 5, 4, 3, 2], [12, 8, 7, 1, 6, 0, 5, 4, 3, 2], [13, 8, 12, 7, 1, 6, 0, 5, 4, 3, 2], [14, 8, 13, 12, 7, 1, 6, 0, 5, 4, 3, 2], [15, 8, 14, 13, 12, 7, 1, 6, 0, 5, 4, 3, 2], [11, 16, 8, 7, 1, 6, 0, 5, 4, 3, 2, 15, 14, 13, 12], [10, 17, 8, 9, 7, 1, 6, 0, 5, 4, 3, 2, 11, 16, 15, 14, 13, 12], [8, 18, 7, 1, 6, 0, 5, 4, 3, 2, 10, 17, 9, 11, 16, 15, 14, 13, 12], [19, 8, 18, 7, 1, 6, 0, 5, 4, 3, 2, 10, 17, 9, 11, 16, 15, 14, 13, 12], [20, 19, 8, 18, 7, 1, 6, 0, 5, 4, 3, 2, 10, 17, 9, 11, 16, 15, 14, 13, 12], [21, 20, 19, 8, 18, 7, 1, 6, 0, 5, 4, 3, 2, 10, 17, 9, 11, 16, 15, 14, 13, 12], [20, 19, 8, 18, 7, 1, 6, 0, 5, 4, 3, 2, 10, 17, 9, 11, 16, 15, 14, 13, 12], [23, 20, 19, 8, 18, 7, 1, 6, 0, 5, 4, 3, 2, 10, 17, 9, 11, 16, 15, 14, 13, 12], [24, 20, 23, 19, 8, 18, 7, 1, 6, 0, 5, 4, 3, 2, 10, 17, 9, 11, 16, 15, 14, 13, 12], [25, 20, 24, 23, 19, 8, 18, 7, 1, 6, 0, 5, 4, 3, 2, 10, 17, 9, 11, 16, 15, 14, 13, 12], [26, 20, 25, 24, 23, 19, 8, 18, 7, 1, 6, 0, 5, 4, 3, 2, 10, 17, 9, 11, 16, 15, 14, 13, 12], [27, 20, 26, 25, 24, 23, 19, 8, 18, 7, 1, 6, 0, 5, 4, 3, 2, 10, 17, 9, 11, 16, 15, 14, 13, 12], [22, 28, 20, 21, 19, 8, 18, 7, 1, 6, 0, 5, 4, 3, 2, 10, 17, 9, 11, 16, 15, 14, 13, 12, 27, 26, 25, 24, 23], [20, 29, 19, 8, 18, 7, 1, 6, 0, 5, 4, 3, 2, 10, 17, 9, 11, 16, 15, 14, 13, 12, 22, 28, 21, 27, 26, 25, 24, 23], [30, 20, 29, 19, 8, 18, 7, 1, 6, 0, 5, 4, 3, 2, 10, 17, 9, 11, 16, 15, 14, 13, 12, 22, 28, 21, 27, 26, 25, 24, 23], [31, 30, 20, 29, 19, 8, 18, 7, 1, 6, 0, 5, 4, 3, 2, 10, 17, 9, 11, 16, 15, 14, 13, 12, 22, 28, 21, 27, 26, 25, 24, 23], [32, 31, 30, 20, 29, 19, 8, 18, 7, 1, 6, 0, 5, 4, 3, 2, 10, 17, 9, 11, 16, 15, 14, 13, 12, 22, 28, 21, 27, 26, 25, 24, 23], [33, 31, 32, 30, 20, 29, 19, 8, 18, 7, 1, 6, 0, 5, 4, 3, 2, 10, 17, 9, 11, 16, 15, 14, 13, 12, 22, 28, 21, 27, 26, 25, 24, 23], [34, 31, 33, 32, 30, 20, 29, 19, 8, 18, 7, 1, 6, 0, 5, 4, 3, 2, 10, 17, 9, 11, 16, 15, 14, 13, 12, 22, 28, 21, 27, 26, 25, 24, 23], [35, 31, 34, 33, 32, 30, 20, 29, 19, 8, 18, 7, 1, 6, 0, 5, 4, 3, 2, 10, 17, 9, 11, 16, 15, 14, 13, 12, 22, 28, 21, 27, 26, 25, 24, 23], [31, 30, 20, 29, 19, 8, 18, 7, 1, 6, 0, 5, 4, 3, 2, 10, 17, 9, 11, 16, 15, 14, 13, 12, 22, 28, 21, 27, 26, 25, 24, 23], [36, 37, 31, 35, 34, 33, 32, 30, 20, 29, 19, 8, 18, 7, 1, 6, 0, 5, 4, 3, 2, 10, 17, 9, 11, 16, 15, 14, 13, 12, 22, 28, 21, 27, 26, 25, 24, 23], [38, 31, 36, 37, 35, 34, 33, 32, 30, 20, 29, 19, 8, 18, 7, 1, 6, 0, 5, 4, 3, 2, 10, 17, 9, 11, 16, 15, 14, 13, 12, 22, 28, 21, 27, 26, 25, 24, 23], [31, 39, 30, 20, 29, 19, 8, 18, 7, 1, 6, 0, 5, 4, 3, 2, 10, 17, 9, 11, 16, 15, 14, 13, 12, 22, 28, 21, 27, 26, 25, 24, 23, 38, 36, 37, 35, 34, 33, 32]]))
  (cd 55
    (sr F139r4
    (.ret))
    (.skip)))
  (sr F139r5
  (.seq (sr F139r6
  (cd 71
    (.reg F139r7 (some [[], [], [1], [2, 1], [3, 2, 1], [4, 3, 2, 1], [], [6], [5, 7, 4, 3, 2, 1, 6], [0, 1, 2, 3, 4, 5, 6, 7, 8], [9, 0, 1, 2, 3, 4, 5, 6, 7, 8], [10, 0, 1, 2, 3, 4, 5, 6, 7, 8, 9], [11, 8, 0, 1, 2, 3, 4, 5, 6, 7, 10, 9]]))
    (.skip)))
  (.seq (.seq (.reg F139r8 (some [[], [0], [1, 0], [2, 1, 0], [3, 2, 1, 0], [], [5], [6, 5], [7, 6, 5], [8, 7, 6, 5], [], [10], [11, 10], [12, 11, 10], [13, 12, 11, 10], [4, 9, 14, 3, 2, 1, 0, 8, 7, 6, 5, 13, 12, 11, 10], [15, 4, 9, 14, 3, 2, 1, 0, 8, 7, 6, 5, 13, 12, 11, 10], [16, 15, 4, 9, 14, 3, 2, 1, 0, 8, 7, 6, 5, 13, 12, 11, 10], [16, 15, 4, 9, 14, 3, 2, 1, 0, 8, 7, 6, 5, 13, 12, 11, 10], [17, 15, 0, 1, 2, 3, 4, 5, 6, 7, 8, 9, 10, 11, 12, 13, 14, 16], [18, 19, 0, 1, 2, 3, 4, 5, 6, 7, 8, 9, 10, 11, 12, 13, 14, 15, 16, 17]]))
  (sr F139r9
  (cd 104
    (sr F139r10
    (.ret))
    (.skip))))
  (.seq (sr F139r11
  (cd 110
    (sr F139r12
    (sr F139r13
    (.ret)))
    (.skip)))
  (.seq (sr F139r14
  (cd 117
    (sr F139r15
    (.ret))
    (.skip)))
  (sr F139r16
  (.seq (.reg F139r17 (some [[], [0], [1, 0], [2, 1, 0], [], [4], [5, 4], [6, 5, 4], [7, 6, 5, 4], [], [9], [10, 9], [11, 10, 9], [12, 11, 10, 9], [8, 13, 7, 6, 5, 4, 12, 11, 10, 9], [3, 14, 2, 1, 0, 8, 13, 7, 6, 5, 4, 12, 11, 10, 9], [15, 0, 1, 2, 3, 4, 5, 6, 7, 8, 9, 10, 11, 12, 13, 14], [16, 0, 1, 2, 3, 4, 5, 6, 7, 8, 9, 10, 11, 12, 13, 14, 15]]))
  (.ret)))))))))))⟩
theorem F139_ok : cFunc Tryd.prog 139 = some F139 := by kernel_rfl
theorem F139_call : callable Tryd.prog 139 = true := by kernel_rfl
def F149r0 : RL := [oo 2 (.mov cF)]
def F149r1 : RL := [oo 5 (ms 0),
 oo 6 (.nilc (.s 5)),
 oo 7 (fd 0 6),
 oo 8 (fd 1 7),
 oo 9 (ld 8),
 oo 10 (bi .eql (.s 9) (ci 1))]
def F149r2 : RL := [oo 2 (.mov cT)]
def F149r3 : RL := [oo 12 (ms 0),
 oo 13 (.nilc (.s 12)),
 oo 14 (fd 0 13),
 oo 15 (fd 4 14),
 oo 16 (fd 0 15),
 oo 17 (lq 2 16),
 oo 18 (.bsl 2 1 [zi 0, zi 0] [(0, .s 17)]),
 oo 19 (ms 0),
 oo 20 (.nilc (.s 19)),
 oo 21 (fd 0 20),
 oo 22 (fd 0 21),
 oo 23 (ld 22),
 oo 24 (cl 151 [.s 18, .s 23]),
 oo 11 (ms 24),
 oo 25 (.ext 0 (.s 11)),
 oo 26 (.ext 1 (.s 11)),
 oo 3 (.new [zi 0, zi 0]),
 ow (.store 2 (.s 3) (.s 25)),
 oo 4 (ms 26)]
def F149r4 : RL := [oo 27 (ms 0),
 oo 28 (lq 2 3),
 oo 29 (ms 0),
 oo 30 (.nilc (.s 29)),
 oo 31 (fd 0 30),
 oo 32 (fd 3 31),
 oo 33 (ld 32),
 oo 34 (.agg [zi 0, zi 0, zs] [(0, (2, .s 28)), (2, (1, .s 33))]),
 oo 35 (.nilc (.s 27)),
 oo 36 (fd 0 35),
 oo 37 (fd 4 36),
 ow (.store 3 (.s 37) (.s 34))]
def F149r5 : RL := [oo 38 (ms 4),
 oo 39 (bi .eql (.s 38) (ci 0)),
 oo 2 (ms 39)]
def F149 : AFn := ⟨40, [.tmp 2],
  sr F149r0
  (.seq (sr F149r1
  (cd 10
    (sr F149r2
    (.ret))
    (.skip)))
  (.seq (.reg F149r3 (some [[], [0], [1, 0], [2, 1, 0], [3, 2, 1, 0], [4, 3, 2, 1, 0], [5, 4, 3, 2, 1, 0], [], [7], [8, 7], [9, 8, 7], [10, 9, 8, 7], [6, 11, 5, 4, 3, 2, 1, 0, 10, 9, 8, 7], [12, 6, 11, 5, 4, 3, 2, 1, 0, 10, 9, 8, 7], [13, 12, 6, 11, 5, 4, 3, 2, 1, 0, 10, 9, 8, 7], [13, 12, 6, 11, 5, 4, 3, 2, 1, 0, 10, 9, 8, 7], [], [16, 14, 12, 0, 1, 2, 3, 4, 5, 6, 7, 8, 9, 10, 11, 13], [15, 17, 0, 1, 2, 3, 4, 5, 6, 7, 8, 9, 10, 11, 12, 13, 14, 16]]))
  (.seq (.reg F149r4 (some [[], [], [], [2], [3, 2], [4, 3, 2], [5, 4, 3, 2], [1, 6, 5, 4, 3, 2], [0, 1, 2, 3, 4, 5, 6, 7], [8, 0, 1, 2, 3, 4, 5, 6, 7], [9, 0, 1, 2, 3, 4, 5, 6, 7, 8], [10, 7, 0, 1, 2, 3, 4, 5, 6, 9, 8]]))
  (sr F149r5
  (.ret)))))⟩
theorem F149_ok : cFunc Tryd.prog 149 = some F149 := by kernel_rfl
theorem F149_call : callable Tryd.prog 149 = true := by kernel_rfl
def F151r0 : RL := [oo 4 (.new [zi 0, zi 0]),
 oo 5 (.mov (ci 0))]
def F151r1 : RL := [oo 9 (ms 0),
 oo 10 (cl 152 [.s 9]),
 oo 8 (ms 10),
 oo 11 (.ext 0 (.s 8)),
 oo 12 (.ext 1 (.s 8)),
 oo 6 (.new [zi 0, zi 0]),
 ow (.store 2 (.s 6) (.s 11)),
 oo 7 (ms 12)]
def F151r2 : RL := [oo 13 (ms 7),
 oo 14 (bi .eql (.s 13) (ci 0)),
 oo 15 (ms 14),
 ot 16 (ms 1) 15,
 ot 17 (cl 102 [.s 16]) 15,
 ot 18 (.un .not (.s 17)) 15,
 ot 19 (ms 18) 15,
 on 20 (fd 0 6) 19,
 on 21 (ld 20) 19,
 on 22 (bi .eql (.s 21) (ci 1000000)) 19,
 ot 23 (.pick (.s 19) cT (.s 22)) 15,
 oo 24 (.pick (.s 15) (.s 23) cF)]
def F151r3 : RL := [oo 7 (.mov (ci 3))]
def F151r4 : RL := [oo 25 (ms 7),
 oo 26 (bi .neq (.s 25) (ci 0))]
def F151r5 : RL := [oo 27 (.agg [zi 0, zi 0] []),
 oo 28 (ms 7),
 ow (.store 2 (.s 4) (.s 27)),
 oo 5 (ms 28)]
def F151r6 : RL := [oo 29 (fd 0 6),
 oo 30 (ld 29),
 oo 31 (bi .add (.s 30) (ci 1)),
 oo 32 (ms 1),
 oo 33 (.agg [zi 0, zi 0] [(0, (1, .s 31)), (1, (1, .s 32))]),
 ow (.store 2 (.s 4) (.s 33)),
 oo 5 (.mov (ci 0))]
def F151 : AFn := ⟨34, [.cell 4 (some 2), .tmp 5],
  sr F151r0
  (sr F151r1
  (.seq (sr F151r2
  (cd 24
    (rg F151r3)
    (.skip)))
  (.seq (sr F151r4
  (cd 26
    (sr F151r5
    (.ret))
    (.skip)))
  (sr F151r6
  (.ret)))))⟩
theorem F151_ok : cFunc Tryd.prog 151 = some F151 := by kernel_rfl
theorem F151_call : callable Tryd.prog 151 = true := by kernel_rfl
def F152r0 : RL := [oo 2 (.new [zi 0, zi 0]),
 oo 3 (.mov (ci 0))]
def F152r1 : RL := [oo 7 (ms 0),
 oo 8 (.len false (.s 7)),
 oo 9 (bi .gtr (.s 8) (ci 64))]
def F152r2 : RL := [oo 10 (.agg [zi 0, zi 0] []),
 ow (.store 2 (.s 2) (.s 10)),
 oo 3 (.mov (ci 2))]
def F152r3 : RL := [oo 11 (ms 0),
 oo 12 (.len false (.s 11)),
 oo 13 (.mov (ci 0))]
def F152r4 : RL := [oo 14 (bi .lss (.s 13) (.s 12))]
def F152r5 : RL := [oo 15 (.iad 2 (.s 11) (.s 13)),
 oo 16 (lq 2 15),
 oo 5 (.new [zi 0, zi 0]),
 ow (.store 2 (.s 5) (.s 16))]
def F152r6 : RL := [oo 17 (lq 2 5),
 oo 18 (cl 66 [.s 17]),
 oo 6 (ms 18)]
def F152r7 : RL := [oo 19 (ms 6),
 oo 20 (bi .neq (.s 19) (ci 0))]
def F152r8 : RL := [oo 21 (.agg [zi 0, zi 0] []),
 oo 22 (ms 6),
 ow (.store 2 (.s 2) (.s 21)),
 oo 3 (ms 22)]
def F152r9 : RL := [oo 23 (bi .add (.s 13) (ci 1)),
 oo 13 (ms 23)]
def F152r10 : RL := [oo 24 (.agg [zi 0, zi 0] []),
 oo 25 (.bsl 2 1 [zi 0, zi 0] [(0, .s 24)]),
 oo 26 (ms 0),
 oo 27 (.app 2 16 (.s 25) (.s 26)),
 oo 28 (cl 153 [.s 27, .c (.fn 53 [])]),
 ow (.store 2 (.s 2) (.s 28)),
 oo 3 (.mov (ci 0))]
def F152 : AFn := ⟨29, [.cell 2 (some 2), .tmp 3],
  sr F152r0
  (.seq (sr F152r1
  (cd 9
    (sr F152r2
    (.ret))
    (.skip)))
  (.seq (sr F152r3
  (.block 0 (
    .loop (
      sr F152r4
      (.seq (cd 14
        (.skip)
        (.exit 0))
      (.seq (.block 1 (
        sr F152r5
        (sr F152r6
        (sr F152r7
        (cd 20
          (sr F152r8
          (.ret))
          (.skip))))))
      (rg F152r9)))))))
  (sr F152r10
  (.ret))))⟩
theorem F152_ok : cFunc Tryd.prog 152 = some F152 := by kernel_rfl
theorem F152_call : callable Tryd.prog 152 = true := by kernel_rfl
def F153r0 : RL := [oo 4 (.new [zi 0, zi 0])]
def F153r1 : RL := [oo 7 (ms 0),
 oo 8 (.len false (.s 7)),
 oo 9 (bi .lss (.s 8) (ci 1))]
def F153r2 : RL := [oo 10 (.bad),
 ow (.bad)]
def F153r3 : RL := [oo 11 (ms 0),
 oo 12 (.iad 2 (.s 11) (ci 0)),
 oo 13 (lq 2 12),
 oo 5 (.new [zi 0, zi 0]),
 ow (.store 2 (.s 5) (.s 13))]
def F153r4 : RL := [oo 6 (.mov (ci 1))]
def F153r5 : RL := [oo 14 (ms 6),
 oo 15 (ms 0),
 oo 16 (.len false (.s 15)),
 oo 17 (bi .lss (.s 14) (.s 16))]
def F153r6 : RL := [oo 20 (ms 1),
 oo 21 (ms 0),
 oo 22 (ms 6),
 oo 23 (.iad 2 (.s 21) (.s 22)),
 oo 24 (lq 2 23),
 oo 25 (lq 2 5),
 oo 26 (.call (.s 20) [.s 24, .s 25]),
 oo 27 (bi .gtr (.s 26) (ci 0))]
def F153r7 : RL := [oo 28 (ms 0),
 oo 29 (ms 6),
 oo 30 (.iad 2 (.s 28) (.s 29)),
 oo 31 (lq 2 30),
 ow (.store 2 (.s 5) (.s 31))]
def F153r8 : RL := [oo 18 (ms 6),
 oo 19 (bi .add (.s 18) (ci 1)),
 oo 6 (ms 19)]
def F153r9 : RL := [oo 32 (lq 2 5),
 ow (.store 2 (.s 4) (.s 32))]
def F153 : AFn := ⟨33, [.cell 4 (some 2)],
  sr F153r0
  (.seq (sr F153r1
  (cd 9
    (rg F153r2)
    (.skip)))
  (sr F153r3
  (.seq (sr F153r4
  (.block 0 (
    .loop (
      .seq (sr F153r5
      (cd 17
        (.skip)
        (.exit 0)))
      (.seq (.block 1 (
        .seq (.reg F153r6 (some [[], [], [], [1, 2], [3, 1, 2], [], [0, 4, 5, 3, 1, 2], [6, 0, 4, 5, 3, 1, 2]]))
        (cd 27
          (rg F153r7)
          (.skip))))
      (rg F153r8))))))
  (sr F153r9
  (.ret)))))⟩
theorem F153_ok : cFunc Tryd.prog 153 = some F153 := by kernel_rfl
theorem F153_call : callable Tryd.prog 153 = true := by kernel_rfl
open Go.RowKit
section
variable {P : Program} {n k k0 : Nat} {x : L3} {K : L3 → Prop} {Q : Ex → L3 → Prop} {R : List AOper} {dep : List (List Nat)} {rs : List Rec} {hs : List (Option Nat)} {b : AC}
theorem owl (c : Nat) (live : List Nat) (x' : L3) (hr : EL P n k0 b x' Q) (h : (runN n c (R.drop k) x).map (L3.keep live) = some x' := by kernel_rfl) (he : (R.drop (k + c)).isEmpty = true := by kernel_rfl) : OW P n k0 (R.drop k) x fun y => EL P n k0 b y Q := OW.last c live h he hr
theorem srl (c : Nat) (live : List Nat) (x' : L3) (hr : EL P n k0 b x' Q) (h : (runN n c (R.drop 0) x).map (L3.keep live) = some x' := by kernel_rfl) (he : (R.drop (0 + c)).isEmpty = true := by kernel_rfl) : EL P n k0 (.seq (.reg R none) b) x Q := EL.sreg (OW.last c live h he hr)
theorem owr (c : Nat) (x' : L3) (hr : OW P n k0 (R.drop (k + c)) x' K) (h : runN n c (R.drop k) x = some x' := by kernel_rfl) : OW P n k0 (R.drop k) x K := OW.run c h hr
theorem srr (c : Nat) (x' : L3) (hr : OW P n k0 (R.drop (0 + c)) x' fun y => EL P n k0 b y Q) (h : runN n c (R.drop 0) x = some x' := by kernel_rfl) : EL P n k0 (.seq (.reg R none) b) x Q := EL.sreg (OW.run c h hr)
theorem roe (c : Nat) (x' : L3) (hr : Q .normal x') (h : runN n c (R.drop 0) x = some x' := by kernel_rfl) (he : (R.drop (0 + c)).isEmpty = true := by kernel_rfl) : EL P n k0 (.reg R none) x Q := EL.reg0 (OW.end c h he hr)
theorem cnT {a : Arg} {y z : AC} (h : EL P n k0 y x Q) (hb : argσ (slot x.t) a = .v (.bool true) := by kernel_rfl) : EL P n k0 (.cond a y z) x Q := EL.condT hb h
theorem cnF {a : Arg} {y z : AC} (h : EL P n k0 z x Q) (hb : argσ (slot x.t) a = .v (.bool false) := by kernel_rfl) : EL P n k0 (.cond a y z) x Q := EL.condF hb h
theorem rtr {f : L3 → Prop} (h : Q .ret x) : EL P n k0 .ret x (Ex.thenL f Q) := EL.ret (tR h)
theorem skn {f : L3 → Prop} (h : f x) : EL P n k0 .skip x (Ex.thenL f Q) := EL.skip (tN h)
theorem pq {α : Type} {m : List (Option Bk)} {id : Nat} (sz : Nat) (f : α → List AV) (xs : List α) (h : look m id = some ⟨sz, xs.map f⟩ := by kernel_rfl) (hp : ∀ y, (f y).all AV.pu1 = true := by intro y; kernel_rfl) : PuE m id := pu sz f xs h hp
end
open Go.RowKit
abbrev ut (i : Nat) : Src0 := .old i true
theorem bqT {α : Type} [BEq α] [LawfulBEq α] {a b : α} (h : (a == b) = true) : a = b := eq_of_beq h
theorem bqF {α : Type} [BEq α] [LawfulBEq α] {a b : α} (h : (a == b) = false) : ¬ a = b := fun e => by subst e; simp at h
theorem fne {n k0 : Nat} {x : L3} {res : List ARes} {r : AV} {m' : List (Option Bk)} (live : List Nat) (src : List Src0) (y : L3) (hp : PuS x.m src) (h : normL k0 live src [] x = some y := by kernel_rfl) (hr : (resR (slot y.t) res).run (look y.m) = some r := by kernel_rfl) (hm : y.m = m' := by rfl) :
    (Ex.ret = .normal ∨ Ex.ret = .ret) ∧ ∃ y : L3, x.s.Le k0 n y.s ∧ (resR (slot y.t) res).run (look y.m) = some r ∧ y.m = m' := ⟨.inr rfl, y, norm_le h hp, hr, hm⟩
section
variable {x : L3} {res : List ARes} {r' : AV}
theorem rqe (r : AV) (he : r = r') (h : ((resR (slot x.t) res).bind snapR).run (look x.m) = some r := by kernel_rfl) : (Ex.ret = .normal ∨ Ex.ret = .ret) ∧ ∃ q, ((resR (slot x.t) res).bind snapR).run (look x.m) = some q ∧ Ale q r' := ⟨.inr rfl, r, h, Ale.of_eq he⟩
theorem rqa (r : AV) {b : AV} (ha : Ale r b) (he : b = r') (h : ((resR (slot x.t) res).bind snapR).run (look x.m) = some r := by kernel_rfl) : (Ex.ret = .normal ∨ Ex.ret = .ret) ∧ ∃ q, ((resR (slot x.t) res).bind snapR).run (look x.m) = some q ∧ Ale q r' := ⟨.inr rfl, r, h, Ale.trans ha (Ale.of_eq he)⟩
theorem rqs (r r0 : AV) (h : (snapR r0).run (look x.m) = some r) (he : r = r') (h0 : (resR (slot x.t) res).run (look x.m) = some r0 := by kernel_rfl) : (Ex.ret = .normal ∨ Ex.ret = .ret) ∧ ∃ q, ((resR (slot x.t) res).bind snapR).run (look x.m) = some q ∧ Ale q r' := ⟨.inr rfl, r, run_snap h0 h, Ale.of_eq he⟩
end
theorem fnw {P : Program} {f : FuncId} {F : AFn} (hF : cFunc P f = some F) {as_ : List AV} {r : AV} (h : EL P F.n 0 F.code (start as_) fun e x => (e = .normal ∨ e = .ret) ∧ ∃ r', ((resR (slot x.t) F.res).bind snapR).run (look x.m) = some r' ∧ Ale r' r) (hl : as_.length ≤ F.n := by exact of_decide_eq_true (by kernel_rfl)) : Fn P f as_ r := fW hF hl h
section
variable {P : Program} {n k k0 : Nat} {x : L3} {K : L3 → Prop} {R : List AOper}
theorem ow2 {v : AV} {u : List (Nat × Option Bk)} {acc : List Nat} (x' : L3) (h : opE (opD R k) x = .done v u acc) (hr : OW P n k0 (R.drop (k + 1)) x' K) (hl : Nat.blt k R.length = true := by kernel_rfl) (hx : (bif dstOK n (opD R k).dst && upsOK x.m.length u then some (⟨setA x.t (opD R k).dst v, mput x.m u⟩ : L3) else none) = some x' := by kernel_rfl) : OW P n k0 (R.drop k) x K := OW.ope hl h hx hr
end
section
variable {o : AOper} {x : L3}
theorem oap {α : Type} (f : α → List AV) (xs ys : List α) (s a : Arg) (sz by_ id : Nat) (w : AV) {acc : List Nat} (hw : Src f sz (look x.m) w ys acc) (hb : (xs.length + ys.length) * by_ ≤ 140737488355328) (ho : o.ao = .app sz by_ s a := by kernel_rfl) (hg : guardA (slot x.t) o.guard = some true := by kernel_rfl) (hs : argσ (slot x.t) s = .own id sz 0 xs.length := by rfl) (hB : look x.m id = some ⟨sz, xs.map f⟩ := by kernel_rfl) (ha : argσ (slot x.t) a = w := by rfl) :
    opE o x = .done (.own x.m.length sz 0 (xs ++ ys).length) [(id, none), (x.m.length, some ⟨sz, (xs ++ ys).map f⟩)] (acc ++ [id]) := opE_appO f xs ys s a sz by_ id w acc ho hg hs hB ha hw hb
end
theorem aT {a : List AV} {b : List AV} {r s : List AV} (h : AleL a b) (t : AleL r s) : AleL (.agg a :: r) (.agg b :: s) := .cons (Ale.agg h) t
def tz (n : Nat) : Nat := if n = 0 then 64 else if n % 2 = 1 then 0 else tz (n / 2) + 1
termination_by n
decreasing_by omega
theorem tz_odd {n : Nat} (h : n % 2 = 1) : tz n = 0 := by
  rw [tz, if_neg (by omega), if_pos h]
theorem tz_even {n : Nat} (h0 : n ≠ 0) (h : n % 2 = 0) : tz n = tz (n / 2) + 1 := by
  rw [tz, if_neg h0, if_neg (by omega)]
theorem land_two (a b i k : Nat) (hi : i < 2) (hk : k < 2) : (2 * a + i) &&& (2 * b + k) = 2 * (a &&& b) + (i &&& k) := by
  apply Nat.eq_of_testBit_eq
  intro j
  have hik : i &&& k < 2 := Nat.lt_of_le_of_lt Nat.and_le_left hi
  cases j with
  | zero =>
    rw [Nat.testBit_and, Nat.testBit_zero, Nat.testBit_zero, Nat.testBit_zero]
    have : i = 0 ∨ i = 1 := by omega
    have : k = 0 ∨ k = 1 := by omega
    rcases ‹i = 0 ∨ i = 1› with rfl | rfl <;> rcases ‹k = 0 ∨ k = 1› with rfl | rfl <;> simp <;> omega
  | succ j =>
    rw [Nat.testBit_and, Nat.testBit_succ, Nat.testBit_succ, Nat.testBit_succ, show (2 * a + i) / 2 = a by omega, show (2 * b + k) / 2 = b by omega, show (2 * (a &&& b) + (i &&& k)) / 2 = (a &&& b) by omega, Nat.testBit_and]
theorem compl_land : ∀ (v y : Nat), y < 2 ^ v → y &&& (2 ^ v - 1 - y) = 0
  | 0, y, h => by have : y = 0 := by simpa using h
                  subst this; simp
  | v + 1, y, h => by
    have hp : 2 ^ (v + 1) = 2 * 2 ^ v := by rw [Nat.pow_succ]; omega
    have ih := compl_land v (y / 2) (by omega)
    have e1 : y = 2 * (y / 2) + y % 2 := by omega
    have e2 : 2 ^ (v + 1) - 1 - y = 2 * (2 ^ v - 1 - y / 2) + (1 - y % 2) := by omega
    rw [e2]
    conv => lhs; lhs; rw [e1]
    rw [land_two _ _ _ _ (by omega) (by omega), ih]
    have : y % 2 = 0 ∨ y % 2 = 1 := by omega
    rcases this with h | h <;> rw [h] <;> rfl
theorem neg_land : ∀ (v x : Nat), 0 < x → x < 2 ^ v → x &&& (2 ^ v - x) = 2 ^ tz x
  | 0, x, h, h2 => by simp at h2; omega
  | v + 1, x, h, h2 => by
    have hp : 2 ^ (v + 1) = 2 * 2 ^ v := by rw [Nat.pow_succ]; omega
    by_cases ho : x % 2 = 1
    · have e1 : x = 2 * (x / 2) + 1 := by omega
      have e2 : 2 ^ (v + 1) - x = 2 * (2 ^ v - 1 - x / 2) + 1 := by omega
      rw [tz_odd ho, e2]
      conv => lhs; lhs; rw [e1]
      rw [land_two _ _ _ _ (by omega) (by omega), compl_land v (x / 2) (by omega)]; rfl
    · have he : x % 2 = 0 := by omega
      have e1 : x = 2 * (x / 2) + 0 := by omega
      have e2 : 2 ^ (v + 1) - x = 2 * (2 ^ v - x / 2) + 0 := by omega
      rw [tz_even (by omega) he, e2, Nat.pow_succ]
      conv => lhs; lhs; rw [e1]
      rw [land_two _ _ _ _ (by omega) (by omega), neg_land v (x / 2) (by omega) (by omega)]
      simp; omega
theorem pred_odd {x : Nat} (h : x % 2 = 1) : x &&& (x - 1) = 2 * (x / 2) := by
  have e1 : x = 2 * (x / 2) + 1 := by omega
  have e2 : x - 1 = 2 * (x / 2) + 0 := by omega
  rw [e2]
  conv => lhs; lhs; rw [e1]
  rw [land_two _ _ _ _ (by omega) (by omega), Nat.and_self]; rfl
theorem pred_even {x : Nat} (h0 : x ≠ 0) (h : x % 2 = 0) : x &&& (x - 1) = 2 * ((x / 2) &&& (x / 2 - 1)) := by
  have e1 : x = 2 * (x / 2) + 0 := by omega
  have e2 : x - 1 = 2 * (x / 2 - 1) + 1 := by omega
  rw [e2]
  conv => lhs; lhs; rw [e1]
  rw [land_two _ _ _ _ (by omega) (by omega)]; simp
theorem pred_lt {x : Nat} (h0 : x ≠ 0) : x &&& (x - 1) < x := Nat.lt_of_le_of_lt Nat.and_le_right (by omega)
theorem tz_lt : ∀ (v x : Nat), x ≠ 0 → x < 2 ^ v → tz x < v
  | 0, x, h, h2 => by simp at h2; omega
  | v + 1, x, h, h2 => by
    have hp : 2 ^ (v + 1) = 2 * 2 ^ v := by rw [Nat.pow_succ]; omega
    by_cases ho : x % 2 = 1
    · rw [tz_odd ho]; omega
    · rw [tz_even h (by omega)]
      have := tz_lt v (x / 2) (by omega) (by omega); omega
def bsum : List Int → Nat → Int
  | [], _ => 0
  | w :: ws, x => (if x % 2 = 1 then w else 0) + bsum ws (x / 2)
theorem bsum_zero : ∀ ws : List Int, bsum ws 0 = 0
  | [] => rfl
  | w :: ws => by simp [bsum, bsum_zero ws]
theorem bsum_low : ∀ (ws : List Int) (x : Nat), x ≠ 0 → x < 2 ^ ws.length → ∃ w, ws[tz x]? = some w ∧ bsum ws x = w + bsum ws (x &&& (x - 1))
  | [], x, h, h2 => by simp at h2; omega
  | w :: ws, x, h, h2 => by
    have hp : 2 ^ (ws.length + 1) = 2 * 2 ^ ws.length := by rw [Nat.pow_succ]; omega
    rw [List.length_cons] at h2
    by_cases ho : x % 2 = 1
    · refine ⟨w, by rw [tz_odd ho]; rfl, ?_⟩
      rw [pred_odd ho]
      simp only [bsum, ho, if_true]
      rw [if_neg (by omega), show 2 * (x / 2) / 2 = x / 2 by omega]; omega
    · have he : x % 2 = 0 := by omega
      obtain ⟨w', k1, k2⟩ := bsum_low ws (x / 2) (by omega) (by omega)
      refine ⟨w', by rw [tz_even h he]; simpa using k1, ?_⟩
      rw [pred_even h he]
      simp only [bsum]
      rw [if_neg ho, if_neg (by omega), k2, show 2 * (x / 2 &&& (x / 2 - 1)) / 2 = (x / 2 &&& (x / 2 - 1)) by omega]; omega
open Go.RowKit
section
variable {o : AOper} {x : L3}
theorem six_ex {s : ByteArray} {m : Int} (h : 0 ≤ m ∧ m < s.size) : ∃ b, s[Int.toNat m]? = some b := by
  have : Int.toNat m < s.size := by omega
  exact ⟨_, getElem?_pos s (Int.toNat m) this⟩
theorem opE_six (s : ByteArray) (a i : Arg) (q : IntKind) (m : Int) (b : UInt8) (ho : o.ao = .six a i) (hg : guardA (slot x.t) o.guard = some true) (ha : argσ (slot x.t) a = .v (.string s)) (hi : argσ (slot x.t) i = .v (.int q m)) (h0 : 0 ≤ m) (hb : s[Int.toNat m]? = some b) :
    opE o x = .done (.v (.int .u8 b.toNat)) [] [] := by
  have hs : (AO.six a i).sem x.m.length (argσ (slot x.t)) = .opt (s[Int.toNat m]?.map fun b => .done (.v (.int .u8 b.toNat)) []) := by simp [AO.sem, ha, hi, natOf, h0]
  exact opE_sem _ (acc := []) (see := []) ho hg (by rw [hs]; simp [RM.run, hb, RM.opt]) (by rw [hs]; simp [RM.acc, hb, RM.opt]) (by rw [hs]; simp [RM.see, hb, RM.opt])
theorem opE_iapP (sz ln : Nat) (a i : Arg) (cs : List AV) (off : Nat) (q : IntKind) (m : Int) (ho : o.ao = .iap sz ln a i) (hg : guardA (slot x.t) o.guard = some true) (ha : argσ (slot x.t) a = .pim cs off) (hi : argσ (slot x.t) i = .v (.int q m)) (h0 : 0 ≤ m ∧ m < ln) : opE o x = .done (.pim cs (off + Int.toNat m * sz)) [] [] := by
  have hs : (AO.iap sz ln a i).sem x.m.length (argσ (slot x.t)) = .ret (.done (.pim cs (off + Int.toNat m * sz)) []) := by simp [AO.sem, ha, hi, h0]
  exact opE_sem _ (acc := []) (see := []) ho hg (by rw [hs]; simp [RM.run]) (by rw [hs]; simp [RM.acc]) (by rw [hs]; simp [RM.see])
theorem opE_ldP (mm : Option Nat) (a : Arg) (cs : List AV) (off : Nat) (v : AV) (ho : o.ao = .load mm a) (hg : guardA (slot x.t) o.guard = some true) (ha : argσ (slot x.t) a = .pim cs off) (hv : getCells cs off mm = some v) : opE o x = .done v [] [] := by
  have hs : (AO.load mm a).sem x.m.length (argσ (slot x.t)) = .opt ((getCells cs off mm).map fun a => .done a []) := by simp [AO.sem, ha]
  exact opE_sem _ (acc := []) (see := []) ho hg (by rw [hs]; simp [RM.run, hv, RM.opt]) (by rw [hs]; simp [RM.acc, hv, RM.opt]) (by rw [hs]; simp [RM.see, hv, RM.opt])
end
def len8 (m : Nat) : Nat := if m = 0 then 0 else Nat.log2 m + 1
def l8s : ByteArray := ⟨#[0, 1, 2, 2, 3, 3, 3, 3, 4, 4, 4, 4, 4, 4, 4, 4, 5, 5, 5, 5, 5, 5, 5, 5, 5, 5, 5, 5, 5, 5, 5, 5, 6, 6, 6, 6, 6, 6, 6, 6, 6, 6, 6, 6, 6, 6, 6, 6, 6, 6, 6, 6, 6, 6, 6, 6, 6, 6, 6, 6, 6, 6, 6, 6, 7, 7, 7, 7, 7, 7, 7, 7, 7, 7, 7, 7, 7, 7, 7, 7, 7, 7, 7, 7, 7, 7, 7, 7, 7, 7, 7, 7, 7, 7, 7, 7, 7, 7, 7, 7, 7, 7, 7, 7, 7, 7, 7, 7, 7, 7, 7, 7, 7, 7, 7, 7, 7, 7, 7, 7, 7, 7, 7, 7, 7, 7, 7, 7, 8, 8, 8, 8, 8, 8, 8, 8, 8, 8, 8, 8, 8, 8, 8, 8, 8, 8, 8, 8, 8, 8, 8, 8, 8, 8, 8, 8, 8, 8, 8, 8, 8, 8, 8, 8, 8, 8, 8, 8, 8, 8, 8, 8, 8, 8, 8, 8, 8, 8, 8, 8, 8, 8, 8, 8, 8, 8, 8, 8, 8, 8, 8, 8, 8, 8, 8, 8, 8, 8, 8, 8, 8, 8, 8, 8, 8, 8, 8, 8, 8, 8, 8, 8, 8, 8, 8, 8, 8, 8, 8, 8, 8, 8, 8, 8, 8, 8, 8, 8, 8, 8, 8, 8, 8, 8, 8, 8, 8, 8, 8, 8, 8, 8, 8, 8, 8, 8, 8, 8, 8, 8, 8, 8, 8, 8, 8, 8]⟩
set_option maxRecDepth 100000 in
theorem l8_all : ((List.range 256).all fun m => (l8s.data[m]?.map UInt8.toNat) == some (len8 m)) = true := by kernel_rfl
theorem l8_get {m : Nat} (h : m < 256) {b : UInt8} (hb : l8s[m]? = some b) : b.toNat = len8 m := by
  have h1 := List.all_eq_true.1 l8_all m (List.mem_range.2 h)
  have h2 : l8s.data[m]? = some b := by
    have hs : m < l8s.size := by
      by_cases hh : m < l8s.size
      · exact hh
      · rw [getElem?_neg l8s m hh] at hb; simp at hb
    rw [getElem?_pos l8s m hs] at hb
    rw [Array.getElem?_eq_getElem (by exact hs)]
    exact hb
  rw [h2] at h1
  simpa using h1
def len64 (n : Nat) : Nat := if n = 0 then 0 else Nat.log2 n + 1
theorem len64_gt {n k : Nat} : k < len64 n ↔ 2 ^ k ≤ n := by
  unfold len64
  by_cases h : n = 0
  · subst h; simp
  · rw [if_neg h, Nat.lt_succ_iff, Nat.le_log2 h]
theorem len64_shift {n k : Nat} (h : 2 ^ k ≤ n) : len64 n = len64 (n / 2 ^ k) + k := by
  have hp := Nat.two_pow_pos k
  have h0 : n ≠ 0 := by omega
  have h1 : n / 2 ^ k ≠ 0 := by have := Nat.div_pos h hp; omega
  have e : ∀ j, j < len64 n ↔ j < len64 (n / 2 ^ k) + k := fun j => by
    rw [len64_gt]
    by_cases hj : j < k
    · have := Nat.pow_le_pow_right (n := 2) (by omega) (Nat.le_of_lt hj)
      constructor <;> intro _ <;> omega
    · obtain ⟨i, rfl⟩ : ∃ i, j = i + k := ⟨j - k, by omega⟩
      rw [Nat.add_lt_add_iff_right, len64_gt, Nat.le_div_iff_mul_le hp, Nat.pow_add]
  have a := e (len64 n)
  have b := e (len64 (n / 2 ^ k) + k)
  omega
theorem gl_ld {i : Nat} (h : i < glZ.length) : getCells glC (0 + i * 1) none = some (.v (.int .u8 (glZ.getD i 0))) := by
  rw [Nat.zero_add, Nat.mul_one]; exact glT_get h
set_option maxRecDepth 100000 in
theorem gl_all : ((List.range 64).all fun k => decide ((IntKind.u64.wrap (((2 ^ k : Nat) : Int) * 285870213051353865)).fdiv (2 ^ (min 58 IntKind.u64.bits)) < 64) && decide (0 ≤ (IntKind.u64.wrap (((2 ^ k : Nat) : Int) * 285870213051353865)).fdiv (2 ^ (min 58 IntKind.u64.bits))) && glZ.getD (Int.toNat ((IntKind.u64.wrap (((2 ^ k : Nat) : Int) * 285870213051353865)).fdiv (2 ^ (min 58 IntKind.u64.bits)))) 0 == (k : Int)) = true := by kernel_rfl
theorem gl_at {k : Nat} (h : k < 64) : (0 ≤ (IntKind.u64.wrap (((2 ^ k : Nat) : Int) * 285870213051353865)).fdiv (2 ^ (min 58 IntKind.u64.bits)) ∧ (IntKind.u64.wrap (((2 ^ k : Nat) : Int) * 285870213051353865)).fdiv (2 ^ (min 58 IntKind.u64.bits)) < 64) ∧ glZ.getD (Int.toNat ((IntKind.u64.wrap (((2 ^ k : Nat) : Int) * 285870213051353865)).fdiv (2 ^ (min 58 IntKind.u64.bits)))) 0 = (k : Int) := by
  have h1 := List.all_eq_true.1 gl_all k (List.mem_range.2 h)
  simp only [Bool.and_eq_true, decide_eq_true_eq, beq_iff_eq] at h1
  exact ⟨⟨h1.1.2, h1.1.1⟩, h1.2⟩
theorem neg_bits {x : Nat} (h0 : x ≠ 0) (h : x < 18446744073709551616) : bits .and .u64 (x : Int) (IntKind.u64.wrap (0 - (x : Int))) = ((2 ^ tz x : Nat) : Int) := by
  have e : IntKind.u64.wrap (0 - (x : Int)) = ((18446744073709551616 - x : Nat) : Int) := by rw [IntKind.wrap_u64]; omega
  rw [e, bits_and_u64_nat x _ h (by omega)]
  have := neg_land 64 x (by omega) (by simpa using h)
  rw [show (2 : Nat) ^ 64 = 18446744073709551616 by decide] at this
  rw [this]
end Go.Proofs.YtpagdlhlfmenmaaDoor
