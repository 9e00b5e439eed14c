/- A call upon the own memory whose answer is said less well; a look into a map. No condition. -/
import Derived.Test.YtligepciannclaaDoorRows
import Derived.Test.YtligepciannclaaDoorPAvStep
set_option linter.unusedSimpArgs false
set_option linter.unusedVariables false
set_option maxRecDepth 100000
namespace Go.Proofs.YtligepciannclaaDoor
abbrev cl (f : Nat) (as_ : List Arg) : AO := .call (.c (.fn f [])) as_
abbrev cd (k : Nat) (y z : AC) : AC := .cond (.s k) y z
abbrev bi (o : BinOp) (a b : Arg) : AO := .bin false o a b
abbrev lq (n k : Nat) : AO := .load (some n) (.s k)
abbrev RL := List AOper
abbrev zi (n : Int) : AV := .v (.int .i64 n)
abbrev zs : AV := .v (.string ⟨#[]⟩)
abbrev ci (n : Int) : Arg := .c (zi n)
abbrev cT : Arg := .c (.v (.bool true))
abbrev cF : Arg := .c (.v (.bool false))
abbrev ld (k : Nat) : AO := .load none (.s k)
abbrev ms (k : Nat) : AO := .mov (.s k)
abbrev fd (a k : Nat) : AO := .fad a (.s k)
abbrev sr (R : List AOper) (b : AC) : AC := .seq (.reg R none) b
abbrev rg (R : List AOper) : AC := .reg R none
def F4r0 : RL := [oo 3 (.box 5 (.s 0)),
 oo 6 (.mov cF)]
def F4r1 : RL := [oo 20 (lq 5 3),
 oo 21 (ms 1),
 oo 22 (cl 20 [.s 20, .s 21]),
 oo 19 (ms 22),
 oo 23 (.ext 0 (.s 19)),
 oo 24 (.ext 1 (.s 19)),
 oo 25 (.ext 2 (.s 19)),
 oo 7 (.new [.emp, zi 0, .emp, .emp, .emp]),
 ow (.store 5 (.s 7) (.s 23)),
 oo 8 (ms 24),
 oo 9 (ms 25)]
def F4r2 : RL := [oo 27 (lq 5 3),
 oo 28 (ms 1),
 oo 29 (cl 21 [.s 27, .s 28]),
 oo 26 (ms 29),
 oo 30 (.ext 0 (.s 26)),
 oo 31 (.ext 1 (.s 26)),
 oo 32 (.ext 2 (.s 26)),
 oo 10 (.new [.emp, zi 0, .emp, .emp, .emp]),
 ow (.store 5 (.s 10) (.s 30)),
 oo 11 (ms 31),
 oo 12 (ms 32)]
def F4r3 : RL := [oo 33 (cl 16 []),
 oo 34 (.un .not (.s 33)),
 oo 35 (ms 34),
 on 36 (lq 5 7) 35,
 on 37 (lq 5 10) 35,
 on 38 (cl 17 [.s 36, .s 37]) 35,
 on 39 (.un .not (.s 38)) 35,
 oo 40 (.pick (.s 35) cT (.s 39)),
 oo 41 (ms 40),
 on 42 (ms 8) 41,
 on 43 (ms 11) 41,
 on 44 (bi .neq (.s 42) (.s 43)) 41,
 oo 45 (.pick (.s 41) cT (.s 44)),
 oo 46 (ms 45),
 on 47 (ms 9) 46,
 on 48 (ms 12) 46,
 on 49 (bi .neq (.s 47) (.s 48)) 46,
 oo 50 (.pick (.s 46) cT (.s 49))]
def F4r4 : RL := [oo 6 (.mov cF)]
def F4r5 : RL := [oo 51 (ms 9),
 oo 52 (bi .neq (.s 51) (ci 0)),
 oo 53 (ms 52),
 on 54 (ms 2) 53,
 on 55 (bi .lss (.s 54) (ci 0)) 53,
 oo 56 (.pick (.s 53) cT (.s 55)),
 oo 57 (ms 56),
 on 58 (ms 2) 57,
 on 59 (ms 1) 57,
 on 60 (.len false (.s 59)) 57,
 on 61 (bi .gtr (.s 58) (.s 60)) 57,
 oo 62 (.pick (.s 57) cT (.s 61))]
def F4r6 : RL := [oo 6 (.mov cT)]
def F4r7 : RL := [oo 64 (lq 5 3),
 oo 65 (ms 1),
 oo 66 (ms 2),
 oo 67 (.slc 3 (.s 65) none (some (.s 66)) none),
 oo 68 (cl 20 [.s 64, .s 67]),
 oo 63 (ms 68),
 oo 69 (.ext 0 (.s 63)),
 oo 70 (.ext 1 (.s 63)),
 oo 71 (.ext 2 (.s 63)),
 oo 13 (.new [.emp, zi 0, .emp, .emp, .emp]),
 ow (.store 5 (.s 13) (.s 69)),
 oo 14 (ms 70),
 oo 15 (ms 71)]
def F4r8 : RL := [oo 73 (lq 5 13),
 oo 74 (ms 1),
 oo 75 (ms 2),
 oo 76 (.slc 3 (.s 74) (some (.s 75)) none none),
 oo 77 (cl 20 [.s 73, .s 76]),
 oo 72 (ms 77),
 oo 78 (.ext 0 (.s 72)),
 oo 79 (.ext 1 (.s 72)),
 oo 80 (.ext 2 (.s 72)),
 oo 16 (.new [.emp, zi 0, .emp, .emp, .emp]),
 ow (.store 5 (.s 16) (.s 78)),
 oo 17 (ms 79),
 oo 18 (ms 80)]
def F4r9 : RL := [oo 81 (ms 15),
 oo 82 (bi .eql (.s 81) (ci 0)),
 oo 83 (ms 82),
 ot 84 (ms 18) 83,
 ot 85 (bi .eql (.s 84) (ci 0)) 83,
 oo 86 (.pick (.s 83) (.s 85) cF),
 oo 87 (ms 86),
 ot 88 (lq 5 16) 87,
 ot 89 (lq 5 7) 87,
 ot 90 (cl 17 [.s 88, .s 89]) 87,
 oo 91 (.pick (.s 87) (.s 90) cF),
 oo 92 (ms 91),
 ot 93 (ms 14) 92,
 ot 94 (ms 17) 92,
 ot 95 (bi .add (.s 93) (.s 94)) 92,
 ot 96 (ms 8) 92,
 ot 97 (bi .eql (.s 95) (.s 96)) 92,
 oo 98 (.pick (.s 92) (.s 97) cF),
 oo 99 (ms 98),
 ot 100 (lq 5 7) 99,
 ot 101 (cl 18 [.s 100]) 99,
 ot 102 (bi .eql (.s 101) (ci 0)) 99,
 oo 103 (.pick (.s 99) (.s 102) cF),
 oo 6 (ms 103)]
def F4 : AFn := ⟨104, [.tmp 6],
  sr F4r0
  (sr F4r1
  (sr F4r2
  (.seq (sr F4r3
  (cd 50
    (sr F4r4
    (.ret))
    (.skip)))
  (.seq (sr F4r5
  (cd 62
    (sr F4r6
    (.ret))
    (.skip)))
  (.seq (.reg F4r7 (some [[], [], [], [1, 2], [0, 3, 1, 2], [4, 0, 3, 1, 2], [5, 4, 0, 3, 1, 2], [5, 4, 0, 3, 1, 2], [5, 4, 0, 3, 1, 2], [], [9, 6, 4, 0, 1, 2, 3, 5], [7, 10, 0, 1, 2, 3, 4, 5, 6, 9], [8, 11, 0, 1, 2, 3, 4, 5, 6, 7, 9, 10]]))
  (.seq (.reg F4r8 (some [[], [], [], [1, 2], [0, 3, 1, 2], [4, 0, 3, 1, 2], [5, 4, 0, 3, 1, 2], [5, 4, 0, 3, 1, 2], [5, 4, 0, 3, 1, 2], [], [9, 6, 4, 0, 1, 2, 3, 5], [7, 10, 0, 1, 2, 3, 4, 5, 6, 9], [8, 11, 0, 1, 2, 3, 4, 5, 6, 7, 9, 10]]))
  (sr F4r9
  (.ret))))))))⟩
theorem F4_ok : cFunc Tryd.prog 4 = some F4 := by kernel_rfl
def F12r0 : RL := [oo 1 (.box 2 (.s 0)),
 oo 2 (.new [.emp, zi 0, .emp, .emp, .emp]),
 oo 3 (.mov (ci 0))]
def F12r1 : RL := [oo 5 (fd 0 1),
 oo 6 (ld 5),
 oo 7 (fd 1 1),
 oo 8 (ld 7),
 oo 9 (cl 26 [.s 6, .s 8]),
 oo 4 (ms 9)]
def F12r2 : RL := [oo 10 (ms 4),
 oo 11 (bi .neq (.s 10) (ci 0))]
def F12r3 : RL := [oo 12 (.agg [.emp, zi 0, .emp, .emp, .emp] []),
 oo 13 (ms 4),
 ow (.store 5 (.s 2) (.s 12)),
 oo 3 (ms 13)]
def F12r4 : RL := [oo 14 (fd 0 1),
 oo 15 (ld 14),
 oo 16 (cl 27 [.s 15]),
 oo 17 (fd 1 1),
 oo 18 (ld 17),
 oo 19 (.agg [.emp, zi 0] [(0, (1, .s 16)), (1, (1, .s 18))]),
 oo 20 (fd 0 1),
 oo 21 (ld 20),
 oo 22 (.len false (.s 21)),
 oo 23 (.msl 5 48 [zi 0, zi 0, zi 0, zi 0, zs] (.s 22) (.s 22)),
 oo 24 (.agg [.emp, zi 0, .emp, .emp, .emp] [(0, (2, .s 19)), (2, (1, .s 23))]),
 ow (.store 5 (.s 2) (.s 24)),
 oo 3 (.mov (ci 0))]
def F12 : AFn := ⟨25, [.cell 2 (some 5), .tmp 3],
  sr F12r0
  (.seq (sr F12r1
  (sr F12r2
  (cd 11
    (sr F12r3
    (.ret))
    (.skip))))
  (.seq (.reg F12r4 (some [[], [0], [1, 0], [], [3], [2, 4, 1, 0, 3], [], [6], [7, 6], [8, 7, 6], [5, 9, 2, 4, 1, 0, 3, 8, 7, 6], [10, 2, 0, 1, 3, 4, 5, 6, 7, 8, 9], [11, 0, 1, 2, 3, 4, 5, 6, 7, 8, 9, 10]]))
  (.ret)))⟩
theorem F12_ok : cFunc Tryd.prog 12 = some F12 := by kernel_rfl
def F13r0 : RL := [oo 2 (.box 5 (.s 0)),
 oo 3 (.box 3 (.s 1)),
 oo 4 (.new [.emp, zi 0, .emp, .emp, .emp]),
 oo 5 (.mov (ci 0))]
def F13r1 : RL := [oo 7 (lq 5 2),
 oo 8 (cl 18 [.s 7]),
 oo 6 (ms 8)]
def F13r2 : RL := [oo 9 (ms 6),
 oo 10 (bi .neq (.s 9) (ci 0))]
def F13r3 : RL := [oo 11 (.agg [.emp, zi 0, .emp, .emp, .emp] []),
 oo 12 (ms 6),
 ow (.store 5 (.s 4) (.s 11)),
 oo 5 (ms 12)]
def F13r4 : RL := [oo 13 (lq 5 2),
 oo 14 (lq 3 3),
 oo 15 (cl 28 [.s 13, .s 14]),
 oo 16 (.ext 0 (.s 15)),
 oo 17 (.ext 1 (.s 15)),
 ow (.store 5 (.s 4) (.s 16)),
 oo 5 (ms 17)]
def F13 : AFn := ⟨18, [.cell 4 (some 5), .tmp 5],
  sr F13r0
  (.seq (sr F13r1
  (sr F13r2
  (cd 10
    (sr F13r3
    (.ret))
    (.skip))))
  (sr F13r4
  (.ret)))⟩
theorem F13_ok : cFunc Tryd.prog 13 = some F13 := by kernel_rfl
def F15r0 : RL := [oo 2 (.box 5 (.s 0)),
 oo 3 (.box 3 (.s 1)),
 oo 4 (.new [.emp, zi 0, .emp, .emp, .emp]),
 oo 5 (.mov (ci 0))]
def F15r1 : RL := [oo 19 (lq 5 2),
 oo 20 (cl 19 [.s 19]),
 oo 6 (ms 20)]
def F15r2 : RL := [oo 21 (ms 6),
 oo 22 (bi .neq (.s 21) (ci 0))]
def F15r3 : RL := [oo 23 (.agg [.emp, zi 0, .emp, .emp, .emp] []),
 oo 24 (ms 6),
 ow (.store 5 (.s 4) (.s 23)),
 oo 5 (ms 24)]
def F15r4 : RL := [oo 25 (fd 0 3),
 oo 26 (ld 25),
 oo 27 (bi .lss (.s 26) (ci 3)),
 oo 28 (ms 27),
 on 29 (fd 0 3) 28,
 on 30 (ld 29) 28,
 on 31 (bi .gtr (.s 30) (ci 6)) 28,
 oo 32 (.pick (.s 28) cT (.s 31))]
def F15r5 : RL := [oo 33 (.agg [.emp, zi 0, .emp, .emp, .emp] []),
 ow (.store 5 (.s 4) (.s 33)),
 oo 5 (.mov (ci 7))]
def F15r6 : RL := [oo 34 (fd 0 3),
 oo 35 (ld 34),
 oo 36 (bi .neq (.s 35) (ci 6)),
 oo 37 (ms 36),
 ot 38 (fd 2 3) 37,
 ot 39 (ld 38) 37,
 ot 40 (.len true (.s 39)) 37,
 ot 41 (bi .gtr (.s 40) (ci 0)) 37,
 oo 42 (.pick (.s 37) (.s 41) cF)]
def F15r7 : RL := [oo 43 (.agg [.emp, zi 0, .emp, .emp, .emp] []),
 ow (.store 5 (.s 4) (.s 43)),
 oo 5 (.mov (ci 1))]
def F15r8 : RL := [oo 44 (fd 0 3),
 oo 45 (ld 44),
 oo 46 (bi .eql (.s 45) (ci 6))]
def F15r9 : RL := [oo 47 (fd 3 2),
 oo 48 (ld 47),
 oo 49 (.len false (.s 48)),
 oo 50 (bi .eql (.s 49) (ci 31))]
def F15r10 : RL := [oo 51 (.agg [.emp, zi 0, .emp, .emp, .emp] []),
 ow (.store 5 (.s 4) (.s 51)),
 oo 5 (.mov (ci 2))]
def F15r11 : RL := [oo 53 (fd 0 2),
 oo 54 (lq 2 53),
 oo 55 (fd 3 2),
 oo 56 (ld 55),
 oo 57 (.len false (.s 56)),
 oo 58 (fd 1 3),
 oo 59 (ld 58),
 oo 60 (fd 2 3),
 oo 61 (ld 60),
 oo 62 (cl 30 [.s 54, .s 57, .s 59, .s 61]),
 oo 52 (ms 62),
 oo 63 (.ext 0 (.s 52)),
 oo 64 (.ext 1 (.s 52)),
 oo 65 (.ext 2 (.s 52)),
 oo 7 (.new [zi 0, zi 0, zs, zs, zi 0, zi 0, zs, .v (.int .u64 0)]),
 ow (.store 8 (.s 7) (.s 63)),
 oo 8 (ms 64),
 oo 9 (ms 65)]
def F15r12 : RL := [oo 66 (ms 9),
 oo 67 (bi .neq (.s 66) (ci 0))]
def F15r13 : RL := [oo 68 (.agg [.emp, zi 0, .emp, .emp, .emp] []),
 oo 69 (ms 9),
 ow (.store 5 (.s 4) (.s 68)),
 oo 5 (ms 69)]
def F15r14 : RL := [oo 70 (.bsl 8 0 [zi 0, zi 0, zs, zs, zi 0, zi 0, zs, .v (.int .u64 0)] []),
 oo 71 (fd 3 2),
 oo 72 (ld 71),
 oo 73 (.app 8 88 (.s 70) (.s 72)),
 oo 74 (lq 8 7),
 oo 75 (.bsl 8 1 [zi 0, zi 0, zs, zs, zi 0, zi 0, zs, .v (.int .u64 0)] [(0, .s 74)]),
 oo 76 (.app 8 88 (.s 73) (.s 75)),
 oo 77 (fd 3 2),
 ow (.store 1 (.s 77) (.s 76))]
def F15r15 : RL := [oo 78 (.bsl 6 0 [zi 0, zi 0, zi 0, zi 0, zi 0, zs] []),
 oo 79 (fd 4 2),
 oo 80 (ld 79),
 oo 81 (.app 6 56 (.s 78) (.s 80)),
 oo 82 (ms 8),
 oo 83 (.app 6 56 (.s 81) (.s 82)),
 oo 84 (fd 4 2),
 ow (.store 1 (.s 84) (.s 83))]
def F15r16 : RL := [oo 85 (fd 1 3),
 oo 86 (ld 85),
 oo 87 (bi .lss (.s 86) (ci 0)),
 oo 88 (ms 87),
 on 89 (fd 1 3) 88,
 on 90 (ld 89) 88,
 on 91 (fd 4 2) 88,
 on 92 (ld 91) 88,
 on 93 (.len false (.s 92)) 88,
 on 94 (bi .geq (.s 90) (.s 93)) 88,
 oo 95 (.pick (.s 88) cT (.s 94))]
def F15r17 : RL := [oo 96 (.agg [.emp, zi 0, .emp, .emp, .emp] []),
 ow (.store 5 (.s 4) (.s 96)),
 oo 5 (.mov (ci 3))]
def F15r18 : RL := [oo 97 (fd 4 2),
 oo 98 (ld 97),
 oo 99 (fd 1 3),
 oo 100 (ld 99),
 oo 101 (.iad 6 (.s 98) (.s 100)),
 oo 102 (lq 6 101),
 oo 10 (.new [zi 0, zi 0, zi 0, zi 0, zi 0, zs]),
 ow (.store 6 (.s 10) (.s 102))]
def F15r19 : RL := [oo 103 (fd 0 3),
 oo 104 (ld 103),
 oo 105 (bi .eql (.s 104) (ci 5))]
def F15r20 : RL := [oo 106 (.bsl 6 0 [zi 0, zi 0, zi 0, zi 0, zi 0, zs] []),
 oo 107 (fd 4 2),
 oo 108 (ld 107),
 oo 109 (.app 6 56 (.s 106) (.s 108)),
 oo 110 (lq 6 10),
 oo 111 (.bsl 6 1 [zi 0, zi 0, zi 0, zi 0, zi 0, zs] [(0, .s 110)]),
 oo 112 (.app 6 56 (.s 109) (.s 111)),
 oo 113 (fd 4 2),
 ow (.store 1 (.s 113) (.s 112))]
def F15r21 : RL := [oo 114 (fd 4 2),
 oo 115 (ld 114),
 oo 116 (fd 1 3),
 oo 117 (ld 116),
 oo 118 (cl 31 [.s 115, .s 117]),
 oo 119 (fd 4 2),
 ow (.store 1 (.s 119) (.s 118))]
def F15r22 : RL := [oo 120 (fd 0 3),
 oo 121 (ld 120),
 oo 122 (bi .eql (.s 121) (ci 3)),
 oo 123 (ms 122),
 ot 124 (fd 0 10) 123,
 ot 125 (ld 124) 123,
 ot 126 (bi .eql (.s 125) (ci 1)) 123,
 ot 127 (ms 126) 123,
 on 128 (fd 0 10) 127,
 on 129 (ld 128) 127,
 on 130 (bi .eql (.s 129) (ci 3)) 127,
 ot 131 (.pick (.s 127) cT (.s 130)) 123,
 oo 132 (.pick (.s 123) (.s 131) cF)]
def F15r23 : RL := [oo 133 (.bsl 5 0 [zi 0, zi 0, zi 0, zi 0, zs] []),
 oo 134 (fd 2 2),
 oo 135 (ld 134),
 oo 136 (.app 5 48 (.s 133) (.s 135)),
 oo 11 (ms 136)]
def F15r24 : RL := [oo 138 (ms 11),
 oo 139 (fd 2 10),
 oo 140 (ld 139),
 oo 141 (.iad 5 (.s 138) (.s 140)),
 oo 142 (lq 5 141),
 oo 143 (lq 6 10),
 oo 144 (cl 32 [.s 142, .s 143]),
 oo 137 (ms 144),
 oo 145 (.ext 0 (.s 137)),
 oo 146 (.ext 1 (.s 137)),
 oo 147 (.ext 2 (.s 137)),
 oo 12 (.new [zi 0, zi 0, zi 0, zi 0, zs]),
 ow (.store 5 (.s 12) (.s 145)),
 oo 13 (ms 146),
 oo 14 (ms 147)]
def F15r25 : RL := [oo 148 (ms 11),
 oo 149 (fd 2 10),
 oo 150 (ld 149),
 oo 151 (lq 5 12),
 oo 152 (.iad 5 (.s 148) (.s 150)),
 ow (.store 5 (.s 152) (.s 151))]
def F15r26 : RL := [oo 153 (ms 11),
 oo 154 (fd 2 2),
 ow (.store 1 (.s 154) (.s 153))]
def F15r27 : RL := [oo 155 (fd 4 2),
 oo 156 (ld 155),
 oo 157 (ms 13),
 oo 158 (.app 6 56 (.s 156) (.s 157)),
 oo 159 (fd 4 2),
 ow (.store 1 (.s 159) (.s 158))]
def F15r28 : RL := [oo 160 (fd 0 3),
 oo 161 (ld 160),
 oo 162 (bi .eql (.s 161) (ci 3)),
 oo 163 (ms 162),
 ot 164 (fd 0 10) 163,
 ot 165 (ld 164) 163,
 ot 166 (bi .eql (.s 165) (ci 2)) 163,
 ot 167 (ms 166) 163,
 on 168 (fd 0 10) 167,
 on 169 (ld 168) 167,
 on 170 (bi .eql (.s 169) (ci 4)) 167,
 ot 171 (.pick (.s 167) cT (.s 170)) 163,
 oo 172 (.pick (.s 163) (.s 171) cF)]
def F15r29 : RL := [oo 173 (.bsl 8 0 [zi 0, zi 0, zs, zs, zi 0, zi 0, zs, .v (.int .u64 0)] []),
 oo 174 (fd 3 2),
 oo 175 (ld 174),
 oo 176 (.app 8 88 (.s 173) (.s 175)),
 oo 15 (ms 176)]
def F15r30 : RL := [oo 178 (fd 0 2),
 oo 179 (lq 2 178),
 oo 180 (fd 1 10),
 oo 181 (ld 180),
 oo 182 (ms 15),
 oo 183 (fd 1 10),
 oo 184 (ld 183),
 oo 185 (.iad 8 (.s 182) (.s 184)),
 oo 186 (lq 8 185),
 oo 187 (lq 6 10),
 oo 188 (cl 33 [.s 179, .s 181, .s 186, .s 187]),
 oo 177 (ms 188),
 oo 189 (.ext 0 (.s 177)),
 oo 190 (.ext 1 (.s 177)),
 oo 191 (.ext 2 (.s 177)),
 oo 16 (.new [zi 0, zi 0, zs, zs, zi 0, zi 0, zs, .v (.int .u64 0)]),
 ow (.store 8 (.s 16) (.s 189)),
 oo 17 (ms 190),
 oo 18 (ms 191)]
def F15r31 : RL := [oo 192 (ms 15),
 oo 193 (fd 1 10),
 oo 194 (ld 193),
 oo 195 (lq 8 16),
 oo 196 (.iad 8 (.s 192) (.s 194)),
 ow (.store 8 (.s 196) (.s 195))]
def F15r32 : RL := [oo 197 (ms 15),
 oo 198 (fd 3 2),
 ow (.store 1 (.s 198) (.s 197))]
def F15r33 : RL := [oo 199 (fd 4 2),
 oo 200 (ld 199),
 oo 201 (ms 17),
 oo 202 (.app 6 56 (.s 200) (.s 201)),
 oo 203 (fd 4 2),
 ow (.store 1 (.s 203) (.s 202))]
def F15r34 : RL := [oo 204 (fd 4 2),
 oo 205 (ld 204),
 oo 206 (.len false (.s 205)),
 oo 207 (bi .gtr (.s 206) (ci 200))]
def F15r35 : RL := [oo 208 (.agg [.emp, zi 0, .emp, .emp, .emp] []),
 ow (.store 5 (.s 4) (.s 208)),
 oo 5 (.mov (ci 2))]
def F15r36 : RL := [oo 209 (lq 5 2),
 ow (.store 5 (.s 4) (.s 209)),
 oo 5 (.mov (ci 0))]
def F15 : AFn := ⟨210, [.cell 4 (some 5), .tmp 5],
  sr F15r0
  (sr F15r1
  (.seq (sr F15r2
  (cd 22
    (sr F15r3
    (.ret))
    (.skip)))
  (.seq (sr F15r4
  (cd 32
    (sr F15r5
    (.ret))
    (.skip)))
  (.seq (sr F15r6
  (cd 42
    (sr F15r7
    (.ret))
    (.skip)))
  (.seq (sr F15r8
  (cd 46
    (.seq (sr F15r9
    (cd 50
      (sr F15r10
      (.ret))
      (.skip)))
    (sr F15r11
    (.seq (sr F15r12
    (cd 67
      (sr F15r13
      (.ret))
      (.skip)))
    (.seq (.reg F15r14 (some [[], [], [1], [0, 2, 1], [], [4], [3, 5, 0, 2, 1, 4], [0, 1, 2, 3, 4, 5, 6], [7, 6, 0, 1, 2, 3, 4, 5]]))
    (rg F15r15)))))
    (.seq (sr F15r16
    (cd 95
      (sr F15r17
      (.ret))
      (.skip)))
    (sr F15r18
    (.seq (sr F15r19
    (cd 105
      (.reg F15r20 (some [[], [], [1], [0, 2, 1], [], [4], [3, 5, 0, 2, 1, 4], [0, 1, 2, 3, 4, 5, 6], [7, 6, 0, 1, 2, 3, 4, 5]]))
      (rg F15r21)))
    (.seq (sr F15r22
    (cd 132
      (sr F15r23
      (.seq (.reg F15r24 (some [[], [], [1], [0, 2, 1], [3, 0, 2, 1], [], [4, 5, 3, 0, 2, 1], [6, 4, 5, 3, 0, 2, 1], [7, 6, 4, 5, 3, 0, 2, 1], [7, 6, 4, 5, 3, 0, 2, 1], [7, 6, 4, 5, 3, 0, 2, 1], [], [11, 8, 6, 0, 1, 2, 3, 4, 5, 7], [9, 12, 0, 1, 2, 3, 4, 5, 6, 7, 8, 11], [10, 13, 0, 1, 2, 3, 4, 5, 6, 7, 8, 9, 11, 12]]))
      (sr F15r25
      (sr F15r26
      (rg F15r27)))))
      (.skip)))
    (sr F15r28
    (cd 172
      (sr F15r29
      (.seq (.reg F15r30 (some [[], [0], [], [2], [], [], [5], [4, 6, 5], [7, 4, 6, 5], [], [1, 3, 8, 9, 0, 2, 7, 4, 6, 5], [10, 1, 3, 8, 9, 0, 2, 7, 4, 6, 5], [11, 10, 1, 3, 8, 9, 0, 2, 7, 4, 6, 5], [11, 10, 1, 3, 8, 9, 0, 2, 7, 4, 6, 5], [11, 10, 1, 3, 8, 9, 0, 2, 7, 4, 6, 5], [], [15, 12, 10, 0, 1, 2, 3, 4, 5, 6, 7, 8, 9, 11], [13, 16, 0, 1, 2, 3, 4, 5, 6, 7, 8, 9, 10, 11, 12, 15], [14, 17, 0, 1, 2, 3, 4, 5, 6, 7, 8, 9, 10, 11, 12, 13, 15, 16]]))
      (sr F15r31
      (sr F15r32
      (rg F15r33)))))
      (.skip)))))))))
  (.seq (sr F15r34
  (cd 207
    (sr F15r35
    (.ret))
    (.skip)))
  (sr F15r36
  (.ret))))))))⟩
theorem F15_ok : cFunc Tryd.prog 15 = some F15 := by kernel_rfl
def F16r0 : RL := [oo 0 (.mov cF)]
def F16r1 : RL := [oo 10 (cl 34 []),
 oo 11 (cl 12 [.s 10]),
 oo 9 (ms 11),
 oo 12 (.ext 0 (.s 9)),
 oo 13 (.ext 1 (.s 9)),
 oo 1 (.new [.emp, zi 0, .emp, .emp, .emp]),
 ow (.store 5 (.s 1) (.s 12)),
 oo 2 (ms 13)]
def F16r2 : RL := [oo 14 (.agg [zi 0, zi 0, zs] [(0, (1, ci 6)), (1, (1, ci 1)), (2, (1, .c (.v (.string ⟨#[97]⟩))))]),
 oo 15 (.bsl 3 1 [zi 0, zi 0, zs] [(0, .s 14)]),
 oo 16 (cl 35 [ci 12]),
 oo 17 (.app 3 32 (.s 15) (.s 16)),
 oo 3 (ms 17)]
def F16r3 : RL := [oo 19 (lq 5 1),
 oo 20 (ms 3),
 oo 21 (.agg [zi 0, zi 0, zs] [(0, (1, ci 6)), (1, (1, ci 5)), (2, (1, .c (.v (.string ⟨#[98]⟩))))]),
 oo 22 (.bsl 3 1 [zi 0, zi 0, zs] [(0, .s 21)]),
 oo 23 (.app 3 32 (.s 20) (.s 22)),
 oo 24 (cl 35 [ci 12]),
 oo 25 (.app 3 32 (.s 23) (.s 24)),
 oo 26 (cl 20 [.s 19, .s 25]),
 oo 18 (ms 26),
 oo 27 (.ext 0 (.s 18)),
 oo 28 (.ext 1 (.s 18)),
 oo 29 (.ext 2 (.s 18)),
 oo 4 (.new [.emp, zi 0, .emp, .emp, .emp]),
 ow (.store 5 (.s 4) (.s 27)),
 oo 5 (ms 28),
 oo 6 (ms 29)]
def F16r4 : RL := [oo 31 (lq 5 1),
 oo 32 (.agg [zi 0, zi 0, zs] [(0, (1, ci 1))]),
 oo 33 (cl 13 [.s 31, .s 32]),
 oo 30 (ms 33),
 oo 34 (.ext 0 (.s 30)),
 oo 35 (.ext 1 (.s 30)),
 oo 7 (.new [.emp, zi 0, .emp, .emp, .emp]),
 ow (.store 5 (.s 7) (.s 34)),
 oo 8 (ms 35)]
def F16r5 : RL := [oo 36 (ms 2),
 oo 37 (bi .eql (.s 36) (ci 0)),
 oo 38 (ms 37),
 ot 39 (ms 6) 38,
 ot 40 (bi .eql (.s 39) (ci 0)) 38,
 oo 41 (.pick (.s 38) (.s 40) cF),
 oo 42 (ms 41),
 ot 43 (ms 5) 42,
 ot 44 (bi .eql (.s 43) (ci 26)) 42,
 oo 45 (.pick (.s 42) (.s 44) cF),
 oo 46 (ms 45),
 ot 47 (fd 3 4) 46,
 ot 48 (ld 47) 46,
 ot 49 (.len false (.s 48)) 46,
 ot 50 (bi .eql (.s 49) (ci 2)) 46,
 oo 51 (.pick (.s 46) (.s 50) cF),
 oo 52 (ms 51),
 ot 53 (fd 3 4) 52,
 ot 54 (ld 53) 52,
 ot 55 (.iad 8 (.s 54) (ci 0)) 52,
 ot 56 (fd 1 55) 52,
 ot 57 (ld 56) 52,
 ot 58 (bi .eql (.s 57) (ci 3)) 52,
 oo 59 (.pick (.s 52) (.s 58) cF),
 oo 60 (ms 59),
 ot 61 (fd 3 4) 60,
 ot 62 (ld 61) 60,
 ot 63 (.iad 8 (.s 62) (ci 1)) 60,
 ot 64 (fd 1 63) 60,
 ot 65 (ld 64) 60,
 ot 66 (bi .eql (.s 65) (ci 3)) 60,
 oo 67 (.pick (.s 60) (.s 66) cF),
 oo 68 (ms 67),
 ot 69 (fd 3 4) 68,
 ot 70 (ld 69) 68,
 ot 71 (.iad 8 (.s 70) (ci 1)) 68,
 ot 72 (fd 3 71) 68,
 ot 73 (ld 72) 68,
 ot 74 (bi .eql (.s 73) (.c (.v (.string ⟨#[97]⟩)))) 68,
 oo 75 (.pick (.s 68) (.s 74) cF),
 oo 76 (ms 75),
 ot 77 (fd 4 4) 76,
 ot 78 (ld 77) 76,
 ot 79 (.len false (.s 78)) 76,
 ot 80 (bi .eql (.s 79) (ci 0)) 76,
 oo 81 (.pick (.s 76) (.s 80) cF),
 oo 82 (ms 81),
 ot 83 (ms 8) 82,
 ot 84 (bi .eql (.s 83) (ci 7)) 82,
 oo 85 (.pick (.s 82) (.s 84) cF),
 oo 86 (ms 85),
 ot 87 (lq 5 1) 86,
 ot 88 (cl 18 [.s 87]) 86,
 ot 89 (bi .eql (.s 88) (ci 0)) 86,
 oo 90 (.pick (.s 86) (.s 89) cF),
 oo 0 (ms 90)]
def F16 : AFn := ⟨91, [.tmp 0],
  sr F16r0
  (sr F16r1
  (sr F16r2
  (.seq (.reg F16r3 (some [[], [], [], [2], [1, 3, 2], [4, 1, 3, 2], [4, 5, 1, 3, 2], [0, 6, 4, 5, 1, 3, 2], [7, 0, 6, 4, 5, 1, 3, 2], [8, 7, 0, 6, 4, 5, 1, 3, 2], [8, 7, 0, 6, 4, 5, 1, 3, 2], [8, 7, 0, 6, 4, 5, 1, 3, 2], [], [12, 9, 7, 0, 1, 2, 3, 4, 5, 6, 8], [10, 13, 0, 1, 2, 3, 4, 5, 6, 7, 8, 9, 12], [11, 14, 0, 1, 2, 3, 4, 5, 6, 7, 8, 9, 10, 12, 13]]))
  (sr F16r4
  (sr F16r5
  (.ret))))))⟩
theorem F16_ok : cFunc Tryd.prog 16 = some F16 := by kernel_rfl
def F17r0 : RL := [oo 2 (.box 5 (.s 0)),
 oo 3 (.box 5 (.s 1)),
 oo 4 (.mov cF)]
def F17r1 : RL := [oo 7 (fd 0 2),
 oo 8 (fd 0 7),
 oo 9 (ld 8),
 oo 10 (fd 0 3),
 oo 11 (fd 0 10),
 oo 12 (ld 11),
 oo 13 (cl 36 [.s 9, .s 12]),
 oo 14 (.un .not (.s 13)),
 oo 15 (ms 14),
 on 16 (fd 0 2) 15,
 on 17 (fd 1 16) 15,
 on 18 (ld 17) 15,
 on 19 (fd 0 3) 15,
 on 20 (fd 1 19) 15,
 on 21 (ld 20) 15,
 on 22 (bi .neq (.s 18) (.s 21)) 15,
 oo 23 (.pick (.s 15) cT (.s 22)),
 oo 24 (ms 23),
 on 25 (fd 2 2) 24,
 on 26 (ld 25) 24,
 on 27 (.len false (.s 26)) 24,
 on 28 (fd 2 3) 24,
 on 29 (ld 28) 24,
 on 30 (.len false (.s 29)) 24,
 on 31 (bi .neq (.s 27) (.s 30)) 24,
 oo 32 (.pick (.s 24) cT (.s 31)),
 oo 33 (ms 32),
 on 34 (fd 3 2) 33,
 on 35 (ld 34) 33,
 on 36 (.len false (.s 35)) 33,
 on 37 (fd 3 3) 33,
 on 38 (ld 37) 33,
 on 39 (.len false (.s 38)) 33,
 on 40 (bi .neq (.s 36) (.s 39)) 33,
 oo 41 (.pick (.s 33) cT (.s 40)),
 oo 42 (ms 41),
 on 43 (fd 4 2) 42,
 on 44 (ld 43) 42,
 on 45 (fd 4 3) 42,
 on 46 (ld 45) 42,
 on 47 (cl 37 [.s 44, .s 46]) 42,
 on 48 (.un .not (.s 47)) 42,
 oo 49 (.pick (.s 42) cT (.s 48))]
def F17r2 : RL := [oo 4 (.mov cF)]
def F17r3 : RL := [oo 5 (.mov (ci 0))]
def F17r4 : RL := [oo 50 (ms 5),
 oo 51 (fd 2 2),
 oo 52 (ld 51),
 oo 53 (.len false (.s 52)),
 oo 54 (bi .lss (.s 50) (.s 53))]
def F17r5 : RL := [oo 57 (fd 2 2),
 oo 58 (ld 57),
 oo 59 (ms 5),
 oo 60 (.iad 5 (.s 58) (.s 59)),
 oo 61 (lq 5 60),
 oo 62 (fd 2 3),
 oo 63 (ld 62),
 oo 64 (ms 5),
 oo 65 (.iad 5 (.s 63) (.s 64)),
 oo 66 (lq 5 65),
 oo 67 (.eqs true 5 [(0, .int), (1, .int), (2, .int), (3, .int), (4, .str)] (.s 61) (.s 66))]
def F17r6 : RL := [oo 4 (.mov cF)]
def F17r7 : RL := [oo 55 (ms 5),
 oo 56 (bi .add (.s 55) (ci 1)),
 oo 5 (ms 56)]
def F17r8 : RL := [oo 6 (.mov (ci 0))]
def F17r9 : RL := [oo 68 (ms 6),
 oo 69 (fd 3 2),
 oo 70 (ld 69),
 oo 71 (.len false (.s 70)),
 oo 72 (bi .lss (.s 68) (.s 71))]
def F17r10 : RL := [oo 75 (fd 3 2),
 oo 76 (ld 75),
 oo 77 (ms 6),
 oo 78 (.iad 8 (.s 76) (.s 77)),
 oo 79 (lq 8 78),
 oo 80 (fd 3 3),
 oo 81 (ld 80),
 oo 82 (ms 6),
 oo 83 (.iad 8 (.s 81) (.s 82)),
 oo 84 (lq 8 83),
 oo 85 (.eqs true 8 [(0, .int), (1, .int), (2, .str), (3, .str), (4, .int), (5, .int), (6, .str), (7, .int)] (.s 79) (.s 84))]
def F17r11 : RL := [oo 4 (.mov cF)]
def F17r12 : RL := [oo 73 (ms 6),
 oo 74 (bi .add (.s 73) (ci 1)),
 oo 6 (ms 74)]
def F17r13 : RL := [oo 4 (.mov cT)]
def F17 : AFn := ⟨86, [.tmp 4],
  sr F17r0
  (.seq (sr F17r1
  (cd 49
    (sr F17r2
    (.ret))
    (.skip)))
  (.seq (sr F17r3
  (.block 0 (
    .loop (
      .seq (sr F17r4
      (cd 54
        (.skip)
        (.exit 0)))
      (.seq (.block 1 (
        .seq (.reg F17r5 (some [[], [0], [], [1, 2, 0], [3, 1, 2, 0], [], [5], [], [6, 7, 5], [8, 6, 7, 5], [4, 9, 3, 1, 2, 0, 8, 6, 7, 5]]))
        (cd 67
          (sr F17r6
          (.ret))
          (.skip))))
      (rg F17r7))))))
  (.seq (sr F17r8
  (.block 2 (
    .loop (
      .seq (sr F17r9
      (cd 72
        (.skip)
        (.exit 2)))
      (.seq (.block 3 (
        .seq (.reg F17r10 (some [[], [0], [], [1, 2, 0], [3, 1, 2, 0], [], [5], [], [6, 7, 5], [8, 6, 7, 5], [4, 9, 3, 1, 2, 0, 8, 6, 7, 5]]))
        (cd 85
          (sr F17r11
          (.ret))
          (.skip))))
      (rg F17r12))))))
  (sr F17r13
  (.ret)))))⟩
theorem F17_ok : cFunc Tryd.prog 17 = some F17 := by kernel_rfl
def F18r0 : RL := [oo 1 (.box 5 (.s 0)),
 oo 2 (.mov (ci 0))]
def F18r1 : RL := [oo 6 (fd 0 1),
 oo 7 (fd 0 6),
 oo 8 (ld 7),
 oo 9 (fd 0 1),
 oo 10 (fd 1 9),
 oo 11 (ld 10),
 oo 12 (cl 26 [.s 8, .s 11]),
 oo 3 (ms 12)]
def F18r2 : RL := [oo 13 (ms 3),
 oo 14 (bi .neq (.s 13) (ci 0))]
def F18r3 : RL := [oo 15 (ms 3),
 oo 2 (ms 15)]
def F18r4 : RL := [oo 16 (fd 2 1),
 oo 17 (ld 16),
 oo 18 (.len false (.s 17)),
 oo 19 (fd 0 1),
 oo 20 (fd 0 19),
 oo 21 (ld 20),
 oo 22 (.len false (.s 21)),
 oo 23 (bi .neq (.s 18) (.s 22))]
def F18r5 : RL := [oo 2 (.mov (ci 1))]
def F18r6 : RL := [oo 24 (fd 2 1),
 oo 25 (ld 24),
 oo 26 (cl 38 [.s 25, .c (.fn 39 [])]),
 oo 4 (ms 26)]
def F18r7 : RL := [oo 27 (ms 4),
 oo 28 (bi .neq (.s 27) (ci 0))]
def F18r8 : RL := [oo 29 (ms 4),
 oo 2 (ms 29)]
def F18r9 : RL := [oo 30 (fd 3 1),
 oo 31 (ld 30),
 oo 32 (.len false (.s 31)),
 oo 33 (bi .gtr (.s 32) (ci 31))]
def F18r10 : RL := [oo 2 (.mov (ci 2))]
def F18r11 : RL := [oo 34 (fd 3 1),
 oo 35 (ld 34),
 oo 36 (.mkf 41 [.s 1]),
 oo 37 (cl 40 [.s 35, .s 36]),
 oo 5 (ms 37)]
def F18r12 : RL := [oo 38 (ms 5),
 oo 39 (bi .neq (.s 38) (ci 0))]
def F18r13 : RL := [oo 40 (ms 5),
 oo 2 (ms 40)]
def F18r14 : RL := [oo 41 (fd 4 1),
 oo 42 (ld 41),
 oo 43 (.len false (.s 42)),
 oo 44 (bi .gtr (.s 43) (ci 200))]
def F18r15 : RL := [oo 2 (.mov (ci 2))]
def F18r16 : RL := [oo 45 (fd 4 1),
 oo 46 (ld 45),
 oo 47 (.mkf 44 [.s 1]),
 oo 48 (cl 43 [.s 46, .s 47]),
 oo 2 (ms 48)]
def F18 : AFn := ⟨49, [.tmp 2],
  sr F18r0
  (.seq (sr F18r1
  (sr F18r2
  (cd 14
    (sr F18r3
    (.ret))
    (.skip))))
  (.seq (sr F18r4
  (cd 23
    (sr F18r5
    (.ret))
    (.skip)))
  (.seq (sr F18r6
  (sr F18r7
  (cd 28
    (sr F18r8
    (.ret))
    (.skip))))
  (.seq (sr F18r9
  (cd 33
    (sr F18r10
    (.ret))
    (.skip)))
  (.seq (sr F18r11
  (sr F18r12
  (cd 39
    (sr F18r13
    (.ret))
    (.skip))))
  (.seq (sr F18r14
  (cd 44
    (sr F18r15
    (.ret))
    (.skip)))
  (sr F18r16
  (.ret))))))))⟩
theorem F18_ok : cFunc Tryd.prog 18 = some F18 := by kernel_rfl
def F19r0 : RL := [oo 1 (.box 5 (.s 0)),
 oo 2 (.mov (ci 0))]
def F19r1 : RL := [oo 7 (fd 0 1),
 oo 8 (fd 0 7),
 oo 9 (ld 8),
 oo 10 (fd 0 1),
 oo 11 (fd 1 10),
 oo 12 (ld 11),
 oo 13 (cl 29 [.s 9, .s 12]),
 oo 3 (ms 13)]
def F19r2 : RL := [oo 14 (ms 3),
 oo 15 (bi .neq (.s 14) (ci 0))]
def F19r3 : RL := [oo 16 (ms 3),
 oo 2 (ms 16)]
def F19r4 : RL := [oo 17 (fd 2 1),
 oo 18 (ld 17),
 oo 19 (.len false (.s 18)),
 oo 20 (fd 0 1),
 oo 21 (fd 0 20),
 oo 22 (ld 21),
 oo 23 (.len false (.s 22)),
 oo 24 (bi .neq (.s 19) (.s 23))]
def F19r5 : RL := [oo 2 (.mov (ci 1))]
def F19r6 : RL := [oo 4 (.mov (ci 0))]
def F19r7 : RL := [oo 25 (ms 4),
 oo 26 (fd 2 1),
 oo 27 (ld 26),
 oo 28 (.len false (.s 27)),
 oo 29 (bi .lss (.s 25) (.s 28))]
def F19r8 : RL := [oo 32 (fd 2 1),
 oo 33 (ld 32),
 oo 34 (ms 4),
 oo 35 (.iad 5 (.s 33) (.s 34)),
 oo 36 (lq 5 35),
 oo 37 (cl 46 [.s 36]),
 oo 3 (ms 37)]
def F19r9 : RL := [oo 38 (ms 3),
 oo 39 (bi .neq (.s 38) (ci 0))]
def F19r10 : RL := [oo 40 (ms 3),
 oo 2 (ms 40)]
def F19r11 : RL := [oo 30 (ms 4),
 oo 31 (bi .add (.s 30) (ci 1)),
 oo 4 (ms 31)]
def F19r12 : RL := [oo 41 (fd 3 1),
 oo 42 (ld 41),
 oo 43 (.len false (.s 42)),
 oo 44 (bi .gtr (.s 43) (ci 31))]
def F19r13 : RL := [oo 2 (.mov (ci 2))]
def F19r14 : RL := [oo 5 (.mov (ci 0))]
def F19r15 : RL := [oo 45 (ms 5),
 oo 46 (fd 3 1),
 oo 47 (ld 46),
 oo 48 (.len false (.s 47)),
 oo 49 (bi .lss (.s 45) (.s 48))]
def F19r16 : RL := [oo 52 (fd 0 1),
 oo 53 (lq 2 52),
 oo 54 (fd 3 1),
 oo 55 (ld 54),
 oo 56 (ms 5),
 oo 57 (.iad 8 (.s 55) (.s 56)),
 oo 58 (lq 8 57),
 oo 59 (cl 47 [.s 53, .s 58]),
 oo 3 (ms 59)]
def F19r17 : RL := [oo 60 (ms 3),
 oo 61 (bi .neq (.s 60) (ci 0))]
def F19r18 : RL := [oo 62 (ms 3),
 oo 2 (ms 62)]
def F19r19 : RL := [oo 50 (ms 5),
 oo 51 (bi .add (.s 50) (ci 1)),
 oo 5 (ms 51)]
def F19r20 : RL := [oo 63 (fd 4 1),
 oo 64 (ld 63),
 oo 65 (.len false (.s 64)),
 oo 66 (bi .gtr (.s 65) (ci 200))]
def F19r21 : RL := [oo 2 (.mov (ci 2))]
def F19r22 : RL := [oo 6 (.mov (ci 0))]
def F19r23 : RL := [oo 67 (ms 6),
 oo 68 (fd 4 1),
 oo 69 (ld 68),
 oo 70 (.len false (.s 69)),
 oo 71 (bi .lss (.s 67) (.s 70))]
def F19r24 : RL := [oo 74 (fd 4 1),
 oo 75 (ld 74),
 oo 76 (ms 6),
 oo 77 (.iad 6 (.s 75) (.s 76)),
 oo 78 (lq 6 77),
 oo 79 (cl 48 [.s 78]),
 oo 3 (ms 79)]
def F19r25 : RL := [oo 80 (ms 3),
 oo 81 (bi .neq (.s 80) (ci 0))]
def F19r26 : RL := [oo 82 (ms 3),
 oo 2 (ms 82)]
def F19r27 : RL := [oo 83 (fd 4 1),
 oo 84 (ld 83),
 oo 85 (ms 6),
 oo 86 (.iad 6 (.s 84) (.s 85)),
 oo 87 (fd 2 86),
 oo 88 (ld 87),
 oo 89 (fd 2 1),
 oo 90 (ld 89),
 oo 91 (.len false (.s 90)),
 oo 92 (bi .geq (.s 88) (.s 91)),
 oo 93 (ms 92),
 on 94 (fd 4 1) 93,
 on 95 (ld 94) 93,
 on 96 (ms 6) 93,
 on 97 (.iad 6 (.s 95) (.s 96)) 93,
 on 98 (fd 1 97) 93,
 on 99 (ld 98) 93,
 on 100 (fd 3 1) 93,
 on 101 (ld 100) 93,
 on 102 (.len false (.s 101)) 93,
 on 103 (bi .geq (.s 99) (.s 102)) 93,
 oo 104 (.pick (.s 93) cT (.s 103))]
def F19r28 : RL := [oo 2 (.mov (ci 3))]
def F19r29 : RL := [oo 72 (ms 6),
 oo 73 (bi .add (.s 72) (ci 1)),
 oo 6 (ms 73)]
def F19r30 : RL := [oo 2 (.mov (ci 0))]
def F19 : AFn := ⟨105, [.tmp 2],
  sr F19r0
  (sr F19r1
  (.seq (sr F19r2
  (cd 15
    (sr F19r3
    (.ret))
    (.skip)))
  (.seq (sr F19r4
  (cd 24
    (sr F19r5
    (.ret))
    (.skip)))
  (.seq (sr F19r6
  (.block 0 (
    .loop (
      .seq (sr F19r7
      (cd 29
        (.skip)
        (.exit 0)))
      (.seq (.block 1 (
        sr F19r8
        (sr F19r9
        (cd 39
          (sr F19r10
          (.ret))
          (.skip)))))
      (rg F19r11))))))
  (.seq (sr F19r12
  (cd 44
    (sr F19r13
    (.ret))
    (.skip)))
  (.seq (sr F19r14
  (.block 2 (
    .loop (
      .seq (sr F19r15
      (cd 49
        (.skip)
        (.exit 2)))
      (.seq (.block 3 (
        .seq (.reg F19r16 (some [[], [0], [], [2], [], [3, 4, 2], [5, 3, 4, 2], [1, 6, 0, 5, 3, 4, 2], [7, 0, 1, 2, 3, 4, 5, 6]]))
        (sr F19r17
        (cd 61
          (sr F19r18
          (.ret))
          (.skip)))))
      (rg F19r19))))))
  (.seq (sr F19r20
  (cd 66
    (sr F19r21
    (.ret))
    (.skip)))
  (.seq (sr F19r22
  (.block 4 (
    .loop (
      .seq (sr F19r23
      (cd 71
        (.skip)
        (.exit 4)))
      (.seq (.block 5 (
        sr F19r24
        (.seq (sr F19r25
        (cd 81
          (sr F19r26
          (.ret))
          (.skip)))
        (.seq (.reg F19r27 (some [[], [0], [], [1, 2, 0], [3, 1, 2, 0], [4, 3, 1, 2, 0], [], [6], [7, 6], [5, 8, 4, 3, 1, 2, 0, 7, 6], [9, 5, 8, 4, 3, 1, 2, 0, 7, 6], [10, 9, 5, 8, 4, 3, 1, 2, 0, 7, 6], [11, 10, 9, 5, 8, 4, 3, 1, 2, 0, 7, 6], [10, 9, 5, 8, 4, 3, 1, 2, 0, 7, 6], [12, 13, 10, 11, 9, 5, 8, 4, 3, 1, 2, 0, 7, 6], [14, 10, 12, 13, 11, 9, 5, 8, 4, 3, 1, 2, 0, 7, 6], [15, 10, 14, 12, 13, 11, 9, 5, 8, 4, 3, 1, 2, 0, 7, 6], [10, 9, 5, 8, 4, 3, 1, 2, 0, 7, 6], [17, 10, 9, 5, 8, 4, 3, 1, 2, 0, 7, 6], [18, 10, 17, 9, 5, 8, 4, 3, 1, 2, 0, 7, 6], [16, 19, 10, 15, 14, 12, 13, 11, 9, 5, 8, 4, 3, 1, 2, 0, 7, 6, 18, 17], [10, 20, 9, 5, 8, 4, 3, 1, 2, 0, 7, 6, 16, 19, 15, 14, 12, 13, 11, 18, 17]]))
        (cd 104
          (sr F19r28
          (.ret))
          (.skip))))))
      (rg F19r29))))))
  (sr F19r30
  (.ret))))))))))⟩
theorem F19_ok : cFunc Tryd.prog 19 = some F19 := by kernel_rfl
def F20r0 : RL := [oo 2 (.box 5 (.s 0)),
 oo 4 (.new [.emp, zi 0, .emp, .emp, .emp]),
 oo 5 (.mov (ci 0)),
 oo 6 (.mov (ci 0))]
def F20r1 : RL := [oo 13 (lq 5 2),
 oo 14 (cl 18 [.s 13]),
 oo 7 (ms 14)]
def F20r2 : RL := [oo 15 (ms 7),
 oo 16 (bi .eql (.s 15) (ci 0)),
 oo 17 (ms 16),
 ot 18 (ms 1) 17,
 ot 19 (.len false (.s 18)) 17,
 ot 20 (bi .gtr (.s 19) (ci 200)) 17,
 oo 21 (.pick (.s 17) (.s 20) cF)]
def F20r3 : RL := [oo 7 (.mov (ci 2))]
def F20r4 : RL := [oo 22 (ms 7),
 oo 23 (bi .neq (.s 22) (ci 0))]
def F20r5 : RL := [oo 24 (.agg [.emp, zi 0, .emp, .emp, .emp] []),
 oo 25 (ms 7),
 ow (.store 5 (.s 4) (.s 24)),
 oo 5 (.mov (ci 0)),
 oo 6 (ms 25)]
def F20r6 : RL := [oo 26 (lq 5 2),
 oo 27 (cl 49 [.s 26]),
 ow (.store 5 (.s 2) (.s 27))]
def F20r7 : RL := [oo 8 (.mov (ci 0))]
def F20r8 : RL := [oo 28 (ms 1),
 oo 29 (.len false (.s 28)),
 oo 30 (.mov (ci 0))]
def F20r9 : RL := [oo 31 (bi .lss (.s 30) (.s 29))]
def F20r10 : RL := [oo 32 (.iad 3 (.s 28) (.s 30)),
 oo 33 (lq 3 32),
 oo 10 (.new [zi 0, zi 0, zs]),
 ow (.store 3 (.s 10) (.s 33))]
def F20r11 : RL := [oo 35 (lq 5 2),
 oo 36 (lq 3 10),
 oo 37 (cl 28 [.s 35, .s 36]),
 oo 34 (ms 37),
 oo 38 (.ext 0 (.s 34)),
 oo 39 (.ext 1 (.s 34)),
 oo 11 (.new [.emp, zi 0, .emp, .emp, .emp]),
 ow (.store 5 (.s 11) (.s 38)),
 oo 12 (ms 39)]
def F20r12 : RL := [oo 40 (ms 12),
 oo 41 (bi .eql (.s 40) (ci 0))]
def F20r13 : RL := [oo 42 (lq 5 11),
 ow (.store 5 (.s 2) (.s 42))]
def F20r14 : RL := [oo 43 (ms 8),
 oo 44 (bi .add (.s 43) (ci 1)),
 oo 8 (ms 44)]
def F20r15 : RL := [oo 45 (bi .add (.s 30) (ci 1)),
 oo 30 (ms 45)]
def F20r16 : RL := [oo 46 (lq 5 2),
 oo 47 (ms 8),
 ow (.store 5 (.s 4) (.s 46)),
 oo 5 (ms 47),
 oo 6 (.mov (ci 0))]
def F20 : AFn := ⟨48, [.cell 4 (some 5), .tmp 5, .tmp 6],
  sr F20r0
  (sr F20r1
  (.seq (sr F20r2
  (cd 21
    (rg F20r3)
    (.skip)))
  (.seq (sr F20r4
  (cd 23
    (sr F20r5
    (.ret))
    (.skip)))
  (sr F20r6
  (sr F20r7
  (.seq (sr F20r8
  (.block 0 (
    .loop (
      sr F20r9
      (.seq (cd 31
        (.skip)
        (.exit 0))
      (.seq (.block 1 (
        sr F20r10
        (sr F20r11
        (sr F20r12
        (cd 41
          (sr F20r13
          (rg F20r14))
          (.skip))))))
      (rg F20r15)))))))
  (sr F20r16
  (.ret))))))))⟩
theorem F20_ok : cFunc Tryd.prog 20 = some F20 := by kernel_rfl
theorem F20_call : callable Tryd.prog 20 = true := by kernel_rfl
def F21r0 : RL := [oo 2 (.box 5 (.s 0)),
 oo 4 (.new [.emp, zi 0, .emp, .emp, .emp]),
 oo 5 (.mov (ci 0)),
 oo 6 (.mov (ci 0))]
def F21r1 : RL := [oo 12 (lq 5 2),
 oo 13 (cl 19 [.s 12]),
 oo 7 (ms 13)]
def F21r2 : RL := [oo 14 (ms 7),
 oo 15 (bi .eql (.s 14) (ci 0)),
 oo 16 (ms 15),
 ot 17 (ms 1) 16,
 ot 18 (.len false (.s 17)) 16,
 ot 19 (bi .gtr (.s 18) (ci 200)) 16,
 oo 20 (.pick (.s 16) (.s 19) cF)]
def F21r3 : RL := [oo 7 (.mov (ci 2))]
def F21r4 : RL := [oo 21 (ms 7),
 oo 22 (bi .neq (.s 21) (ci 0))]
def F21r5 : RL := [oo 23 (.agg [.emp, zi 0, .emp, .emp, .emp] []),
 oo 24 (ms 7),
 ow (.store 5 (.s 4) (.s 23)),
 oo 5 (.mov (ci 0)),
 oo 6 (ms 24)]
def F21r6 : RL := [oo 8 (.mov (ci 0))]
def F21r7 : RL := [oo 9 (.mov (ci 0))]
def F21r8 : RL := [oo 25 (ms 9),
 oo 26 (ms 1),
 oo 27 (.len false (.s 26)),
 oo 28 (bi .lss (.s 25) (.s 27))]
def F21r9 : RL := [oo 32 (lq 5 2),
 oo 33 (ms 1),
 oo 34 (ms 9),
 oo 35 (.iad 3 (.s 33) (.s 34)),
 oo 36 (lq 3 35),
 oo 37 (cl 15 [.s 32, .s 36]),
 oo 31 (ms 37),
 oo 38 (.ext 0 (.s 31)),
 oo 39 (.ext 1 (.s 31)),
 oo 10 (.new [.emp, zi 0, .emp, .emp, .emp]),
 ow (.store 5 (.s 10) (.s 38)),
 oo 11 (ms 39)]
def F21r10 : RL := [oo 40 (ms 11),
 oo 41 (bi .eql (.s 40) (ci 0))]
def F21r11 : RL := [oo 42 (lq 5 10),
 ow (.store 5 (.s 2) (.s 42))]
def F21r12 : RL := [oo 43 (ms 8),
 oo 44 (bi .add (.s 43) (ci 1)),
 oo 8 (ms 44)]
def F21r13 : RL := [oo 29 (ms 9),
 oo 30 (bi .add (.s 29) (ci 1)),
 oo 9 (ms 30)]
def F21r14 : RL := [oo 45 (lq 5 2),
 oo 46 (ms 8),
 ow (.store 5 (.s 4) (.s 45)),
 oo 5 (ms 46),
 oo 6 (.mov (ci 0))]
def F21 : AFn := ⟨47, [.cell 4 (some 5), .tmp 5, .tmp 6],
  sr F21r0
  (sr F21r1
  (.seq (sr F21r2
  (cd 20
    (rg F21r3)
    (.skip)))
  (.seq (sr F21r4
  (cd 22
    (sr F21r5
    (.ret))
    (.skip)))
  (sr F21r6
  (.seq (sr F21r7
  (.block 0 (
    .loop (
      .seq (sr F21r8
      (cd 28
        (.skip)
        (.exit 0)))
      (.seq (.block 1 (
        .seq (.reg F21r9 (some [[], [], [], [1, 2], [3, 1, 2], [0, 4, 3, 1, 2], [5, 0, 4, 3, 1, 2], [6, 5, 0, 4, 3, 1, 2], [6, 5, 0, 4, 3, 1, 2], [], [9, 7, 5, 0, 1, 2, 3, 4, 6], [8, 10, 0, 1, 2, 3, 4, 5, 6, 7, 9]]))
        (sr F21r10
        (cd 41
          (sr F21r11
          (rg F21r12))
          (.skip)))))
      (rg F21r13))))))
  (sr F21r14
  (.ret)))))))⟩
theorem F21_ok : cFunc Tryd.prog 21 = some F21 := by kernel_rfl
def F23r0 : RL := [oo 2 (.box 2 (.s 0)),
 oo 3 (.box 2 (.s 1)),
 oo 4 (.mov cF)]
def F23r1 : RL := [oo 5 (lq 2 2),
 oo 6 (lq 2 3),
 oo 7 (cl 50 [.s 5, .s 6]),
 oo 8 (bi .lss (.s 7) (ci 0)),
 oo 4 (ms 8)]
def F23 : AFn := ⟨9, [.tmp 4],
  sr F23r0
  (sr F23r1
  (.ret))⟩
theorem F23_ok : cFunc Tryd.prog 23 = some F23 := by kernel_rfl
def F25r0 : RL := [oo 6 (.mov cF),
 oo 7 (.mov (ci 0))]
def F25r1 : RL := [oo 11 (ms 0),
 oo 12 (ms 1),
 oo 13 (cl 26 [.s 11, .s 12]),
 oo 8 (ms 13)]
def F25r2 : RL := [oo 14 (ms 8),
 oo 15 (bi .neq (.s 14) (ci 0))]
def F25r3 : RL := [oo 16 (ms 8),
 oo 6 (.mov cF),
 oo 7 (ms 16)]
def F25r4 : RL := [oo 18 (ms 0),
 oo 19 (ms 2),
 oo 20 (cl 52 [.s 18, .s 19]),
 oo 17 (ms 20),
 oo 21 (.ext 0 (.s 17)),
 oo 22 (.ext 1 (.s 17)),
 oo 9 (ms 21),
 oo 10 (ms 22)]
def F25r5 : RL := [oo 23 (ms 10),
 oo 24 (bi .eql (.s 23) (ci 0)),
 oo 25 (ms 24),
 ot 26 (ms 9) 25,
 ot 27 (ms 1) 25,
 ot 28 (bi .geq (.s 26) (.s 27)) 25,
 oo 29 (.pick (.s 25) (.s 28) cF),
 oo 30 (ms 10),
 oo 6 (ms 29),
 oo 7 (ms 30)]
def F25 : AFn := ⟨31, [.tmp 6, .tmp 7],
  sr F25r0
  (.seq (sr F25r1
  (sr F25r2
  (cd 15
    (sr F25r3
    (.ret))
    (.skip))))
  (sr F25r4
  (sr F25r5
  (.ret))))⟩
theorem F25_ok : cFunc Tryd.prog 25 = some F25 := by kernel_rfl
def F26r0 : RL := [oo 4 (.mov (ci 0))]
def F26r1 : RL := [oo 8 (ms 0),
 oo 9 (cl 53 [.s 8]),
 oo 7 (ms 9),
 oo 10 (.ext 0 (.s 7)),
 oo 11 (.ext 1 (.s 7)),
 oo 5 (ms 10),
 oo 6 (ms 11)]
def F26r2 : RL := [oo 13 (ms 6),
 oo 14 (bi .neq (.s 13) (ci 0)),
 oo 12 (ms 14)]
def F26r3 : RL := [oo 15 (ms 6),
 oo 4 (ms 15)]
def F26r4 : RL := [oo 17 (ms 1),
 oo 18 (bi .lss (.s 17) (ci 1)),
 oo 19 (ms 18),
 on 20 (ms 1) 19,
 on 21 (ms 5) 19,
 on 22 (bi .gtr (.s 20) (.s 21)) 19,
 oo 23 (.pick (.s 19) cT (.s 22)),
 oo 16 (ms 23)]
def F26r5 : RL := [oo 4 (.mov (ci 3))]
def F26r6 : RL := [oo 25 (ms 1),
 oo 26 (bi .mul (ci 2) (.s 25)),
 oo 27 (ms 5),
 oo 28 (bi .leq (.s 26) (.s 27)),
 oo 24 (ms 28)]
def F26r7 : RL := [oo 4 (.mov (ci 4))]
def F26r8 : RL := [oo 4 (.mov (ci 0))]
def F26 : AFn := ⟨29, [.tmp 4],
  sr F26r0
  (sr F26r1
  (.seq (.block 0 (
    sr F26r2
    (cd 12
      (sr F26r3
      (.ret))
      (sr F26r4
      (cd 16
        (sr F26r5
        (.ret))
        (sr F26r6
        (cd 24
          (sr F26r7
          (.ret))
          (.skip))))))))
  (sr F26r8
  (.ret))))⟩
theorem F26_ok : cFunc Tryd.prog 26 = some F26 := by kernel_rfl
def F27r0 : RL := [oo 2 (.mov (.c .emp))]
def F27r1 : RL := [oo 3 (ms 0),
 oo 4 (.isn .sl false (.s 3))]
def F27r2 : RL := [oo 2 (.mov (.c .emp))]
def F27r3 : RL := [oo 5 (.bsl 1 0 [zi 0] []),
 oo 6 (ms 0),
 oo 7 (.app 1 8 (.s 5) (.s 6)),
 oo 2 (ms 7)]
def F27 : AFn := ⟨8, [.tmp 2],
  sr F27r0
  (.seq (sr F27r1
  (cd 4
    (sr F27r2
    (.ret))
    (.skip)))
  (sr F27r3
  (.ret)))⟩
theorem F27_ok : cFunc Tryd.prog 27 = some F27 := by kernel_rfl
def F28r0 : RL := [oo 2 (.box 5 (.s 0)),
 oo 3 (.box 3 (.s 1)),
 oo 4 (.new [.emp, zi 0, .emp, .emp, .emp]),
 oo 5 (.mov (ci 0))]
def F28r1 : RL := [oo 9 (lq 5 2),
 oo 10 (cl 49 [.s 9]),
 oo 11 (.agg [.emp, zi 0, .emp, .emp, .emp] [(0, (5, .s 10))]),
 oo 12 (.box 5 (.s 11)),
 oo 6 (ms 12)]
def F28r2 : RL := [oo 13 (ms 6),
 oo 14 (lq 3 3),
 oo 15 (cl 54 [.s 13, .s 14]),
 oo 7 (ms 15)]
def F28r3 : RL := [oo 8 (.mov (ci 0))]
def F28r4 : RL := [oo 19 (ms 7),
 oo 20 (.isn .fn false (.s 19)),
 oo 18 (ms 20)]
def F28r5 : RL := [oo 8 (.mov (ci 7))]
def F28r6 : RL := [oo 22 (fd 2 3),
 oo 23 (ld 22),
 oo 24 (bi .neq (.s 23) (.c (zs))),
 oo 25 (ms 24),
 ot 26 (fd 0 3) 25,
 ot 27 (ld 26) 25,
 ot 28 (bi .neq (.s 27) (ci 6)) 25,
 oo 29 (.pick (.s 25) (.s 28) cF),
 oo 21 (ms 29)]
def F28r7 : RL := [oo 8 (.mov (ci 1))]
def F28r8 : RL := [oo 31 (fd 0 3),
 oo 32 (ld 31),
 oo 33 (bi .neq (.s 32) (ci 6)),
 oo 34 (ms 33),
 ot 35 (fd 1 3) 34,
 ot 36 (ld 35) 34,
 ot 37 (bi .lss (.s 36) (ci 0)) 34,
 ot 38 (ms 37) 34,
 on 39 (fd 1 3) 38,
 on 40 (ld 39) 38,
 on 41 (ms 6) 38,
 on 42 (.nilc (.s 41)) 38,
 on 43 (fd 0 42) 38,
 on 44 (fd 4 43) 38,
 on 45 (ld 44) 38,
 on 46 (.len false (.s 45)) 38,
 on 47 (bi .geq (.s 40) (.s 46)) 38,
 ot 48 (.pick (.s 38) cT (.s 47)) 34,
 oo 49 (.pick (.s 34) (.s 48) cF),
 oo 30 (ms 49)]
def F28r9 : RL := [oo 8 (.mov (ci 3))]
def F28r10 : RL := [oo 16 (ms 7),
 oo 17 (.call (.s 16) []),
 oo 8 (ms 17)]
def F28r11 : RL := [oo 50 (ms 8),
 oo 51 (bi .neq (.s 50) (ci 0))]
def F28r12 : RL := [oo 52 (.agg [.emp, zi 0, .emp, .emp, .emp] []),
 oo 53 (ms 8),
 ow (.store 5 (.s 4) (.s 52)),
 oo 5 (ms 53)]
def F28r13 : RL := [oo 54 (ms 6),
 oo 55 (.nilc (.s 54)),
 oo 56 (fd 0 55),
 oo 57 (lq 5 56),
 ow (.store 5 (.s 4) (.s 57)),
 oo 5 (.mov (ci 0))]
def F28 : AFn := ⟨58, [.cell 4 (some 5), .tmp 5],
  sr F28r0
  (sr F28r1
  (sr F28r2
  (sr F28r3
  (.seq (.block 0 (
    sr F28r4
    (cd 18
      (rg F28r5)
      (sr F28r6
      (cd 21
        (rg F28r7)
        (.seq (.reg F28r8 (some [[], [0], [1, 0], [2, 1, 0], [3, 2, 1, 0], [4, 3, 2, 1, 0], [5, 3, 4, 2, 1, 0], [6, 3, 5, 4, 2, 1, 0], [7, 6, 3, 5, 4, 2, 1, 0], [8, 7, 6, 3, 5, 4, 2, 1, 0], [7, 6, 3, 5, 4, 2, 1, 0], [10, 7, 6, 3, 5, 4, 2, 1, 0], [11, 7, 10, 6, 3, 5, 4, 2, 1, 0], [12, 7, 11, 10, 6, 3, 5, 4, 2, 1, 0], [13, 7, 12, 11, 10, 6, 3, 5, 4, 2, 1, 0], [14, 7, 13, 12, 11, 10, 6, 3, 5, 4, 2, 1, 0], [9, 15, 7, 8, 6, 3, 5, 4, 2, 1, 0, 14, 13, 12, 11, 10], [7, 16, 3, 6, 5, 4, 2, 1, 0, 9, 15, 8, 14, 13, 12, 11, 10], [3, 17, 2, 1, 0, 7, 16, 6, 5, 4, 9, 15, 8, 14, 13, 12, 11, 10], [18, 7, 3, 17, 2, 1, 0, 16, 6, 5, 4, 9, 15, 8, 14, 13, 12, 11, 10]]))
        (cd 30
          (rg F28r9)
          (rg F28r10))))))))
  (.seq (sr F28r11
  (cd 51
    (sr F28r12
    (.ret))
    (.skip)))
  (sr F28r13
  (.ret)))))))⟩
theorem F28_ok : cFunc Tryd.prog 28 = some F28 := by kernel_rfl
def F29r0 : RL := [oo 4 (.mov (ci 0))]
def F29r1 : RL := [oo 8 (ms 0),
 oo 9 (cl 55 [.s 8]),
 oo 7 (ms 9),
 oo 10 (.ext 0 (.s 7)),
 oo 11 (.ext 1 (.s 7)),
 oo 5 (ms 10),
 oo 6 (ms 11)]
def F29r2 : RL := [oo 12 (ms 6),
 oo 13 (bi .neq (.s 12) (ci 0))]
def F29r3 : RL := [oo 14 (ms 6),
 oo 4 (ms 14)]
def F29r4 : RL := [oo 15 (ms 1),
 oo 16 (bi .lss (.s 15) (ci 1)),
 oo 17 (ms 16),
 on 18 (ms 1) 17,
 on 19 (ms 5) 17,
 on 20 (bi .gtr (.s 18) (.s 19)) 17,
 oo 21 (.pick (.s 17) cT (.s 20))]
def F29r5 : RL := [oo 4 (.mov (ci 3))]
def F29r6 : RL := [oo 22 (ms 1),
 oo 23 (bi .mul (.s 22) (ci 2)),
 oo 24 (ms 5),
 oo 25 (bi .leq (.s 23) (.s 24))]
def F29r7 : RL := [oo 4 (.mov (ci 4))]
def F29r8 : RL := [oo 4 (.mov (ci 0))]
def F29 : AFn := ⟨26, [.tmp 4],
  sr F29r0
  (sr F29r1
  (.seq (sr F29r2
  (cd 13
    (sr F29r3
    (.ret))
    (.skip)))
  (.seq (sr F29r4
  (cd 21
    (sr F29r5
    (.ret))
    (.skip)))
  (.seq (sr F29r6
  (cd 25
    (sr F29r7
    (.ret))
    (.skip)))
  (sr F29r8
  (.ret))))))⟩
theorem F29_ok : cFunc Tryd.prog 29 = some F29 := by kernel_rfl
def F30r0 : RL := [oo 4 (.box 2 (.s 0)),
 oo 8 (.new [zi 0, zi 0, zs, zs, zi 0, zi 0, zs, .v (.int .u64 0)]),
 oo 9 (.mov (.c .emp)),
 oo 10 (.mov (ci 0))]
def F30r1 : RL := [oo 13 (ms 1),
 oo 14 (bi .lss (.s 13) (ci 0)),
 oo 15 (ms 14),
 on 16 (ms 1) 15,
 on 17 (bi .gtr (.s 16) (ci 30)) 15,
 oo 18 (.pick (.s 15) cT (.s 17))]
def F30r2 : RL := [oo 19 (.agg [zi 0, zi 0, zs, zs, zi 0, zi 0, zs, .v (.int .u64 0)] []),
 ow (.store 8 (.s 8) (.s 19)),
 oo 9 (.mov (.c .emp)),
 oo 10 (.mov (ci 3))]
def F30r3 : RL := [oo 20 (ms 2),
 oo 21 (ms 3),
 oo 22 (.agg [zi 0, zi 0, zs, zs, zi 0, zi 0, zs, .v (.int .u64 0)] [(0, (1, .s 20)), (2, (1, .s 21)), (1, (1, ci 1))]),
 oo 11 (.new [zi 0, zi 0, zs, zs, zi 0, zi 0, zs, .v (.int .u64 0)]),
 ow (.store 8 (.s 11) (.s 22))]
def F30r4 : RL := [oo 23 (lq 2 4),
 oo 24 (lq 8 11),
 oo 25 (cl 47 [.s 23, .s 24]),
 oo 12 (ms 25)]
def F30r5 : RL := [oo 26 (ms 12),
 oo 27 (bi .neq (.s 26) (ci 0))]
def F30r6 : RL := [oo 28 (.agg [zi 0, zi 0, zs, zs, zi 0, zi 0, zs, .v (.int .u64 0)] []),
 oo 29 (ms 12),
 ow (.store 8 (.s 8) (.s 28)),
 oo 9 (.mov (.c .emp)),
 oo 10 (ms 29)]
def F30r7 : RL := [oo 30 (lq 8 11),
 oo 31 (fd 0 4),
 oo 32 (ld 31),
 oo 33 (.len false (.s 32)),
 oo 34 (ms 1),
 oo 35 (ms 2),
 oo 36 (ms 1),
 oo 37 (.agg [zi 0, zi 0] [(0, (1, .s 35)), (1, (1, .s 36))]),
 oo 38 (.agg [zi 0, zi 0, zs] [(0, (2, .s 37))]),
 oo 39 (.agg [zi 0, zi 0, zi 0, zi 0, zi 0, zs] [(0, (1, ci 1)), (1, (1, .s 34)), (3, (3, .s 38))]),
 oo 40 (cl 56 [.s 33, .s 39]),
 ow (.store 8 (.s 8) (.s 30)),
 oo 9 (ms 40),
 oo 10 (.mov (ci 0))]
def F30 : AFn := ⟨41, [.cell 8 (some 8), .tmp 9, .tmp 10],
  sr F30r0
  (.seq (sr F30r1
  (cd 18
    (sr F30r2
    (.ret))
    (.skip)))
  (sr F30r3
  (sr F30r4
  (.seq (sr F30r5
  (cd 27
    (sr F30r6
    (.ret))
    (.skip)))
  (.seq (.reg F30r7 (some [[], [], [1], [2, 1], [], [], [], [5, 6], [7, 5, 6], [4, 8, 7, 5, 6], [3, 9, 2, 1, 4, 8, 7, 5, 6], [0, 10, 3, 9, 2, 1, 4, 8, 7, 5, 6], [10, 11, 0, 1, 2, 3, 4, 5, 6, 7, 8, 9], [12, 0, 1, 2, 3, 4, 5, 6, 7, 8, 9, 10, 11]]))
  (.ret))))))⟩
theorem F30_ok : cFunc Tryd.prog 30 = some F30 := by kernel_rfl
def F31r0 : RL := [oo 4 (.mov (.c .emp))]
def F31r1 : RL := [oo 5 (.bsl 6 0 [zi 0, zi 0, zi 0, zi 0, zi 0, zs] []),
 oo 6 (ms 0),
 oo 7 (ms 1),
 oo 8 (.slc 6 (.s 6) none (some (.s 7)) none),
 oo 9 (.app 6 56 (.s 5) (.s 8)),
 oo 10 (ms 0),
 oo 11 (ms 1),
 oo 12 (bi .add (.s 11) (ci 1)),
 oo 13 (.slc 6 (.s 10) (some (.s 12)) none none),
 oo 14 (.app 6 56 (.s 9) (.s 13)),
 oo 4 (ms 14)]
def F31 : AFn := ⟨15, [.tmp 4],
  sr F31r0
  (.seq (.reg F31r1 (some [[], [], [], [1, 2], [0, 3, 1, 2], [], [], [6], [5, 7, 6], [4, 8, 0, 3, 1, 2, 5, 7, 6], [9, 0, 1, 2, 3, 4, 5, 6, 7, 8]]))
  (.ret))⟩
theorem F31_ok : cFunc Tryd.prog 31 = some F31 := by kernel_rfl
theorem F31_call : callable Tryd.prog 31 = true := by kernel_rfl
def F32r0 : RL := [oo 2 (.box 5 (.s 0)),
 oo 3 (.box 6 (.s 1)),
 oo 4 (.new [zi 0, zi 0, zi 0, zi 0, zs]),
 oo 5 (.mov (.c .emp)),
 oo 6 (.mov (ci 0))]
def F32r1 : RL := [oo 8 (lq 5 2),
 oo 9 (cl 46 [.s 8]),
 oo 7 (ms 9)]
def F32r2 : RL := [oo 10 (ms 7),
 oo 11 (bi .eql (.s 10) (ci 0))]
def F32r3 : RL := [oo 12 (lq 6 3),
 oo 13 (cl 48 [.s 12]),
 oo 7 (ms 13)]
def F32r4 : RL := [oo 14 (ms 7),
 oo 15 (bi .neq (.s 14) (ci 0))]
def F32r5 : RL := [oo 16 (.agg [zi 0, zi 0, zi 0, zi 0, zs] []),
 oo 17 (ms 7),
 ow (.store 5 (.s 4) (.s 16)),
 oo 5 (.mov (.c .emp)),
 oo 6 (ms 17)]
def F32r6 : RL := [oo 18 (fd 0 3),
 oo 19 (ld 18),
 oo 20 (bi .eql (.s 19) (ci 1)),
 oo 21 (ms 20),
 ot 22 (fd 0 2) 21,
 ot 23 (lq 2 22) 21,
 ot 24 (fd 3 3) 21,
 ot 25 (fd 0 24) 21,
 ot 26 (lq 2 25) 21,
 ot 27 (cl 57 [.s 23, .s 26]) 21,
 oo 28 (.pick (.s 21) (.s 27) cF)]
def F32r7 : RL := [oo 29 (fd 3 3),
 oo 30 (fd 0 29),
 oo 31 (lq 2 30),
 oo 32 (fd 2 2),
 oo 33 (lq 3 32),
 oo 34 (.agg [zi 0, zi 0, zi 0, zi 0, zs] [(0, (2, .s 31)), (2, (3, .s 33))]),
 oo 35 (fd 1 3),
 oo 36 (ld 35),
 oo 37 (fd 2 3),
 oo 38 (ld 37),
 oo 39 (fd 2 2),
 oo 40 (lq 3 39),
 oo 41 (.agg [zi 0, zi 0, zi 0, zi 0, zi 0, zs] [(0, (1, ci 2)), (1, (1, .s 36)), (2, (1, .s 38)), (3, (3, .s 40))]),
 oo 42 (.bsl 6 1 [zi 0, zi 0, zi 0, zi 0, zi 0, zs] [(0, .s 41)]),
 ow (.store 5 (.s 4) (.s 34)),
 oo 5 (ms 42),
 oo 6 (.mov (ci 0))]
def F32r8 : RL := [oo 43 (fd 0 3),
 oo 44 (ld 43),
 oo 45 (bi .eql (.s 44) (ci 3)),
 oo 46 (ms 45),
 ot 47 (fd 3 3) 46,
 ot 48 (fd 0 47) 46,
 ot 49 (lq 2 48) 46,
 ot 50 (fd 0 2) 46,
 ot 51 (lq 2 50) 46,
 ot 52 (cl 57 [.s 49, .s 51]) 46,
 ot 53 (.un .not (.s 52)) 46,
 oo 54 (.pick (.s 46) (.s 53) cF)]
def F32r9 : RL := [oo 55 (fd 3 3),
 oo 56 (fd 0 55),
 oo 57 (lq 2 56),
 oo 58 (fd 3 3),
 oo 59 (lq 3 58),
 oo 60 (.agg [zi 0, zi 0, zi 0, zi 0, zs] [(0, (2, .s 57)), (2, (3, .s 59))]),
 oo 61 (fd 1 3),
 oo 62 (ld 61),
 oo 63 (fd 2 3),
 oo 64 (ld 63),
 oo 65 (fd 3 3),
 oo 66 (fd 0 65),
 oo 67 (lq 2 66),
 oo 68 (.agg [zi 0, zi 0, zs] [(0, (2, .s 67))]),
 oo 69 (.agg [zi 0, zi 0, zi 0, zi 0, zi 0, zs] [(0, (1, ci 4)), (1, (1, .s 62)), (2, (1, .s 64)), (3, (3, .s 68))]),
 oo 70 (.bsl 6 1 [zi 0, zi 0, zi 0, zi 0, zi 0, zs] [(0, .s 69)]),
 ow (.store 5 (.s 4) (.s 60)),
 oo 5 (ms 70),
 oo 6 (.mov (ci 0))]
def F32r10 : RL := [oo 71 (lq 5 2),
 ow (.store 5 (.s 4) (.s 71)),
 oo 5 (.mov (.c .emp)),
 oo 6 (.mov (ci 0))]
def F32 : AFn := ⟨72, [.cell 4 (some 5), .tmp 5, .tmp 6],
  sr F32r0
  (sr F32r1
  (.seq (sr F32r2
  (cd 11
    (rg F32r3)
    (.skip)))
  (.seq (sr F32r4
  (cd 15
    (sr F32r5
    (.ret))
    (.skip)))
  (.seq (sr F32r6
  (cd 28
    (.seq (.reg F32r7 (some [[], [0], [1, 0], [], [3], [2, 4, 1, 0, 3], [], [6], [], [8], [], [10], [7, 9, 11, 6, 8, 10], [12, 7, 9, 11, 6, 8, 10], [5, 0, 1, 2, 3, 4], [13, 14, 0, 1, 2, 3, 4, 5, 6, 7, 8, 9, 10, 11, 12], [15, 0, 1, 2, 3, 4, 5, 6, 7, 8, 9, 10, 11, 12, 13, 14]]))
    (.ret))
    (.skip)))
  (.seq (sr F32r8
  (cd 54
    (.seq (.reg F32r9 (some [[], [0], [1, 0], [], [3], [2, 4, 1, 0, 3], [], [6], [], [8], [], [10], [11, 10], [12, 11, 10], [7, 9, 13, 6, 8, 12, 11, 10], [14, 7, 9, 13, 6, 8, 12, 11, 10], [5, 0, 1, 2, 3, 4], [15, 16, 0, 1, 2, 3, 4, 5, 6, 7, 8, 9, 10, 11, 12, 13, 14], [17, 0, 1, 2, 3, 4, 5, 6, 7, 8, 9, 10, 11, 12, 13, 14, 15, 16]]))
    (.ret))
    (.skip)))
  (sr F32r10
  (.ret)))))))⟩
theorem F32_ok : cFunc Tryd.prog 32 = some F32 := by kernel_rfl
def F33r0 : RL := [oo 4 (.box 2 (.s 0)),
 oo 6 (.box 8 (.s 2)),
 oo 7 (.box 6 (.s 3)),
 oo 8 (.new [zi 0, zi 0, zs, zs, zi 0, zi 0, zs, .v (.int .u64 0)]),
 oo 9 (.mov (.c .emp)),
 oo 10 (.mov (ci 0))]
def F33r1 : RL := [oo 14 (ms 1),
 oo 15 (bi .lss (.s 14) (ci 0)),
 oo 16 (ms 15),
 on 17 (ms 1) 16,
 on 18 (bi .gtr (.s 17) (ci 30)) 16,
 oo 19 (.pick (.s 16) cT (.s 18))]
def F33r2 : RL := [oo 20 (.agg [zi 0, zi 0, zs, zs, zi 0, zi 0, zs, .v (.int .u64 0)] []),
 ow (.store 8 (.s 8) (.s 20)),
 oo 9 (.mov (.c .emp)),
 oo 10 (.mov (ci 3))]
def F33r3 : RL := [oo 21 (lq 2 4),
 oo 22 (lq 8 6),
 oo 23 (cl 47 [.s 21, .s 22]),
 oo 11 (ms 23)]
def F33r4 : RL := [oo 24 (ms 11),
 oo 25 (bi .eql (.s 24) (ci 0))]
def F33r5 : RL := [oo 26 (lq 6 7),
 oo 27 (cl 48 [.s 26]),
 oo 11 (ms 27)]
def F33r6 : RL := [oo 28 (ms 11),
 oo 29 (bi .neq (.s 28) (ci 0))]
def F33r7 : RL := [oo 30 (.agg [zi 0, zi 0, zs, zs, zi 0, zi 0, zs, .v (.int .u64 0)] []),
 oo 31 (ms 11),
 ow (.store 8 (.s 8) (.s 30)),
 oo 9 (.mov (.c .emp)),
 oo 10 (ms 31)]
def F33r8 : RL := [oo 32 (fd 0 6),
 oo 33 (ld 32),
 oo 34 (ms 1),
 oo 35 (.agg [zi 0, zi 0] [(0, (1, .s 33)), (1, (1, .s 34))]),
 oo 12 (.new [zi 0, zi 0]),
 ow (.store 2 (.s 12) (.s 35))]
def F33r9 : RL := [oo 36 (fd 1 6),
 oo 37 (ld 36),
 oo 38 (bi .eql (.s 37) (ci 1)),
 oo 39 (ms 38),
 ot 40 (fd 0 7) 39,
 ot 41 (ld 40) 39,
 ot 42 (bi .eql (.s 41) (ci 2)) 39,
 oo 43 (.pick (.s 39) (.s 42) cF),
 oo 44 (ms 43),
 on 45 (fd 1 6) 44,
 on 46 (ld 45) 44,
 on 47 (bi .eql (.s 46) (ci 2)) 44,
 on 48 (ms 47) 44,
 ot 49 (fd 0 7) 48,
 ot 50 (ld 49) 48,
 ot 51 (bi .eql (.s 50) (ci 4)) 48,
 on 52 (.pick (.s 48) (.s 51) cF) 44,
 on 53 (ms 52) 44,
 ot 54 (fd 3 7) 53,
 ot 55 (fd 0 54) 53,
 ot 56 (lq 2 55) 53,
 ot 57 (lq 2 12) 53,
 ot 58 (.eqs false 2 [(0, .int), (1, .int)] (.s 56) (.s 57)) 53,
 on 59 (.pick (.s 53) (.s 58) cF) 44,
 oo 60 (.pick (.s 44) cT (.s 59)),
 oo 13 (ms 60)]
def F33r10 : RL := [oo 61 (fd 1 7),
 oo 62 (ld 61),
 oo 63 (ms 1),
 oo 64 (bi .neq (.s 62) (.s 63)),
 oo 65 (ms 64),
 on 66 (ms 13) 65,
 on 67 (.un .not (.s 66)) 65,
 oo 68 (.pick (.s 65) cT (.s 67)),
 oo 69 (ms 68),
 on 70 (fd 2 7) 69,
 on 71 (ld 70) 69,
 on 72 (fd 0 4) 69,
 on 73 (ld 72) 69,
 on 74 (.len false (.s 73)) 69,
 on 75 (bi .geq (.s 71) (.s 74)) 69,
 oo 76 (.pick (.s 69) cT (.s 75)),
 oo 77 (ms 76),
 on 78 (fd 7 6) 77,
 on 79 (ld 78) 77,
 on 80 (fd 2 7) 77,
 on 81 (ld 80) 77,
 on 82 (cl 58 [.s 79, .s 81]) 77,
 oo 83 (.pick (.s 77) cT (.s 82))]
def F33r11 : RL := [oo 84 (lq 8 6),
 ow (.store 8 (.s 8) (.s 84)),
 oo 9 (.mov (.c .emp)),
 oo 10 (.mov (ci 0))]
def F33r12 : RL := [oo 85 (fd 7 6),
 oo 86 (ld 85),
 oo 87 (fd 2 7),
 oo 88 (ld 87),
 oo 89 (bi .shl (.c (.v (.int .u64 1))) (.s 88)),
 oo 90 (bi .add (.s 86) (.s 89)),
 oo 91 (fd 7 6),
 ow (.store 1 (.s 91) (.s 90))]
def F33r13 : RL := [oo 92 (fd 1 6),
 oo 93 (ld 92),
 oo 94 (bi .eql (.s 93) (ci 1))]
def F33r14 : RL := [oo 96 (fd 4 6),
 oo 97 (lq 3 96),
 oo 98 (fd 3 7),
 oo 99 (lq 3 98),
 oo 100 (.bsl 3 2 [zi 0, zi 0, zs] [(0, .s 97), (1, .s 99)]),
 oo 101 (cl 59 [.s 100]),
 oo 95 (ms 101),
 oo 102 (.ext 0 (.s 95)),
 oo 103 (.ext 1 (.s 95)),
 oo 104 (fd 4 6),
 ow (.store 3 (.s 104) (.s 102))]
def F33r15 : RL := [oo 105 (fd 0 4),
 oo 106 (ld 105),
 oo 107 (fd 7 6),
 oo 108 (ld 107),
 oo 109 (cl 60 [.s 106, .s 108]),
 oo 110 (fd 1 4),
 oo 111 (ld 110),
 oo 112 (bi .lss (.s 109) (.s 111))]
def F33r16 : RL := [oo 113 (lq 8 6),
 ow (.store 8 (.s 8) (.s 113)),
 oo 9 (.mov (.c .emp)),
 oo 10 (.mov (ci 0))]
def F33r17 : RL := [oo 114 (fd 1 6),
 oo 115 (ld 114),
 oo 116 (bi .eql (.s 115) (ci 2))]
def F33r18 : RL := [oo 117 (fd 1 6),
 ow (.store 1 (.s 117) (ci 3))]
def F33r19 : RL := [oo 118 (lq 8 6),
 ow (.store 8 (.s 8) (.s 118)),
 oo 9 (.mov (.c .emp)),
 oo 10 (.mov (ci 0))]
def F33r20 : RL := [oo 119 (fd 1 6),
 ow (.store 1 (.s 119) (ci 2))]
def F33r21 : RL := [oo 120 (fd 7 6),
 ow (.store 1 (.s 120) (.c (.v (.int .u64 0))))]
def F33r22 : RL := [oo 121 (fd 2 6),
 oo 122 (ld 121),
 oo 123 (fd 3 6),
 ow (.store 1 (.s 123) (.s 122))]
def F33r23 : RL := [oo 124 (fd 4 6),
 oo 125 (fd 0 124),
 oo 126 (lq 2 125),
 oo 127 (.agg [zi 0, zi 0] []),
 oo 128 (.eqs true 2 [(0, .int), (1, .int)] (.s 126) (.s 127))]
def F33r24 : RL := [oo 129 (fd 4 6),
 oo 130 (fd 2 129),
 oo 131 (ld 130),
 oo 132 (fd 3 6),
 ow (.store 1 (.s 132) (.s 131))]
def F33r25 : RL := [oo 133 (lq 8 6),
 oo 134 (fd 0 4),
 oo 135 (ld 134),
 oo 136 (.len false (.s 135)),
 oo 137 (ms 1),
 oo 138 (lq 2 12),
 oo 139 (fd 3 6),
 oo 140 (ld 139),
 oo 141 (.agg [zi 0, zi 0, zs] [(0, (2, .s 138)), (2, (1, .s 140))]),
 oo 142 (.agg [zi 0, zi 0, zi 0, zi 0, zi 0, zs] [(0, (1, ci 3)), (1, (1, .s 137)), (3, (3, .s 141))]),
 oo 143 (cl 56 [.s 136, .s 142]),
 ow (.store 8 (.s 8) (.s 133)),
 oo 9 (ms 143),
 oo 10 (.mov (ci 0))]
def F33 : AFn := ⟨144, [.cell 8 (some 8), .tmp 9, .tmp 10],
  sr F33r0
  (.seq (sr F33r1
  (cd 19
    (sr F33r2
    (.ret))
    (.skip)))
  (sr F33r3
  (.seq (sr F33r4
  (cd 25
    (rg F33r5)
    (.skip)))
  (.seq (sr F33r6
  (cd 29
    (sr F33r7
    (.ret))
    (.skip)))
  (sr F33r8
  (sr F33r9
  (.seq (sr F33r10
  (cd 83
    (sr F33r11
    (.ret))
    (.skip)))
  (.seq (.reg F33r12 (some [[], [0], [], [2], [3, 2], [1, 4, 0, 3, 2], [0, 1, 2, 3, 4, 5], [6, 5, 0, 1, 2, 3, 4]]))
  (.seq (sr F33r13
  (cd 94
    (rg F33r14)
    (.skip)))
  (.seq (.seq (.reg F33r15 (some [[], [0], [], [2], [1, 3, 0, 2], [], [5], [4, 6, 1, 3, 0, 2, 5]]))
  (cd 112
    (sr F33r16
    (.ret))
    (.skip)))
  (.seq (sr F33r17
  (cd 116
    (sr F33r18
    (sr F33r19
    (.ret)))
    (.skip)))
  (sr F33r20
  (sr F33r21
  (sr F33r22
  (.seq (sr F33r23
  (cd 128
    (rg F33r24)
    (.skip)))
  (.seq (.reg F33r25 (some [[], [], [1], [2, 1], [], [], [], [6], [5, 7, 6], [4, 8, 5, 7, 6], [3, 9, 2, 1, 4, 8, 5, 7, 6], [0, 10, 3, 9, 2, 1, 4, 8, 5, 7, 6], [10, 11, 0, 1, 2, 3, 4, 5, 6, 7, 8, 9], [12, 0, 1, 2, 3, 4, 5, 6, 7, 8, 9, 10, 11]]))
  (.ret)))))))))))))))))⟩
theorem F33_ok : cFunc Tryd.prog 33 = some F33 := by kernel_rfl
def F34r0 : RL := [oo 0 (.new [.emp, zi 0])]
def F34r1 : RL := [oo 1 (.bsl 1 3 [zi 0] [(0, ci 1), (1, ci 1), (2, ci 1)]),
 oo 2 (.agg [.emp, zi 0] [(0, (1, .s 1)), (1, (1, ci 2))]),
 ow (.store 2 (.s 0) (.s 2))]
def F34 : AFn := ⟨3, [.cell 0 (some 2)],
  sr F34r0
  (sr F34r1
  (.ret))⟩
theorem F34_ok : cFunc Tryd.prog 34 = some F34 := by kernel_rfl
def F35r0 : RL := [oo 2 (.mov (.c .emp))]
def F35r1 : RL := [oo 3 (.mov (.c .emp))]
def F35r2 : RL := [oo 4 (.mov (ci 0))]
def F35r3 : RL := [oo 5 (ms 4),
 oo 6 (ms 0),
 oo 7 (bi .lss (.s 5) (.s 6))]
def F35r4 : RL := [oo 10 (ms 3),
 oo 11 (.agg [zi 0, zi 0, zs] [(0, (1, ci 3))]),
 oo 12 (.bsl 3 1 [zi 0, zi 0, zs] [(0, .s 11)]),
 oo 13 (.app 3 32 (.s 10) (.s 12)),
 oo 3 (ms 13)]
def F35r5 : RL := [oo 8 (ms 4),
 oo 9 (bi .add (.s 8) (ci 1)),
 oo 4 (ms 9)]
def F35r6 : RL := [oo 14 (ms 3),
 oo 2 (ms 14)]
def F35 : AFn := ⟨15, [.tmp 2],
  sr F35r0
  (sr F35r1
  (.seq (sr F35r2
  (.block 0 (
    .loop (
      .seq (sr F35r3
      (cd 7
        (.skip)
        (.exit 0)))
      (.seq (.block 1 (
        rg F35r4))
      (rg F35r5))))))
  (sr F35r6
  (.ret))))⟩
theorem F35_ok : cFunc Tryd.prog 35 = some F35 := by kernel_rfl
theorem F35_call : callable Tryd.prog 35 = true := by kernel_rfl
def F36r0 : RL := [oo 4 (.mov cF)]
def F36r1 : RL := [oo 6 (ms 0),
 oo 7 (.len false (.s 6)),
 oo 8 (ms 1),
 oo 9 (.len false (.s 8)),
 oo 10 (bi .neq (.s 7) (.s 9))]
def F36r2 : RL := [oo 4 (.mov cF)]
def F36r3 : RL := [oo 5 (.mov (ci 0))]
def F36r4 : RL := [oo 11 (ms 5),
 oo 12 (ms 0),
 oo 13 (.len false (.s 12)),
 oo 14 (bi .lss (.s 11) (.s 13))]
def F36r5 : RL := [oo 17 (ms 0),
 oo 18 (ms 5),
 oo 19 (.iad 1 (.s 17) (.s 18)),
 oo 20 (ld 19),
 oo 21 (ms 1),
 oo 22 (ms 5),
 oo 23 (.iad 1 (.s 21) (.s 22)),
 oo 24 (ld 23),
 oo 25 (bi .neq (.s 20) (.s 24))]
def F36r6 : RL := [oo 4 (.mov cF)]
def F36r7 : RL := [oo 15 (ms 5),
 oo 16 (bi .add (.s 15) (ci 1)),
 oo 5 (ms 16)]
def F36r8 : RL := [oo 4 (.mov cT)]
def F36 : AFn := ⟨26, [.tmp 4],
  sr F36r0
  (.seq (sr F36r1
  (cd 10
    (sr F36r2
    (.ret))
    (.skip)))
  (.seq (sr F36r3
  (.block 0 (
    .loop (
      .seq (sr F36r4
      (cd 14
        (.skip)
        (.exit 0)))
      (.seq (.block 1 (
        .seq (.reg F36r5 (some [[], [], [0, 1], [2, 0, 1], [], [], [4, 5], [6, 4, 5], [3, 7, 2, 0, 1, 6, 4, 5]]))
        (cd 25
          (sr F36r6
          (.ret))
          (.skip))))
      (rg F36r7))))))
  (sr F36r8
  (.ret))))⟩
theorem F36_ok : cFunc Tryd.prog 36 = some F36 := by kernel_rfl
def F37r0 : RL := [oo 4 (.mov cF)]
def F37r1 : RL := [oo 6 (ms 0),
 oo 7 (.len false (.s 6)),
 oo 8 (ms 1),
 oo 9 (.len false (.s 8)),
 oo 10 (bi .neq (.s 7) (.s 9))]
def F37r2 : RL := [oo 4 (.mov cF)]
def F37r3 : RL := [oo 5 (.mov (ci 0))]
def F37r4 : RL := [oo 11 (ms 5),
 oo 12 (ms 0),
 oo 13 (.len false (.s 12)),
 oo 14 (bi .lss (.s 11) (.s 13))]
def F37r5 : RL := [oo 17 (ms 0),
 oo 18 (ms 5),
 oo 19 (.iad 6 (.s 17) (.s 18)),
 oo 20 (lq 6 19),
 oo 21 (ms 1),
 oo 22 (ms 5),
 oo 23 (.iad 6 (.s 21) (.s 22)),
 oo 24 (lq 6 23),
 oo 25 (.eqs true 6 [(0, .int), (1, .int), (2, .int), (3, .int), (4, .int), (5, .str)] (.s 20) (.s 24))]
def F37r6 : RL := [oo 4 (.mov cF)]
def F37r7 : RL := [oo 15 (ms 5),
 oo 16 (bi .add (.s 15) (ci 1)),
 oo 5 (ms 16)]
def F37r8 : RL := [oo 4 (.mov cT)]
def F37 : AFn := ⟨26, [.tmp 4],
  sr F37r0
  (.seq (sr F37r1
  (cd 10
    (sr F37r2
    (.ret))
    (.skip)))
  (.seq (sr F37r3
  (.block 0 (
    .loop (
      .seq (sr F37r4
      (cd 14
        (.skip)
        (.exit 0)))
      (.seq (.block 1 (
        .seq (.reg F37r5 (some [[], [], [0, 1], [2, 0, 1], [], [], [4, 5], [6, 4, 5], [3, 7, 2, 0, 1, 6, 4, 5]]))
        (cd 25
          (sr F37r6
          (.ret))
          (.skip))))
      (rg F37r7))))))
  (sr F37r8
  (.ret))))⟩
theorem F37_ok : cFunc Tryd.prog 37 = some F37 := by kernel_rfl
def F38r0 : RL := [oo 4 (.mov (ci 0))]
def F38r1 : RL := [oo 8 (ms 0),
 oo 9 (.len false (.s 8)),
 oo 10 (.mov (ci 0))]
def F38r2 : RL := [oo 11 (bi .lss (.s 10) (.s 9))]
def F38r3 : RL := [oo 12 (.iad 5 (.s 8) (.s 10)),
 oo 13 (lq 5 12),
 oo 6 (.new [zi 0, zi 0, zi 0, zi 0, zs]),
 ow (.store 5 (.s 6) (.s 13))]
def F38r4 : RL := [oo 14 (ms 1),
 oo 15 (lq 5 6),
 oo 16 (.call (.s 14) [.s 15]),
 oo 7 (ms 16)]
def F38r5 : RL := [oo 17 (ms 7),
 oo 18 (bi .neq (.s 17) (ci 0))]
def F38r6 : RL := [oo 19 (ms 7),
 oo 4 (ms 19)]
def F38r7 : RL := [oo 20 (bi .add (.s 10) (ci 1)),
 oo 10 (ms 20)]
def F38r8 : RL := [oo 4 (.mov (ci 0))]
def F38 : AFn := ⟨21, [.tmp 4],
  sr F38r0
  (.seq (sr F38r1
  (.block 0 (
    .loop (
      sr F38r2
      (.seq (cd 11
        (.skip)
        (.exit 0))
      (.seq (.block 1 (
        sr F38r3
        (sr F38r4
        (sr F38r5
        (cd 18
          (sr F38r6
          (.ret))
          (.skip))))))
      (rg F38r7)))))))
  (sr F38r8
  (.ret)))⟩
theorem F38_ok : cFunc Tryd.prog 38 = some F38 := by kernel_rfl
def F39r0 : RL := [oo 1 (.box 5 (.s 0)),
 oo 2 (.mov (ci 0))]
def F39r1 : RL := [oo 4 (fd 0 1),
 oo 5 (lq 2 4),
 oo 6 (cl 61 [.s 5]),
 oo 3 (ms 6)]
def F39r2 : RL := [oo 7 (ms 3),
 oo 8 (bi .eql (.s 7) (ci 0))]
def F39r3 : RL := [oo 9 (fd 2 1),
 oo 10 (lq 3 9),
 oo 11 (cl 62 [.s 10]),
 oo 3 (ms 11)]
def F39r4 : RL := [oo 12 (ms 3),
 oo 13 (bi .eql (.s 12) (ci 0)),
 oo 14 (ms 13),
 ot 15 (fd 0 1) 14,
 ot 16 (lq 2 15) 14,
 ot 17 (fd 2 1) 14,
 ot 18 (fd 0 17) 14,
 ot 19 (lq 2 18) 14,
 ot 20 (cl 23 [.s 16, .s 19]) 14,
 oo 21 (.pick (.s 14) (.s 20) cF)]
def F39r5 : RL := [oo 3 (.mov (ci 4))]
def F39r6 : RL := [oo 22 (ms 3),
 oo 2 (ms 22)]
def F39 : AFn := ⟨23, [.tmp 2],
  sr F39r0
  (sr F39r1
  (.seq (sr F39r2
  (cd 8
    (rg F39r3)
    (.skip)))
  (.seq (sr F39r4
  (cd 21
    (rg F39r5)
    (.skip)))
  (sr F39r6
  (.ret)))))⟩
theorem F39_ok : cFunc Tryd.prog 39 = some F39 := by kernel_rfl
def F40r0 : RL := [oo 4 (.mov (ci 0))]
def F40r1 : RL := [oo 8 (ms 0),
 oo 9 (.len false (.s 8)),
 oo 10 (.mov (ci 0))]
def F40r2 : RL := [oo 11 (bi .lss (.s 10) (.s 9))]
def F40r3 : RL := [oo 12 (.iad 8 (.s 8) (.s 10)),
 oo 13 (lq 8 12),
 oo 6 (.new [zi 0, zi 0, zs, zs, zi 0, zi 0, zs, .v (.int .u64 0)]),
 ow (.store 8 (.s 6) (.s 13))]
def F40r4 : RL := [oo 14 (ms 1),
 oo 15 (lq 8 6),
 oo 16 (.call (.s 14) [.s 15]),
 oo 7 (ms 16)]
def F40r5 : RL := [oo 17 (ms 7),
 oo 18 (bi .neq (.s 17) (ci 0))]
def F40r6 : RL := [oo 19 (ms 7),
 oo 4 (ms 19)]
def F40r7 : RL := [oo 20 (bi .add (.s 10) (ci 1)),
 oo 10 (ms 20)]
def F40r8 : RL := [oo 4 (.mov (ci 0))]
def F40 : AFn := ⟨21, [.tmp 4],
  sr F40r0
  (.seq (sr F40r1
  (.block 0 (
    .loop (
      sr F40r2
      (.seq (cd 11
        (.skip)
        (.exit 0))
      (.seq (.block 1 (
        sr F40r3
        (sr F40r4
        (sr F40r5
        (cd 18
          (sr F40r6
          (.ret))
          (.skip))))))
      (rg F40r7)))))))
  (sr F40r8
  (.ret)))⟩
theorem F40_ok : cFunc Tryd.prog 40 = some F40 := by kernel_rfl
def F41r0 : RL := [oo 2 (.box 8 (.s 0)),
 oo 3 (.mov (ci 0))]
def F41r1 : RL := [oo 4 (fd 0 1),
 oo 5 (lq 2 4),
 oo 6 (lq 8 2),
 oo 7 (cl 42 [.s 5, .s 6]),
 oo 3 (ms 7)]
def F41 : AFn := ⟨8, [.tmp 3],
  sr F41r0
  (sr F41r1
  (.ret))⟩
theorem F41_ok : cFunc Tryd.prog 41 = some F41 := by kernel_rfl
def F42r0 : RL := [oo 2 (.box 2 (.s 0)),
 oo 3 (.box 8 (.s 1)),
 oo 4 (.mov (ci 0))]
def F42r1 : RL := [oo 7 (fd 0 2),
 oo 8 (ld 7),
 oo 9 (fd 1 2),
 oo 10 (ld 9),
 oo 11 (cl 26 [.s 8, .s 10]),
 oo 5 (ms 11)]
def F42r2 : RL := [oo 12 (ms 5),
 oo 13 (bi .neq (.s 12) (ci 0))]
def F42r3 : RL := [oo 14 (ms 5),
 oo 4 (ms 14)]
def F42r4 : RL := [oo 16 (fd 0 3),
 oo 17 (ld 16),
 oo 18 (cl 63 [.s 17, ci 1, ci 1000000]),
 oo 19 (.un .not (.s 18)),
 oo 15 (ms 19)]
def F42r5 : RL := [oo 4 (.mov (ci 3))]
def F42r6 : RL := [oo 21 (fd 1 3),
 oo 22 (ld 21),
 oo 23 (cl 63 [.s 22, ci 1, ci 3]),
 oo 24 (.un .not (.s 23)),
 oo 20 (ms 24)]
def F42r7 : RL := [oo 4 (.mov (ci 7))]
def F42r8 : RL := [oo 26 (fd 2 3),
 oo 27 (ld 26),
 oo 28 (.len true (.s 27)),
 oo 29 (bi .gtr (.s 28) (ci 64)),
 oo 25 (ms 29)]
def F42r9 : RL := [oo 30 (fd 3 3),
 oo 31 (ld 30),
 oo 32 (.len true (.s 31)),
 oo 33 (bi .gtr (.s 32) (ci 64)),
 oo 25 (ms 33)]
def F42r10 : RL := [oo 4 (.mov (ci 2))]
def F42r11 : RL := [oo 34 (fd 4 3),
 oo 35 (lq 3 34),
 oo 36 (cl 62 [.s 35]),
 oo 6 (ms 36)]
def F42r12 : RL := [oo 37 (ms 6),
 oo 38 (bi .eql (.s 37) (ci 0)),
 oo 39 (ms 38),
 ot 40 (fd 7 3) 39,
 ot 41 (ld 40) 39,
 ot 42 (cl 64 [.s 41]) 39,
 ot 43 (fd 0 2) 39,
 ot 44 (ld 43) 39,
 ot 45 (.len false (.s 44)) 39,
 ot 46 (bi .gtr (.s 42) (.s 45)) 39,
 oo 47 (.pick (.s 39) (.s 46) cF)]
def F42r13 : RL := [oo 6 (.mov (ci 3))]
def F42r14 : RL := [oo 48 (ms 6),
 oo 4 (ms 48)]
def F42 : AFn := ⟨49, [.tmp 4],
  sr F42r0
  (.seq (sr F42r1
  (sr F42r2
  (cd 13
    (sr F42r3
    (.ret))
    (.skip))))
  (.seq (.block 0 (
    sr F42r4
    (cd 15
      (sr F42r5
      (.ret))
      (sr F42r6
      (cd 20
        (sr F42r7
        (.ret))
        (.seq (sr F42r8
        (cd 25
          (.skip)
          (rg F42r9)))
        (cd 25
          (sr F42r10
          (.ret))
          (.skip))))))))
  (sr F42r11
  (.seq (.seq (.reg F42r12 (some [[], [0], [1, 0], [2, 1, 0], [3, 2, 1, 0], [4, 2, 3, 1, 0], [2, 1, 0], [6, 2, 1, 0], [7, 2, 6, 1, 0], [5, 8, 2, 4, 3, 1, 0, 7, 6], [2, 9, 1, 0, 5, 8, 4, 3, 7, 6]]))
  (cd 47
    (rg F42r13)
    (.skip)))
  (sr F42r14
  (.ret))))))⟩
theorem F42_ok : cFunc Tryd.prog 42 = some F42 := by kernel_rfl
def F43r0 : RL := [oo 4 (.mov (ci 0))]
def F43r1 : RL := [oo 8 (ms 0),
 oo 9 (.len false (.s 8)),
 oo 10 (.mov (ci 0))]
def F43r2 : RL := [oo 11 (bi .lss (.s 10) (.s 9))]
def F43r3 : RL := [oo 12 (.iad 6 (.s 8) (.s 10)),
 oo 13 (lq 6 12),
 oo 6 (.new [zi 0, zi 0, zi 0, zi 0, zi 0, zs]),
 ow (.store 6 (.s 6) (.s 13))]
def F43r4 : RL := [oo 14 (ms 1),
 oo 15 (lq 6 6),
 oo 16 (.call (.s 14) [.s 15]),
 oo 7 (ms 16)]
def F43r5 : RL := [oo 17 (ms 7),
 oo 18 (bi .neq (.s 17) (ci 0))]
def F43r6 : RL := [oo 19 (ms 7),
 oo 4 (ms 19)]
def F43r7 : RL := [oo 20 (bi .add (.s 10) (ci 1)),
 oo 10 (ms 20)]
def F43r8 : RL := [oo 4 (.mov (ci 0))]
def F43 : AFn := ⟨21, [.tmp 4],
  sr F43r0
  (.seq (sr F43r1
  (.block 0 (
    .loop (
      sr F43r2
      (.seq (cd 11
        (.skip)
        (.exit 0))
      (.seq (.block 1 (
        sr F43r3
        (sr F43r4
        (sr F43r5
        (cd 18
          (sr F43r6
          (.ret))
          (.skip))))))
      (rg F43r7)))))))
  (sr F43r8
  (.ret)))⟩
theorem F43_ok : cFunc Tryd.prog 43 = some F43 := by kernel_rfl
def F44r0 : RL := [oo 2 (.box 6 (.s 0)),
 oo 3 (.mov (ci 0))]
def F44r1 : RL := [oo 5 (lq 6 2),
 oo 6 (cl 45 [.s 5]),
 oo 4 (ms 6)]
def F44r2 : RL := [oo 7 (ms 4),
 oo 8 (bi .eql (.s 7) (ci 0)),
 oo 9 (ms 8),
 ot 10 (fd 2 2) 9,
 ot 11 (ld 10) 9,
 ot 12 (fd 2 1) 9,
 ot 13 (ld 12) 9,
 ot 14 (.len false (.s 13)) 9,
 ot 15 (bi .geq (.s 11) (.s 14)) 9,
 ot 16 (ms 15) 9,
 on 17 (fd 1 2) 16,
 on 18 (ld 17) 16,
 on 19 (fd 3 1) 16,
 on 20 (ld 19) 16,
 on 21 (.len false (.s 20)) 16,
 on 22 (bi .geq (.s 18) (.s 21)) 16,
 ot 23 (.pick (.s 16) cT (.s 22)) 9,
 oo 24 (.pick (.s 9) (.s 23) cF)]
def F44r3 : RL := [oo 4 (.mov (ci 3))]
def F44r4 : RL := [oo 25 (ms 4),
 oo 3 (ms 25)]
def F44 : AFn := ⟨26, [.tmp 3],
  sr F44r0
  (sr F44r1
  (.seq (sr F44r2
  (cd 24
    (rg F44r3)
    (.skip)))
  (sr F44r4
  (.ret))))⟩
theorem F44_ok : cFunc Tryd.prog 44 = some F44 := by kernel_rfl
def F45r0 : RL := [oo 1 (.box 6 (.s 0)),
 oo 2 (.mov (ci 0))]
def F45r1 : RL := [oo 5 (fd 0 1),
 oo 6 (ld 5),
 oo 7 (cl 63 [.s 6, ci 1, ci 4]),
 oo 8 (.un .not (.s 7)),
 oo 4 (ms 8)]
def F45r2 : RL := [oo 2 (.mov (ci 7))]
def F45r3 : RL := [oo 10 (fd 1 1),
 oo 11 (ld 10),
 oo 12 (cl 65 [.s 11]),
 oo 13 (.un .not (.s 12)),
 oo 9 (ms 13)]
def F45r4 : RL := [oo 14 (fd 2 1),
 oo 15 (ld 14),
 oo 16 (cl 63 [.s 15, ci 0, ci 11]),
 oo 17 (.un .not (.s 16)),
 oo 9 (ms 17)]
def F45r5 : RL := [oo 2 (.mov (ci 3))]
def F45r6 : RL := [oo 18 (fd 3 1),
 oo 19 (lq 3 18),
 oo 20 (cl 62 [.s 19]),
 oo 3 (ms 20)]
def F45r7 : RL := [oo 21 (ms 3),
 oo 22 (bi .eql (.s 21) (ci 0)),
 oo 23 (ms 22),
 ot 24 (fd 3 1) 23,
 ot 25 (fd 2 24) 23,
 ot 26 (ld 25) 23,
 ot 27 (bi .neq (.s 26) (.c (zs))) 23,
 oo 28 (.pick (.s 23) (.s 27) cF),
 oo 29 (ms 28),
 ot 30 (fd 0 1) 29,
 ot 31 (ld 30) 29,
 ot 32 (bi .eql (.s 31) (ci 1)) 29,
 ot 33 (ms 32) 29,
 on 34 (fd 0 1) 33,
 on 35 (ld 34) 33,
 on 36 (bi .eql (.s 35) (ci 4)) 33,
 ot 37 (.pick (.s 33) cT (.s 36)) 29,
 oo 38 (.pick (.s 29) (.s 37) cF)]
def F45r8 : RL := [oo 3 (.mov (ci 1))]
def F45r9 : RL := [oo 39 (ms 3),
 oo 2 (ms 39)]
def F45 : AFn := ⟨40, [.tmp 2],
  sr F45r0
  (.seq (.block 0 (
    sr F45r1
    (cd 4
      (sr F45r2
      (.ret))
      (.seq (sr F45r3
      (cd 9
        (.skip)
        (rg F45r4)))
      (cd 9
        (sr F45r5
        (.ret))
        (.skip))))))
  (sr F45r6
  (.seq (sr F45r7
  (cd 38
    (rg F45r8)
    (.skip)))
  (sr F45r9
  (.ret)))))⟩
theorem F45_ok : cFunc Tryd.prog 45 = some F45 := by kernel_rfl
def F46r0 : RL := [oo 1 (.box 5 (.s 0)),
 oo 2 (.mov (ci 0))]
def F46r1 : RL := [oo 4 (fd 0 1),
 oo 5 (lq 2 4),
 oo 6 (cl 66 [.s 5]),
 oo 3 (ms 6)]
def F46r2 : RL := [oo 7 (ms 3),
 oo 8 (bi .neq (.s 7) (ci 0))]
def F46r3 : RL := [oo 9 (ms 3),
 oo 2 (ms 9)]
def F46r4 : RL := [oo 10 (fd 2 1),
 oo 11 (lq 3 10),
 oo 12 (cl 67 [.s 11]),
 oo 3 (ms 12)]
def F46r5 : RL := [oo 13 (ms 3),
 oo 14 (bi .neq (.s 13) (ci 0))]
def F46r6 : RL := [oo 15 (ms 3),
 oo 2 (ms 15)]
def F46r7 : RL := [oo 16 (fd 0 1),
 oo 17 (lq 2 16),
 oo 18 (fd 2 1),
 oo 19 (fd 0 18),
 oo 20 (lq 2 19),
 oo 21 (cl 57 [.s 17, .s 20])]
def F46r8 : RL := [oo 2 (.mov (ci 4))]
def F46r9 : RL := [oo 2 (.mov (ci 0))]
def F46 : AFn := ⟨22, [.tmp 2],
  sr F46r0
  (sr F46r1
  (.seq (sr F46r2
  (cd 8
    (sr F46r3
    (.ret))
    (.skip)))
  (sr F46r4
  (.seq (sr F46r5
  (cd 14
    (sr F46r6
    (.ret))
    (.skip)))
  (.seq (sr F46r7
  (cd 21
    (sr F46r8
    (.ret))
    (.skip)))
  (sr F46r9
  (.ret)))))))⟩
theorem F46_ok : cFunc Tryd.prog 46 = some F46 := by kernel_rfl
def F47r0 : RL := [oo 2 (.box 2 (.s 0)),
 oo 3 (.box 8 (.s 1)),
 oo 4 (.mov (ci 0))]
def F47r1 : RL := [oo 6 (fd 0 2),
 oo 7 (ld 6),
 oo 8 (fd 1 2),
 oo 9 (ld 8),
 oo 10 (cl 29 [.s 7, .s 9]),
 oo 5 (ms 10)]
def F47r2 : RL := [oo 11 (ms 5),
 oo 12 (bi .neq (.s 11) (ci 0))]
def F47r3 : RL := [oo 13 (ms 5),
 oo 4 (ms 13)]
def F47r4 : RL := [oo 14 (fd 0 3),
 oo 15 (ld 14),
 oo 16 (bi .lss (.s 15) (ci 1)),
 oo 17 (ms 16),
 on 18 (fd 0 3) 17,
 on 19 (ld 18) 17,
 on 20 (bi .gtr (.s 19) (ci 1000000)) 17,
 oo 21 (.pick (.s 17) cT (.s 20))]
def F47r5 : RL := [oo 4 (.mov (ci 3))]
def F47r6 : RL := [oo 22 (fd 1 3),
 oo 23 (ld 22),
 oo 24 (bi .lss (.s 23) (ci 1)),
 oo 25 (ms 24),
 on 26 (fd 1 3) 25,
 on 27 (ld 26) 25,
 on 28 (bi .gtr (.s 27) (ci 3)) 25,
 oo 29 (.pick (.s 25) cT (.s 28))]
def F47r7 : RL := [oo 4 (.mov (ci 7))]
def F47r8 : RL := [oo 30 (fd 2 3),
 oo 31 (ld 30),
 oo 32 (.len true (.s 31)),
 oo 33 (bi .gtr (.s 32) (ci 64)),
 oo 34 (ms 33),
 on 35 (fd 3 3) 34,
 on 36 (ld 35) 34,
 on 37 (.len true (.s 36)) 34,
 on 38 (bi .gtr (.s 37) (ci 64)) 34,
 oo 39 (.pick (.s 34) cT (.s 38))]
def F47r9 : RL := [oo 4 (.mov (ci 2))]
def F47r10 : RL := [oo 40 (fd 4 3),
 oo 41 (lq 3 40),
 oo 42 (cl 67 [.s 41]),
 oo 5 (ms 42)]
def F47r11 : RL := [oo 43 (ms 5),
 oo 44 (bi .neq (.s 43) (ci 0))]
def F47r12 : RL := [oo 45 (ms 5),
 oo 4 (ms 45)]
def F47r13 : RL := [oo 46 (fd 7 3),
 oo 47 (ld 46),
 oo 48 (fd 0 2),
 oo 49 (ld 48),
 oo 50 (.len false (.s 49)),
 oo 51 (bi .shl (.c (.v (.int .u64 1))) (.s 50)),
 oo 52 (bi .geq (.s 47) (.s 51))]
def F47r14 : RL := [oo 4 (.mov (ci 3))]
def F47r15 : RL := [oo 4 (.mov (ci 0))]
def F47 : AFn := ⟨53, [.tmp 4],
  sr F47r0
  (sr F47r1
  (.seq (sr F47r2
  (cd 12
    (sr F47r3
    (.ret))
    (.skip)))
  (.seq (sr F47r4
  (cd 21
    (sr F47r5
    (.ret))
    (.skip)))
  (.seq (sr F47r6
  (cd 29
    (sr F47r7
    (.ret))
    (.skip)))
  (.seq (sr F47r8
  (cd 39
    (sr F47r9
    (.ret))
    (.skip)))
  (sr F47r10
  (.seq (sr F47r11
  (cd 44
    (sr F47r12
    (.ret))
    (.skip)))
  (.seq (.seq (.reg F47r13 (some [[], [0], [], [2], [3, 2], [4, 3, 2], [1, 5, 0, 4, 3, 2]]))
  (cd 52
    (sr F47r14
    (.ret))
    (.skip)))
  (sr F47r15
  (.ret))))))))))⟩
theorem F47_ok : cFunc Tryd.prog 47 = some F47 := by kernel_rfl
def F48r0 : RL := [oo 1 (.box 6 (.s 0)),
 oo 2 (.mov (ci 0))]
def F48r1 : RL := [oo 4 (fd 0 1),
 oo 5 (ld 4),
 oo 6 (bi .lss (.s 5) (ci 1)),
 oo 7 (ms 6),
 on 8 (fd 0 1) 7,
 on 9 (ld 8) 7,
 on 10 (bi .gtr (.s 9) (ci 4)) 7,
 oo 11 (.pick (.s 7) cT (.s 10))]
def F48r2 : RL := [oo 2 (.mov (ci 7))]
def F48r3 : RL := [oo 12 (fd 1 1),
 oo 13 (ld 12),
 oo 14 (bi .lss (.s 13) (ci 0)),
 oo 15 (ms 14),
 on 16 (fd 1 1) 15,
 on 17 (ld 16) 15,
 on 18 (bi .gtr (.s 17) (ci 30)) 15,
 oo 19 (.pick (.s 15) cT (.s 18)),
 oo 20 (ms 19),
 on 21 (fd 2 1) 20,
 on 22 (ld 21) 20,
 on 23 (bi .lss (.s 22) (ci 0)) 20,
 oo 24 (.pick (.s 20) cT (.s 23)),
 oo 25 (ms 24),
 on 26 (fd 2 1) 25,
 on 27 (ld 26) 25,
 on 28 (bi .gtr (.s 27) (ci 11)) 25,
 oo 29 (.pick (.s 25) cT (.s 28))]
def F48r4 : RL := [oo 2 (.mov (ci 3))]
def F48r5 : RL := [oo 30 (fd 3 1),
 oo 31 (lq 3 30),
 oo 32 (cl 67 [.s 31]),
 oo 3 (ms 32)]
def F48r6 : RL := [oo 33 (ms 3),
 oo 34 (bi .neq (.s 33) (ci 0))]
def F48r7 : RL := [oo 35 (ms 3),
 oo 2 (ms 35)]
def F48r8 : RL := [oo 36 (fd 3 1),
 oo 37 (fd 2 36),
 oo 38 (ld 37),
 oo 39 (.len true (.s 38)),
 oo 40 (bi .gtr (.s 39) (ci 0)),
 oo 41 (ms 40),
 ot 42 (fd 0 1) 41,
 ot 43 (ld 42) 41,
 ot 44 (bi .neq (.s 43) (ci 2)) 41,
 oo 45 (.pick (.s 41) (.s 44) cF),
 oo 46 (ms 45),
 ot 47 (fd 0 1) 46,
 ot 48 (ld 47) 46,
 ot 49 (bi .neq (.s 48) (ci 3)) 46,
 oo 50 (.pick (.s 46) (.s 49) cF)]
def F48r9 : RL := [oo 2 (.mov (ci 1))]
def F48r10 : RL := [oo 2 (.mov (ci 0))]
def F48 : AFn := ⟨51, [.tmp 2],
  sr F48r0
  (.seq (sr F48r1
  (cd 11
    (sr F48r2
    (.ret))
    (.skip)))
  (.seq (sr F48r3
  (cd 29
    (sr F48r4
    (.ret))
    (.skip)))
  (sr F48r5
  (.seq (sr F48r6
  (cd 34
    (sr F48r7
    (.ret))
    (.skip)))
  (.seq (sr F48r8
  (cd 50
    (sr F48r9
    (.ret))
    (.skip)))
  (sr F48r10
  (.ret)))))))⟩
theorem F48_ok : cFunc Tryd.prog 48 = some F48 := by kernel_rfl
def F49r0 : RL := [oo 1 (.box 5 (.s 0)),
 oo 2 (.new [.emp, zi 0, .emp, .emp, .emp])]
def F49r1 : RL := [oo 3 (fd 0 1),
 oo 4 (fd 0 3),
 oo 5 (ld 4),
 oo 6 (cl 27 [.s 5]),
 oo 7 (fd 0 1),
 oo 8 (fd 1 7),
 oo 9 (ld 8),
 oo 10 (.agg [.emp, zi 0] [(0, (1, .s 6)), (1, (1, .s 9))]),
 oo 11 (fd 2 1),
 oo 12 (ld 11),
 oo 13 (cl 68 [.s 12]),
 oo 14 (fd 3 1),
 oo 15 (ld 14),
 oo 16 (cl 69 [.s 15]),
 oo 17 (fd 4 1),
 oo 18 (ld 17),
 oo 19 (cl 70 [.s 18]),
 oo 20 (.agg [.emp, zi 0, .emp, .emp, .emp] [(0, (2, .s 10)), (2, (1, .s 13)), (3, (1, .s 16)), (4, (1, .s 19))]),
 ow (.store 5 (.s 2) (.s 20))]
def F49 : AFn := ⟨21, [.cell 2 (some 5)],
  sr F49r0
  (.seq (.reg F49r1 (some [[], [0], [1, 0], [2, 1, 0], [], [4], [5, 4], [3, 6, 2, 1, 0, 5, 4], [], [8], [9, 3, 8, 2, 1, 0], [], [11], [12, 10, 11, 9, 3, 8, 2, 1, 0], [], [14], [15, 13, 14, 12, 10, 11, 9, 3, 8, 2, 1, 0], [7, 10, 13, 16, 3, 6, 2, 1, 0, 5, 4, 9, 8, 12, 11, 15, 14], [17, 16, 0, 1, 2, 3, 4, 5, 6, 7, 8, 9, 10, 11, 12, 13, 14, 15]]))
  (.ret))⟩
theorem F49_ok : cFunc Tryd.prog 49 = some F49 := by kernel_rfl
def F50r0 : RL := [oo 2 (.box 2 (.s 0)),
 oo 3 (.box 2 (.s 1)),
 oo 4 (.mov (ci 0))]
def F50r1 : RL := [oo 5 (fd 0 2),
 oo 6 (ld 5),
 oo 7 (fd 0 3),
 oo 8 (ld 7),
 oo 9 (cl 72 [.s 6, .s 8]),
 oo 10 (fd 1 2),
 oo 11 (ld 10),
 oo 12 (fd 1 3),
 oo 13 (ld 12),
 oo 14 (cl 72 [.s 11, .s 13]),
 oo 15 (.bsl 1 2 [zi 0] [(0, .s 9), (1, .s 14)]),
 oo 16 (cl 71 [.s 15]),
 oo 4 (ms 16)]
def F50 : AFn := ⟨17, [.tmp 4],
  sr F50r0
  (.seq (.reg F50r1 (some [[], [0], [], [2], [1, 3, 0, 2], [], [5], [], [7], [6, 8, 4, 5, 7, 1, 3, 0, 2], [4, 9, 1, 3, 0, 2, 6, 8, 5, 7], [10, 9, 4, 1, 3, 0, 2, 6, 8, 5, 7], [11, 0, 1, 2, 3, 4, 5, 6, 7, 8, 9, 10]]))
  (.ret))⟩
theorem F50_ok : cFunc Tryd.prog 50 = some F50 := by kernel_rfl
def F52r0 : RL := [oo 4 (.mov (ci 0)),
 oo 5 (.mov (ci 0))]
def F52r1 : RL := [oo 9 (ms 0),
 oo 10 (cl 53 [.s 9]),
 oo 8 (ms 10),
 oo 11 (.ext 0 (.s 8)),
 oo 12 (.ext 1 (.s 8)),
 oo 6 (ms 11),
 oo 7 (ms 12)]
def F52r2 : RL := [oo 13 (ms 7),
 oo 14 (bi .neq (.s 13) (ci 0))]
def F52r3 : RL := [oo 15 (ms 7),
 oo 4 (.mov (ci 0)),
 oo 5 (ms 15)]
def F52r4 : RL := [oo 16 (ms 1),
 oo 17 (cl 64 [.s 16]),
 oo 18 (ms 0),
 oo 19 (.len false (.s 18)),
 oo 20 (bi .gtr (.s 17) (.s 19))]
def F52r5 : RL := [oo 4 (.mov (ci 0)),
 oo 5 (.mov (ci 3))]
def F52r6 : RL := [oo 21 (ms 1),
 oo 22 (bi .neq (.s 21) (.c (.v (.int .u64 0))))]
def F52r7 : RL := [oo 27 (ms 4),
 oo 28 (ms 0),
 oo 29 (ms 1),
 oo 30 (cl 73 [.s 29]),
 oo 31 (.iad 1 (.s 28) (.s 30)),
 oo 32 (ld 31),
 oo 33 (bi .add (.s 27) (.s 32)),
 oo 4 (ms 33)]
def F52r8 : RL := [oo 23 (ms 1),
 oo 24 (ms 1),
 oo 25 (bi .sub (.s 24) (.c (.v (.int .u64 1)))),
 oo 26 (bi .and (.s 23) (.s 25)),
 oo 1 (ms 26)]
def F52r9 : RL := [oo 34 (ms 4),
 oo 4 (ms 34),
 oo 5 (.mov (ci 0))]
def F52 : AFn := ⟨35, [.tmp 4, .tmp 5],
  sr F52r0
  (.seq (sr F52r1
  (sr F52r2
  (cd 14
    (sr F52r3
    (.ret))
    (.skip))))
  (.seq (sr F52r4
  (cd 20
    (sr F52r5
    (.ret))
    (.skip)))
  (.seq (.block 0 (
    .loop (
      .seq (sr F52r6
      (cd 22
        (.skip)
        (.exit 0)))
      (.seq (.block 1 (
        rg F52r7))
      (rg F52r8)))))
  (sr F52r9
  (.ret)))))⟩
theorem F52_ok : cFunc Tryd.prog 52 = some F52 := by kernel_rfl
def F53r0 : RL := [oo 2 (.mov (ci 0)),
 oo 3 (.mov (ci 0))]
def F53r1 : RL := [oo 7 (ms 0),
 oo 8 (.len false (.s 7)),
 oo 9 (bi .eql (.s 8) (ci 0)),
 oo 6 (ms 9)]
def F53r2 : RL := [oo 2 (.mov (ci 0)),
 oo 3 (.mov (ci 8))]
def F53r3 : RL := [oo 11 (ms 0),
 oo 12 (.len false (.s 11)),
 oo 13 (bi .gtr (.s 12) (ci 12)),
 oo 10 (ms 13)]
def F53r4 : RL := [oo 2 (.mov (ci 0)),
 oo 3 (.mov (ci 2))]
def F53r5 : RL := [oo 14 (ms 0),
 oo 15 (.len false (.s 14)),
 oo 16 (.mov (ci 0))]
def F53r6 : RL := [oo 17 (bi .lss (.s 16) (.s 15))]
def F53r7 : RL := [oo 18 (.iad 1 (.s 14) (.s 16)),
 oo 19 (ld 18),
 oo 5 (ms 19)]
def F53r8 : RL := [oo 20 (ms 5),
 oo 21 (bi .lss (.s 20) (ci 0)),
 oo 22 (ms 21),
 on 23 (ms 5) 22,
 on 24 (bi .gtr (.s 23) (ci 100)) 22,
 oo 25 (.pick (.s 22) cT (.s 24))]
def F53r9 : RL := [oo 2 (.mov (ci 0)),
 oo 3 (.mov (ci 3))]
def F53r10 : RL := [oo 26 (ms 2),
 oo 27 (ms 5),
 oo 28 (bi .add (.s 26) (.s 27)),
 oo 2 (ms 28)]
def F53r11 : RL := [oo 29 (bi .add (.s 16) (ci 1)),
 oo 16 (ms 29)]
def F53r12 : RL := [oo 30 (ms 2),
 oo 2 (ms 30),
 oo 3 (.mov (ci 0))]
def F53 : AFn := ⟨31, [.tmp 2, .tmp 3],
  sr F53r0
  (.seq (.block 0 (
    sr F53r1
    (cd 6
      (sr F53r2
      (.ret))
      (sr F53r3
      (cd 10
        (sr F53r4
        (.ret))
        (.skip))))))
  (.seq (sr F53r5
  (.block 1 (
    .loop (
      sr F53r6
      (.seq (cd 17
        (.skip)
        (.exit 1))
      (.seq (.block 2 (
        sr F53r7
        (.seq (sr F53r8
        (cd 25
          (sr F53r9
          (.ret))
          (.skip)))
        (rg F53r10))))
      (rg F53r11)))))))
  (sr F53r12
  (.ret))))⟩
theorem F53_ok : cFunc Tryd.prog 53 = some F53 := by kernel_rfl
def F54r0 : RL := [oo 2 (.box 1 (.s 0)),
 oo 3 (.box 3 (.s 1)),
 oo 4 (.mov (.c (.v .nilFunc)))]
def F54r1 : RL := [oo 5 (.mkm),
 oo 6 (.mkf 74 [.s 2, .s 3]),
 ow (.mup .int (.s 5) (ci 6) (.s 6)),
 oo 7 (.mkf 76 [.s 2, .s 3]),
 ow (.mup .int (.s 5) (ci 3) (.s 7)),
 oo 8 (.mkf 79 [.s 2, .s 3]),
 ow (.mup .int (.s 5) (ci 4) (.s 8)),
 oo 9 (.mkf 80 [.s 2, .s 3]),
 ow (.mup .int (.s 5) (ci 5) (.s 9)),
 oo 10 (ms 5),
 oo 11 (fd 0 3),
 oo 12 (ld 11),
 oo 13 (.mlk .int (.v .nilFunc) (.s 10) (.s 12)),
 oo 4 (ms 13)]
def F54 : AFn := ⟨14, [.tmp 4],
  sr F54r0
  (sr F54r1
  (.ret))⟩
theorem F54_ok : cFunc Tryd.prog 54 = some F54 := by kernel_rfl
def F55r0 : RL := [oo 2 (.mov (ci 0)),
 oo 3 (.mov (ci 0))]
def F55r1 : RL := [oo 6 (ms 0),
 oo 7 (.len false (.s 6)),
 oo 8 (bi .eql (.s 7) (ci 0))]
def F55r2 : RL := [oo 2 (.mov (ci 0)),
 oo 3 (.mov (ci 8))]
def F55r3 : RL := [oo 9 (ms 0),
 oo 10 (.len false (.s 9)),
 oo 11 (bi .gtr (.s 10) (ci 12))]
def F55r4 : RL := [oo 2 (.mov (ci 0)),
 oo 3 (.mov (ci 2))]
def F55r5 : RL := [oo 4 (.mov (ci 0))]
def F55r6 : RL := [oo 5 (.mov (ci 0))]
def F55r7 : RL := [oo 12 (ms 5),
 oo 13 (ms 0),
 oo 14 (.len false (.s 13)),
 oo 15 (bi .lss (.s 12) (.s 14))]
def F55r8 : RL := [oo 18 (ms 0),
 oo 19 (ms 5),
 oo 20 (.iad 1 (.s 18) (.s 19)),
 oo 21 (ld 20),
 oo 22 (bi .lss (.s 21) (ci 0)),
 oo 23 (ms 22),
 on 24 (ms 0) 23,
 on 25 (ms 5) 23,
 on 26 (.iad 1 (.s 24) (.s 25)) 23,
 on 27 (ld 26) 23,
 on 28 (bi .gtr (.s 27) (ci 100)) 23,
 oo 29 (.pick (.s 23) cT (.s 28))]
def F55r9 : RL := [oo 2 (.mov (ci 0)),
 oo 3 (.mov (ci 3))]
def F55r10 : RL := [oo 30 (ms 4),
 oo 31 (ms 0),
 oo 32 (ms 5),
 oo 33 (.iad 1 (.s 31) (.s 32)),
 oo 34 (ld 33),
 oo 35 (bi .add (.s 30) (.s 34)),
 oo 4 (ms 35)]
def F55r11 : RL := [oo 16 (ms 5),
 oo 17 (bi .add (.s 16) (ci 1)),
 oo 5 (ms 17)]
def F55r12 : RL := [oo 36 (ms 4),
 oo 2 (ms 36),
 oo 3 (.mov (ci 0))]
def F55 : AFn := ⟨37, [.tmp 2, .tmp 3],
  sr F55r0
  (.seq (sr F55r1
  (cd 8
    (sr F55r2
    (.ret))
    (.skip)))
  (.seq (sr F55r3
  (cd 11
    (sr F55r4
    (.ret))
    (.skip)))
  (sr F55r5
  (.seq (sr F55r6
  (.block 0 (
    .loop (
      .seq (sr F55r7
      (cd 15
        (.skip)
        (.exit 0)))
      (.seq (.block 1 (
        .seq (sr F55r8
        (cd 29
          (sr F55r9
          (.ret))
          (.skip)))
        (rg F55r10)))
      (rg F55r11))))))
  (sr F55r12
  (.ret))))))⟩
theorem F55_ok : cFunc Tryd.prog 55 = some F55 := by kernel_rfl
def F56r0 : RL := [oo 3 (.box 6 (.s 1)),
 oo 4 (.mov (.c .emp))]
def F56r1 : RL := [oo 5 (.mov (.c .emp))]
def F56r2 : RL := [oo 6 (.mov (ci 0))]
def F56r3 : RL := [oo 7 (ms 6),
 oo 8 (ms 0),
 oo 9 (bi .lss (.s 7) (.s 8))]
def F56r4 : RL := [oo 12 (ms 6),
 oo 13 (fd 2 3),
 ow (.store 1 (.s 13) (.s 12))]
def F56r5 : RL := [oo 14 (ms 5),
 oo 15 (lq 6 3),
 oo 16 (.bsl 6 1 [zi 0, zi 0, zi 0, zi 0, zi 0, zs] [(0, .s 15)]),
 oo 17 (.app 6 56 (.s 14) (.s 16)),
 oo 5 (ms 17)]
def F56r6 : RL := [oo 10 (ms 6),
 oo 11 (bi .add (.s 10) (ci 1)),
 oo 6 (ms 11)]
def F56r7 : RL := [oo 18 (ms 5),
 oo 4 (ms 18)]
def F56 : AFn := ⟨19, [.tmp 4],
  sr F56r0
  (sr F56r1
  (.seq (sr F56r2
  (.block 0 (
    .loop (
      .seq (sr F56r3
      (cd 9
        (.skip)
        (.exit 0)))
      (.seq (.block 1 (
        sr F56r4
        (rg F56r5)))
      (rg F56r6))))))
  (sr F56r7
  (.ret))))⟩
theorem F56_ok : cFunc Tryd.prog 56 = some F56 := by kernel_rfl
def F57r0 : RL := [oo 2 (.box 2 (.s 0)),
 oo 3 (.box 2 (.s 1)),
 oo 4 (.mov cF)]
def F57r1 : RL := [oo 5 (fd 0 2),
 oo 6 (ld 5),
 oo 7 (fd 0 3),
 oo 8 (ld 7),
 oo 9 (bi .eql (.s 6) (.s 8))]
def F57r2 : RL := [oo 10 (fd 1 2),
 oo 11 (ld 10),
 oo 12 (fd 1 3),
 oo 13 (ld 12),
 oo 14 (bi .lss (.s 11) (.s 13)),
 oo 4 (ms 14)]
def F57r3 : RL := [oo 15 (fd 0 2),
 oo 16 (ld 15),
 oo 17 (fd 0 3),
 oo 18 (ld 17),
 oo 19 (bi .lss (.s 16) (.s 18)),
 oo 4 (ms 19)]
def F57 : AFn := ⟨20, [.tmp 4],
  sr F57r0
  (.seq (sr F57r1
  (cd 9
    (sr F57r2
    (.ret))
    (.skip)))
  (sr F57r3
  (.ret)))⟩
theorem F57_ok : cFunc Tryd.prog 57 = some F57 := by kernel_rfl
def F58r0 : RL := [oo 4 (.mov cF)]
def F58r1 : RL := [oo 5 (ms 0),
 oo 6 (ms 1),
 oo 7 (bi .shr (.s 5) (.s 6)),
 oo 8 (bi .rem (.s 7) (.c (.v (.int .u64 2)))),
 oo 9 (bi .eql (.s 8) (.c (.v (.int .u64 1)))),
 oo 4 (ms 9)]
def F58 : AFn := ⟨10, [.tmp 4],
  sr F58r0
  (sr F58r1
  (.ret))⟩
theorem F58_ok : cFunc Tryd.prog 58 = some F58 := by kernel_rfl
def F59r0 : RL := [oo 2 (.new [zi 0, zi 0, zs]),
 oo 3 (.mov (ci 0))]
def F59r1 : RL := [oo 9 (ms 0),
 oo 10 (.len false (.s 9)),
 oo 11 (bi .gtr (.s 10) (ci 12))]
def F59r2 : RL := [oo 12 (.agg [zi 0, zi 0, zs] []),
 ow (.store 3 (.s 2) (.s 12)),
 oo 3 (.mov (ci 2))]
def F59r3 : RL := [oo 4 (.mov (ci 0))]
def F59r4 : RL := [oo 13 (ms 4),
 oo 14 (ms 0),
 oo 15 (.len false (.s 14)),
 oo 16 (bi .lss (.s 13) (.s 15))]
def F59r5 : RL := [oo 19 (ms 0),
 oo 20 (ms 4),
 oo 21 (.iad 3 (.s 19) (.s 20)),
 oo 22 (lq 3 21),
 oo 23 (cl 67 [.s 22]),
 oo 5 (ms 23)]
def F59r6 : RL := [oo 24 (ms 5),
 oo 25 (bi .neq (.s 24) (ci 0))]
def F59r7 : RL := [oo 26 (.agg [zi 0, zi 0, zs] []),
 oo 27 (ms 5),
 ow (.store 3 (.s 2) (.s 26)),
 oo 3 (ms 27)]
def F59r8 : RL := [oo 17 (ms 4),
 oo 18 (bi .add (.s 17) (ci 1)),
 oo 4 (ms 18)]
def F59r9 : RL := [oo 6 (.mov (ci 0))]
def F59r10 : RL := [oo 28 (ms 6),
 oo 29 (ms 0),
 oo 30 (.len false (.s 29)),
 oo 31 (bi .lss (.s 28) (.s 30))]
def F59r11 : RL := [oo 7 (.mov cF)]
def F59r12 : RL := [oo 8 (.mov (ci 0))]
def F59r13 : RL := [oo 34 (ms 8),
 oo 35 (ms 0),
 oo 36 (.len false (.s 35)),
 oo 37 (bi .lss (.s 34) (.s 36))]
def F59r14 : RL := [oo 40 (ms 7),
 oo 41 (ms 40),
 on 42 (ms 0) 41,
 on 43 (ms 6) 41,
 on 44 (.iad 3 (.s 42) (.s 43)) 41,
 on 45 (fd 0 44) 41,
 on 46 (lq 2 45) 41,
 on 47 (ms 0) 41,
 on 48 (ms 8) 41,
 on 49 (.iad 3 (.s 47) (.s 48)) 41,
 on 50 (fd 0 49) 41,
 on 51 (lq 2 50) 41,
 on 52 (cl 57 [.s 46, .s 51]) 41,
 oo 53 (.pick (.s 41) cT (.s 52)),
 oo 7 (ms 53)]
def F59r15 : RL := [oo 38 (ms 8),
 oo 39 (bi .add (.s 38) (ci 1)),
 oo 8 (ms 39)]
def F59r16 : RL := [oo 54 (ms 7),
 oo 55 (.un .not (.s 54))]
def F59r17 : RL := [oo 56 (ms 0),
 oo 57 (ms 6),
 oo 58 (.iad 3 (.s 56) (.s 57)),
 oo 59 (lq 3 58),
 ow (.store 3 (.s 2) (.s 59)),
 oo 3 (.mov (ci 0))]
def F59r18 : RL := [oo 32 (ms 6),
 oo 33 (bi .add (.s 32) (ci 1)),
 oo 6 (ms 33)]
def F59r19 : RL := [oo 60 (.agg [zi 0, zi 0, zs] []),
 ow (.store 3 (.s 2) (.s 60)),
 oo 3 (.mov (ci 0))]
def F59 : AFn := ⟨61, [.cell 2 (some 3), .tmp 3],
  sr F59r0
  (.seq (sr F59r1
  (cd 11
    (sr F59r2
    (.ret))
    (.skip)))
  (.seq (sr F59r3
  (.block 0 (
    .loop (
      .seq (sr F59r4
      (cd 16
        (.skip)
        (.exit 0)))
      (.seq (.block 1 (
        sr F59r5
        (sr F59r6
        (cd 25
          (sr F59r7
          (.ret))
          (.skip)))))
      (rg F59r8))))))
  (.seq (sr F59r9
  (.block 2 (
    .loop (
      .seq (sr F59r10
      (cd 31
        (.skip)
        (.exit 2)))
      (.seq (.block 3 (
        sr F59r11
        (.seq (sr F59r12
        (.block 4 (
          .loop (
            .seq (sr F59r13
            (cd 37
              (.skip)
              (.exit 4)))
            (.seq (.block 5 (
              .reg F59r14 (some [[], [0], [1, 0], [1, 0], [2, 3, 1, 0], [4, 1, 2, 3, 0], [5, 1, 4, 2, 3, 0], [1, 0], [1, 0], [7, 8, 1, 0], [9, 1, 7, 8, 0], [10, 1, 9, 7, 8, 0], [6, 11, 1, 5, 4, 2, 3, 0, 10, 9, 7, 8], [1, 12, 0, 6, 11, 5, 4, 2, 3, 10, 9, 7, 8], [13, 12, 0, 1, 2, 3, 4, 5, 6, 7, 8, 9, 10, 11]])))
            (rg F59r15))))))
        (sr F59r16
        (cd 55
          (sr F59r17
          (.ret))
          (.skip))))))
      (rg F59r18))))))
  (sr F59r19
  (.ret)))))⟩
theorem F59_ok : cFunc Tryd.prog 59 = some F59 := by kernel_rfl
def F60r0 : RL := [oo 4 (.mov (ci 0))]
def F60r1 : RL := [oo 5 (.mov (ci 0))]
def F60r2 : RL := [oo 6 (.mov (ci 0))]
def F60r3 : RL := [oo 7 (ms 6),
 oo 8 (ms 0),
 oo 9 (.len false (.s 8)),
 oo 10 (bi .lss (.s 7) (.s 9))]
def F60r4 : RL := [oo 13 (ms 1),
 oo 14 (ms 6),
 oo 15 (cl 58 [.s 13, .s 14])]
def F60r5 : RL := [oo 16 (ms 5),
 oo 17 (ms 0),
 oo 18 (ms 6),
 oo 19 (.iad 1 (.s 17) (.s 18)),
 oo 20 (ld 19),
 oo 21 (bi .add (.s 16) (.s 20)),
 oo 5 (ms 21)]
def F60r6 : RL := [oo 11 (ms 6),
 oo 12 (bi .add (.s 11) (ci 1)),
 oo 6 (ms 12)]
def F60r7 : RL := [oo 22 (ms 5),
 oo 4 (ms 22)]
def F60 : AFn := ⟨23, [.tmp 4],
  sr F60r0
  (sr F60r1
  (.seq (sr F60r2
  (.block 0 (
    .loop (
      .seq (sr F60r3
      (cd 10
        (.skip)
        (.exit 0)))
      (.seq (.block 1 (
        sr F60r4
        (cd 15
          (rg F60r5)
          (.skip))))
      (rg F60r6))))))
  (sr F60r7
  (.ret))))⟩
theorem F60_ok : cFunc Tryd.prog 60 = some F60 := by kernel_rfl
def F61r0 : RL := [oo 1 (.box 2 (.s 0)),
 oo 2 (.mov (ci 0))]
def F61r1 : RL := [oo 3 (fd 0 1),
 oo 4 (ld 3),
 oo 5 (bi .lss (.s 4) (ci 0)),
 oo 6 (ms 5),
 on 7 (fd 0 1) 6,
 on 8 (ld 7) 6,
 on 9 (bi .gtr (.s 8) (ci 1000000)) 6,
 oo 10 (.pick (.s 6) cT (.s 9)),
 oo 11 (ms 10),
 on 12 (fd 1 1) 11,
 on 13 (ld 12) 11,
 on 14 (cl 82 [.s 13]) 11,
 on 15 (.un .not (.s 14)) 11,
 oo 16 (.pick (.s 11) cT (.s 15))]
def F61r2 : RL := [oo 2 (.mov (ci 3))]
def F61r3 : RL := [oo 2 (.mov (ci 0))]
def F61 : AFn := ⟨17, [.tmp 2],
  sr F61r0
  (.seq (sr F61r1
  (cd 16
    (sr F61r2
    (.ret))
    (.skip)))
  (sr F61r3
  (.ret)))⟩
theorem F61_ok : cFunc Tryd.prog 61 = some F61 := by kernel_rfl
def F62r0 : RL := [oo 1 (.box 3 (.s 0)),
 oo 2 (.mov (ci 0))]
def F62r1 : RL := [oo 4 (fd 0 1),
 oo 5 (lq 2 4),
 oo 6 (cl 61 [.s 5]),
 oo 3 (ms 6)]
def F62r2 : RL := [oo 7 (ms 3),
 oo 8 (bi .eql (.s 7) (ci 0)),
 oo 9 (ms 8),
 ot 10 (fd 2 1) 9,
 ot 11 (ld 10) 9,
 ot 12 (.len true (.s 11)) 9,
 ot 13 (bi .gtr (.s 12) (ci 64)) 9,
 oo 14 (.pick (.s 9) (.s 13) cF)]
def F62r3 : RL := [oo 3 (.mov (ci 2))]
def F62r4 : RL := [oo 15 (ms 3),
 oo 2 (ms 15)]
def F62 : AFn := ⟨16, [.tmp 2],
  sr F62r0
  (sr F62r1
  (.seq (sr F62r2
  (cd 14
    (rg F62r3)
    (.skip)))
  (sr F62r4
  (.ret))))⟩
theorem F62_ok : cFunc Tryd.prog 62 = some F62 := by kernel_rfl
def F63r0 : RL := [oo 6 (.mov cF)]
def F63r1 : RL := [oo 7 (ms 0),
 oo 8 (ms 1),
 oo 9 (bi .geq (.s 7) (.s 8)),
 oo 10 (ms 9),
 ot 11 (ms 0) 10,
 ot 12 (ms 2) 10,
 ot 13 (bi .leq (.s 11) (.s 12)) 10,
 oo 14 (.pick (.s 10) (.s 13) cF),
 oo 6 (ms 14)]
def F63 : AFn := ⟨15, [.tmp 6],
  sr F63r0
  (sr F63r1
  (.ret))⟩
theorem F63_ok : cFunc Tryd.prog 63 = some F63 := by kernel_rfl
def F64r0 : RL := [oo 2 (.mov (ci 0))]
def F64r1 : RL := [oo 3 (ms 0),
 oo 4 (bi .geq (.s 3) (.c (.v (.int .u64 4294967296))))]
def F64r2 : RL := [oo 5 (ms 0),
 oo 6 (bi .shr (.s 5) (.c (.v (.int .u64 32)))),
 oo 0 (ms 6)]
def F64r3 : RL := [oo 2 (.mov (ci 32))]
def F64r4 : RL := [oo 7 (ms 0),
 oo 8 (bi .geq (.s 7) (.c (.v (.int .u64 65536))))]
def F64r5 : RL := [oo 9 (ms 0),
 oo 10 (bi .shr (.s 9) (.c (.v (.int .u64 16)))),
 oo 0 (ms 10)]
def F64r6 : RL := [oo 11 (ms 2),
 oo 12 (bi .add (.s 11) (ci 16)),
 oo 2 (ms 12)]
def F64r7 : RL := [oo 13 (ms 0),
 oo 14 (bi .geq (.s 13) (.c (.v (.int .u64 256))))]
def F64r8 : RL := [oo 15 (ms 0),
 oo 16 (bi .shr (.s 15) (.c (.v (.int .u64 8)))),
 oo 0 (ms 16)]
def F64r9 : RL := [oo 17 (ms 2),
 oo 18 (bi .add (.s 17) (ci 8)),
 oo 2 (ms 18)]
def F64r10 : RL := [oo 19 (ms 2),
 oo 20 (ms 0),
 oo 21 (.conv .u8 (.s 20)),
 oo 22 (.six (.c (.v (.string ⟨#[0, 1, 2, 2, 3, 3, 3, 3, 4, 4, 4, 4, 4, 4, 4, 4, 5, 5, 5, 5, 5, 5, 5, 5, 5, 5, 5, 5, 5, 5, 5, 5, 6, 6, 6, 6, 6, 6, 6, 6, 6, 6, 6, 6, 6, 6, 6, 6, 6, 6, 6, 6, 6, 6, 6, 6, 6, 6, 6, 6, 6, 6, 6, 6, 7, 7, 7, 7, 7, 7, 7, 7, 7, 7, 7, 7, 7, 7, 7, 7, 7, 7, 7, 7, 7, 7, 7, 7, 7, 7, 7, 7, 7, 7, 7, 7, 7, 7, 7, 7, 7, 7, 7, 7, 7, 7, 7, 7, 7, 7, 7, 7, 7, 7, 7, 7, 7, 7, 7, 7, 7, 7, 7, 7, 7, 7, 7, 7, 8, 8, 8, 8, 8, 8, 8, 8, 8, 8, 8, 8, 8, 8, 8, 8, 8, 8, 8, 8, 8, 8, 8, 8, 8, 8, 8, 8, 8, 8, 8, 8, 8, 8, 8, 8, 8, 8, 8, 8, 8, 8, 8, 8, 8, 8, 8, 8, 8, 8, 8, 8, 8, 8, 8, 8, 8, 8, 8, 8, 8, 8, 8, 8, 8, 8, 8, 8, 8, 8, 8, 8, 8, 8, 8, 8, 8, 8, 8, 8, 8, 8, 8, 8, 8, 8, 8, 8, 8, 8, 8, 8, 8, 8, 8, 8, 8, 8, 8, 8, 8, 8, 8, 8, 8, 8, 8, 8, 8, 8, 8, 8, 8, 8, 8, 8, 8, 8, 8, 8, 8, 8, 8, 8, 8, 8, 8, 8]⟩))) (.s 21)),
 oo 23 (.conv .i64 (.s 22)),
 oo 24 (bi .add (.s 19) (.s 23)),
 oo 2 (ms 24)]
def F64 : AFn := ⟨25, [.tmp 2],
  sr F64r0
  (.seq (sr F64r1
  (cd 4
    (sr F64r2
    (rg F64r3))
    (.skip)))
  (.seq (sr F64r4
  (cd 8
    (sr F64r5
    (rg F64r6))
    (.skip)))
  (.seq (sr F64r7
  (cd 14
    (sr F64r8
    (rg F64r9))
    (.skip)))
  (sr F64r10
  (.ret)))))⟩
theorem F64_ok : cFunc Tryd.prog 64 = some F64 := by kernel_rfl
def F65r0 : RL := [oo 2 (.mov cF)]
def F65r1 : RL := [oo 3 (ms 0),
 oo 4 (cl 63 [.s 3, ci 0, ci 30]),
 oo 2 (ms 4)]
def F65 : AFn := ⟨5, [.tmp 2],
  sr F65r0
  (sr F65r1
  (.ret))⟩
theorem F65_ok : cFunc Tryd.prog 65 = some F65 := by kernel_rfl
def F66r0 : RL := [oo 1 (.box 2 (.s 0)),
 oo 2 (.mov (ci 0))]
def F66r1 : RL := [oo 3 (fd 0 1),
 oo 4 (ld 3),
 oo 5 (bi .lss (.s 4) (ci 0)),
 oo 6 (ms 5),
 on 7 (fd 0 1) 6,
 on 8 (ld 7) 6,
 on 9 (bi .gtr (.s 8) (ci 1000000)) 6,
 oo 10 (.pick (.s 6) cT (.s 9)),
 oo 11 (ms 10),
 on 12 (fd 1 1) 11,
 on 13 (ld 12) 11,
 on 14 (bi .lss (.s 13) (ci 0)) 11,
 oo 15 (.pick (.s 11) cT (.s 14)),
 oo 16 (ms 15),
 on 17 (fd 1 1) 16,
 on 18 (ld 17) 16,
 on 19 (bi .gtr (.s 18) (ci 31)) 16,
 oo 20 (.pick (.s 16) cT (.s 19))]
def F66r2 : RL := [oo 2 (.mov (ci 3))]
def F66r3 : RL := [oo 2 (.mov (ci 0))]
def F66 : AFn := ⟨21, [.tmp 2],
  sr F66r0
  (.seq (sr F66r1
  (cd 20
    (sr F66r2
    (.ret))
    (.skip)))
  (sr F66r3
  (.ret)))⟩
theorem F66_ok : cFunc Tryd.prog 66 = some F66 := by kernel_rfl
def F67r0 : RL := [oo 1 (.box 3 (.s 0)),
 oo 2 (.mov (ci 0))]
def F67r1 : RL := [oo 4 (fd 0 1),
 oo 5 (lq 2 4),
 oo 6 (cl 66 [.s 5]),
 oo 3 (ms 6)]
def F67r2 : RL := [oo 7 (ms 3),
 oo 8 (bi .eql (.s 7) (ci 0)),
 oo 9 (ms 8),
 ot 10 (fd 2 1) 9,
 ot 11 (ld 10) 9,
 ot 12 (.len true (.s 11)) 9,
 ot 13 (bi .gtr (.s 12) (ci 64)) 9,
 oo 14 (.pick (.s 9) (.s 13) cF)]
def F67r3 : RL := [oo 3 (.mov (ci 2))]
def F67r4 : RL := [oo 15 (ms 3),
 oo 2 (ms 15)]
def F67 : AFn := ⟨16, [.tmp 2],
  sr F67r0
  (sr F67r1
  (.seq (sr F67r2
  (cd 14
    (rg F67r3)
    (.skip)))
  (sr F67r4
  (.ret))))⟩
theorem F67_ok : cFunc Tryd.prog 67 = some F67 := by kernel_rfl
def F68r0 : RL := [oo 2 (.mov (.c .emp))]
def F68r1 : RL := [oo 3 (ms 0),
 oo 4 (.isn .sl false (.s 3))]
def F68r2 : RL := [oo 2 (.mov (.c .emp))]
def F68r3 : RL := [oo 5 (.bsl 5 0 [zi 0, zi 0, zi 0, zi 0, zs] []),
 oo 6 (ms 0),
 oo 7 (.app 5 48 (.s 5) (.s 6)),
 oo 2 (ms 7)]
def F68 : AFn := ⟨8, [.tmp 2],
  sr F68r0
  (.seq (sr F68r1
  (cd 4
    (sr F68r2
    (.ret))
    (.skip)))
  (sr F68r3
  (.ret)))⟩
theorem F68_ok : cFunc Tryd.prog 68 = some F68 := by kernel_rfl
theorem F68_call : callable Tryd.prog 68 = true := by kernel_rfl
def F69r0 : RL := [oo 2 (.mov (.c .emp))]
def F69r1 : RL := [oo 3 (ms 0),
 oo 4 (.isn .sl false (.s 3))]
def F69r2 : RL := [oo 2 (.mov (.c .emp))]
def F69r3 : RL := [oo 5 (.bsl 8 0 [zi 0, zi 0, zs, zs, zi 0, zi 0, zs, .v (.int .u64 0)] []),
 oo 6 (ms 0),
 oo 7 (.app 8 88 (.s 5) (.s 6)),
 oo 2 (ms 7)]
def F69 : AFn := ⟨8, [.tmp 2],
  sr F69r0
  (.seq (sr F69r1
  (cd 4
    (sr F69r2
    (.ret))
    (.skip)))
  (sr F69r3
  (.ret)))⟩
theorem F69_ok : cFunc Tryd.prog 69 = some F69 := by kernel_rfl
theorem F69_call : callable Tryd.prog 69 = true := by kernel_rfl
def F70r0 : RL := [oo 2 (.mov (.c .emp))]
def F70r1 : RL := [oo 3 (ms 0),
 oo 4 (.isn .sl false (.s 3))]
def F70r2 : RL := [oo 2 (.mov (.c .emp))]
def F70r3 : RL := [oo 5 (.bsl 6 0 [zi 0, zi 0, zi 0, zi 0, zi 0, zs] []),
 oo 6 (ms 0),
 oo 7 (.app 6 56 (.s 5) (.s 6)),
 oo 2 (ms 7)]
def F70 : AFn := ⟨8, [.tmp 2],
  sr F70r0
  (.seq (sr F70r1
  (cd 4
    (sr F70r2
    (.ret))
    (.skip)))
  (sr F70r3
  (.ret)))⟩
theorem F70_ok : cFunc Tryd.prog 70 = some F70 := by kernel_rfl
theorem F70_call : callable Tryd.prog 70 = true := by kernel_rfl
def F71r0 : RL := [oo 2 (.mov (ci 0))]
def F71r1 : RL := [oo 3 (.mov (ci 0))]
def F71r2 : RL := [oo 6 (ms 0),
 oo 7 (.len false (.s 6)),
 oo 8 (.mov (ci 0))]
def F71r3 : RL := [oo 9 (bi .lss (.s 8) (.s 7))]
def F71r4 : RL := [oo 10 (.iad 1 (.s 6) (.s 8)),
 oo 11 (ld 10),
 oo 5 (ms 11)]
def F71r5 : RL := [oo 12 (ms 5),
 oo 13 (ms 3),
 oo 14 (bi .neq (.s 12) (.s 13))]
def F71r6 : RL := [oo 15 (ms 5),
 oo 2 (ms 15)]
def F71r7 : RL := [oo 16 (bi .add (.s 8) (ci 1)),
 oo 8 (ms 16)]
def F71r8 : RL := [oo 17 (ms 3),
 oo 2 (ms 17)]
def F71 : AFn := ⟨18, [.tmp 2],
  sr F71r0
  (sr F71r1
  (.seq (sr F71r2
  (.block 0 (
    .loop (
      sr F71r3
      (.seq (cd 9
        (.skip)
        (.exit 0))
      (.seq (.block 1 (
        sr F71r4
        (sr F71r5
        (cd 14
          (sr F71r6
          (.ret))
          (.skip)))))
      (rg F71r7)))))))
  (sr F71r8
  (.ret))))⟩
theorem F71_ok : cFunc Tryd.prog 71 = some F71 := by kernel_rfl
def F72r0 : RL := [oo 4 (.mov (ci 0))]
def F72r1 : RL := [oo 7 (ms 0),
 oo 8 (cl 83 [.s 7]),
 oo 5 (ms 8)]
def F72r2 : RL := [oo 9 (ms 1),
 oo 10 (cl 83 [.s 9]),
 oo 6 (ms 10)]
def F72r3 : RL := [oo 11 (ms 5)]
def F72r4 : RL := [oo 12 (ms 6)]
def F72r5 : RL := [oo 4 (.mov (ci 0))]
def F72r6 : RL := [oo 4 (.mov (ci (-1)))]
def F72r7 : RL := [oo 13 (ms 6)]
def F72r8 : RL := [oo 4 (.mov (ci 1))]
def F72r9 : RL := [oo 14 (ms 0),
 oo 15 (ms 1),
 oo 16 (bi .lss (.s 14) (.s 15))]
def F72r10 : RL := [oo 4 (.mov (ci (-1)))]
def F72r11 : RL := [oo 17 (ms 0),
 oo 18 (ms 1),
 oo 19 (bi .gtr (.s 17) (.s 18))]
def F72r12 : RL := [oo 4 (.mov (ci 1))]
def F72r13 : RL := [oo 4 (.mov (ci 0))]
def F72 : AFn := ⟨20, [.tmp 4],
  sr F72r0
  (sr F72r1
  (sr F72r2
  (.seq (sr F72r3
  (cd 11
    (.seq (sr F72r4
    (cd 12
      (sr F72r5
      (.ret))
      (.skip)))
    (sr F72r6
    (.ret)))
    (.skip)))
  (.seq (sr F72r7
  (cd 13
    (sr F72r8
    (.ret))
    (.skip)))
  (.seq (sr F72r9
  (cd 16
    (sr F72r10
    (.ret))
    (.skip)))
  (.seq (sr F72r11
  (cd 19
    (sr F72r12
    (.ret))
    (.skip)))
  (sr F72r13
  (.ret))))))))⟩
theorem F72_ok : cFunc Tryd.prog 72 = some F72 := by kernel_rfl
def F73r0 : RL := [oo 2 (.mov (ci 0))]
def F73r1 : RL := [oo 3 (ms 0),
 oo 4 (bi .eql (.s 3) (.c (.v (.int .u64 0))))]
def F73r2 : RL := [oo 2 (.mov (ci 64))]
def F73r3 : RL := [oo 5 (ms 0),
 oo 6 (ms 0),
 oo 7 (.un .neg (.s 6)),
 oo 8 (bi .and (.s 5) (.s 7)),
 oo 9 (bi .mul (.s 8) (.c (.v (.int .u64 285870213051353865)))),
 oo 10 (bi .shr (.s 9) (.c (.v (.int .u64 58)))),
 oo 11 (.iap 1 64 (.c (.pim [.v (.int .u8 0), .v (.int .u8 1), .v (.int .u8 56), .v (.int .u8 2), .v (.int .u8 57), .v (.int .u8 49), .v (.int .u8 28), .v (.int .u8 3), .v (.int .u8 61), .v (.int .u8 58), .v (.int .u8 42), .v (.int .u8 50), .v (.int .u8 38), .v (.int .u8 29), .v (.int .u8 17), .v (.int .u8 4), .v (.int .u8 62), .v (.int .u8 47), .v (.int .u8 59), .v (.int .u8 36), .v (.int .u8 45), .v (.int .u8 43), .v (.int .u8 51), .v (.int .u8 22), .v (.int .u8 53), .v (.int .u8 39), .v (.int .u8 33), .v (.int .u8 30), .v (.int .u8 24), .v (.int .u8 18), .v (.int .u8 12), .v (.int .u8 5), .v (.int .u8 63), .v (.int .u8 55), .v (.int .u8 48), .v (.int .u8 27), .v (.int .u8 60), .v (.int .u8 41), .v (.int .u8 37), .v (.int .u8 16), .v (.int .u8 46), .v (.int .u8 35), .v (.int .u8 44), .v (.int .u8 21), .v (.int .u8 52), .v (.int .u8 32), .v (.int .u8 23), .v (.int .u8 11), .v (.int .u8 54), .v (.int .u8 26), .v (.int .u8 40), .v (.int .u8 15), .v (.int .u8 34), .v (.int .u8 20), .v (.int .u8 31), .v (.int .u8 10), .v (.int .u8 25), .v (.int .u8 14), .v (.int .u8 19), .v (.int .u8 9), .v (.int .u8 13), .v (.int .u8 8), .v (.int .u8 7), .v (.int .u8 6)] 0)) (.s 10)),
 oo 12 (ld 11),
 oo 13 (.conv .i64 (.s 12)),
 oo 2 (ms 13)]
def F73 : AFn := ⟨14, [.tmp 2],
  sr F73r0
  (.seq (sr F73r1
  (cd 4
    (sr F73r2
    (.ret))
    (.skip)))
  (sr F73r3
  (.ret)))⟩
theorem F73_ok : cFunc Tryd.prog 73 = some F73 := by kernel_rfl
def F74r0 : RL := [oo 2 (.mov (ci 0))]
def F74r1 : RL := [oo 3 (ld 0),
 oo 4 (lq 3 1),
 oo 5 (cl 75 [.s 3, .s 4]),
 oo 2 (ms 5)]
def F74 : AFn := ⟨6, [.tmp 2],
  sr F74r0
  (sr F74r1
  (.ret))⟩
theorem F74_ok : cFunc Tryd.prog 74 = some F74 := by kernel_rfl
def F75r0 : RL := [oo 3 (.box 3 (.s 1)),
 oo 4 (.mov (ci 0))]
def F75r1 : RL := [oo 8 (ms 0),
 oo 9 (.nilc (.s 8)),
 oo 10 (fd 0 9),
 oo 11 (fd 3 10),
 oo 12 (ld 11),
 oo 13 (.len false (.s 12)),
 oo 14 (bi .eql (.s 13) (ci 31))]
def F75r2 : RL := [oo 4 (.mov (ci 2))]
def F75r3 : RL := [oo 16 (ms 0),
 oo 17 (.nilc (.s 16)),
 oo 18 (fd 0 17),
 oo 19 (fd 0 18),
 oo 20 (lq 2 19),
 oo 21 (ms 0),
 oo 22 (.nilc (.s 21)),
 oo 23 (fd 0 22),
 oo 24 (fd 3 23),
 oo 25 (ld 24),
 oo 26 (.len false (.s 25)),
 oo 27 (fd 1 3),
 oo 28 (ld 27),
 oo 29 (fd 2 3),
 oo 30 (ld 29),
 oo 31 (cl 84 [.s 20, .s 26, .s 28, .s 30]),
 oo 15 (ms 31),
 oo 32 (.ext 0 (.s 15)),
 oo 33 (.ext 1 (.s 15)),
 oo 34 (.ext 2 (.s 15)),
 oo 5 (.new [zi 0, zi 0, zs, zs, zi 0, zi 0, zs, .v (.int .u64 0)]),
 ow (.store 8 (.s 5) (.s 32)),
 oo 6 (ms 33),
 oo 7 (ms 34)]
def F75r4 : RL := [oo 35 (ms 7),
 oo 36 (bi .neq (.s 35) (ci 0))]
def F75r5 : RL := [oo 37 (ms 7),
 oo 4 (ms 37)]
def F75r6 : RL := [oo 38 (ms 0),
 oo 39 (ms 0),
 oo 40 (.nilc (.s 39)),
 oo 41 (fd 0 40),
 oo 42 (fd 3 41),
 oo 43 (ld 42),
 oo 44 (lq 8 5),
 oo 45 (.bsl 8 1 [zi 0, zi 0, zs, zs, zi 0, zi 0, zs, .v (.int .u64 0)] [(0, .s 44)]),
 oo 46 (.app 8 88 (.s 43) (.s 45)),
 oo 47 (.nilc (.s 38)),
 oo 48 (fd 0 47),
 oo 49 (fd 3 48),
 ow (.store 1 (.s 49) (.s 46))]
def F75r7 : RL := [oo 50 (ms 0),
 oo 51 (ms 6),
 oo 52 (cl 81 [.s 50, .s 51]),
 oo 4 (ms 52)]
def F75 : AFn := ⟨53, [.tmp 4],
  sr F75r0
  (.seq (sr F75r1
  (cd 14
    (sr F75r2
    (.ret))
    (.skip)))
  (.seq (.reg F75r3 (some [[], [0], [1, 0], [2, 1, 0], [3, 2, 1, 0], [], [5], [6, 5], [7, 6, 5], [8, 7, 6, 5], [9, 8, 7, 6, 5], [], [11], [], [13], [4, 10, 12, 14, 3, 2, 1, 0, 9, 8, 7, 6, 5, 11, 13], [15, 4, 10, 12, 14, 3, 2, 1, 0, 9, 8, 7, 6, 5, 11, 13], [16, 15, 4, 10, 12, 14, 3, 2, 1, 0, 9, 8, 7, 6, 5, 11, 13], [16, 15, 4, 10, 12, 14, 3, 2, 1, 0, 9, 8, 7, 6, 5, 11, 13], [16, 15, 4, 10, 12, 14, 3, 2, 1, 0, 9, 8, 7, 6, 5, 11, 13], [], [20, 17, 15, 0, 1, 2, 3, 4, 5, 6, 7, 8, 9, 10, 11, 12, 13, 14, 16], [18, 21, 0, 1, 2, 3, 4, 5, 6, 7, 8, 9, 10, 11, 12, 13, 14, 15, 16, 17, 20], [19, 22, 0, 1, 2, 3, 4, 5, 6, 7, 8, 9, 10, 11, 12, 13, 14, 15, 16, 17, 18, 20, 21]]))
  (.seq (sr F75r4
  (cd 36
    (sr F75r5
    (.ret))
    (.skip)))
  (.seq (.reg F75r6 (some [[], [], [1], [2, 1], [3, 2, 1], [4, 3, 2, 1], [], [6], [5, 7, 4, 3, 2, 1, 6], [0, 1, 2, 3, 4, 5, 6, 7, 8], [9, 0, 1, 2, 3, 4, 5, 6, 7, 8], [10, 0, 1, 2, 3, 4, 5, 6, 7, 8, 9], [11, 8, 0, 1, 2, 3, 4, 5, 6, 7, 10, 9]]))
  (sr F75r7
  (.ret))))))⟩
theorem F75_ok : cFunc Tryd.prog 75 = some F75 := by kernel_rfl
def F76r0 : RL := [oo 2 (.mov (ci 0))]
def F76r1 : RL := [oo 3 (ld 0),
 oo 4 (ld 0),
 oo 5 (fd 1 1),
 oo 6 (ld 5),
 oo 7 (cl 78 [.s 4, .s 6]),
 oo 8 (cl 77 [.s 3, .s 7]),
 oo 2 (ms 8)]
def F76 : AFn := ⟨9, [.tmp 2],
  sr F76r0
  (.seq (.reg F76r1 (some [[], [], [], [2], [1, 3, 2], [0, 4, 1, 3, 2], [5, 0, 1, 2, 3, 4]]))
  (.ret))⟩
theorem F76_ok : cFunc Tryd.prog 76 = some F76 := by kernel_rfl
def F77r0 : RL := [oo 3 (.box 6 (.s 1)),
 oo 4 (.mov (ci 0))]
def F77r1 : RL := [oo 5 (.mov (.c .emp))]
def F77r2 : RL := [oo 6 (fd 0 3),
 oo 7 (ld 6),
 oo 8 (bi .eql (.s 7) (ci 1)),
 oo 9 (ms 8),
 on 10 (fd 0 3) 9,
 on 11 (ld 10) 9,
 on 12 (bi .eql (.s 11) (ci 3)) 9,
 oo 13 (.pick (.s 9) cT (.s 12))]
def F77r3 : RL := [oo 15 (ms 0),
 oo 16 (.nilc (.s 15)),
 oo 17 (fd 0 16),
 oo 18 (fd 2 17),
 oo 19 (ld 18),
 oo 20 (fd 2 3),
 oo 21 (ld 20),
 oo 22 (ms 0),
 oo 23 (.nilc (.s 22)),
 oo 24 (fd 0 23),
 oo 25 (fd 2 24),
 oo 26 (ld 25),
 oo 27 (fd 2 3),
 oo 28 (ld 27),
 oo 29 (.iad 5 (.s 26) (.s 28)),
 oo 30 (lq 5 29),
 oo 31 (lq 6 3),
 oo 32 (cl 85 [.s 30, .s 31]),
 oo 14 (ms 32),
 oo 33 (.ext 0 (.s 14)),
 oo 34 (.ext 1 (.s 14)),
 oo 35 (.ext 2 (.s 14)),
 oo 36 (.iad 5 (.s 19) (.s 21)),
 ow (.store 5 (.s 36) (.s 33)),
 oo 5 (ms 34)]
def F77r4 : RL := [oo 38 (ms 0),
 oo 39 (.nilc (.s 38)),
 oo 40 (fd 0 39),
 oo 41 (fd 3 40),
 oo 42 (ld 41),
 oo 43 (fd 1 3),
 oo 44 (ld 43),
 oo 45 (ms 0),
 oo 46 (.nilc (.s 45)),
 oo 47 (fd 0 46),
 oo 48 (fd 0 47),
 oo 49 (lq 2 48),
 oo 50 (fd 1 3),
 oo 51 (ld 50),
 oo 52 (ms 0),
 oo 53 (.nilc (.s 52)),
 oo 54 (fd 0 53),
 oo 55 (fd 3 54),
 oo 56 (ld 55),
 oo 57 (fd 1 3),
 oo 58 (ld 57),
 oo 59 (.iad 8 (.s 56) (.s 58)),
 oo 60 (lq 8 59),
 oo 61 (lq 6 3),
 oo 62 (cl 86 [.s 49, .s 51, .s 60, .s 61]),
 oo 37 (ms 62),
 oo 63 (.ext 0 (.s 37)),
 oo 64 (.ext 1 (.s 37)),
 oo 65 (.ext 2 (.s 37)),
 oo 66 (.iad 8 (.s 42) (.s 44)),
 ow (.store 8 (.s 66) (.s 63)),
 oo 5 (ms 64)]
def F77r5 : RL := [oo 67 (ms 0),
 oo 68 (ms 5),
 oo 69 (cl 81 [.s 67, .s 68]),
 oo 4 (ms 69)]
def F77 : AFn := ⟨70, [.tmp 4],
  sr F77r0
  (sr F77r1
  (.seq (sr F77r2
  (cd 13
    (.reg F77r3 (some [[], [0], [1, 0], [2, 1, 0], [3, 2, 1, 0], [], [5], [], [7], [8, 7], [9, 8, 7], [10, 9, 8, 7], [], [12], [11, 13, 10, 9, 8, 7, 12], [14, 11, 13, 10, 9, 8, 7, 12], [], [15, 16, 14, 11, 13, 10, 9, 8, 7, 12], [17, 15, 16, 14, 11, 13, 10, 9, 8, 7, 12], [18, 17, 15, 16, 14, 11, 13, 10, 9, 8, 7, 12], [18, 17, 15, 16, 14, 11, 13, 10, 9, 8, 7, 12], [18, 17, 15, 16, 14, 11, 13, 10, 9, 8, 7, 12], [4, 6, 0, 1, 2, 3, 5, 7, 8, 9, 10, 11, 12, 13, 14, 15, 16, 17, 18, 19], [22, 19, 17, 0, 1, 2, 3, 4, 5, 6, 7, 8, 9, 10, 11, 12, 13, 14, 15, 16, 18], [20, 23, 0, 1, 2, 3, 4, 5, 6, 7, 8, 9, 10, 11, 12, 13, 14, 15, 16, 17, 18, 19, 22]]))
    (.reg F77r4 (some [[], [0], [1, 0], [2, 1, 0], [3, 2, 1, 0], [], [5], [], [7], [8, 7], [9, 8, 7], [10, 9, 8, 7], [], [12], [], [14], [15, 14], [16, 15, 14], [17, 16, 15, 14], [], [19], [18, 20, 17, 16, 15, 14, 19], [21, 18, 20, 17, 16, 15, 14, 19], [], [11, 13, 22, 23, 10, 9, 8, 7, 12, 21, 18, 20, 17, 16, 15, 14, 19], [24, 11, 13, 22, 23, 10, 9, 8, 7, 12, 21, 18, 20, 17, 16, 15, 14, 19], [25, 24, 11, 13, 22, 23, 10, 9, 8, 7, 12, 21, 18, 20, 17, 16, 15, 14, 19], [25, 24, 11, 13, 22, 23, 10, 9, 8, 7, 12, 21, 18, 20, 17, 16, 15, 14, 19], [25, 24, 11, 13, 22, 23, 10, 9, 8, 7, 12, 21, 18, 20, 17, 16, 15, 14, 19], [4, 6, 0, 1, 2, 3, 5, 7, 8, 9, 10, 11, 12, 13, 14, 15, 16, 17, 18, 19, 20, 21, 22, 23, 24, 25, 26], [29, 26, 24, 0, 1, 2, 3, 4, 5, 6, 7, 8, 9, 10, 11, 12, 13, 14, 15, 16, 17, 18, 19, 20, 21, 22, 23, 25], [27, 30, 0, 1, 2, 3, 4, 5, 6, 7, 8, 9, 10, 11, 12, 13, 14, 15, 16, 17, 18, 19, 20, 21, 22, 23, 24, 25, 26, 29]]))))
  (sr F77r5
  (.ret))))⟩
theorem F77_ok : cFunc Tryd.prog 77 = some F77 := by kernel_rfl
theorem F77_call : callable Tryd.prog 77 = true := by kernel_rfl
def F78r0 : RL := [oo 4 (.new [zi 0, zi 0, zi 0, zi 0, zi 0, zs])]
def F78r1 : RL := [oo 6 (ms 0),
 oo 7 (.nilc (.s 6)),
 oo 8 (fd 0 7),
 oo 9 (fd 4 8),
 oo 10 (ld 9),
 oo 11 (ms 1),
 oo 12 (.iad 6 (.s 10) (.s 11)),
 oo 13 (lq 6 12),
 oo 5 (.new [zi 0, zi 0, zi 0, zi 0, zi 0, zs]),
 ow (.store 6 (.s 5) (.s 13))]
def F78r2 : RL := [oo 14 (ms 0),
 oo 15 (ms 0),
 oo 16 (.nilc (.s 15)),
 oo 17 (fd 0 16),
 oo 18 (fd 4 17),
 oo 19 (ld 18),
 oo 20 (ms 1),
 oo 21 (ms 1),
 oo 22 (bi .add (.s 21) (ci 1)),
 oo 23 (cl 87 [.s 19, .s 20, .s 22]),
 oo 24 (.nilc (.s 14)),
 oo 25 (fd 0 24),
 oo 26 (fd 4 25),
 ow (.store 1 (.s 26) (.s 23))]
def F78r3 : RL := [oo 27 (lq 6 5),
 ow (.store 6 (.s 4) (.s 27))]
def F78 : AFn := ⟨28, [.cell 4 (some 6)],
  sr F78r0
  (sr F78r1
  (sr F78r2
  (sr F78r3
  (.ret))))⟩
theorem F78_ok : cFunc Tryd.prog 78 = some F78 := by kernel_rfl
theorem F78_call : callable Tryd.prog 78 = true := by kernel_rfl
def F79r0 : RL := [oo 2 (.mov (ci 0))]
def F79r1 : RL := [oo 3 (ld 0),
 oo 4 (fd 1 1),
 oo 5 (ld 4),
 oo 6 (cl 78 [.s 3, .s 5])]
def F79r2 : RL := [oo 2 (.mov (ci 0))]
def F79 : AFn := ⟨7, [.tmp 2],
  sr F79r0
  (sr F79r1
  (sr F79r2
  (.ret)))⟩
theorem F79_ok : cFunc Tryd.prog 79 = some F79 := by kernel_rfl
def F80r0 : RL := [oo 2 (.mov (ci 0))]
def F80r1 : RL := [oo 3 (ld 0),
 oo 4 (ld 0),
 oo 5 (.nilc (.s 4)),
 oo 6 (fd 0 5),
 oo 7 (fd 4 6),
 oo 8 (ld 7),
 oo 9 (fd 1 1),
 oo 10 (ld 9),
 oo 11 (.iad 6 (.s 8) (.s 10)),
 oo 12 (lq 6 11),
 oo 13 (.bsl 6 1 [zi 0, zi 0, zi 0, zi 0, zi 0, zs] [(0, .s 12)]),
 oo 14 (cl 81 [.s 3, .s 13]),
 oo 2 (ms 14)]
def F80 : AFn := ⟨15, [.tmp 2],
  sr F80r0
  (.seq (.reg F80r1 (some [[], [], [1], [2, 1], [3, 2, 1], [4, 3, 2, 1], [], [6], [5, 7, 4, 3, 2, 1, 6], [8, 5, 7, 4, 3, 2, 1, 6], [9, 8, 5, 7, 4, 3, 2, 1, 6], [0, 10, 9, 8, 5, 7, 4, 3, 2, 1, 6], [11, 0, 1, 2, 3, 4, 5, 6, 7, 8, 9, 10]]))
  (.ret))⟩
theorem F80_ok : cFunc Tryd.prog 80 = some F80 := by kernel_rfl
def F81r0 : RL := [oo 4 (.mov (ci 0))]
def F81r1 : RL := [oo 5 (ms 0),
 oo 6 (ms 0),
 oo 7 (.nilc (.s 6)),
 oo 8 (fd 0 7),
 oo 9 (fd 4 8),
 oo 10 (ld 9),
 oo 11 (ms 1),
 oo 12 (.app 6 56 (.s 10) (.s 11)),
 oo 13 (.nilc (.s 5)),
 oo 14 (fd 0 13),
 oo 15 (fd 4 14),
 ow (.store 1 (.s 15) (.s 12))]
def F81r2 : RL := [oo 16 (ms 0),
 oo 17 (.nilc (.s 16)),
 oo 18 (fd 0 17),
 oo 19 (fd 4 18),
 oo 20 (ld 19),
 oo 21 (.len false (.s 20)),
 oo 22 (bi .gtr (.s 21) (ci 200))]
def F81r3 : RL := [oo 4 (.mov (ci 2))]
def F81r4 : RL := [oo 4 (.mov (ci 0))]
def F81 : AFn := ⟨23, [.tmp 4],
  sr F81r0
  (sr F81r1
  (.seq (sr F81r2
  (cd 22
    (sr F81r3
    (.ret))
    (.skip)))
  (sr F81r4
  (.ret))))⟩
theorem F81_ok : cFunc Tryd.prog 81 = some F81 := by kernel_rfl
theorem F81_call : callable Tryd.prog 81 = true := by kernel_rfl
def F82r0 : RL := [oo 2 (.mov cF)]
def F82r1 : RL := [oo 3 (ms 0),
 oo 4 (bi .geq (.s 3) (ci 0)),
 oo 5 (ms 4),
 ot 6 (ms 0) 5,
 ot 7 (bi .leq (.s 6) (ci 31)) 5,
 oo 8 (.pick (.s 5) (.s 7) cF),
 oo 2 (ms 8)]
def F82 : AFn := ⟨9, [.tmp 2],
  sr F82r0
  (sr F82r1
  (.ret))⟩
theorem F82_ok : cFunc Tryd.prog 82 = some F82 := by kernel_rfl
def F83r0 : RL := [oo 2 (.mov cF)]
def F83r1 : RL := [oo 3 (ms 0),
 oo 4 (ms 0),
 oo 5 (bi .neq (.s 3) (.s 4)),
 oo 2 (ms 5)]
def F83 : AFn := ⟨6, [.tmp 2],
  sr F83r0
  (sr F83r1
  (.ret))⟩
theorem F83_ok : cFunc Tryd.prog 83 = some F83 := by kernel_rfl
def F84r0 : RL := [oo 4 (.box 2 (.s 0)),
 oo 8 (.new [zi 0, zi 0, zs, zs, zi 0, zi 0, zs, .v (.int .u64 0)]),
 oo 9 (.mov (.c .emp)),
 oo 10 (.mov (ci 0))]
def F84r1 : RL := [oo 13 (ms 2),
 oo 14 (ms 3),
 oo 15 (.agg [zi 0, zi 0, zs, zs, zi 0, zi 0, zs, .v (.int .u64 0)] [(0, (1, .s 13)), (2, (1, .s 14)), (1, (1, ci 1))]),
 oo 11 (.new [zi 0, zi 0, zs, zs, zi 0, zi 0, zs, .v (.int .u64 0)]),
 ow (.store 8 (.s 11) (.s 15))]
def F84r2 : RL := [oo 16 (lq 2 4),
 oo 17 (lq 8 11),
 oo 18 (cl 42 [.s 16, .s 17]),
 oo 12 (ms 18)]
def F84r3 : RL := [oo 19 (ms 1),
 oo 20 (cl 65 [.s 19]),
 oo 21 (.un .not (.s 20))]
def F84r4 : RL := [oo 12 (.mov (ci 3))]
def F84r5 : RL := [oo 22 (ms 12),
 oo 23 (bi .neq (.s 22) (ci 0))]
def F84r6 : RL := [oo 24 (.agg [zi 0, zi 0, zs, zs, zi 0, zi 0, zs, .v (.int .u64 0)] []),
 oo 25 (ms 12),
 ow (.store 8 (.s 8) (.s 24)),
 oo 9 (.mov (.c .emp)),
 oo 10 (ms 25)]
def F84r7 : RL := [oo 26 (lq 8 11),
 oo 27 (lq 2 4),
 oo 28 (ms 1),
 oo 29 (ms 1),
 oo 30 (.agg [.v (.pointer none), zi 0] [(0, (1, .s 11)), (1, (1, .s 29))]),
 oo 31 (cl 89 [.s 30]),
 oo 32 (.agg [zi 0, zi 0, zs] [(0, (2, .s 31))]),
 oo 33 (.agg [zi 0, zi 0, zi 0, zi 0, zi 0, zs] [(0, (1, ci 1)), (1, (1, .s 28)), (3, (3, .s 32))]),
 oo 34 (cl 88 [.s 27, .s 33]),
 ow (.store 8 (.s 8) (.s 26)),
 oo 9 (ms 34),
 oo 10 (.mov (ci 0))]
def F84 : AFn := ⟨35, [.cell 8 (some 8), .tmp 9, .tmp 10],
  sr F84r0
  (sr F84r1
  (sr F84r2
  (.seq (sr F84r3
  (cd 21
    (rg F84r4)
    (.skip)))
  (.seq (sr F84r5
  (cd 23
    (sr F84r6
    (.ret))
    (.skip)))
  (.seq (.reg F84r7 (some [[], [], [], [], [3], [4, 3], [5, 4, 3], [2, 6, 5, 4, 3], [1, 7, 5, 2, 6, 4, 3], [0, 8, 1, 7, 5, 2, 6, 4, 3], [8, 9, 0, 1, 2, 3, 4, 5, 6, 7], [10, 0, 1, 2, 3, 4, 5, 6, 7, 8, 9]]))
  (.ret))))))⟩
theorem F84_ok : cFunc Tryd.prog 84 = some F84 := by kernel_rfl
def F85r0 : RL := [oo 2 (.box 5 (.s 0)),
 oo 3 (.box 6 (.s 1)),
 oo 4 (.new [zi 0, zi 0, zi 0, zi 0, zs]),
 oo 5 (.mov (.c .emp)),
 oo 6 (.mov (ci 0))]
def F85r1 : RL := [oo 9 (lq 5 2),
 oo 10 (cl 39 [.s 9]),
 oo 7 (ms 10)]
def F85r2 : RL := [oo 11 (ms 7),
 oo 12 (bi .eql (.s 11) (ci 0))]
def F85r3 : RL := [oo 13 (lq 6 3),
 oo 14 (cl 45 [.s 13]),
 oo 7 (ms 14)]
def F85r4 : RL := [oo 15 (ms 7),
 oo 16 (bi .neq (.s 15) (ci 0))]
def F85r5 : RL := [oo 17 (.agg [zi 0, zi 0, zi 0, zi 0, zs] []),
 oo 18 (ms 7),
 ow (.store 5 (.s 4) (.s 17)),
 oo 5 (.mov (.c .emp)),
 oo 6 (ms 18)]
def F85r6 : RL := [oo 19 (fd 1 3),
 oo 20 (ld 19),
 oo 21 (fd 2 3),
 oo 22 (ld 21),
 oo 23 (.agg [zi 0, zi 0, zi 0, zi 0, zi 0, zs] [(1, (1, .s 20)), (2, (1, .s 22))]),
 oo 8 (.new [zi 0, zi 0, zi 0, zi 0, zi 0, zs]),
 ow (.store 6 (.s 8) (.s 23))]
def F85r7 : RL := [oo 26 (fd 0 3),
 oo 27 (ld 26),
 oo 28 (bi .eql (.s 27) (ci 1)),
 oo 29 (ms 28),
 ot 30 (fd 0 2) 29,
 ot 31 (lq 2 30) 29,
 ot 32 (fd 3 3) 29,
 ot 33 (fd 0 32) 29,
 ot 34 (lq 2 33) 29,
 ot 35 (cl 23 [.s 31, .s 34]) 29,
 oo 36 (.pick (.s 29) (.s 35) cF),
 oo 25 (ms 36)]
def F85r8 : RL := [oo 37 (fd 3 3),
 oo 38 (fd 0 37),
 oo 39 (lq 2 38),
 oo 40 (fd 0 2),
 ow (.store 2 (.s 40) (.s 39))]
def F85r9 : RL := [oo 41 (fd 2 2),
 oo 42 (lq 3 41),
 oo 43 (fd 0 8),
 ow (.store 1 (.s 43) (ci 2)),
 oo 44 (fd 3 8),
 ow (.store 3 (.s 44) (.s 42))]
def F85r10 : RL := [oo 46 (fd 0 3),
 oo 47 (ld 46),
 oo 48 (bi .eql (.s 47) (ci 3)),
 oo 49 (ms 48),
 ot 50 (fd 3 3) 49,
 ot 51 (fd 0 50) 49,
 ot 52 (lq 2 51) 49,
 ot 53 (fd 0 2) 49,
 ot 54 (lq 2 53) 49,
 ot 55 (cl 23 [.s 52, .s 54]) 49,
 ot 56 (.un .not (.s 55)) 49,
 oo 57 (.pick (.s 49) (.s 56) cF),
 oo 45 (ms 57)]
def F85r11 : RL := [oo 58 (fd 3 3),
 oo 59 (fd 0 58),
 oo 60 (lq 2 59),
 oo 61 (fd 3 3),
 oo 62 (lq 3 61),
 oo 63 (fd 0 2),
 ow (.store 2 (.s 63) (.s 60)),
 oo 64 (fd 2 2),
 ow (.store 3 (.s 64) (.s 62))]
def F85r12 : RL := [oo 65 (fd 3 3),
 oo 66 (fd 0 65),
 oo 67 (lq 2 66),
 oo 68 (fd 0 8),
 ow (.store 1 (.s 68) (ci 4)),
 oo 69 (fd 3 8),
 oo 70 (fd 0 69),
 ow (.store 2 (.s 70) (.s 67))]
def F85r13 : RL := [oo 24 (lq 5 2),
 ow (.store 5 (.s 4) (.s 24)),
 oo 5 (.mov (.c .emp)),
 oo 6 (.mov (ci 0))]
def F85r14 : RL := [oo 71 (lq 5 2),
 oo 72 (lq 6 8),
 oo 73 (.bsl 6 1 [zi 0, zi 0, zi 0, zi 0, zi 0, zs] [(0, .s 72)]),
 ow (.store 5 (.s 4) (.s 71)),
 oo 5 (ms 73),
 oo 6 (.mov (ci 0))]
def F85 : AFn := ⟨74, [.cell 4 (some 5), .tmp 5, .tmp 6],
  sr F85r0
  (sr F85r1
  (.seq (sr F85r2
  (cd 12
    (rg F85r3)
    (.skip)))
  (.seq (sr F85r4
  (cd 16
    (sr F85r5
    (.ret))
    (.skip)))
  (sr F85r6
  (.seq (.block 0 (
    sr F85r7
    (cd 25
      (sr F85r8
      (.reg F85r9 (some [[], [0], [], [2], [0, 1, 2, 3], [4, 1, 3, 0, 2]])))
      (sr F85r10
      (cd 45
        (.seq (.reg F85r11 (some [[], [0], [1, 0], [], [3], [0, 1, 2], [5, 2, 0, 1], [0, 1, 2, 3, 4, 5, 6], [7, 4, 6, 0, 1, 2, 3, 5]]))
        (.reg F85r12 (some [[], [0], [1, 0], [], [3], [0, 1, 2, 3, 4], [5, 0, 1, 2, 3, 4], [6, 2, 4, 0, 1, 3, 5]])))
        (sr F85r13
        (.ret)))))))
  (.seq (.reg F85r14 (some [[], [], [1], [0], [2, 3, 0, 1], [4, 0, 1, 2, 3]]))
  (.ret)))))))⟩
theorem F85_ok : cFunc Tryd.prog 85 = some F85 := by kernel_rfl
def F86r0 : RL := [oo 4 (.box 2 (.s 0)),
 oo 6 (.box 8 (.s 2)),
 oo 7 (.box 6 (.s 3)),
 oo 8 (.new [zi 0, zi 0, zs, zs, zi 0, zi 0, zs, .v (.int .u64 0)]),
 oo 9 (.mov (.c .emp)),
 oo 10 (.mov (ci 0))]
def F86r1 : RL := [oo 11 (.mov (ci 3))]
def F86r2 : RL := [oo 17 (ms 1),
 oo 18 (cl 65 [.s 17])]
def F86r3 : RL := [oo 19 (lq 2 4),
 oo 20 (lq 8 6),
 oo 21 (cl 42 [.s 19, .s 20]),
 oo 11 (ms 21)]
def F86r4 : RL := [oo 22 (ms 11),
 oo 23 (bi .eql (.s 22) (ci 0))]
def F86r5 : RL := [oo 24 (lq 6 7),
 oo 25 (cl 45 [.s 24]),
 oo 11 (ms 25)]
def F86r6 : RL := [oo 26 (ms 11),
 oo 27 (bi .neq (.s 26) (ci 0))]
def F86r7 : RL := [oo 28 (.agg [zi 0, zi 0, zs, zs, zi 0, zi 0, zs, .v (.int .u64 0)] []),
 oo 29 (ms 11),
 ow (.store 8 (.s 8) (.s 28)),
 oo 9 (.mov (.c .emp)),
 oo 10 (ms 29)]
def F86r8 : RL := [oo 30 (ms 1),
 oo 31 (.agg [.v (.pointer none), zi 0] [(0, (1, .s 6)), (1, (1, .s 30))]),
 oo 12 (.new [.v (.pointer none), zi 0]),
 ow (.store 2 (.s 12) (.s 31))]
def F86r9 : RL := [oo 32 (fd 2 7),
 oo 33 (ld 32),
 oo 34 (bi .shl (.c (.v (.int .u64 1))) (.s 33)),
 oo 13 (ms 34)]
def F86r10 : RL := [oo 35 (fd 1 7),
 oo 36 (ld 35),
 oo 37 (ms 1),
 oo 38 (bi .neq (.s 36) (.s 37)),
 oo 39 (ms 38),
 on 40 (lq 2 12) 39,
 on 41 (lq 6 7) 39,
 on 42 (cl 90 [.s 40, .s 41]) 39,
 on 43 (.un .not (.s 42)) 39,
 oo 44 (.pick (.s 39) cT (.s 43)),
 oo 45 (ms 44),
 on 46 (fd 2 7) 45,
 on 47 (ld 46) 45,
 on 48 (fd 0 4) 45,
 on 49 (ld 48) 45,
 on 50 (.len false (.s 49)) 45,
 on 51 (bi .geq (.s 47) (.s 50)) 45,
 oo 52 (.pick (.s 45) cT (.s 51)),
 oo 53 (ms 52),
 on 54 (fd 7 6) 53,
 on 55 (ld 54) 53,
 on 56 (ms 13) 53,
 on 57 (bi .and (.s 55) (.s 56)) 53,
 on 58 (bi .neq (.s 57) (.c (.v (.int .u64 0)))) 53,
 oo 59 (.pick (.s 53) cT (.s 58))]
def F86r11 : RL := [oo 60 (lq 8 6),
 ow (.store 8 (.s 8) (.s 60)),
 oo 9 (.mov (.c .emp)),
 oo 10 (.mov (ci 0))]
def F86r12 : RL := [oo 61 (fd 7 6),
 oo 62 (ld 61),
 oo 63 (ms 13),
 oo 64 (bi .or (.s 62) (.s 63)),
 oo 65 (fd 7 6),
 ow (.store 1 (.s 65) (.s 64))]
def F86r13 : RL := [oo 66 (fd 1 6),
 oo 67 (ld 66),
 oo 68 (bi .eql (.s 67) (ci 1))]
def F86r14 : RL := [oo 69 (fd 4 6),
 oo 70 (lq 3 69),
 oo 71 (fd 3 7),
 oo 72 (lq 3 71),
 oo 73 (cl 91 [.s 70, .s 72]),
 oo 74 (fd 4 6),
 ow (.store 3 (.s 74) (.s 73))]
def F86r15 : RL := [oo 14 (.mov (.c .emp))]
def F86r16 : RL := [oo 76 (fd 0 4),
 oo 77 (ld 76),
 oo 78 (fd 1 4),
 oo 79 (ld 78),
 oo 80 (fd 7 6),
 oo 81 (ld 80),
 oo 82 (cl 25 [.s 77, .s 79, .s 81]),
 oo 75 (ms 82),
 oo 83 (.ext 0 (.s 75)),
 oo 84 (.ext 1 (.s 75)),
 oo 15 (ms 83),
 oo 16 (ms 84)]
def F86r17 : RL := [oo 85 (ms 15)]
def F86r18 : RL := [oo 86 (lq 2 12),
 oo 87 (lq 2 4),
 oo 88 (cl 92 [.s 86, .s 87]),
 oo 14 (ms 88)]
def F86r19 : RL := [oo 89 (lq 8 6),
 oo 90 (ms 14),
 ow (.store 8 (.s 8) (.s 89)),
 oo 9 (ms 90),
 oo 10 (.mov (ci 0))]
def F86 : AFn := ⟨91, [.cell 8 (some 8), .tmp 9, .tmp 10],
  sr F86r0
  (sr F86r1
  (.seq (sr F86r2
  (cd 18
    (rg F86r3)
    (.skip)))
  (.seq (sr F86r4
  (cd 23
    (rg F86r5)
    (.skip)))
  (.seq (sr F86r6
  (cd 27
    (sr F86r7
    (.ret))
    (.skip)))
  (sr F86r8
  (sr F86r9
  (.seq (sr F86r10
  (cd 59
    (sr F86r11
    (.ret))
    (.skip)))
  (sr F86r12
  (.seq (sr F86r13
  (cd 68
    (rg F86r14)
    (.skip)))
  (sr F86r15
  (.seq (sr F86r16
  (sr F86r17
  (cd 85
    (rg F86r18)
    (.skip))))
  (sr F86r19
  (.ret)))))))))))))⟩
theorem F86_ok : cFunc Tryd.prog 86 = some F86 := by kernel_rfl
def F87r0 : RL := [oo 6 (.mov (.c .emp))]
def F87r1 : RL := [oo 8 (ms 0),
 oo 9 (ms 1),
 oo 10 (ms 2),
 oo 11 (ms 0),
 oo 12 (.len false (.s 11)),
 oo 13 (.slc 6 (.s 8) (some (.s 9)) (some (.s 10)) (some (.s 12)))]
def F87r2 : RL := [oo 14 (ms 1),
 oo 15 (ms 2),
 oo 16 (bi .eql (.s 14) (.s 15))]
def F87r3 : RL := [oo 17 (ms 0),
 oo 6 (ms 17)]
def F87r4 : RL := [oo 18 (ms 0),
 oo 19 (.len false (.s 18)),
 oo 7 (ms 19)]
def F87r5 : RL := [oo 20 (ms 0),
 oo 21 (ms 1),
 oo 22 (.slc 6 (.s 20) none (some (.s 21)) none),
 oo 23 (ms 0),
 oo 24 (ms 2),
 oo 25 (.slc 6 (.s 23) (some (.s 24)) none none),
 oo 26 (.app 6 56 (.s 22) (.s 25)),
 oo 0 (ms 26)]
def F87r6 : RL := [oo 27 (ms 0),
 oo 28 (ms 0),
 oo 29 (.len false (.s 28)),
 oo 30 (ms 7),
 oo 31 (.slc 6 (.s 27) (some (.s 29)) (some (.s 30)) none),
 ow (.clr [zi 0, zi 0, zi 0, zi 0, zi 0, zs] (.s 31))]
def F87r7 : RL := [oo 32 (ms 0),
 oo 6 (ms 32)]
def F87 : AFn := ⟨33, [.tmp 6],
  sr F87r0
  (sr F87r1
  (.seq (sr F87r2
  (cd 16
    (sr F87r3
    (.ret))
    (.skip)))
  (sr F87r4
  (.seq (.reg F87r5 (some [[], [], [0, 1], [], [], [3, 4], [2, 5, 0, 1, 3, 4], [6, 0, 1, 2, 3, 4, 5]]))
  (sr F87r6
  (sr F87r7
  (.ret)))))))⟩
theorem F87_ok : cFunc Tryd.prog 87 = some F87 := by kernel_rfl
def F88r0 : RL := [oo 2 (.box 2 (.s 0)),
 oo 3 (.box 6 (.s 1)),
 oo 4 (.mov (.c .emp))]
def F88r1 : RL := [oo 5 (fd 0 2),
 oo 6 (ld 5),
 oo 7 (.len false (.s 6)),
 oo 8 (.mov (ci 0))]
def F88r2 : RL := [oo 9 (bi .lss (.s 8) (.s 7))]
def F88r3 : RL := [oo 10 (ms 8),
 oo 11 (fd 2 3),
 ow (.store 1 (.s 11) (.s 10))]
def F88r4 : RL := [oo 12 (ms 4),
 oo 13 (lq 6 3),
 oo 14 (.bsl 6 1 [zi 0, zi 0, zi 0, zi 0, zi 0, zs] [(0, .s 13)]),
 oo 15 (.app 6 56 (.s 12) (.s 14)),
 oo 4 (ms 15)]
def F88r5 : RL := [oo 16 (bi .add (.s 8) (ci 1)),
 oo 8 (ms 16)]
def F88r6 : RL := [oo 17 (ms 4),
 oo 4 (ms 17)]
def F88 : AFn := ⟨18, [.tmp 4],
  sr F88r0
  (.seq (sr F88r1
  (.block 0 (
    .loop (
      sr F88r2
      (.seq (cd 9
        (.skip)
        (.exit 0))
      (.seq (.block 1 (
        sr F88r3
        (rg F88r4)))
      (rg F88r5)))))))
  (sr F88r6
  (.ret)))⟩
theorem F88_ok : cFunc Tryd.prog 88 = some F88 := by kernel_rfl
def F89r0 : RL := [oo 1 (.box 2 (.s 0)),
 oo 2 (.new [zi 0, zi 0])]
def F89r1 : RL := [oo 3 (fd 0 1),
 oo 4 (ld 3),
 oo 5 (.nilc (.s 4)),
 oo 6 (fd 0 5),
 oo 7 (ld 6),
 oo 8 (fd 1 1),
 oo 9 (ld 8),
 oo 10 (.agg [zi 0, zi 0] [(0, (1, .s 7)), (1, (1, .s 9))]),
 ow (.store 2 (.s 2) (.s 10))]
def F89 : AFn := ⟨11, [.cell 2 (some 2)],
  sr F89r0
  (.seq (.reg F89r1 (some [[], [0], [1, 0], [2, 1, 0], [3, 2, 1, 0], [], [5], [4, 6, 3, 2, 1, 0, 5], [7, 0, 1, 2, 3, 4, 5, 6]]))
  (.ret))⟩
theorem F89_ok : cFunc Tryd.prog 89 = some F89 := by kernel_rfl
def F90r0 : RL := [oo 2 (.box 2 (.s 0)),
 oo 3 (.box 6 (.s 1)),
 oo 4 (.mov cF)]
def F90r1 : RL := [oo 5 (fd 0 2),
 oo 6 (ld 5),
 oo 7 (.nilc (.s 6)),
 oo 8 (fd 1 7),
 oo 9 (ld 8)]
def F90r2 : RL := [oo 11 (bi .eql (.s 9) (ci 1)),
 oo 10 (ms 11)]
def F90r3 : RL := [oo 12 (fd 0 3),
 oo 13 (ld 12),
 oo 14 (bi .eql (.s 13) (ci 2)),
 oo 4 (ms 14)]
def F90r4 : RL := [oo 16 (bi .eql (.s 9) (ci 2)),
 oo 15 (ms 16)]
def F90r5 : RL := [oo 17 (fd 0 3),
 oo 18 (ld 17),
 oo 19 (bi .eql (.s 18) (ci 4)),
 oo 20 (ms 19),
 ot 21 (fd 3 3) 20,
 ot 22 (fd 0 21) 20,
 ot 23 (lq 2 22) 20,
 ot 24 (lq 2 2) 20,
 ot 25 (cl 89 [.s 24]) 20,
 ot 26 (.eqs false 2 [(0, .int), (1, .int)] (.s 23) (.s 25)) 20,
 oo 27 (.pick (.s 20) (.s 26) cF),
 oo 4 (ms 27)]
def F90r6 : RL := [oo 4 (.mov cF)]
def F90 : AFn := ⟨28, [.tmp 4],
  sr F90r0
  (.seq (sr F90r1
  (.block 0 (
    sr F90r2
    (cd 10
      (sr F90r3
      (.ret))
      (sr F90r4
      (cd 15
        (.seq (.reg F90r5 (some [[], [0], [1, 0], [2, 1, 0], [3, 2, 1, 0], [4, 3, 2, 1, 0], [5, 3, 4, 2, 1, 0], [3, 2, 1, 0], [7, 3, 2, 1, 0], [6, 8, 3, 5, 4, 2, 1, 0, 7], [3, 9, 2, 1, 0, 6, 8, 5, 4, 7], [10, 8, 0, 1, 2, 3, 4, 5, 6, 7, 9]]))
        (.ret))
        (.skip)))))))
  (sr F90r6
  (.ret)))⟩
theorem F90_ok : cFunc Tryd.prog 90 = some F90 := by kernel_rfl
def F91r0 : RL := [oo 2 (.box 3 (.s 0)),
 oo 3 (.box 3 (.s 1)),
 oo 4 (.new [zi 0, zi 0, zs])]
def F91r1 : RL := [oo 5 (fd 0 2),
 oo 6 (lq 2 5),
 oo 7 (fd 0 3),
 oo 8 (lq 2 7),
 oo 9 (cl 23 [.s 6, .s 8])]
def F91r2 : RL := [oo 10 (lq 3 3),
 ow (.store 3 (.s 4) (.s 10))]
def F91r3 : RL := [oo 11 (lq 3 2),
 ow (.store 3 (.s 4) (.s 11))]
def F91 : AFn := ⟨12, [.cell 4 (some 3)],
  sr F91r0
  (.seq (sr F91r1
  (cd 9
    (sr F91r2
    (.ret))
    (.skip)))
  (sr F91r3
  (.ret)))⟩
theorem F91_ok : cFunc Tryd.prog 91 = some F91 := by kernel_rfl
def F92r0 : RL := [oo 2 (.box 2 (.s 0)),
 oo 3 (.box 2 (.s 1)),
 oo 4 (.mov (.c .emp))]
def F92r1 : RL := [oo 5 (fd 0 2),
 oo 6 (ld 5),
 oo 7 (.nilc (.s 6)),
 oo 8 (fd 1 7),
 oo 9 (ld 8),
 oo 10 (bi .eql (.s 9) (ci 2))]
def F92r2 : RL := [oo 11 (fd 0 2),
 oo 12 (ld 11),
 oo 13 (.nilc (.s 12)),
 oo 14 (fd 1 13),
 ow (.store 1 (.s 14) (ci 3))]
def F92r3 : RL := [oo 4 (.mov (.c .emp))]
def F92r4 : RL := [oo 15 (fd 0 2),
 oo 16 (ld 15),
 oo 17 (fd 0 2),
 oo 18 (ld 17),
 oo 19 (.nilc (.s 18)),
 oo 20 (fd 4 19),
 oo 21 (fd 2 20),
 oo 22 (ld 21),
 oo 23 (.nilc (.s 16)),
 oo 24 (fd 3 23),
 ow (.store 1 (.s 24) (.s 22))]
def F92r5 : RL := [oo 25 (fd 0 2),
 oo 26 (ld 25),
 oo 27 (.nilc (.s 26)),
 oo 28 (fd 4 27),
 oo 29 (fd 0 28),
 oo 30 (lq 2 29),
 oo 31 (.agg [zi 0, zi 0] []),
 oo 32 (.eqs false 2 [(0, .int), (1, .int)] (.s 30) (.s 31))]
def F92r6 : RL := [oo 33 (fd 0 2),
 oo 34 (ld 33),
 oo 35 (fd 0 2),
 oo 36 (ld 35),
 oo 37 (.nilc (.s 36)),
 oo 38 (fd 2 37),
 oo 39 (ld 38),
 oo 40 (.nilc (.s 34)),
 oo 41 (fd 3 40),
 ow (.store 1 (.s 41) (.s 39))]
def F92r7 : RL := [oo 42 (fd 0 2),
 oo 43 (ld 42),
 oo 44 (fd 0 2),
 oo 45 (ld 44),
 oo 46 (.nilc (.s 43)),
 oo 47 (fd 1 46),
 ow (.store 1 (.s 47) (ci 2)),
 oo 48 (.nilc (.s 45)),
 oo 49 (fd 7 48),
 ow (.store 1 (.s 49) (.c (.v (.int .u64 0))))]
def F92r8 : RL := [oo 50 (lq 2 3),
 oo 51 (fd 1 2),
 oo 52 (ld 51),
 oo 53 (lq 2 2),
 oo 54 (cl 89 [.s 53]),
 oo 55 (fd 0 2),
 oo 56 (ld 55),
 oo 57 (.nilc (.s 56)),
 oo 58 (fd 3 57),
 oo 59 (ld 58),
 oo 60 (.agg [zi 0, zi 0, zs] [(0, (2, .s 54)), (2, (1, .s 59))]),
 oo 61 (.agg [zi 0, zi 0, zi 0, zi 0, zi 0, zs] [(0, (1, ci 3)), (1, (1, .s 52)), (3, (3, .s 60))]),
 oo 62 (cl 88 [.s 50, .s 61]),
 oo 4 (ms 62)]
def F92 : AFn := ⟨63, [.tmp 4],
  sr F92r0
  (.seq (sr F92r1
  (cd 10
    (sr F92r2
    (sr F92r3
    (.ret)))
    (.skip)))
  (.seq (.reg F92r4 (some [[], [0], [], [2], [3, 2], [4, 3, 2], [5, 4, 3, 2], [6, 5, 4, 3, 2], [1, 0, 2, 3, 4, 5, 6, 7], [8, 0, 1, 2, 3, 4, 5, 6, 7], [9, 7, 0, 1, 2, 3, 4, 5, 6, 8]]))
  (.seq (sr F92r5
  (cd 32
    (.reg F92r6 (some [[], [0], [], [2], [3, 2], [4, 3, 2], [5, 4, 3, 2], [1, 0, 2, 3, 4, 5, 6], [7, 0, 1, 2, 3, 4, 5, 6], [8, 6, 0, 1, 2, 3, 4, 5, 7]]))
    (.skip)))
  (.seq (.reg F92r7 (some [[], [0], [], [2], [1, 0], [4, 0, 1], [5, 0, 1, 4], [3, 0, 1, 2, 4, 5, 6], [7, 0, 1, 2, 3, 4, 5, 6], [8, 6, 0, 1, 2, 3, 4, 5, 7]]))
  (.seq (.reg F92r8 (some [[], [], [1], [], [3], [], [5], [6, 5], [7, 6, 5], [8, 7, 6, 5], [4, 9, 3, 8, 7, 6, 5], [2, 10, 1, 4, 9, 3, 8, 7, 6, 5], [0, 11, 4, 2, 10, 1, 9, 3, 8, 7, 6, 5], [12, 0, 1, 2, 3, 4, 5, 6, 7, 8, 9, 10, 11]]))
  (.ret))))))⟩
theorem F92_ok : cFunc Tryd.prog 92 = some F92 := by kernel_rfl
open Go.RowKit
section
variable {P : Program} {n k0 : Nat} {x : L3} {K : L3 → Prop} {Q : Ex → L3 → Prop} {R : List AOper} {k : Nat}
theorem OW.ope {v : AV} {u : List (Nat × Option Bk)} {acc : List Nat} {x' : L3} (hl : Nat.blt k R.length = true) (h : opE (opD R k) x = .done v u acc) (hx : (bif dstOK n (opD R k).dst && upsOK x.m.length u then some (⟨setA x.t (opD R k).dst v, mput x.m u⟩ : L3) else none) = some x') (hr : OW P n k0 (R.drop (k + 1)) x' K) : OW P n k0 (R.drop k) x K := by
  rw [opD_drop hl]
  cases hd : (dstOK n (opD R k).dst && upsOK x.m.length u) with
  | false => rw [hd] at hx; simp at hx
  | true =>
    rw [hd, cond_true] at hx
    simp only [Option.some.injEq] at hx
    subst hx
    simp only [Bool.and_eq_true] at hd
    exact OW.cons hd.1 h hd.2 hr
theorem DW.ope {dep : List (List Nat)} {rs : List Rec} {v : AV} {u : List (Nat × Option Bk)} {acc : List Nat} {x' : L3} (hl : Nat.blt k R.length = true) (h : opE (opD R k) x = .done v u acc) (hx : (bif dstOK n (opD R k).dst && upsOK x.m.length u then some (⟨setA x.t (opD R k).dst v, mput x.m u⟩ : L3) else none) = some x') (hr : DW P n dep (R.drop (k + 1)) x' (rs ++ [⟨(opD R k).dst, v, u, acc, x.m.length⟩]) K) : DW P n dep (R.drop k) x rs K := by
  rw [opD_drop hl]
  cases hd : (dstOK n (opD R k).dst && upsOK x.m.length u) with
  | false => rw [hd] at hx; simp at hx
  | true =>
    rw [hd, cond_true] at hx
    simp only [Option.some.injEq] at hx
    subst hx
    simp only [Bool.and_eq_true] at hd
    exact DW.cons hd.1 h hd.2 hr
end
section
variable {o : AOper} {x : L3}
theorem opE_sem (ao : AO) {v : AV} {u : List (Nat × Option Bk)} {acc see : List Nat} (ho : o.ao = ao) (hg : guardA (slot x.t) o.guard = some true) (h : (ao.sem x.m.length (argσ (slot x.t))).run (look x.m) = some (.done v u))
    (h2 : (ao.sem x.m.length (argσ (slot x.t))).acc (look x.m) = acc) (h3 : (ao.sem x.m.length (argσ (slot x.t))).see (look x.m) = see) : opE o x = .done v u (acc ++ see) := by
  unfold opE
  rw [hg]
  simp only [ho, h]
  unfold accOf
  rw [h2, h3]
theorem opE_ret (ao : AO) {v : AV} {u : List (Nat × Option Bk)} (ho : o.ao = ao) (hg : guardA (slot x.t) o.guard = some true) (h : ao.sem x.m.length (argσ (slot x.t)) = .ret (.done v u)) : opE o x = .done v u [] :=
  opE_sem ao (acc := []) (see := []) ho hg (by rw [h]; rfl) (by rw [h]; rfl) (by rw [h]; rfl)
theorem opE_shl (a b : Arg) (q q' : IntKind) (m d : Int) (ho : o.ao = .bin false .shl a b) (hg : guardA (slot x.t) o.guard = some true) (ha : argσ (slot x.t) a = .v (.int q m)) (hb : argσ (slot x.t) b = .v (.int q' d)) (hd : ¬ d < 0) : opE o x = .done (.v (.int q (q.wrap (m * 2 ^ (min d.toNat q.bits))))) [] [] :=
  opE_ret _ ho hg (by simp [AO.sem, ha, hb, binA, hd, RM.opt])
theorem opE_shr (a b : Arg) (q q' : IntKind) (m d : Int) (ho : o.ao = .bin false .shr a b) (hg : guardA (slot x.t) o.guard = some true) (ha : argσ (slot x.t) a = .v (.int q m)) (hb : argσ (slot x.t) b = .v (.int q' d)) (hd : ¬ d < 0) : opE o x = .done (.v (.int q (m.fdiv (2 ^ (min d.toNat q.bits))))) [] [] :=
  opE_ret _ ho hg (by simp [AO.sem, ha, hb, binA, hd, RM.opt])
theorem opE_len {α : Type} (f : α → List AV) (xs : List α) (a : Arg) (sz : Nat) (ho : o.ao = .len false a) (hg : guardA (slot x.t) o.guard = some true) (ha : argσ (slot x.t) a = .lst sz (xs.map f) ∨ argσ (slot x.t) a = .tls sz (xs.map f)) : opE o x = .done (VI xs.length) [] [] := by
  rcases ha with ha | ha <;> exact opE_ret _ ho hg (by simp [AO.sem, ha, goInt])
theorem opE_iad {α : Type} (f : α → List AV) (xs : List α) (a i : Arg) (sz : Nat) (q : IntKind) (m : Int) (y : α) (ho : o.ao = .iad sz a i) (hg : guardA (slot x.t) o.guard = some true) (ha : argσ (slot x.t) a = .lst sz (xs.map f) ∨ argσ (slot x.t) a = .tls sz (xs.map f)) (hi : argσ (slot x.t) i = .v (.int q m)) (h0 : 0 ≤ m) (hy : xs[m.toNat]? = some y) : opE o x = .done (.pim (f y) 0) [] [] := by
  rcases ha with ha | ha <;> exact opE_ret _ ho hg (by simp [AO.sem, ha, hi, h0, hy, RM.opt])
theorem idx_ex {α : Type} {xs : List α} {m : Int} (h : 0 ≤ m ∧ m < xs.length) : ∃ y, xs[m.toNat]? = some y := by
  have : m.toNat < xs.length := by omega
  exact ⟨xs[m.toNat], by simp [this]⟩
theorem opE_iado (a i : Arg) (sz id off len : Nat) (q : IntKind) (m : Int) (B : Bk) (ho : o.ao = .iad sz a i) (hg : guardA (slot x.t) o.guard = some true) (ha : argσ (slot x.t) a = .own id sz off len) (hi : argσ (slot x.t) i = .v (.int q m)) (h0 : 0 ≤ m ∧ m < len) (hB : look x.m id = some B) : opE o x = .done (.ref id sz (off + m.toNat) 0) [] [id] := by
  have hs : (AO.iad sz a i).sem x.m.length (argσ (slot x.t)) = .lv id (.ret (.done (.ref id sz (off + m.toNat) 0) [])) := by simp [AO.sem, ha, hi, h0]
  exact opE_sem _ (acc := []) (see := [id]) ho hg (by rw [hs]; simp [RM.run, hB]) (by rw [hs]; rfl) (by rw [hs]; rfl)
theorem opE_ldo (mm : Option Nat) (a : Arg) (id sz i oo : Nat) (els : List (List AV)) (cs : List AV) (v : AV) (ho : o.ao = .load mm a) (hg : guardA (slot x.t) o.guard = some true) (ha : argσ (slot x.t) a = .ref id sz i oo) (hB : look x.m id = some ⟨sz, els⟩) (hi : els[i]? = some cs) (hv : getCells cs oo mm = some v) : opE o x = .done v [] [id] := by
  have hs : (AO.load mm a).sem x.m.length (argσ (slot x.t)) = .rd id fun B => if B.sz = sz then .opt ((B.els[i]?.bind fun cs => getCells cs oo mm).map fun a => .done a []) else .fail := by simp [AO.sem, ha]
  exact opE_sem _ (acc := [id]) (see := []) ho hg (by rw [hs]; simp [RM.run, hB, hi, hv, RM.opt]) (by rw [hs]; simp [RM.acc, hB, hi, hv, RM.opt]) (by rw [hs]; simp [RM.see, hB, hi, hv, RM.opt])
theorem opE_sto (nn : Nat) (a b : Arg) (id sz i oo : Nat) (els : List (List AV)) (cs : List AV) (w : AV) (ho : o.ao = .store nn a b) (hg : guardA (slot x.t) o.guard = some true) (ha : argσ (slot x.t) a = .ref id sz i oo) (hb : argσ (slot x.t) b = w) (hB : look x.m id = some ⟨sz, els⟩) (hi : els[i]? = some cs)
    (hw : (Nat.beq w.cells.length nn && w.cells.all AV.one && Nat.ble (oo + nn) sz) = true) : opE o x = .done (.v undef) [(id, some ⟨sz, els.set i (putCells cs oo w.cells)⟩)] [id] := by
  simp only [Bool.and_eq_true] at hw
  obtain ⟨⟨w1, w2⟩, w3⟩ := hw
  have w1 := Nat.eq_of_beq_eq_true w1
  have w3 := Nat.le_of_ble_eq_true w3
  have hs : (AO.store nn a b).sem x.m.length (argσ (slot x.t)) = .rd id fun B => if B.sz = sz then match B.els[i]? with
        | some cs => .ret (.done (.v undef) [(id, some ⟨sz, B.els.set i (putCells cs oo w.cells)⟩)])
        | none => .fail else .fail := by
    simp [AO.sem, ha, hb, w1, w2, w3]
    rfl
  exact opE_sem _ (acc := [id]) (see := []) ho hg (by rw [hs]; simp [RM.run, hB, hi]) (by rw [hs]; simp [RM.acc, hB, hi]) (by rw [hs]; simp [RM.see, hB, hi])
theorem opE_isn_ne {α : Type} (f : α → List AV) (xs : List α) (a : Arg) (sz : Nat) (neg : Bool) (ho : o.ao = .isn .sl neg a) (hg : guardA (slot x.t) o.guard = some true) (ha : argσ (slot x.t) a = .lst sz (xs.map f) ∨ argσ (slot x.t) a = .tls sz (xs.map f)) (he : List.isEmpty xs = false) : opE o x = .done (.v (.bool neg)) [] [] := by
  rcases ha with ha | ha <;> exact opE_ret _ ho hg (by simp [AO.sem, ha, he])
theorem opE_isn_any {α : Type} (f : α → List AV) (xs : List α) (a : Arg) (sz : Nat) (neg : Bool) (ho : o.ao = .isn .sl neg a) (hg : guardA (slot x.t) o.guard = some true) (ha : argσ (slot x.t) a = .lst sz (xs.map f) ∨ argσ (slot x.t) a = .tls sz (xs.map f)) (he : List.isEmpty xs = true) : opE o x = .done .anyb [] [] := by
  rcases ha with ha | ha <;> exact opE_ret _ ho hg (by simp [AO.sem, ha, he])
theorem opE_slc {α : Type} (f : α → List AV) (xs : List α) (a : Arg) (lo hi : Option Arg) (sz l h : Nat) (ho : o.ao = .slc sz a lo hi none) (hg : guardA (slot x.t) o.guard = some true) (ha : argσ (slot x.t) a = .lst sz (xs.map f) ∨ argσ (slot x.t) a = .tls sz (xs.map f))
    (hl : (optNat (argσ (slot x.t)) lo).map (·.getD 0) = some l) (hh : (optNat (argσ (slot x.t)) hi).map (·.getD xs.length) = some h) (hb : l ≤ h ∧ h ≤ xs.length) : opE o x = .done (.lst sz (((xs.drop l).take (h - l)).map f)) [] [] := by
  obtain ⟨lo', h1, rfl⟩ := Option.map_eq_some_iff.1 hl
  obtain ⟨hi', h2, rfl⟩ := Option.map_eq_some_iff.1 hh
  have hsem : optNat (argσ (slot x.t)) none = some none := rfl
  rcases ha with ha | ha <;> exact opE_ret _ ho hg (by simp [AO.sem, ha, h1, h2, hsem, bounds, hb, cutL, RM.opt, List.map_drop, List.map_take])
end
section
variable {o : AOper} {x : L3}
theorem run_bind {α β : Type} {g : Nat → Option Bk} {f : α → RM β} : ∀ (m : RM α) {a : α}, m.run g = some a → (m.bind f).run g = (f a).run g ∧ (m.bind f).acc g = m.acc g ++ (f a).acc g ∧ (m.bind f).see g = m.see g ++ (f a).see g
  | .ret b, a, h => by simp only [RM.run, Option.some.injEq] at h; subst h; exact ⟨rfl, rfl, rfl⟩
  | .fail, a, h => by simp [RM.run] at h
  | .rd id k, a, h => by
    cases hg : g id with
    | none => simp [RM.run, hg] at h
    | some B =>
      simp only [RM.run, hg] at h
      obtain ⟨h1, h2, h3⟩ := run_bind (f := f) (k B) h
      exact ⟨by simp [RM.bind, RM.run, hg, h1], by simp [RM.bind, RM.acc, hg, h2], by simp [RM.bind, RM.see, hg, h3]⟩
  | .lv id k, a, h => by
    cases hg : g id with
    | none => simp [RM.run, hg] at h
    | some B =>
      simp only [RM.run, hg] at h
      obtain ⟨h1, h2, h3⟩ := run_bind (f := f) k h
      exact ⟨by simp [RM.bind, RM.run, hg, h1], by simp [RM.bind, RM.acc, h2], by simp [RM.bind, RM.see, h3]⟩
inductive Src {α : Type} (f : α → List AV) (sz : Nat) (g : Nat → Option Bk) : AV → List α → List Nat → Prop
  | lst {ys : List α} : Src f sz g (.lst sz (ys.map f)) ys []
  | tls {ys : List α} : Src f sz g (.tls sz (ys.map f)) ys []
  | emp : Src f sz g .emp [] []
  | own {id off len : Nat} {els : List (List AV)} {ys : List α} (hB : g id = some ⟨sz, els⟩) (hy : (els.drop off).take len = ys.map f) (hl : off + len ≤ els.length) : Src f sz g (.own id sz off len) ys [id]
theorem Src.content {α : Type} {f : α → List AV} {sz : Nat} {g : Nat → Option Bk} {v : AV} {ys : List α} {acc : List Nat} (h : Src f sz g v ys acc) : (content sz v).run g = some (ys.map f) ∧ (content sz v).acc g = acc ∧ (content sz v).see g = [] := by
  cases h with
  | lst => simp [YtligepciannclaaDoor.content, RM.run, RM.acc, RM.see]
  | tls => simp [YtligepciannclaaDoor.content, RM.run, RM.acc, RM.see]
  | emp => simp [YtligepciannclaaDoor.content, RM.run, RM.acc, RM.see]
  | own hB hy hl => simp [YtligepciannclaaDoor.content, RM.run, RM.acc, RM.see, hB, hy, hl]
theorem opE_appO {α : Type} (f : α → List AV) (xs ys : List α) (s a : Arg) (sz by_ id : Nat) (w : AV) (acc : List Nat) (ho : o.ao = .app sz by_ s a) (hg : guardA (slot x.t) o.guard = some true) (hs : argσ (slot x.t) s = .own id sz 0 xs.length) (hB : look x.m id = some ⟨sz, xs.map f⟩) (ha : argσ (slot x.t) a = w) (hw : Src f sz (look x.m) w ys acc)
    (hb : (xs.length + ys.length) * by_ ≤ 140737488355328) : opE o x = .done (.own x.m.length sz 0 (xs ++ ys).length) [(id, none), (x.m.length, some ⟨sz, (xs ++ ys).map f⟩)] (acc ++ [id]) := by
  obtain ⟨c1, c2, c3⟩ := hw.content
  let F : List (List AV) → RM Out := fun ys => .rd id fun B => if sz = sz ∧ B.sz = sz ∧ 0 = 0 ∧ xs.length = B.els.length ∧ (xs.length + ys.length) * by_ ≤ 140737488355328 then .ret (.done (.own x.m.length sz 0 (xs.length + ys.length)) [(id, none), (x.m.length, some ⟨sz, B.els ++ ys⟩)])
    else if sz = sz ∧ B.sz = sz ∧ 0 + xs.length + ys.length ≤ B.els.length then .ret (.done (.own id sz 0 (xs.length + ys.length)) [(id, some ⟨B.sz, B.els.take (0 + xs.length) ++ ys ++ B.els.drop (0 + xs.length + ys.length)⟩), (x.m.length, none)]) else .fail
  have hsem : (AO.app sz by_ s a).sem x.m.length (argσ (slot x.t)) = (content sz w).bind F := by simp [AO.sem, hs, ha, F]
  obtain ⟨r1, r2, r3⟩ := run_bind (f := F) _ c1
  have := opE_sem (AO.app sz by_ s a) (o := o) (x := x) (v := .own x.m.length sz 0 (xs ++ ys).length) (u := [(id, none), (x.m.length, some ⟨sz, (xs ++ ys).map f⟩)]) (acc := acc ++ [id]) (see := []) ho hg (by rw [hsem, r1]; simp [F, hb, RM.run, hB]) (by rw [hsem, r2, c2]; simp [F, hb, RM.acc, hB]) (by rw [hsem, r3, c3]; simp [F, hb, RM.see, hB])
  simpa using this
end
open Go.RowKit
inductive Src0 where
  | old (id : Nat) (raw : Bool)
  | new (sz : Nat)
def newOf : List Src0 → Nat → Nat → Option Nat
  | [], _, _ => none
  | .old i _ :: r, j, id => bif Nat.beq i id then some j else newOf r (j + 1) id
  | .new _ :: r, j, id => newOf r (j + 1) id
def ren (ρ : Nat → Option Nat) : Nat → AV → AV
  | 0, _ => .dead
  | d + 1, .agg cs => .agg (cs.map (ren ρ d))
  | d + 1, .tup cs => .tup (cs.map (ren ρ d))
  | d + 1, .fn f cs => .fn f (cs.map (ren ρ d))
  | d + 1, .bf f cs => .bf f (cs.map (ren ρ d))
  | d + 1, .yld r cs => .yld r (cs.map (ren ρ d))
  | _ + 1, .ref id sz i o => match ρ id with
    | some j => .ref j sz i o
    | none => .dead
  | _ + 1, .own id sz off n => match ρ id with
    | some j => .own j sz off n
    | none => .dead
  | _ + 1, .mp id => match ρ id with
    | some j => .mp j
    | none => .dead
  | _ + 1, a => a
def renB (ρ : Nat → Option Nat) (B : Bk) : Bk := ⟨B.sz, B.els.map fun cs => cs.map (ren ρ 3)⟩
def rhoOf (m : List (Option Bk)) (src : List Src0) (id : Nat) : Option Nat := bif (look m id).isSome then newOf src 0 id else none
def renS (ρ : Nat → Option Nat) (src : List Src0) (es : List (Nat × Nat)) (j : Nat) (a : AV) : AV :=
  match a, es.lookup j with
  | .emp, some i => match src[i]? with
    | some (.new sz) => .own i sz 0 0
    | _ => .emp
  | a, _ => ren ρ 4 a
def blkOf (m : List (Option Bk)) (src : List Src0) : Src0 → Option Bk
  | .old i raw => (look m i).map fun B => bif raw then B else renB (rhoOf m src) B
  | .new sz => some ⟨sz, []⟩
def srcOK (k0 : Nat) (src : List Src0) : Bool :=
  (List.range src.length).all (fun i => match src[i]? with
    | some (.old id _) => match newOf src 0 id with
      | some j => Nat.beq j i
      | none => false
    | some (.new sz) => Nat.ble 1 sz
    | _ => true) && (List.range k0).all fun i => match src[i]? with
    | some (.old id _) => Nat.beq id i
    | _ => false
def normL (k0 : Nat) (live : List Nat) (src : List Src0) (es : List (Nat × Nat)) (x : L3) : Option L3 :=
  bif srcOK k0 src then some ⟨live.map fun j => (j, renS (rhoOf x.m src) src es j (slot x.t j)), src.map (blkOf x.m src)⟩ else none
def lnOf (ln : Nat → Nat) : Option Src0 → Nat
  | some (.old id _) => ln id
  | _ => 0
def locOf (loc : Nat → Option Nat) : Option Src0 → Option Nat
  | some (.old id _) => loc id
  | _ => none
theorem emp_inv {E : Env} {v : Value} (h : Rep E v .emp) : ∃ A, v = .slice A 0 0 := by
  cases h with
  | emp => exact ⟨_, rfl⟩
theorem newOf_src : ∀ (src : List Src0) (k id j : Nat), newOf src k id = some j → k ≤ j ∧ ∃ raw, src[j - k]? = some (.old id raw)
  | [], k, id, j, h => by simp [newOf] at h
  | .old i raw :: r, k, id, j, h => by
    simp only [newOf] at h
    cases hb : Nat.beq i id with
    | true =>
      rw [hb] at h
      simp only [cond_true, Option.some.injEq] at h
      subst h
      have := Nat.eq_of_beq_eq_true hb
      subst this
      exact ⟨by omega, raw, by simp⟩
    | false =>
      rw [hb, cond_false] at h
      obtain ⟨h1, h2⟩ := newOf_src r (k + 1) id j h
      refine ⟨by omega, ?_⟩
      rw [show j - k = (j - (k + 1)) + 1 by omega, List.getElem?_cons_succ]
      exact h2
  | .new _ :: r, k, id, j, h => by
    simp only [newOf] at h
    obtain ⟨h1, h2⟩ := newOf_src r (k + 1) id j h
    refine ⟨by omega, ?_⟩
    rw [show j - k = (j - (k + 1)) + 1 by omega, List.getElem?_cons_succ]
    exact h2
theorem slot_map (G : Nat → AV) : ∀ (live : List Nat) (i : Nat), slot (live.map fun j => (j, G j)) i = G i ∨ slot (live.map fun j => (j, G j)) i = .dead
  | [], i => .inr rfl
  | j :: r, i => by
    simp only [List.map_cons, slot]
    cases hb : Nat.beq i j with
    | true =>
      have := Nat.eq_of_beq_eq_true hb
      subst this
      exact .inl rfl
    | false => exact slot_map G r i
theorem look_map (m : List (Option Bk)) (src : List Src0) (i : Nat) : look (src.map (blkOf m src)) i = (src[i]?).bind (blkOf m src) := by
  unfold look
  rw [List.getElem?_map]
  cases src[i]? <;> simp
section
variable {E E' : Env} {ρ : Nat → Option Nat}
theorem ren_rep (hI : E'.I = E.I) (hw : E'.w = E.w) (hg : ∀ l, E.rg l → E'.rg l) (hρ : ∀ id j, ρ id = some j → E'.kn j ∧ ¬ E'.dead j ∧ E'.loc j = E.loc id ∧ ¬ E.dead id ∧ E'.ln j = E.ln id) : ∀ (d : Nat) {v : Value} {a : AV}, Rep E v a → Rep E' v (ren ρ d a) := by
  have hp : ∀ {v : Value} {a : AV}, Rep E v a → Pu a → Rep E' v a := fun h hp => h.pure (fun b hb => ⟨by rw [hI]; exact hb, fun o => by rw [hw]⟩) hp
  intro d
  induction d with
  | zero => intro v a h; exact .dead
  | succ d ih =>
    have ihm : ∀ {vs : Array Value} {cs : List AV}, vs.size = cs.length → (∀ (i : Nat) v c, vs[i]? = some v → cs[i]? = some c → Rep E v c) → vs.size = (cs.map (ren ρ d)).length ∧ ∀ (i : Nat) v c, vs[i]? = some v → (cs.map (ren ρ d))[i]? = some c → Rep E' v c := by
      intro vs cs hl h
      refine ⟨by simpa using hl, fun i v c hv hc => ?_⟩
      rw [List.getElem?_map, Option.map_eq_some_iff] at hc
      obtain ⟨c0, hc0, rfl⟩ := hc
      exact ih (h i v c0 hv hc0)
    intro v a h
    cases a with
    | v x => exact hp h .v
    | agg cs => cases h with | agg hl hh => obtain ⟨q1, q2⟩ := ihm hl hh; exact .agg q1 q2
    | tup cs => cases h with | tup hl hh => obtain ⟨q1, q2⟩ := ihm hl hh; exact .tup q1 q2
    | fn f cs => cases h with | fn hl hh => obtain ⟨q1, q2⟩ := ihm hl hh; exact .fn q1 q2
    | bf f cs => cases h with | bf hl hh => obtain ⟨q1, q2⟩ := ihm hl hh; exact .bf q1 q2
    | yld r cs => cases h with | yld h1 h2 h3 hl hh => obtain ⟨q1, q2⟩ := ihm hl hh; exact .yld (hg _ h1) (by rw [hI]; exact h2) (by rw [hw]; exact h3) q1 q2
    | lst sz els => exact hp h .lst
    | tls sz els => exact hp h .tls
    | emp => exact hp h .emp
    | pim cs o => exact hp h .pim
    | anyb => exact hp h .anyb
    | dead => exact .dead
    | ref id sz i o =>
      simp only [ren]
      cases hr : ρ id with
      | none => exact .dead
      | some j =>
        obtain ⟨r1, r2, r3, r4, r5⟩ := hρ id j hr
        cases h with
        | ref hi hd hb hq => exact .ref r1 r2 (r3.trans hb) hq
        | staleR hi hd ho => exact absurd hd r4
    | own id sz off n =>
      simp only [ren]
      cases hr : ρ id with
      | none => exact .dead
      | some j =>
        obtain ⟨r1, r2, r3, r4, r5⟩ := hρ id j hr
        cases h with
        | own hi hd hb hq hs hm hl hc hln => exact .own r1 r2 (r3.trans hb) hq (by rw [hw]; exact hs) hm hl hc (by rw [r5]; exact hln)
        | own0 hi hd hb hln => exact .own0 r1 r2 (r3.trans hb) (r5.trans hln)
        | staleO hi hd ho => exact absurd hd r4
    | mp id =>
      simp only [ren]
      cases hr : ρ id with
      | none => exact .dead
      | some j =>
        obtain ⟨r1, r2, r3, r4, r5⟩ := hρ id j hr
        cases h with
        | mp hi hd hb => exact .mp r1 r2 (r3.trans hb)
        | staleP hi hd ho => exact absurd hd r4
end
def PuS (m : List (Option Bk)) : List Src0 → Prop
  | [] => True
  | .old id true :: r => (∃ (α : Type) (f : α → List AV) (xs : List α) (sz : Nat), look m id = some ⟨sz, xs.map f⟩ ∧ ∀ y, (f y).all AV.pu1 = true) ∧ PuS m r
  | _ :: r => PuS m r
abbrev PuE (m : List (Option Bk)) (id : Nat) : Prop := ∃ (α : Type) (f : α → List AV) (xs : List α) (sz : Nat), look m id = some ⟨sz, xs.map f⟩ ∧ ∀ y, (f y).all AV.pu1 = true
theorem pu {α : Type} {m : List (Option Bk)} {id : Nat} (sz : Nat) (f : α → List AV) (xs : List α) (h : look m id = some ⟨sz, xs.map f⟩) (hp : ∀ y, (f y).all AV.pu1 = true) : PuE m id := ⟨α, f, xs, sz, h, hp⟩
theorem PuS.get {m : List (Option Bk)} : ∀ {src : List Src0}, PuS m src → ∀ (i id : Nat), src[i]? = some (.old id true) → ∀ B, look m id = some B → ∀ cs, cs ∈ B.els → ∀ c, c ∈ cs → Pu c
  | [], _, i, id, h, B, hB, cs, hcs, c, hc => by simp at h
  | .new _ :: r, hp, i, id, h, B, hB, cs, hcs, c, hc => by
    cases i with
    | zero => simp at h
    | succ i => exact PuS.get (src := r) hp i id (by simpa using h) B hB cs hcs c hc
  | .old _ false :: r, hp, i, id, h, B, hB, cs, hcs, c, hc => by
    cases i with
    | zero => simp at h
    | succ i => exact PuS.get (src := r) hp i id (by simpa using h) B hB cs hcs c hc
  | .old _ true :: r, hp, i, id, h, B, hB, cs, hcs, c, hc => by
    cases i with
    | zero =>
      simp only [List.getElem?_cons_zero, Option.some.injEq, Src0.old.injEq, and_true] at h
      subst h
      obtain ⟨⟨α, f, xs, sz, h1, h2⟩, _⟩ := hp
      rw [h1] at hB
      simp only [Option.some.injEq] at hB
      subst hB
      simp only [List.mem_map] at hcs
      obtain ⟨y, _, rfl⟩ := hcs
      have := h2 y
      simp only [List.all_eq_true] at this
      exact AV.pu1_pu (this c hc)
    | succ i => exact PuS.get (src := r) hp.2 i id (by simpa using h) B hB cs hcs c hc
theorem Mk.same {E E' : Env} (hI : E'.I = E.I) (hw : E'.w = E.w) {lo : Nat} {ds : List Deferred} (h : Mk E lo ds) : Mk E' lo ds := by
  induction h with
  | nil => exact .nil
  | cons h1 hD hh hne t ih => exact .cons (by rw [hI]; exact h1) hD (by rw [hw]; exact hh) hne ih
theorem norm_le {n k0 : Nat} {live : List Nat} {src : List Src0} {es : List (Nat × Nat)} {x y : L3} (h : normL k0 live src es x = some y) (hpu : PuS x.m src) : x.s.Le k0 n y.s := by
  have hp := hpu.get
  unfold normL at h
  cases hok : srcOK k0 src with
  | false => rw [hok] at h; simp at h
  | true =>
  rw [hok, cond_true, Option.some.injEq] at h
  subst h
  simp only [srcOK, Bool.and_eq_true, List.all_eq_true, List.mem_range] at hok
  obtain ⟨ok1, ok2⟩ := hok
  have inj : ∀ i id raw, src[i]? = some (.old id raw) → newOf src 0 id = some i := by
    intro i id raw hi
    have hlt : i < src.length := (List.getElem?_eq_some_iff.1 hi).1
    have := ok1 i hlt
    rw [hi] at this
    simp only at this
    cases hn : newOf src 0 id with
    | none => rw [hn] at this; simp at this
    | some j => rw [hn] at this; simp only at this; rw [Nat.eq_of_beq_eq_true this]
  have low : ∀ i, i < k0 → ∃ raw, src[i]? = some (.old i raw) := by
    intro i hi
    have := ok2 i hi
    cases hs : src[i]? with
    | none => rw [hs] at this; simp at this
    | some q =>
      cases q with
      | old id raw => rw [hs] at this; simp only at this; exact ⟨raw, by rw [Nat.eq_of_beq_eq_true this]⟩
      | new sz => rw [hs] at this; simp at this
  intro E0 J base w0 a w hk hr
  obtain ⟨E, rfl, hle, hs, hm, hkn, hmk⟩ := hr.ex
  let E' : Env := { w := E.w, kn := fun i => i < src.length, loc := fun i => locOf E.loc (src[i]?), dead := fun i => look (src.map (blkOf x.m src)) i = none, I := E.I, ln := fun i => lnOf E.ln (src[i]?), rg := E.rg }
  have hlive : ∀ id, look x.m id ≠ none → E.kn id ∧ ¬ E.dead id := fun id hid => by
    obtain ⟨B, hB⟩ := Option.ne_none_iff_exists'.1 hid
    exact (hm.live id).2 ⟨B, hB⟩
  have hρ : ∀ id j, rhoOf x.m src id = some j → E'.kn j ∧ ¬ E'.dead j ∧ E'.loc j = E.loc id ∧ ¬ E.dead id ∧ E'.ln j = E.ln id := by
    intro id j hj
    unfold rhoOf at hj
    cases hB : look x.m id with
    | none => rw [hB] at hj; simp at hj
    | some B =>
      rw [hB] at hj
      simp only [Option.isSome_some, cond_true] at hj
      obtain ⟨_, raw, h2⟩ := newOf_src src 0 id j hj
      simp only [Nat.sub_zero] at h2
      refine ⟨(List.getElem?_eq_some_iff.1 h2).1, ?_, ?_, (hlive id (by rw [hB]; simp)).2, by show lnOf E.ln (src[j]?) = _; rw [h2]; rfl⟩
      · show ¬ look _ j = none
        rw [look_map, h2]; simp [blkOf, hB]
      · show locOf E.loc (src[j]?) = _
        rw [h2]; rfl
  have hR : ∀ (d : Nat) {v : Value} {a : AV}, Rep E v a → Rep E' v (ren (rhoOf x.m src) d a) := ren_rep (E := E) (E' := E') rfl rfl (fun _ h => h) hρ
  have hget : ∀ i B', look (src.map (blkOf x.m src)) i = some B' → (∃ id raw B, src[i]? = some (.old id raw) ∧ look x.m id = some B ∧ B' = (bif raw then B else renB (rhoOf x.m src) B) ∧ E'.loc i = E.loc id) ∨ (∃ sz, src[i]? = some (.new sz) ∧ B' = ⟨sz, []⟩ ∧ E'.loc i = none) := by
    intro i B' hB'
    rw [look_map] at hB'
    cases hsi : src[i]? with
    | none => rw [hsi] at hB'; simp at hB'
    | some q =>
      rw [hsi] at hB'
      cases q with
      | old id raw =>
        simp only [Option.bind_some, blkOf, Option.map_eq_some_iff] at hB'
        obtain ⟨B, hB, rfl⟩ := hB'
        refine .inl ⟨id, raw, B, rfl, hB, rfl, ?_⟩
        show locOf E.loc (src[i]?) = _
        rw [hsi]; rfl
      | new sz =>
        simp only [Option.bind_some, blkOf, Option.some.injEq] at hB'
        subst hB'
        refine .inr ⟨sz, rfl, rfl, ?_⟩
        show locOf E.loc (src[i]?) = _
        rw [hsi]; rfl
  have hM : MemAt E' J base (look (src.map (blkOf x.m src))) := by
    refine ⟨fun i => ?_, fun i B' hB' => ?_, fun i i' b B1 B2 h1 h2 h3 h4 => ?_, fun i b B' hB' hl => ?_, hm.low, hm.size, fun i B' hB' hzz => ?_, hm.rgb⟩
    · show (i < src.length ∧ ¬ look _ i = none) ↔ _
      constructor
      · rintro ⟨_, h2⟩
        exact Option.ne_none_iff_exists'.1 h2
      · rintro ⟨B, hB⟩
        refine ⟨?_, by rw [hB]; simp⟩
        rw [look_map] at hB
        cases hsi : src[i]? with
        | none => rw [hsi] at hB; simp at hB
        | some q => exact (List.getElem?_eq_some_iff.1 hsi).1
    · rcases hget i B' hB' with ⟨id, raw, B, e1, e2, hBB, e4⟩ | ⟨sz, e1, rfl, e3⟩
      · rw [e4]
        have := hm.at_ id B e2
        have hsz : B'.sz = B.sz ∧ B'.els.length = B.els.length := by subst hBB; cases raw <;> simp [renB]
        have hel : ∀ (i : Nat) cs', B'.els[i]? = some cs' → ∃ cs, B.els[i]? = some cs ∧ cs'.length = cs.length ∧ ∀ (j : Nat) c', cs'[j]? = some c' → ∃ c, cs[j]? = some c ∧ ∀ u, Rep E u c → Rep E' u c' := by
          subst hBB
          cases raw with
          | true =>
            intro i' cs hi
            refine ⟨cs, hi, rfl, fun j c hj => ⟨c, hj, fun u hu => ?_⟩⟩
            exact Rep.pure (E := E) (E' := E') (fun b hb => ⟨hb, fun _ => rfl⟩) hu (hp i id e1 B e2 cs (List.mem_of_getElem? hi) c (List.mem_of_getElem? hj))
          | false =>
            intro i' cs' hi
            simp only [cond_false, renB, List.getElem?_map, Option.map_eq_some_iff] at hi
            obtain ⟨cs, hcs, rfl⟩ := hi
            refine ⟨cs, hcs, by simp, fun j c' hj => ?_⟩
            rw [List.getElem?_map, Option.map_eq_some_iff] at hj
            obtain ⟨c, hc, rfl⟩ := hj
            exact ⟨c, hc, fun u hu => hR 3 hu⟩
        cases hl : E.loc id with
        | none =>
          rw [hl] at this
          show B'.els = []
          have h0 : B.els = [] := this
          have := hsz.2
          rw [h0] at this
          exact List.eq_nil_of_length_eq_zero this
        | some b =>
          rw [hl] at this
          obtain ⟨q1, ⟨hz, arr, t, q2, q3, q4⟩ | ⟨hz, ent, clock, q2, q3, q4⟩⟩ := this
          · refine .ofCells ⟨q1, arr, t, q2, by rw [hsz.1, hsz.2]; exact q3, fun i cs' hi => ?_⟩ (by rw [hsz.1]; exact hz)
            obtain ⟨cs, hcs, hlen, hcell⟩ := hel i cs' hi
            obtain ⟨p1, p2⟩ := q4 i cs hcs
            refine ⟨by rw [hlen, hsz.1]; exact p1, fun j c' hj => ?_⟩
            obtain ⟨c, hc, hrep⟩ := hcell j c' hj
            obtain ⟨u, u1, u2, u3⟩ := p2 j c hc
            exact ⟨u, by rw [hsz.1]; exact u1, u2, hrep u u3⟩
          · refine .ofMap ⟨q1, ent, clock, q2, by rw [hsz.2]; exact q3, fun i' e cs' he hi => ?_⟩ (by rw [hsz.1]; exact hz)
            subst hBB
            cases raw with
            | true =>
              obtain ⟨y, k1, k2, k3⟩ := q4 i' e cs' he hi
              refine ⟨y, k1, k2, Rep.pure (E := E) (E' := E') (fun b hb => ⟨hb, fun _ => rfl⟩) k3 (hp i id e1 B e2 cs' (List.mem_of_getElem? hi) y (by rw [k1]; simp))⟩
            | false =>
              simp only [cond_false, renB, List.getElem?_map, Option.map_eq_some_iff] at hi
              obtain ⟨cs, hcs, rfl⟩ := hi
              obtain ⟨y, rfl, k2, k3⟩ := q4 i' e cs he hcs
              exact ⟨ren (rhoOf x.m src) 3 y, rfl, k2, hR 3 k3⟩
      · rw [e3]; rfl
    · rcases hget i B1 h1 with ⟨id, raw, B, e1, e2, _, e4⟩ | ⟨sz, _, _, e3⟩
      · rcases hget i' B2 h2 with ⟨id', raw', B', f1, f2, _, f4⟩ | ⟨sz, _, _, f3⟩
        · rw [e4] at h3; rw [f4] at h4
          have := hm.apart id id' b B B' e2 f2 h3 h4
          subst this
          have a1 := inj i id raw e1
          have a2 := inj i' id raw' f1
          rw [a1] at a2
          exact Option.some.inj a2
        · rw [f3] at h4; simp at h4
      · rw [e3] at h3; simp at h3
    · rcases hget i B' hB' with ⟨id, raw, B, e1, e2, _, e4⟩ | ⟨sz, _, _, e3⟩
      · rw [e4] at hl; exact hm.out id b B e2 hl
      · rw [e3] at hl; simp at hl
    · show _ = lnOf E.ln (src[i]?)
      rcases hget i B' hB' with ⟨id, raw, B, e1, e2, e3, e4⟩ | ⟨sz, e1, e2, e3⟩
      · rw [e1]; show _ = E.ln id
        rw [← hm.len id B e2 (by subst e3; cases raw <;> simpa [renB] using hzz), e3]; cases raw <;> simp [renB]
      · rw [e1, e2]; rfl
  have hE0 : E0.Le E' := by
    have locE : ∀ id, E0.kn id → E'.loc id = E.loc id := fun id hid => by
      show locOf E.loc (src[id]?) = _
      obtain ⟨raw, hl⟩ := low id (hk id hid)
      rw [hl]; rfl
    have deadE : ∀ id, E0.kn id → E.dead id → E'.dead id := fun id hid hd => by
      show look _ id = none
      obtain ⟨raw, hl⟩ := low id (hk id hid)
      rw [look_map, hl]
      cases hB : look x.m id with
      | none => simp [blkOf, hB]
      | some B => exact absurd hd (hlive id (by rw [hB]; simp)).2
    refine ⟨fun id hid => (low id (hk id hid)).elim fun _ hl => (List.getElem?_eq_some_iff.1 hl).1, hle.imm, fun id hid hd => deadE id hid (hle.dead id hid hd), fun id hid hd => ?_, fun id b hid hd hb => ?_, fun id hid hd => ?_, hle.rg⟩
    · rcases hle.loc id hid hd with h | h
      · exact .inl (deadE id hid h)
      · exact .inr ((locE id hid).trans h)
    · rcases hle.shape id b hid hd hb with h | h
      · exact .inl (deadE id hid h)
      · exact .inr h
    · rcases hle.ln id hid hd with h | h
      · exact .inl (deadE id hid h)
      · refine .inr (Eq.trans ?_ h)
        show lnOf E.ln (src[id]?) = _
        obtain ⟨raw, hl⟩ := low id (hk id hid)
        rw [hl]; rfl
  have hmk' : Mk E' w0.heap.size a.defers := Mk.same (E := E) (E' := E') rfl rfl hmk
  refine ⟨⟨E', rfl, hE0, fun t => ?_, hM, fun id hid => ?_, hmk'⟩, hr.size, hr.below, hr.gl⟩
  · show Rep E' _ (slot (live.map fun j => (j, renS (rhoOf x.m src) src es j (slot x.t j))) t)
    rcases slot_map (fun j => renS (rhoOf x.m src) src es j (slot x.t j)) live t with h | h
    · rw [h]
      have ht := hs t
      have ht' : Rep E (a.tmps.getD t undef) (slot x.t t) := ht
      have hdef : Rep E' (a.tmps.getD t undef) (ren (rhoOf x.m src) 4 (slot x.t t)) := hR 4 ht'
      unfold renS
      split
      · rename_i i he hl
        rw [he] at ht'
        split
        · rename_i sz hsz
          obtain ⟨A, hA⟩ := emp_inv ht'
          rw [hA]
          have hB' : look (src.map (blkOf x.m src)) i = some ⟨sz, []⟩ := by rw [look_map, hsz]; rfl
          have hz : sz ≠ 0 := by
            have := ok1 i (List.getElem?_eq_some_iff.1 hsz).1
            rw [hsz] at this
            have := Nat.le_of_ble_eq_true this
            omega
          refine .own0 (List.getElem?_eq_some_iff.1 hsz).1 (by show ¬ look _ i = none; rw [hB']; simp) ?_ ?_
          · show locOf E.loc (src[i]?) = _
            rw [hsz]; rfl
          · show lnOf E.ln (src[i]?) = _
            rw [hsz]; rfl
        · obtain ⟨A, hA⟩ := emp_inv ht'
          rw [hA]
          exact .emp
      · exact hdef
    · rw [h]; exact .dead
  · show id < (src.map _).length
    rw [List.length_map]; exact hid
section
variable {P : Program} {n k0 : Nat} {x : L3} {Q : Ex → L3 → Prop}
theorem EL.loopN {a : AC} (I : Nat → L3 → Prop) {m : Nat} {y : L3} (live : List Nat) (src : List Src0) (es : List (Nat × Nat)) (hn : normL k0 live src es x = some y) (hpu : PuS x.m src) (h0 : I m y)
    (round : ∀ m x, I m x → EL P n k0 a x (Ex.thenL (fun x' => ∃ m', m' < m ∧ ∃ y, x'.s.Le k0 n y.s ∧ I m' y) Q)) : EL P n k0 (.loop a) x Q :=
  EL.loop (fun m x => ∃ y, x.s.Le k0 n y.s ∧ I m y) (m := m) ⟨y, norm_le hn hpu, h0⟩ fun m x ⟨y, h1, h2⟩ => EL.weak h1 (round m y h2)
theorem rE {I : Nat → L3 → Prop} {m m' : Nat} {y : L3} {live : List Nat} {src : List Src0} {es : List (Nat × Nat)} (hn : normL k0 live src es x = some y) (hpu : PuS x.m src) (hm : m' < m) (hI : I m' y) : ∃ m', m' < m ∧ ∃ y, x.s.Le k0 n y.s ∧ I m' y := ⟨m', hm, y, norm_le hn hpu, hI⟩
end
section
variable {g : Nat → Option Bk}
theorem run_bind_some {α β : Type} {f : α → RM β} {m : RM α} {a : α} {b : β} (h : m.run g = some a) (h2 : (f a).run g = some b) : (m.bind f).run g = some b := by rw [(run_bind m h).1]; exact h2
theorem snap1_map {α : Type} (f : α → List AV) (xs : List α) {id sz n : Nat} (hB : g id = some ⟨sz, xs.map f⟩) (hp : ∀ y, (f y).all AV.pu1 = true) (hn : n = xs.length) : (snap1 (.own id sz 0 n)).run g = some (.lst sz (xs.map f)) := by
  subst hn
  have hc : (content sz (.own id sz 0 xs.length)).run g = some (xs.map f) := by
    simp [content, RM.run, hB]
    exact List.take_of_length_le (by simp)
  have : (snap1 (.own id sz 0 xs.length)) = (content sz (.own id sz 0 xs.length)).bind fun els => if (els.all fun cs => cs.all AV.pu1) = true then .ret (.lst sz els) else .fail := rfl
  rw [this]
  refine run_bind_some hc ?_
  have hall : ((xs.map f).all fun cs => cs.all AV.pu1) = true := by simpa using fun y _ => hp y
  rw [if_pos hall]; rfl
theorem snapA_map {α : Type} (f : α → List AV) (xs : List α) {id sz n : Nat} (hB : g id = some ⟨sz, xs.map f⟩) (hp : ∀ y, (f y).all AV.pu1 = true) (hn : n = xs.length) : (snapA (.own id sz 0 n)).run g = some (.lst sz (xs.map f)) := snap1_map f xs hB hp hn
theorem sC {a a' : AV} {r l : List AV} (h : (snap1 a).run g = some a') (h2 : (snapL r).run g = some l) : (snapL (a :: r)).run g = some (a' :: l) := run_bind_some h (run_bind_some h2 rfl)
theorem snapA_agg {cs l : List AV} (h : (snapL cs).run g = some l) : (snapA (.agg cs)).run g = some (.agg l) := run_bind_some h rfl
theorem snapAs_nil : (snapAs []).run g = some [] := rfl
theorem sA {a a' : AV} {r l : List AV} (h : (snapA a).run g = some a') (h2 : (snapAs r).run g = some l) : (snapAs (a :: r)).run g = some (a' :: l) := run_bind_some h (run_bind_some h2 rfl)
theorem snapR_tup {vs l : List AV} (h : (snapAs vs).run g = some l) : (snapR (.tup vs)).run g = some (.tup l) := run_bind_some h rfl
theorem drop_get {α : Type} {xs : List α} {j : Nat} {a : α} (h : xs[j]? = some a) : xs.drop j = a :: xs.drop (j + 1) := by
  obtain ⟨hj, rfl⟩ := List.getElem?_eq_some_iff.1 h
  exact List.drop_eq_getElem_cons hj
end
def Ale (a b : AV) : Prop := ∀ (E : Env) (v : Value), Rep E v a → Rep E v b
theorem Ale.refl {a : AV} : Ale a a := fun _ _ h => h
theorem Ale.of_eq {a b : AV} (h : a = b) : Ale a b := h ▸ Ale.refl
theorem Ale.trans {a b c : AV} (h : Ale a b) (k : Ale b c) : Ale a c := fun E v r => k E v (h E v r)
theorem Ale.emp {sz : Nat} : Ale .emp (.lst sz []) := fun E v h => by
  obtain ⟨A, rfl⟩ := emp_inv h
  exact .lst0 (by omega)
inductive AleL : List AV → List AV → Prop
  | nil : AleL [] []
  | cons {a b : AV} {r s : List AV} (h : Ale a b) (t : AleL r s) : AleL (a :: r) (b :: s)
theorem AleL.get {r s : List AV} (h : AleL r s) : r.length = s.length ∧ ∀ (i : Nat) b, s[i]? = some b → ∃ a, r[i]? = some a ∧ Ale a b := by
  induction h with
  | nil => exact ⟨rfl, fun i b h => by simp at h⟩
  | cons h t ih =>
    refine ⟨by simp [ih.1], fun i b hb => ?_⟩
    cases i with
    | zero => simp only [List.getElem?_cons_zero, Option.some.injEq] at hb; subst hb; exact ⟨_, by simp, h⟩
    | succ i => exact ih.2 i b (by simpa using hb)
theorem Ale.tup {r s : List AV} (h : AleL r s) : Ale (.tup r) (.tup s) := fun E v hv => by
  cases hv with
  | tup hl hh => exact .tup (hl.trans h.get.1) fun i u c hu hc => let ⟨a, ha, hab⟩ := h.get.2 i c hc; hab _ _ (hh i u a hu ha)
theorem Ale.agg {r s : List AV} (h : AleL r s) : Ale (.agg r) (.agg s) := fun E v hv => by
  cases hv with
  | agg hl hh => exact .agg (hl.trans h.get.1) fun i u c hu hc => let ⟨a, ha, hab⟩ := h.get.2 i c hc; hab _ _ (hh i u a hu ha)
theorem fn_ofW {P : Program} {f : FuncId} {F : AFn} (hF : cFunc P f = some F) {as_ : List AV} (hl : as_.length ≤ F.n) {r : AV}
    (h : EW P F.n 0 F.code ⟨σ0 as_, fun _ => none, 0⟩ fun x s' => (x = .normal ∨ x = .ret) ∧ ∃ r', ((resR s'.σ F.res).bind snapR).run s'.g = some r' ∧ Ale r' r) : Fn P f as_ r := by
  intro w J vs hJ hG hrc
  obtain ⟨fn, c, h1, h2, h3, h4, h5⟩ := cFunc_inv hF
  have hm : MemAt (E0 w J) J w.heap.size (fun _ => none) := ⟨fun id => by simp [E0], fun id B hg => by simp at hg, fun id id' b B B' hg => by simp at hg, fun id b B hg => by simp at hg, fun b hb => ⟨hJ b hb, .inl hb⟩, Nat.le_refl _, fun id B hg => by simp at hg, fun _ h => h.elim⟩
  refine calls_marks h1 h2 (wpIn_mono (h none c (E0 w J) J w.heap.size w _ w (fun _ => rfl) h4 (fun id hid => hid.elim) ⟨⟨E0 w J, rfl, Env.Le.refl _, start_rep hrc _, hm, fun id hid => hid.elim, .nil⟩, ?_, Below.refl _ _, hG⟩) ?_)
  · simp only [Array.size_append, Array.size_replicate, hrc.1]; omega
  · rintro e a' w' ⟨x, s', ⟨hx, r', hr, hale⟩, rfl, hrel⟩
    obtain ⟨E1, rfl, hle, hs1, hM1, hk, hmk⟩ := hrel.ex
    refine ⟨by rcases hx with rfl | rfl <;> simp [Ex.up], marks_leave _ E1 hmk fun E' hS => ?_⟩
    have hM := hS.mem hM1
    have hs := fun t => hS.rep (hs1 t)
    obtain ⟨r0, hr1, hr2⟩ := bind_run hr
    obtain ⟨v, e1, e2⟩ := res_run hM hs h3 hr1
    have hI : ∀ ids b, Handed E' s'.g ids b → J b ∨ (w.heap.size ≤ b ∧ b < E'.w.heap.size) := by
      intro ids b hb
      rcases hb with hb | ⟨id, B, _, hg, hl⟩
      · have := hM.low b hb
        rcases this.2 with h | h
        · exact .inl h
        · exact .inr ⟨h, this.1⟩
      · have := hM.at_ id B hg
        rw [hl] at this
        exact .inr this.lt
    have hrep : Rep (Proofs.YtligepciannclaaDoor.E0 E'.w fun b => J b ∨ (w.heap.size ≤ b ∧ b < E'.w.heap.size)) v r := by
      refine hale _ _ ?_
      cases r0 with
      | tup us =>
        simp only [snapR] at hr2
        obtain ⟨l, m1, m2⟩ := bind_run hr2
        simp only [RM.run, Option.some.injEq] at m2; subst m2
        obtain ⟨k1, k2⟩ := snapAs_rep hM _ m1 (hI _)
        cases e2 with
        | tup hl h =>
          refine .tup (by rw [k1]; exact hl) fun i v c hv hc => ?_
          have hi : i < us.length := by rw [← k1]; exact (List.getElem?_eq_some_iff.1 hc).1
          exact k2 i v us[i] c (h i v _ hv (List.getElem?_eq_getElem hi)) (List.getElem?_eq_getElem hi) hc
      | _ => exact snapA_rep hM _ e2 hr2 (hI _)
    exact ⟨v, e1, v, rfl, hrep, hS.below (Nat.le_refl _) hrel.below⟩
theorem fW {P : Program} {f : FuncId} {F : AFn} (hF : cFunc P f = some F) {as_ : List AV} (hl : as_.length ≤ F.n) {r : AV}
    (h : EL P F.n 0 F.code (start as_) fun e x => (e = .normal ∨ e = .ret) ∧ ∃ r', ((resR (slot x.t) F.res).bind snapR).run (look x.m) = some r' ∧ Ale r' r) : Fn P f as_ r := by
  refine fn_ofW hF hl (EW.weak (start_le as_ _ _) (EW.conseq h ?_))
  rintro e s ⟨x', rfl, h1, h2⟩
  exact ⟨h1, h2⟩
theorem run_snap {x : L3} {res : List ARes} {r0 r' : AV} (h0 : (resR (slot x.t) res).run (look x.m) = some r0) (h : (snapR r0).run (look x.m) = some r') : ((resR (slot x.t) res).bind snapR).run (look x.m) = some r' := run_bind_some h0 h
theorem fi_ofW {P : Program} {f : FuncId} {F : AFn} (hF : cFunc P f = some F) {as_ : List AV} (hl : as_.length ≤ F.n) {g g' : Nat → Option Bk} {k k' : Nat} {r : AV}
    (h : EW P F.n k F.code ⟨σ0 as_, g, k⟩ fun x s' => (x = .normal ∨ x = .ret) ∧ ∃ y : S3, s'.Le k F.n y ∧ (resR y.σ F.res).run y.g = some r ∧ y.g = g' ∧ y.k = k') : Fi P f as_ g k r g' k' := by
  intro E J base vs hG hm hkn hrc
  obtain ⟨fn, c, h1, h2, h3, h4, h5⟩ := cFunc_inv hF
  refine calls_marks h1 h2 (wpIn_mono (h none c E J base E.w _ E.w (fun _ => rfl) h4 hkn ⟨⟨E, rfl, Env.Le.refl E, start_rep hrc _, hm, hkn, .nil⟩, ?_, Below.refl _ _, hG⟩) ?_)
  · simp only [Array.size_append, Array.size_replicate, hrc.1]; omega
  · rintro e a' w' ⟨x, s', ⟨hx, y, hy, hr, rfl, rfl⟩, rfl, hrel0⟩
    have hrel := hy E J base E.w a' w' hkn hrel0
    obtain ⟨E', rfl, hle, hs, hM, hk, hmk⟩ := hrel.ex
    refine ⟨by rcases hx with rfl | rfl <;> simp [Ex.up], marks_leave _ E' hmk fun E2 hS => ?_⟩
    have hM2 := hS.mem hM
    obtain ⟨v, e1, e2⟩ := res_run hM2 (fun t => hS.rep (hs t)) h3 hr
    exact ⟨v, e1, v, E2, rfl, rfl, hS.le hle fun b hb => (hm.low b hb).1, e2, hM2, hS.below hm.size hrel.below, fun id hid => hk id (by rw [← hS.eqs.1]; exact hid)⟩
theorem fV {P : Program} {f : FuncId} {F : AFn} (hF : cFunc P f = some F) {as_ : List AV} (hl : as_.length ≤ F.n) {r : AV} {m m' : List (Option Bk)}
    (h : EL P F.n m.length F.code ⟨startT 0 as_, m⟩ fun e x => (e = .normal ∨ e = .ret) ∧ ∃ y : L3, x.s.Le m.length F.n y.s ∧ (resR (slot y.t) F.res).run (look y.m) = some r ∧ y.m = m') : Fi P f as_ (look m) m.length r (look m') m'.length := by
  refine fi_ofW hF hl (EW.weak (start_le as_ _ _) (EW.conseq h ?_))
  rintro e s ⟨x', rfl, h1, y, h2, h3, rfl⟩
  exact ⟨h1, y.s, h2, h3, rfl, rfl⟩
theorem fo_of {P : Program} {f : FuncId} {as_ : List AV} {sz : Nat} {els : List (List AV)} (h : Fi P f as_ (look []) 0 (.own 0 sz 0 els.length) (look [some ⟨sz, els⟩]) 1) : Fo P f as_ sz els := by
  intro w J vs hJ hG hrc
  have hm : MemAt (E0 w J) J w.heap.size (look []) := ⟨fun id => by simp [E0, look], fun id B hg => by simp [look] at hg, fun id id' b B B' hg => by simp [look] at hg, fun id b B hg => by simp [look] at hg, fun b hb => ⟨hJ b hb, .inl hb⟩, Nat.le_refl _, fun id B hg => by simp [look] at hg, fun _ h => h.elim⟩
  refine (h (E0 w J) J w.heap.size vs hG hm (fun id hid => hid.elim) hrc).mono ?_
  rintro e w' ⟨v, E', he, hw, hle, hr, hM, hb, hk⟩
  have hg : look [some (⟨sz, els⟩ : Bk)] 0 = some ⟨sz, els⟩ := rfl
  obtain ⟨k1, k2⟩ := (hM.live 0).2 ⟨_, hg⟩
  exact ⟨v, E', he, hw, hb, hr, k1, k2, hM.at_ 0 _ hg, (hM.len 0 _ hg (hr.own_sz k2)).symm⟩
section
variable {P : Program} {n k0 : Nat} {x : L3} {K : L3 → Prop} {R : List AOper} {k : Nat}
theorem nob_map {α : Type} {f : α → List AV} {xs : List α} (h : ∀ y, (f y).all AV.nob1 = true) : ∀ cs, cs ∈ xs.map f → ∀ c, c ∈ cs → c.nob1 = true := by
  intro cs hcs c hc
  simp only [List.mem_map] at hcs
  obtain ⟨y, _, rfl⟩ := hcs
  have := h y
  simp only [List.all_eq_true] at this
  exact this c hc
theorem OW.fo {α : Type} {f : FuncId} {ar bs : List AV} {sz : Nat} {fe : α → List AV} {xs : List α} {x' : L3} (hl : Nat.blt k R.length = true) (h : opE (opD R k) x = .call f ar) (hc : callable P f = true) (hf : Fo P f bs sz (xs.map fe)) (hn : ∀ y, (fe y).all AV.nob1 = true) (hs : (snapAs ar).run (look x.m) = some bs)
    (hx : (bif dstOK n (opD R k).dst then some (⟨setA x.t (opD R k).dst (.own x.m.length sz 0 xs.length), mput x.m [(x.m.length, some ⟨sz, xs.map fe⟩)]⟩ : L3) else none) = some x') (hr : OW P n k0 (R.drop (k + 1)) x' K) : OW P n k0 (R.drop k) x K := by
  rw [opD_drop hl]
  cases hd : dstOK n (opD R k).dst with
  | false => rw [hd] at hx; simp at hx
  | true =>
    rw [hd, cond_true] at hx
    simp only [Option.some.injEq] at hx
    subst hx
    obtain ⟨x', h1, h3⟩ := hr
    simp only [setA_slot _ _ hd] at h1
    obtain ⟨m1, m2, m3⟩ := mput_spec [(x.m.length, some (⟨sz, xs.map fe⟩ : Bk))] x.m (by simp [upsOK])
    rw [m1] at h1
    obtain ⟨g1, g2⟩ := opE_call h
    have := OpRun.callO g1 g2 hc hs hf (nob_map hn)
    rw [List.length_map] at this
    exact ⟨x', .cons this m2 m3 h1, h3⟩
theorem DW.fo {dep : List (List Nat)} {rs : List Rec} {α : Type} {f : FuncId} {ar bs : List AV} {sz : Nat} {fe : α → List AV} {xs : List α} {x' : L3} (hl : Nat.blt k R.length = true) (h : opE (opD R k) x = .call f ar) (hc : callable P f = true) (hf : Fo P f bs sz (xs.map fe)) (hn : ∀ y, (fe y).all AV.nob1 = true) (hs : (snapAs ar).run (look x.m) = some bs)
    (hx : (bif dstOK n (opD R k).dst then some (⟨setA x.t (opD R k).dst (.own x.m.length sz 0 xs.length), mput x.m [(x.m.length, some ⟨sz, xs.map fe⟩)]⟩ : L3) else none) = some x') (hr : DW P n dep (R.drop (k + 1)) x' (rs ++ [⟨(opD R k).dst, .own x.m.length sz 0 xs.length, [(x.m.length, some ⟨sz, xs.map fe⟩)], accCall (opD R k).ao ar x, x.m.length⟩]) K) : DW P n dep (R.drop k) x rs K := by
  rw [opD_drop hl]
  cases hd : dstOK n (opD R k).dst with
  | false => rw [hd] at hx; simp at hx
  | true =>
    rw [hd, cond_true] at hx
    simp only [Option.some.injEq] at hx
    subst hx
    obtain ⟨x', h1, h4⟩ := hr
    simp only [setA_slot _ _ hd] at h1
    obtain ⟨m1, m2, m3⟩ := mput_spec [(x.m.length, some (⟨sz, xs.map fe⟩ : Bk))] x.m (by simp [upsOK])
    rw [m1] at h1
    obtain ⟨g1, g2⟩ := opE_call h
    have := OpRun.callO g1 g2 hc hs hf (nob_map hn)
    rw [List.length_map] at this
    exact ⟨x', .cons this m2 m3 h1, h4⟩
end
section
variable {o : AOper} {x : L3}
theorem opE_ldoS {α : Type} (f : α → List AV) (xs : List α) (mm : Option Nat) (a : Arg) (id sz i oo : Nat) (z : α) (v : AV) (ho : o.ao = .load mm a) (hg : guardA (slot x.t) o.guard = some true) (ha : argσ (slot x.t) a = .ref id sz i oo) (hB : look x.m id = some ⟨sz, xs.map f⟩) (hi : xs[i]? = some z) (hv : getCells (f z) oo mm = some v) : opE o x = .done v [] [id] :=
  opE_ldo mm a id sz i oo _ (f z) v ho hg ha hB (by simp [hi]) hv
theorem opE_stoS {α : Type} (f : α → List AV) (xs : List α) (nn : Nat) (a b : Arg) (id sz i oo : Nat) (z y : α) (w : AV) (ho : o.ao = .store nn a b) (hg : guardA (slot x.t) o.guard = some true) (ha : argσ (slot x.t) a = .ref id sz i oo) (hb : argσ (slot x.t) b = w) (hB : look x.m id = some ⟨sz, xs.map f⟩) (hi : xs[i]? = some z)
    (hw : (Nat.beq w.cells.length nn && w.cells.all AV.one && Nat.ble (oo + nn) sz) = true) (hy : putCells (f z) oo w.cells = f y) : opE o x = .done (.v undef) [(id, some ⟨sz, (xs.set i y).map f⟩)] [id] := by
  have := opE_sto nn a b id sz i oo (xs.map f) (f z) w ho hg ha hb hB (by simp [hi]) hw
  rw [this, hy, List.map_set]
theorem opE_msl {α : Type} (f : α → List AV) (z : α) (sz by_ : Nat) (zs : List AV) (l c : Arg) (q q' : IntKind) (m : Int) (ho : o.ao = .msl sz by_ zs l c) (hg : guardA (slot x.t) o.guard = some true) (hl : argσ (slot x.t) l = .v (.int q m)) (hc : argσ (slot x.t) c = .v (.int q' m)) (hz : zs = f z) (h0 : 0 ≤ m ∧ m * by_ ≤ 140737488355328) :
    opE o x = .done (.own x.m.length sz 0 (List.length (List.replicate m.toNat z))) [(x.m.length, some ⟨sz, (List.replicate m.toNat z).map f⟩)] [] := by
  have hb : m.toNat * by_ ≤ 140737488355328 := by
    obtain ⟨k, rfl⟩ := Int.eq_ofNat_of_zero_le h0.1
    have h2 := h0.2
    rw [← Int.natCast_mul] at h2
    exact Int.ofNat_le.1 h2
  refine opE_ret _ ho hg ?_
  simp only [AO.sem, hl, hc, natOf, h0.1, if_true, Nat.le_refl, true_and, hb, hz, List.length_replicate, List.map_replicate]
end
theorem strEq_iff {a b : ByteArray} : strEq a b = true ↔ a = b := by
  unfold strEq
  rw [beq_iff_eq]
  constructor
  · intro h
    have : a.data = b.data := by rw [← Array.toList_inj]; exact h
    cases a; cases b; simp_all
  · intro h; rw [h]
theorem rem64 {x c : Int} (h : 0 ≤ x) : x.tmod c = x % c := Int.tmod_eq_emod_of_nonneg h
open Go.RowKit
def Del1 (sz : Nat) : List AOper := [⟨some 8, .mov (.s 0), none⟩, ⟨some 9, .mov (.s 1), none⟩, ⟨some 10, .mov (.s 2), none⟩, ⟨some 11, .mov (.s 0), none⟩, ⟨some 12, .len false (.s 11), none⟩, ⟨some 13, .slc sz (.s 8) (some (.s 9)) (some (.s 10)) (some (.s 12)), none⟩]
def Del2 : List AOper := [⟨some 14, .mov (.s 1), none⟩, ⟨some 15, .mov (.s 2), none⟩, ⟨some 16, .bin false .eql (.s 14) (.s 15), none⟩]
def Del3 : List AOper := [⟨some 17, .mov (.s 0), none⟩, ⟨some 6, .mov (.s 17), none⟩]
def Del4 : List AOper := [⟨some 18, .mov (.s 0), none⟩, ⟨some 19, .len false (.s 18), none⟩, ⟨some 7, .mov (.s 19), none⟩]
def Del5 (sz by_ : Nat) : List AOper := [⟨some 20, .mov (.s 0), none⟩, ⟨some 21, .mov (.s 1), none⟩, ⟨some 22, .slc sz (.s 20) none (some (.s 21)) none, none⟩, ⟨some 23, .mov (.s 0), none⟩, ⟨some 24, .mov (.s 2), none⟩, ⟨some 25, .slc sz (.s 23) (some (.s 24)) none none, none⟩, ⟨some 26, .app sz by_ (.s 22) (.s 25), none⟩, ⟨some 0, .mov (.s 26), none⟩]
def Del6 (sz : Nat) (zs : List AV) : List AOper := [⟨some 27, .mov (.s 0), none⟩, ⟨some 28, .mov (.s 0), none⟩, ⟨some 29, .len false (.s 28), none⟩, ⟨some 30, .mov (.s 7), none⟩, ⟨some 31, .slc sz (.s 27) (some (.s 29)) (some (.s 30)) none, none⟩, ⟨none, .clr zs (.s 31), none⟩]
def Del7 : List AOper := [⟨some 32, .mov (.s 0), none⟩, ⟨some 6, .mov (.s 32), none⟩]
def DelDep : List (List Nat) := [[], [], [0, 1], [], [], [3, 4], [2, 5, 0, 1, 3, 4], [6, 0, 1, 2, 3, 4, 5]]
def DelF (sz by_ : Nat) (zs : List AV) : AFn := ⟨33, [.tmp 6],
  .seq (.reg [⟨some 6, .mov (.c .emp), none⟩] none)
  (.seq (.reg (Del1 sz) none)
  (.seq (.seq (.reg Del2 none)
  (.cond (.s 16)
    (.seq (.reg Del3 none)
    (.ret))
    (.skip)))
  (.seq (.reg Del4 none)
  (.seq (.reg (Del5 sz by_) (some DelDep))
  (.seq (.reg (Del6 sz zs) none)
  (.seq (.reg Del7 none)
  (.ret)))))))⟩
def delM (m : List (Option Bk)) (id : Nat) (B : Bk) : List (Option Bk) := m.set id none ++ [none, some B]
theorem trunc_le {n k0 : Nat} {x : L3} {id sz c t0 : Nat} {els : List (List AV)} (hB : look x.m id = some ⟨sz, els⟩) (hc : c ≤ els.length) (hs : slot x.t t0 = .own id sz 0 c) {y : L3} (hy : y.t = [(t0, .own x.m.length sz 0 c)]) (hm : y.m = x.m.set id none ++ [some ⟨sz, els.take c⟩]) : x.s.Le k0 n y.s := by
  intro E0 J base w0 a w hk hr
  obtain ⟨E, rfl, hle, hsl, hmm, hkn, hmk⟩ := hr.ex
  have hid : id < x.m.length := by
    rcases Nat.lt_or_ge id x.m.length with h | h
    · exact h
    · unfold look at hB; rw [List.getElem?_eq_none h] at hB; simp at hB
  have hf : ¬ E.kn x.m.length := fun hh => Nat.lt_irrefl _ (hkn _ hh)
  have hz0 : sz ≠ 0 := (show Rep E (a.tmps.getD t0 undef) (.own id sz 0 c) by rw [← hs]; exact hsl t0).own_sz ((hmm.live id).2 ⟨_, hB⟩).2
  obtain ⟨E', hw, hE, hM, k1, k2, k3, k4, k5⟩ := hmm.move hf id ⟨sz, els⟩ ⟨sz, els.take c⟩ hB E.w (fun _ _ => rfl) rfl (fun _ _ => rfl) (fun E' hE hw => by
    have := (hmm.at_ id _ hB)
    cases hl : E.loc id with
    | none =>
      rw [hl] at this
      have h0 : els = [] := this
      show els.take c = []
      rw [h0]; simp
    | some b =>
      rw [hl] at this
      obtain ⟨q1, arr, t, q2, q3, q4⟩ := this.cells hz0
      refine .ofCells ⟨q1, arr, t, by rw [hw]; exact q2, ?_, fun i cs hi => ?_⟩ hz0
      · refine Nat.le_trans (Nat.mul_le_mul_right _ ?_) q3
        simp only [List.length_take]; omega
      · have hi' : els[i]? = some cs := by
          simp only [List.getElem?_take] at hi
          split at hi
          · exact hi
          · simp at hi
        refine ⟨(q4 i cs hi').1, fun j x hj => ?_⟩
        obtain ⟨u, u1, u2, u3⟩ := (q4 i cs hi').2 j x hj
        exact ⟨u, u1, u2, u3.step hE⟩)
  have hg : gput (look x.m) [(id, none), (x.m.length, some ⟨sz, els.take c⟩)] = look y.m := by
    rw [hm]
    have e1 := look_put x.m id none (by omega)
    rw [if_pos hid] at e1
    have e2 := look_put (x.m.set id none) x.m.length (some ⟨sz, els.take c⟩) (by simp)
    rw [if_neg (by simp)] at e2
    rw [e2, e1]
    rfl
  have hM := hg ▸ (show MemAt E' J base (gput (look x.m) [(id, none), (x.m.length, some ⟨sz, els.take c⟩)]) from hM)
  refine ⟨⟨E', hw, hle.trans hE, fun t => ?_, hM, fun j hj => ?_, hmk.step hE⟩, hr.size, hr.below, hr.gl⟩
  · show Rep E' _ (slot y.t t)
    rw [hy]
    simp only [slot]
    cases hb : Nat.beq t t0 with
    | false => exact .dead
    | true =>
      have := Nat.eq_of_beq_eq_true hb
      subst this
      have hv := hsl t
      have hv' : Rep E (a.tmps.getD t undef) (.own id sz 0 c) := by rw [← hs]; exact hv
      have hlive := (hmm.live id).2 ⟨_, hB⟩
      have hlen : c ≤ els.length := hc
      simp only [cond_true]
      obtain ⟨vv, hvv⟩ : ∃ vv, vv = a.tmps.getD t undef := ⟨_, rfl⟩
      rw [← hvv] at hv' ⊢
      cases hv' with
      | staleO hi hd => exact absurd hd hlive.2
      | own hi hd hb hq hss hm' hl hcc hln =>
        refine .own k1 k2 (k3.trans hb) hq (by rw [hw]; exact hss) hm' hl hcc (by rw [k5]; simp only [List.length_take]; omega)
      | own0 hi hd hb hln => exact .own0 k1 k2 (k3.trans hb) (by rw [k5]; simp)
  · show j < y.m.length
    rw [hm]
    simp only [List.length_append, List.length_set, List.length_cons, List.length_nil]
    rcases k4 j hj with h | h
    · have h' : j < x.m.length := hkn j h
      omega
    · omega
section
variable {o : AOper} {x : L3}
theorem optNat_nat {σ : Nat → AV} {a : Arg} {n : Nat} (h : argσ σ a = VI n) : optNat (argσ σ) (some a) = some (some n) := by
  simp only [optNat, h, natOf]
  rw [if_pos (by omega)]; simp
theorem opE_slco2 (a : Arg) (lo hi : Option Arg) (sz id off n l h : Nat) (lo' hi' : Option Nat) (B : Bk) (ho : o.ao = .slc sz a lo hi none) (hg : guardA (slot x.t) o.guard = some true) (ha : argσ (slot x.t) a = .own id sz off n) (hlo : optNat (argσ (slot x.t)) lo = some lo') (hhi : optNat (argσ (slot x.t)) hi = some hi') (hbd : bounds n lo' hi' = some (l, h)) (hB : look x.m id = some B) :
    opE o x = .done (.own id sz (off + l) (h - l)) [] [id] := by
  have hn : optNat (argσ (slot x.t)) none = some none := rfl
  have hs : (AO.slc sz a lo hi none).sem x.m.length (argσ (slot x.t)) = .lv id (.ret (.done (.own id sz (off + l) (h - l)) [])) := by simp [AO.sem, ha, hlo, hhi, hn, hbd, RM.opt]
  exact opE_sem _ (acc := []) (see := [id]) ho hg (by rw [hs]; simp [RM.run, hB]) (by rw [hs]; rfl) (by rw [hs]; rfl)
theorem opE_slco3 (a : Arg) (lo hi : Option Arg) (mx : Arg) (sz id off n l h mm : Nat) (lo' hi' : Option Nat) (B : Bk) (ho : o.ao = .slc sz a lo hi (some mx)) (hg : guardA (slot x.t) o.guard = some true) (ha : argσ (slot x.t) a = .own id sz off n) (hlo : optNat (argσ (slot x.t)) lo = some lo') (hhi : optNat (argσ (slot x.t)) hi = some hi') (hmx : optNat (argσ (slot x.t)) (some mx) = some (some mm)) (hbd : bounds n lo' hi' = some (l, h)) (hB : look x.m id = some B) (h1 : B.els.length ≤ off + mm) (h2 : h ≤ mm ∧ mm ≤ n) (h3 : mm ≠ l) (hBz : B.sz = sz := by rfl) :
    opE o x = .done (.own id sz (off + l) (h - l)) [] [id, id] := by
  have hs : (AO.slc sz a lo hi (some mx)).sem x.m.length (argσ (slot x.t)) = .lv id (.rd id fun B => if B.sz = sz ∧ B.els.length ≤ off + mm then .ret (.done (.own id sz (off + l) (h - l)) []) else .fail) := by
    simp [AO.sem, ha, hlo, hhi, hmx, hbd, RM.opt, h2, h3]
  exact opE_sem _ (acc := [id]) (see := [id]) ho hg (by rw [hs]; simp [RM.run, hB, h1, hBz]) (by rw [hs]; simp [RM.acc, hB, h1, hBz]) (by rw [hs]; simp [RM.see, hB, h1, hBz])
theorem opE_slco2h (a : Arg) (lo hi : Option Arg) (sz id off n l h : Nat) (lo' : Option Nat) (hh : Nat) (B : Bk) (ho : o.ao = .slc sz a lo hi none) (hg : guardA (slot x.t) o.guard = some true) (ha : argσ (slot x.t) a = .own id sz off n) (hlo : optNat (argσ (slot x.t)) lo = some lo') (hhi : optNat (argσ (slot x.t)) hi = some (some hh)) (hno : bounds n lo' (some hh) = none) (hB : look x.m id = some B) (hbd : bounds (B.els.length - off) lo' (some hh) = some (l, h)) (hBz : B.sz = sz := by rfl) :
    opE o x = .done (.own id sz (off + l) (h - l)) [] [id, id] := by
  have hn : optNat (argσ (slot x.t)) none = some none := rfl
  have hs : (AO.slc sz a lo hi none).sem x.m.length (argσ (slot x.t)) = .lv id (.rd id fun B => if B.sz = sz then .opt ((bounds (B.els.length - off) lo' (some hh)).map fun b => .done (.own id sz (off + b.1) (b.2 - b.1)) []) else .fail) := by simp [AO.sem, ha, hlo, hhi, hn, hno]
  exact opE_sem _ (acc := [id]) (see := [id]) ho hg (by rw [hs]; simp [RM.run, RM.opt, hB, hbd, hBz]) (by rw [hs]; simp [RM.acc, RM.opt, hB, hbd, hBz]) (by rw [hs]; simp [RM.see, RM.opt, hB, hbd, hBz])
theorem opE_appIn (s a : Arg) (sz by_ id off n : Nat) (els ys : List (List AV)) (w : AV) (acc : List Nat) (ho : o.ao = .app sz by_ s a) (hg : guardA (slot x.t) o.guard = some true) (hs : argσ (slot x.t) s = .own id sz off n) (ha : argσ (slot x.t) a = w) (c1 : (content sz w).run (look x.m) = some ys) (c2 : (content sz w).acc (look x.m) = acc) (c3 : (content sz w).see (look x.m) = [])
    (hB : look x.m id = some ⟨sz, els⟩) (hno : ¬ (off = 0 ∧ n = els.length)) (hfit : off + n + ys.length ≤ els.length) :
    opE o x = .done (.own id sz off (n + ys.length)) [(id, some ⟨sz, els.take (off + n) ++ ys ++ els.drop (off + n + ys.length)⟩), (x.m.length, none)] (acc ++ [id]) := by
  let F : List (List AV) → RM Out := fun ys => .rd id fun B => if sz = sz ∧ B.sz = sz ∧ off = 0 ∧ n = B.els.length ∧ (n + ys.length) * by_ ≤ 140737488355328 then .ret (.done (.own x.m.length sz 0 (n + ys.length)) [(id, none), (x.m.length, some ⟨sz, B.els ++ ys⟩)])
    else if sz = sz ∧ B.sz = sz ∧ off + n + ys.length ≤ B.els.length then .ret (.done (.own id sz off (n + ys.length)) [(id, some ⟨B.sz, B.els.take (off + n) ++ ys ++ B.els.drop (off + n + ys.length)⟩), (x.m.length, none)]) else .fail
  have hsem : (AO.app sz by_ s a).sem x.m.length (argσ (slot x.t)) = (content sz w).bind F := by simp [AO.sem, hs, ha, F]
  obtain ⟨r1, r2, r3⟩ := run_bind (f := F) _ c1
  have hno' : ¬ (off = 0 ∧ n = els.length ∧ (n + ys.length) * by_ ≤ 140737488355328) := fun h => hno ⟨h.1, h.2.1⟩
  have hF1 : (F ys).run (look x.m) = some (.done (.own id sz off (n + ys.length)) [(id, some ⟨sz, els.take (off + n) ++ ys ++ els.drop (off + n + ys.length)⟩), (x.m.length, none)]) := by
    simp only [F, RM.run, hB, true_and]; rw [if_neg hno', if_pos hfit]; rfl
  have hF2 : (F ys).acc (look x.m) = [id] := by
    simp only [F, RM.acc, hB, true_and]; rw [if_neg hno', if_pos hfit]; rfl
  have hF3 : (F ys).see (look x.m) = [] := by
    simp only [F, RM.see, hB, true_and]; rw [if_neg hno', if_pos hfit]; rfl
  have := opE_sem (AO.app sz by_ s a) (o := o) (x := x) (acc := acc ++ [id]) (see := []) ho hg (by rw [hsem, r1]; exact hF1) (by rw [hsem, r2, c2, hF2]) (by rw [hsem, r3, c3, hF3]; rfl)
  simpa using this
theorem opE_clr (zs : List AV) (a : Arg) (sz id off n : Nat) (els : List (List AV)) (ho : o.ao = .clr zs a) (hg : guardA (slot x.t) o.guard = some true) (hz : zs.length = sz) (ha : argσ (slot x.t) a = .own id sz off n) (hB : look x.m id = some ⟨sz, els⟩) (hfit : off + n ≤ els.length) :
    opE o x = .done (.v undef) [(id, some ⟨sz, els.take off ++ List.replicate n zs ++ els.drop (off + n)⟩)] [id] := by
  subst hz
  have hs : (AO.clr zs a).sem x.m.length (argσ (slot x.t)) = .rd id fun B => if B.sz = zs.length ∧ off + n ≤ B.els.length then .ret (.done (.v undef) [(id, some ⟨B.sz, B.els.take off ++ List.replicate n zs ++ B.els.drop (off + n)⟩)]) else .fail := by simp [AO.sem, ha]
  exact opE_sem _ (acc := [id]) (see := []) ho hg (by rw [hs]; simp [RM.run, hB, hfit]) (by rw [hs]; simp [RM.acc, hB, hfit]) (by rw [hs]; simp [RM.see, hB, hfit])
end
section
variable {P : Program} {sz by_ : Nat} {zs : List AV} {m : List (Option Bk)} {id i : Nat} {els : List (List AV)}
theorem look_lt {B : Bk} (hB : look m id = some B) : id < m.length := by
  rcases Nat.lt_or_ge id m.length with h | h
  · exact h
  · unfold look at hB; rw [List.getElem?_eq_none h] at hB; simp at hB
theorem delete_fi {f : FuncId} (hF : cFunc P f = some (DelF sz by_ zs)) (hz : zs.length = sz) (hB : look m id = some ⟨sz, els⟩) (hi : i < els.length) (hb : els.length ≤ 4611686018427387904) :
    Fi P f [.own id sz 0 els.length, VI i, VI (i + 1 : Nat)] (look m) m.length (.own (m.length + 1) sz 0 (els.length - 1)) (look (delM m id ⟨sz, els.eraseIdx i⟩)) (delM m id ⟨sz, els.eraseIdx i⟩).length := by
  have hid := look_lt hB
  have e1 : ((i : Int)).toNat = i := by omega
  have e2 : (((i + 1 : Nat) : Int)).toNat = i + 1 := by omega
  have e3 : ((els.length : Int)).toNat = els.length := by omega
  have p1 : (0 : Int) ≤ (i : Int) := by omega
  have p2 : (0 : Int) ≤ ((i + 1 : Nat) : Int) := by omega
  have p3 : (0 : Int) ≤ (els.length : Int) := by omega
  refine fV hF (by show 3 ≤ 33; omega) ?_
  refine EL.sreg ?_
  refine OW.last 1 [0, 1, 2] (x' := ⟨[(0, .own id sz 0 els.length), (1, VI i), (2, VI (i + 1 : Nat))], m⟩) (by kernel_rfl) (by kernel_rfl) ?_
  refine EL.sreg ?_
  refine OW.run 4 (x' := ⟨[(11, .own id sz 0 els.length), (10, VI (i + 1 : Nat)), (9, VI i), (8, .own id sz 0 els.length), (0, .own id sz 0 els.length), (1, VI i), (2, VI (i + 1 : Nat))], m⟩) (by kernel_rfl) ?_
  refine OW.ope (v := VI els.length) (u := []) (acc := [id]) (x' := ⟨[(12, VI els.length), (11, .own id sz 0 els.length), (10, VI (i + 1 : Nat)), (9, VI i), (8, .own id sz 0 els.length), (0, .own id sz 0 els.length), (1, VI i), (2, VI (i + 1 : Nat))], m⟩) (by kernel_rfl) (opE_sem _ (acc := []) (see := [id]) rfl rfl (by simp [opD, Del1, AO.sem, argσ, slot, RM.run, hB, goInt]) (by simp [opD, Del1, AO.sem, argσ, slot, RM.acc]) (by simp [opD, Del1, AO.sem, argσ, slot, RM.see])) (by kernel_rfl) ?_
  refine OW.ope (v := .own id sz (0 + i) (i + 1 - i)) (u := []) (acc := [id, id]) (x' := ⟨[(13, .own id sz (0 + i) (i + 1 - i)), (12, VI els.length), (11, .own id sz 0 els.length), (10, VI (i + 1 : Nat)), (9, VI i), (8, .own id sz 0 els.length), (0, .own id sz 0 els.length), (1, VI i), (2, VI (i + 1 : Nat))], m⟩) (by kernel_rfl)
    (opE_slco3 (.s 8) (some (.s 9)) (some (.s 10)) (.s 12) sz id 0 els.length i (i + 1) els.length (some i) (some (i + 1)) ⟨sz, els⟩ rfl rfl rfl (optNat_nat (by rfl)) (optNat_nat (by rfl)) (optNat_nat (by rfl)) (by simp [bounds]; omega) hB (by simp) ⟨by omega, by omega⟩ (by omega)) (by kernel_rfl) ?_
  refine OW.last 0 [0, 1, 2] (x' := ⟨[(0, .own id sz 0 els.length), (1, VI i), (2, VI (i + 1 : Nat))], m⟩) (by kernel_rfl) (by kernel_rfl) ?_
  refine EL.seq ?_
  refine EL.sreg ?_
  refine OW.last 3 [0, 1, 2, 16] (x' := ⟨[(16, .v (.bool ((i : Int) == ((i + 1 : Nat) : Int)))), (0, .own id sz 0 els.length), (1, VI i), (2, VI (i + 1 : Nat))], m⟩) (by kernel_rfl) (by kernel_rfl) ?_
  have hne : ((i : Int) == ((i + 1 : Nat) : Int)) = false := by simp; omega
  rw [hne]
  refine EL.condF (by kernel_rfl) ?_
  refine EL.skip ?_
  refine tN ?_
  refine EL.sreg ?_
  refine OW.run 1 (x' := ⟨[(18, .own id sz 0 els.length), (16, .v (.bool false)), (0, .own id sz 0 els.length), (1, VI i), (2, VI (i + 1 : Nat))], m⟩) (by kernel_rfl) ?_
  refine OW.ope (v := VI els.length) (u := []) (acc := [id]) (x' := ⟨[(19, VI els.length), (18, .own id sz 0 els.length), (16, .v (.bool false)), (0, .own id sz 0 els.length), (1, VI i), (2, VI (i + 1 : Nat))], m⟩) (by kernel_rfl) (opE_sem _ (acc := []) (see := [id]) rfl rfl (by simp [opD, Del4, AO.sem, argσ, slot, RM.run, hB, goInt]) (by simp [opD, Del4, AO.sem, argσ, slot, RM.acc]) (by simp [opD, Del4, AO.sem, argσ, slot, RM.see])) (by kernel_rfl) ?_
  refine OW.last 1 [0, 1, 2, 7] (x' := ⟨[(7, VI els.length), (0, .own id sz 0 els.length), (1, VI i), (2, VI (i + 1 : Nat))], m⟩) (by kernel_rfl) (by kernel_rfl) ?_
  refine EL.sdraw ?_
  refine DW.run 2 (x' := ⟨[(21, VI i), (20, .own id sz 0 els.length), (7, VI els.length), (0, .own id sz 0 els.length), (1, VI i), (2, VI (i + 1 : Nat))], m⟩) (by kernel_rfl) ?_
  refine DW.ope (v := .own id sz (0 + 0) (i - 0)) (u := []) (acc := [id]) (x' := ⟨[(22, .own id sz (0 + 0) (i - 0)), (21, VI i), (20, .own id sz 0 els.length), (7, VI els.length), (0, .own id sz 0 els.length), (1, VI i), (2, VI (i + 1 : Nat))], m⟩) (by kernel_rfl)
    (opE_slco2 (.s 20) none (some (.s 21)) sz id 0 els.length 0 i none (some i) ⟨sz, els⟩ rfl rfl rfl rfl (optNat_nat (by rfl)) (by simp [bounds]; omega) hB) (by kernel_rfl) ?_
  refine DW.run 2 (x' := ⟨[(24, VI (i + 1 : Nat)), (23, .own id sz 0 els.length), (22, .own id sz (0 + 0) (i - 0)), (21, VI i), (20, .own id sz 0 els.length), (7, VI els.length), (0, .own id sz 0 els.length), (1, VI i), (2, VI (i + 1 : Nat))], m⟩) (by kernel_rfl) ?_
  refine DW.ope (v := .own id sz (0 + (i + 1)) (els.length - (i + 1))) (u := []) (acc := [id]) (x' := ⟨[(25, .own id sz (0 + (i + 1)) (els.length - (i + 1))), (24, VI (i + 1 : Nat)), (23, .own id sz 0 els.length), (22, .own id sz (0 + 0) (i - 0)), (21, VI i), (20, .own id sz 0 els.length), (7, VI els.length), (0, .own id sz 0 els.length), (1, VI i), (2, VI (i + 1 : Nat))], m⟩) (by kernel_rfl)
    (opE_slco2 (.s 23) (some (.s 24)) none sz id 0 els.length (i + 1) els.length (some (i + 1)) none ⟨sz, els⟩ rfl rfl rfl (optNat_nat (by rfl)) rfl (by simp [bounds]; omega) hB) (by kernel_rfl) ?_
  obtain ⟨ys, hys⟩ : ∃ ys, ys = (els.drop (0 + (i + 1))).take (els.length - (i + 1)) := ⟨_, rfl⟩
  have hyl : ys.length = els.length - (i + 1) := by rw [hys]; simp
  obtain ⟨els2, he2⟩ : ∃ els2, els2 = els.take (0 + 0 + (i - 0)) ++ ys ++ els.drop (0 + 0 + (i - 0) + ys.length) := ⟨_, rfl⟩
  have hl2 : els2.length = els.length := by rw [he2]; simp; omega
  obtain ⟨m2, hm2⟩ : ∃ m2, m2 = m.set id (some ⟨sz, els2⟩) ++ [none] := ⟨_, rfl⟩
  have hput : mput m [(id, some ⟨sz, els2⟩), (m.length, none)] = m2 := by
    simp only [mput]
    rw [if_pos hid, if_neg (by simp), hm2]
  have hml : m2.length = m.length + 1 := by rw [hm2]; simp
  have hlk : look m2 id = some ⟨sz, els2⟩ := by
    rw [hm2]; unfold look
    rw [List.getElem?_append_left (by simpa using hid)]
    simp [hid]
  have hc1 : (content sz (.own id sz (0 + (i + 1)) (els.length - (i + 1)))).run (look m) = some ys := by
    simp only [content, RM.run, hB, true_and]; rw [if_pos (by omega), hys]; rfl
  have hc2 : (content sz (.own id sz (0 + (i + 1)) (els.length - (i + 1)))).acc (look m) = [id] := by
    simp only [content, RM.acc, hB, true_and]; rw [if_pos (by omega)]; rfl
  have hc3 : (content sz (.own id sz (0 + (i + 1)) (els.length - (i + 1)))).see (look m) = [] := by
    simp only [content, RM.see, hB, true_and]; rw [if_pos (by omega)]; rfl
  have hups : upsOK m.length [(id, some (⟨sz, els2⟩ : Bk)), (m.length, none)] = true := by
    simp only [upsOK]; rw [if_pos hid]; simp; omega
  refine DW.ope (v := .own id sz (0 + 0) (i - 0 + ys.length)) (u := [(id, some ⟨sz, els2⟩), (m.length, none)]) (acc := [id] ++ [id]) (x' := ⟨[(26, .own id sz (0 + 0) (i - 0 + ys.length)), (25, .own id sz (0 + (i + 1)) (els.length - (i + 1))), (24, VI (i + 1 : Nat)), (23, .own id sz 0 els.length), (22, .own id sz (0 + 0) (i - 0)), (21, VI i), (20, .own id sz 0 els.length), (7, VI els.length), (0, .own id sz 0 els.length), (1, VI i), (2, VI (i + 1 : Nat))], m2⟩) (by kernel_rfl)
    (by rw [he2]; exact opE_appIn (.s 22) (.s 25) sz by_ id (0 + 0) (i - 0) els ys _ [id] rfl rfl rfl rfl hc1 hc2 hc3 hB (by rintro ⟨_, h⟩; omega) (by omega)) (by
      show (bif dstOK 33 (some 26) && upsOK m.length [(id, some (⟨sz, els2⟩ : Bk)), (m.length, none)] then _ else _) = _
      rw [hups, hput]; rfl) ?_
  obtain ⟨t3, ht3⟩ : ∃ t3 : List (Nat × AV), t3 = [(0, .own id sz (0 + 0) (i - 0 + ys.length)), (2, VI (i + 1 : Nat)), (7, VI els.length)] := ⟨_, rfl⟩
  refine DW.last 1 [0, 7] (x' := ⟨[(0, .own id sz (0 + 0) (i - 0 + ys.length)), (7, VI els.length)], m2⟩) (by kernel_rfl) (by kernel_rfl) ?_
  have q1 : i - 0 + ys.length = els.length - 1 := by omega
  rw [q1]
  refine EL.sreg ?_
  refine OW.run 2 (x' := ⟨[(28, .own id sz (0 + 0) (els.length - 1)), (27, .own id sz (0 + 0) (els.length - 1)), (0, .own id sz (0 + 0) (els.length - 1)), (7, VI els.length)], m2⟩) (by kernel_rfl) ?_
  refine OW.ope (v := VI (els.length - 1 : Nat)) (u := []) (acc := [id]) (x' := ⟨[(29, VI (els.length - 1 : Nat)), (28, .own id sz (0 + 0) (els.length - 1)), (27, .own id sz (0 + 0) (els.length - 1)), (0, .own id sz (0 + 0) (els.length - 1)), (7, VI els.length)], m2⟩) (by kernel_rfl) (opE_sem _ (acc := []) (see := [id]) rfl rfl (by simp [opD, Del6, AO.sem, argσ, slot, RM.run, hlk, goInt]) (by simp [opD, Del6, AO.sem, argσ, slot, RM.acc]) (by simp [opD, Del6, AO.sem, argσ, slot, RM.see])) (by kernel_rfl) ?_
  refine OW.run 1 (x' := ⟨[(30, VI els.length), (29, VI (els.length - 1 : Nat)), (28, .own id sz (0 + 0) (els.length - 1)), (27, .own id sz (0 + 0) (els.length - 1)), (0, .own id sz (0 + 0) (els.length - 1)), (7, VI els.length)], m2⟩) (by kernel_rfl) ?_
  refine OW.ope (v := .own id sz (0 + 0 + (els.length - 1)) (els.length - (els.length - 1))) (u := []) (acc := [id, id]) (x' := ⟨[(31, .own id sz (0 + 0 + (els.length - 1)) (els.length - (els.length - 1))), (30, VI els.length), (29, VI (els.length - 1 : Nat)), (28, .own id sz (0 + 0) (els.length - 1)), (27, .own id sz (0 + 0) (els.length - 1)), (0, .own id sz (0 + 0) (els.length - 1)), (7, VI els.length)], m2⟩) (by kernel_rfl)
    (opE_slco2h (.s 27) (some (.s 29)) (some (.s 30)) sz id (0 + 0) (els.length - 1) (els.length - 1) els.length (some (els.length - 1)) els.length ⟨sz, els2⟩ rfl rfl rfl (optNat_nat (by rfl)) (optNat_nat (by rfl)) (by simp only [bounds, Option.getD_some]; rw [if_neg (by omega)]) hlk (by simp only [bounds, Option.getD_some]; rw [if_pos ⟨by omega, by show _ ≤ els2.length - (0 + 0); omega⟩])) (by kernel_rfl) ?_
  obtain ⟨els3, he3⟩ : ∃ els3, els3 = els2.take (0 + 0 + (els.length - 1)) ++ List.replicate (els.length - (els.length - 1)) zs ++ els2.drop (0 + 0 + (els.length - 1) + (els.length - (els.length - 1))) := ⟨_, rfl⟩
  have hid2 : id < m2.length := by omega
  have hput3 : mput m2 [(id, some ⟨sz, els3⟩)] = m2.set id (some ⟨sz, els3⟩) := by
    simp only [mput]; rw [if_pos hid2]
  have hups3 : upsOK m2.length [(id, some (⟨sz, els3⟩ : Bk))] = true := by simp [upsOK]; omega
  refine OW.ope (v := .v undef) (u := [(id, some ⟨sz, els3⟩)]) (acc := [id]) (x' := ⟨[(31, .own id sz (0 + 0 + (els.length - 1)) (els.length - (els.length - 1))), (30, VI els.length), (29, VI (els.length - 1 : Nat)), (28, .own id sz (0 + 0) (els.length - 1)), (27, .own id sz (0 + 0) (els.length - 1)), (0, .own id sz (0 + 0) (els.length - 1)), (7, VI els.length)], m2.set id (some ⟨sz, els3⟩)⟩) (by kernel_rfl)
    (by rw [he3]; exact opE_clr zs (.s 31) sz id (0 + 0 + (els.length - 1)) (els.length - (els.length - 1)) els2 rfl rfl hz rfl hlk (by omega)) (by
      show (bif dstOK 33 none && upsOK m2.length [(id, some (⟨sz, els3⟩ : Bk))] then _ else _) = _
      rw [hups3, hput3]; rfl) ?_
  refine OW.last 0 [0] (x' := ⟨[(0, .own id sz (0 + 0) (els.length - 1))], m2.set id (some ⟨sz, els3⟩)⟩) (by kernel_rfl) (by kernel_rfl) ?_
  refine EL.sreg ?_
  refine OW.last 2 [6] (x' := ⟨[(6, .own id sz (0 + 0) (els.length - 1))], m2.set id (some ⟨sz, els3⟩)⟩) (by kernel_rfl) (by kernel_rfl) ?_
  refine EL.ret ?_
  have hl3 : els3.length = els.length := by rw [he3]; simp; omega
  have hlk3 : look (m2.set id (some ⟨sz, els3⟩)) id = some ⟨sz, els3⟩ := by
    unfold look; simp [hid2]
  have hfin : els3.take (els.length - 1) = els.eraseIdx i := by
    have h1 : els3.take (els.length - 1) = els2.take (els.length - 1) := by
      rw [he3, List.append_assoc, List.take_append_of_le_length (by simp; omega), Nat.add_zero, Nat.zero_add, List.take_take, Nat.min_self]
    rw [h1, he2]
    have h2 : els.length - 1 = i + ys.length := by omega
    rw [h2, List.take_append_of_le_length (by simp; omega)]
    rw [List.take_of_length_le (by simp; omega)]
    rw [List.eraseIdx_eq_take_drop_succ, hys]
    congr 1
    · simp
    · rw [Nat.zero_add]
      exact List.take_of_length_le (by simp)
  refine ⟨.inr rfl, ⟨[(6, .own (m2.set id (some ⟨sz, els3⟩)).length sz 0 (els.length - 1))], (m2.set id (some ⟨sz, els3⟩)).set id none ++ [some ⟨sz, els3.take (els.length - 1)⟩]⟩, trunc_le (t0 := 6) hlk3 (by omega) rfl rfl rfl, ?_, ?_⟩
  · simp only [List.length_set, hml]; rfl
  · rw [hfin, hm2]
    simp only [delM]
    rw [List.set_set, List.set_append, if_pos (by simpa using hid), List.set_set]
    simp
theorem delete_map {f : FuncId} {α : Type} {fe : α → List AV} {xs : List α} (hF : cFunc P f = some (DelF sz by_ zs)) (hz : zs.length = sz) (hB : look m id = some ⟨sz, xs.map fe⟩) {n : Int} (h0 : 0 ≤ n) (h1 : n < xs.length) (hb : xs.length ≤ 1000000) :
    Fi P f [.own id sz 0 xs.length, VI n, VI (n + 1)] (look m) m.length (.own (m.length + 1) sz 0 (xs.eraseIdx n.toNat).length) (look (delM m id ⟨sz, (xs.eraseIdx n.toNat).map fe⟩)) (delM m id ⟨sz, (xs.eraseIdx n.toNat).map fe⟩).length := by
  have e0 : ((n.toNat : Nat) : Int) = n := by omega
  have e1 : ((n.toNat + 1 : Nat) : Int) = n + 1 := by omega
  have h := delete_fi (P := P) (f := f) (i := n.toNat) (els := xs.map fe) hF hz hB (by simp; omega) (by simp; omega)
  rw [e0, e1, List.length_map] at h
  have e2 : (xs.map fe).eraseIdx n.toNat = (xs.eraseIdx n.toNat).map fe := by
    rw [List.eraseIdx_eq_take_drop_succ, List.eraseIdx_eq_take_drop_succ, List.map_append, List.map_take, List.map_drop]
  have e3 : (xs.eraseIdx n.toNat).length = xs.length - 1 := by rw [List.length_eraseIdx, if_pos (by omega)]
  rw [e2] at h
  rw [e3]
  exact h
end
open Go.RowKit
section
variable {o : AOper} {x : L3}
theorem opE_mlk (kd : LK) (z : AV) (a k : Arg) (id : Nat) (els : List (List AV)) (key : Value) (r : Option AV) (ho : o.ao = .mlk kd z a k) (hg : guardA (slot x.t) o.guard = some true) (ha : argσ (slot x.t) a = .mp id) (hk : argσ (slot x.t) k = .v key) (hB : look x.m id = some ⟨0, els⟩) (hf : mfind kd key els = some r) :
    opE o x = .done (r.getD z) [] [id] := by
  have hs : (AO.mlk kd z a k).sem x.m.length (argσ (slot x.t)) = .rd id fun B => if B.sz = 0 then .opt ((mfind kd key B.els).map fun r => .done (r.getD z) []) else .fail := by simp [AO.sem, ha, hk]
  exact opE_sem _ (acc := [id]) (see := []) ho hg (by rw [hs]; simp [RM.run, RM.opt, hB, hf]) (by rw [hs]; simp [RM.acc, RM.opt, hB, hf]) (by rw [hs]; simp [RM.see, RM.opt, hB, hf])
end
end Go.Proofs.YtligepciannclaaDoor
