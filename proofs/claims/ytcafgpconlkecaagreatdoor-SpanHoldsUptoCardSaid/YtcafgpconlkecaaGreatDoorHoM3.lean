/- Texts of a claim, merged: what they prove is told at the last one's head. -/
import Derived.Test.YtcafgpconlkecaaGreatDoorHoM2
import Derived.Test.YtcafgpconlkecaaGreatDoorChecked
import Derived.Lib.Mul64
set_option linter.unusedVariables false
set_option linter.unusedSimpArgs false
set_option maxRecDepth 100000
set_option maxHeartbeats 8000000
namespace Go.Proofs.YtcafgpconlkecaaGreatDoor
open Go.VM

def C.r01Num_Len := cD (.seq (oP [oI 2 0]) (.seq (.seq (oP [oM 5 0,oH 6 5,oK 7 .eql 6 0]) (.cond (.t 7) (.seq (oP [oI 2 0]) .ret) .skip)) (.seq (oP [oM 8 0,oH 9 8,oK 10 .sub 9 1,oQ 11 (.bin .mul false (.c (iv 32)) (.t 10)),oM 3 11]) (.seq (.seq (oP [oM 12 0,oM 13 0,oH 14 13,oK 15 .sub 14 1,oJ 16 1 12 15,oL 17 16,oM 4 17]) (.block 0 (.loop (.seq (.seq (oP [oM 18 4,oQ 19 (.bin .gtr false (.t 18) (.c (nv 0)))]) (.cond (.t 19) .skip (.exit 0))) (.seq (.block 1 (oP [oM 22 3,oK 23 .add 22 1,oM 3 23])) (oP [oM 20 4,oQ 21 (.bin .quo false (.t 20) (.c (nv 2))),oM 4 21])))))) (.seq (oP [oM 24 3,oM 2 24]) .ret)))))
def R.r01Num_Len : List VRes := [.tmp 2]
theorem G.r01Num_Len : Gok F.r01Num_Len Tryz.f83 C.r01Num_Len R.r01Num_Len 25 := gk (Tryz.func83) Tryz.ntmps83
def C.r08Of := cD (.seq (oP [oB 2 0,oA 4 oT]) (.seq (.seq (oP [oG 6 2 2,oC 7 F.r06Z_Sign 6,oK 8 .eql 7 0]) (.cond (.t 8) (.seq (oP [oQ 9 (.build oT []),oS 3 4 9]) .ret) .skip)) (.seq (oP [oF 10 1 2,oL 11 10,oC 12 F.r01Num_Tail 11,oM 5 12]) (.seq (oR [oF 13 0 2,oL 14 13,oF 15 1 2,oL 16 15,oM 17 5,oD 18 F.r01Shr 16 17,oQ 19 (.build oV [(0, (1, .t 14)), (1, (1, .t 18))]),oM 20 1,oM 21 5,oO 22 .add 20 21,oQ 23 (.build oT [(0, (2, .t 19)), (2, (1, .t 22))]),oS 3 4 23]) .ret))))
def R.r08Of : List VRes := [.cell 4 (some 3)]
theorem G.r08Of : Gok F.r08Of Tryz.f84 C.r08Of R.r08Of 24 := gk (Tryz.func84) Tryz.ntmps84
def C.r06Add := cD (.seq (oP [oB 2 0,oB 3 1,oA 4 oV]) (.seq (.seq (oP [oF 5 0 2,oL 6 5,oF 7 0 3,oL 8 7,oQ 9 (.bin .eql true (.t 6) (.t 8))]) (.cond (.t 9) (.seq (oR [oF 10 0 2,oL 11 10,oF 12 1 2,oL 13 12,oF 14 1 3,oL 15 14,oD 16 F.r01Add 13 15,oD 17 F.r06make1 11 16,oS 2 4 17]) .ret) .skip)) (.seq (.seq (oP [oF 18 1 2,oL 19 18,oF 20 1 3,oL 21 20,oD 22 F.r01Cmp 19 21,oK 23 .geq 22 0]) (.cond (.t 23) (.seq (oR [oF 24 0 2,oL 25 24,oF 26 1 2,oL 27 26,oF 28 1 3,oL 29 28,oD 30 F.r01Sub 27 29,oD 31 F.r06make1 25 30,oS 2 4 31]) .ret) .skip)) (.seq (oR [oF 32 0 3,oL 33 32,oF 34 1 3,oL 35 34,oF 36 1 2,oL 37 36,oD 38 F.r01Sub 35 37,oD 39 F.r06make1 33 38,oS 2 4 39]) .ret))))
def R.r06Add : List VRes := [.cell 4 (some 2)]
theorem G.r06Add : Gok F.r06Add Tryz.f85 C.r06Add R.r06Add 40 := gk (Tryz.func85) Tryz.ntmps85
def C.r06Shift := cD (.seq (oP [oB 2 0,oA 4 oV]) (.seq (.seq (oP [oM 7 1,oK 8 .geq 7 0]) (.cond (.t 8) (.seq (oR [oF 9 0 2,oL 10 9,oF 11 1 2,oL 12 11,oM 13 1,oD 14 F.r01Shl 12 13,oD 15 F.r06make1 10 14,oS 2 4 15]) .ret) .skip)) (.seq (.seq (oP [oM 16 1,oF 17 1 2,oL 18 17,oC 19 F.r01Num_Len 18,oQ 20 (.un .neg (.t 19)),oO 21 .lss 16 20]) (.cond (.t 21) (.seq (.seq (oP [oF 22 0 2,oL 23 22]) (.cond (.t 23) (.seq (oP [oQ 24 (.call F.r06Int [.c (iv (-1))]),oS 2 4 24]) .ret) .skip)) (.seq (oP [oQ 25 (.build oV []),oS 2 4 25]) .ret)) .skip)) (.seq (oR [oG 27 2 2,oQ 28 (.call F.r01Int [.c (iv 1)]),oM 29 1,oQ 30 (.un .neg (.t 29)),oD 31 F.r01Shl 28 30,oQ 32 (.call F.r06make1 [.c (bv false), .t 31]),oD 33 F.r06Floor 27 32,oM 26 33,oX 34 26 0,oX 35 26 1,oQ 5 (.mov (.c .any)),oQ 6 (.mov (.c .any)),oQ 5 (.boxA 2 (.t 34)),oQ 6 (.boxA 2 (.t 35))]) (.seq (oP [oG 36 2 5,oS 2 4 36]) .ret)))))
def R.r06Shift : List VRes := [.cell 4 (some 2)]
theorem G.r06Shift : Gok F.r06Shift Tryz.f86 C.r06Shift R.r06Shift 37 := gk (Tryz.func86) Tryz.ntmps86
def C.r06Neg := cD (.seq (oP [oB 1 0,oA 2 oV]) (.seq (oP [oF 3 0 1,oL 4 3,oQ 5 (.un .not (.t 4)),oF 6 1 1,oL 7 6,oD 8 F.r06make1 5 7,oS 2 2 8]) .ret))
def R.r06Neg : List VRes := [.cell 2 (some 2)]
theorem G.r06Neg : Gok F.r06Neg Tryz.f87 C.r06Neg R.r06Neg 9 := gk (Tryz.func87) Tryz.ntmps87
def C.r06Mul := cD (.seq (oP [oB 2 0,oB 3 1,oA 4 oV]) (.seq (oR [oF 5 0 2,oL 6 5,oF 7 0 3,oL 8 7,oQ 9 (.bin .neq true (.t 6) (.t 8)),oF 10 1 2,oL 11 10,oF 12 1 3,oL 13 12,oD 14 F.r01Mul 11 13,oD 15 F.r06make1 9 14,oS 2 4 15]) .ret))
def R.r06Mul : List VRes := [.cell 4 (some 2)]
theorem G.r06Mul : Gok F.r06Mul Tryz.f88 C.r06Mul R.r06Mul 16 := gk (Tryz.func88) Tryz.ntmps88
def C.l10dy := cD (.seq (oP [oB 1 0,oA 2 oT]) (.seq (oP [oF 3 0 1,oL 4 3,oF 5 1 1,oL 6 5,oQ 7 (.build oV [(0, (1, .t 4)), (1, (1, .t 6))]),oF 8 2 1,oL 9 8,oQ 10 (.build oT [(0, (2, .t 7)), (2, (1, .t 9))]),oS 3 2 10]) .ret))
def R.l10dy : List VRes := [.cell 2 (some 3)]
theorem G.l10dy : Gok F.l10dy Tryz.f89 C.l10dy R.l10dy 11 := gk (Tryz.func89) Tryz.ntmps89
def C.l10read := cD (.seq (oP [oB 1 0,oA 2 oT]) (.seq (oR [oF 3 0 1,oF 4 0 3,oL 5 4,oF 6 0 1,oF 7 1 6,oL 8 7,oD 9 F.r06Of 5 8,oF 10 2 1,oL 11 10,oD 12 F.r08Of 9 11,oS 3 2 12]) .ret))
def R.l10read : List VRes := [.cell 2 (some 3)]
theorem G.l10read : Gok F.l10read Tryz.f90 C.l10read R.l10read 13 := gk (Tryz.func90) Tryz.ntmps90
def C.r08D_Top := cD (.seq (oP [oB 1 0,oI 2 0]) (.seq (oR [oF 3 0 1,oF 4 1 3,oL 5 4,oC 6 F.r01Num_Len 5,oK 7 .sub 6 1,oF 8 2 1,oL 9 8,oO 10 .add 7 9,oM 2 10]) .ret))
def R.r08D_Top : List VRes := [.tmp 2]
theorem G.r08D_Top : Gok F.r08D_Top Tryz.f91 C.r08D_Top R.r08D_Top 11 := gk (Tryz.func91) Tryz.ntmps91
def C.r06Cmp := cD (.seq (oP [oB 2 0,oB 3 1,oI 4 0]) (.seq (.seq (oP [oF 6 0 2,oL 7 6,oF 8 0 3,oL 9 8,oQ 10 (.bin .neq true (.t 7) (.t 9))]) (.cond (.t 10) (.seq (.seq (oP [oF 11 0 2,oL 12 11]) (.cond (.t 12) (.seq (oP [oI 4 (-1)]) .ret) .skip)) (.seq (oP [oI 4 1]) .ret)) .skip)) (.seq (oP [oF 13 1 2,oL 14 13,oF 15 1 3,oL 16 15,oD 17 F.r01Cmp 14 16,oM 5 17]) (.seq (.seq (oP [oF 18 0 2,oL 19 18]) (.cond (.t 19) (.seq (oP [oM 20 5,oQ 21 (.un .neg (.t 20)),oM 4 21]) .ret) .skip)) (.seq (oP [oM 22 5,oM 4 22]) .ret)))))
def R.r06Cmp : List VRes := [.tmp 4]
theorem G.r06Cmp : Gok F.r06Cmp Tryz.f92 C.r06Cmp R.r06Cmp 23 := gk (Tryz.func92) Tryz.ntmps92
def C.span_checks := cD (.seq (oP [oI 4 0]) (.seq (.seq (oP [oM 8 1,oH 9 8,oI 10 0]) (.block 0 (.loop (.seq (oP [oO 11 .lss 10 9]) (.seq (.cond (.t 11) .skip (.exit 0)) (.seq (.block 1 (.seq (oP [oJ 12 6 8 10,oG 13 6 12,oA 6 oU,oS 6 6 13]) (.seq (oP [oG 14 6 6,oC 15 F.span_check 14,oM 7 15]) (.seq (oP [oM 16 7,oK 17 .neq 16 0]) (.cond (.t 17) (.seq (oP [oM 18 7,oM 4 18]) .ret) .skip))))) (oP [oK 19 .add 10 1,oM 10 19]))))))) (.seq (.seq (oP [oM 20 0,oK 21 .lss 20 (-1099511627776),oM 22 21,oY 23 0 22 false,⟨some 24, .bin .gtr false (.t 23) (.c (iv 1099511627776)), some (22, false)⟩,oQ 25 (.pick (.t 22) (.c (bv true)) (.t 24))]) (.cond (.t 25) (.seq (oP [oI 4 1]) .ret) .skip)) (.seq (oP [oI 4 0]) .ret))))
def R.span_checks : List VRes := [.tmp 4]
theorem G.span_checks : Gok F.span_checks Tryz.f93 C.span_checks R.span_checks 26 := gk (Tryz.func93) Tryz.ntmps93
def C.span_sums := cD (.seq (oP [oB 3 0,oB 4 1,oA 6 oU,oI 7 0]) (.seq (oP [oF 14 0 3,oG 15 3 14,oF 16 0 4,oG 17 3 16,oD 18 F.dyadic_Add 15 17,oM 13 18,oX 19 13 0,oX 20 13 1,oA 8 oT,oS 3 8 19,oM 9 20]) (.seq (oP [oF 22 3 3,oG 23 3 22,oF 24 3 4,oG 25 3 24,oD 26 F.dyadic_Add 23 25,oM 21 26,oX 27 21 0,oX 28 21 1,oA 10 oT,oS 3 10 27,oM 11 28]) (.seq (.seq (oP [oM 29 9,oM 30 11,oD 31 F.span_worst 29 30,oM 12 31]) (.seq (oP [oM 32 12,oK 33 .neq 32 0]) (.cond (.t 33) (.seq (oP [oQ 34 (.build oU []),oM 35 12,oS 6 6 34,oM 7 35]) .ret) .skip))) (.seq (oP [oG 36 3 8,oG 37 3 10,oM 38 2,oE 39 F.span_outward 36 37 38,oX 40 39 0,oX 41 39 1,oS 6 6 40,oM 7 41]) .ret)))))
def R.span_sums : List VRes := [.cell 6 (some 6), .tmp 7]
theorem G.span_sums : Gok F.span_sums Tryz.f94 C.span_sums R.span_sums 42 := gk (Tryz.func94) Tryz.ntmps94
def C.span_turned := cD (.seq (oP [oB 1 0,oA 2 oT]) (.seq (oP [oF 3 0 1,oF 4 0 3,oL 5 4,oQ 6 (.un .not (.t 5)),oF 7 0 1,oF 8 0 7,oS 1 8 6]) (.seq (oP [oG 9 3 1,oS 3 2 9]) .ret)))
def R.span_turned : List VRes := [.cell 2 (some 3)]
theorem G.span_turned : Gok F.span_turned Tryz.f95 C.span_turned R.span_turned 10 := gk (Tryz.func95) Tryz.ntmps95
def C.dyadic_Mul := cD (.seq (oP [oB 2 0,oB 3 1,oA 4 oT,oI 5 0]) (.seq (oP [oG 11 3 2,oG 12 3 3,oD 13 F.dyadic_two 11 12,oM 10 13,oX 14 10 0,oX 15 10 1,oX 16 10 2,oA 6 oT,oA 7 oT,oS 3 6 14,oS 3 7 15,oM 8 16]) (.seq (.seq (oP [oM 17 8,oK 18 .neq 17 0]) (.cond (.t 18) (.seq (oP [oQ 19 (.build oT []),oM 20 8,oS 3 4 19,oM 5 20]) .ret) .skip)) (.seq (oP [oF 22 0 6,oF 23 0 22,oG 24 2 23,oF 25 0 7,oF 26 0 25,oG 27 2 26,oD 28 F.whole_Mul 24 27,oM 21 28,oX 29 21 0,oX 30 21 1,oA 9 oV,oS 2 9 29,oM 8 30]) (.seq (.seq (oP [oM 31 8,oK 32 .neq 31 0]) (.cond (.t 32) (.seq (oP [oQ 33 (.build oT []),oM 34 8,oS 3 4 33,oM 5 34]) .ret) .skip)) (.seq (oP [oG 35 2 9,oF 36 2 6,oL 37 36,oF 38 2 7,oL 39 38,oO 40 .add 37 39,oD 41 F.dyadic_told 35 40,oX 42 41 0,oX 43 41 1,oS 3 4 42,oM 5 43]) .ret))))))
def R.dyadic_Mul : List VRes := [.cell 4 (some 3), .tmp 5]
theorem G.dyadic_Mul : Gok F.dyadic_Mul Tryz.f96 C.dyadic_Mul R.dyadic_Mul 44 := gk (Tryz.func96) Tryz.ntmps96
def C.span_worst := cD (.seq (oP [oI 4 0]) (.seq (.seq (oP [oM 5 0,oK 6 .eql 5 3,oM 7 6,oY 8 1 7 false,⟨some 9, .bin .eql false (.t 8) (.c (iv 3)), some (7, false)⟩,oQ 10 (.pick (.t 7) (.c (bv true)) (.t 9))]) (.cond (.t 10) (.seq (oP [oI 4 3]) .ret) .skip)) (.seq (.seq (oP [oM 11 0,oK 12 .neq 11 0]) (.cond (.t 12) (.seq (oP [oM 13 0,oM 4 13]) .ret) .skip)) (.seq (oP [oM 14 1,oM 4 14]) .ret))))
def R.span_worst : List VRes := [.tmp 4]
theorem G.span_worst : Gok F.span_worst Tryz.f97 C.span_worst R.span_worst 15 := gk (Tryz.func97) Tryz.ntmps97
def C.span_hull := cD (.seq (oP [oA 4 oU,oI 5 0]) (.seq (oR [oM 14 1,oQ 15 (.ixa 3 (.t 14) (.c (iv 0))),oG 16 3 15,oM 17 1,oQ 18 (.ixa 3 (.t 17) (.c (iv 0))),oG 19 3 18,oQ 6 (.mov (.c .any)),oQ 7 (.mov (.c .any)),oQ 6 (.boxA 3 (.t 16)),oQ 7 (.boxA 3 (.t 19))]) (.seq (.seq (oP [oM 20 1,oQ 21 (.slc 3 (.t 20) (some (.c (iv 1))) none none),oH 22 21,oI 23 0]) (.block 0 (.loop (.seq (oP [oO 24 .lss 23 22]) (.seq (.cond (.t 24) .skip (.exit 0)) (.seq (.block 1 (.seq (oP [oJ 25 3 21 23,oG 26 3 25,oA 9 oT,oS 3 9 26]) (.seq (.seq (oP [oG 28 3 9,oG 29 3 6,oD 30 F.dyadic_Compare 28 29,oM 27 30,oX 31 27 0,oX 32 27 1,oM 10 31,oM 11 32]) (.seq (oP [oM 33 10,oK 34 .lss 33 0]) (.cond (.t 34) (oP [oG 35 3 9,oS 3 6 35]) .skip))) (.seq (oP [oG 37 3 9,oG 38 3 7,oD 39 F.dyadic_Compare 37 38,oM 36 39,oX 40 36 0,oX 41 36 1,oM 12 40,oM 13 41]) (.seq (oP [oM 42 12,oK 43 .gtr 42 0]) (.cond (.t 43) (oP [oG 44 3 9,oS 3 7 44]) .skip)))))) (oP [oK 45 .add 23 1,oM 23 45]))))))) (.seq (oP [oG 46 3 6,oG 47 3 7,oM 48 0,oE 49 F.span_outward 46 47 48,oX 50 49 0,oX 51 49 1,oS 6 4 50,oM 5 51]) .ret))))
def R.span_hull : List VRes := [.cell 4 (some 6), .tmp 5]
theorem G.span_hull : Gok F.span_hull Tryz.f98 C.span_hull R.span_hull 52 := gk (Tryz.func98) Tryz.ntmps98
def C.span_quotients := cD (.seq (oP [oB 3 0,oB 4 1,oA 6 oU,oI 7 0]) (.seq (.seq (oP [oG 14 6 4,oC 15 F.span_nought 14]) (.cond (.t 15) (.seq (oP [oQ 16 (.build oU []),oS 6 6 16,oI 7 101]) .ret) .skip)) (.seq (.seq (oP [oF 17 0 4,oG 18 3 17,oC 19 F.dyadic_Sign 18,oK 20 .lss 19 0]) (.cond (.t 20) (.seq (oR [oF 21 3 3,oG 22 3 21,oC 23 F.span_turned 22,oF 24 0 3,oG 25 3 24,oC 26 F.span_turned 25,oF 27 0 3,oS 3 27 23,oF 28 3 3,oS 3 28 26]) (oR [oF 29 3 4,oG 30 3 29,oC 31 F.span_turned 30,oF 32 0 4,oG 33 3 32,oC 34 F.span_turned 33,oF 35 0 4,oS 3 35 31,oF 36 3 4,oS 3 36 34])) .skip)) (.seq (oR [oF 37 3 4,oG 38 3 37,oF 39 0 4,oG 40 3 39,oQ 8 (.mov (.c .any)),oQ 9 (.mov (.c .any)),oQ 8 (.boxA 3 (.t 38)),oQ 9 (.boxA 3 (.t 40))]) (.seq (.seq (oP [oF 41 0 3,oG 42 3 41,oC 43 F.dyadic_Sign 42,oK 44 .lss 43 0]) (.cond (.t 44) (oP [oF 45 0 4,oG 46 3 45,oS 3 8 46]) .skip)) (.seq (.seq (oP [oF 47 3 3,oG 48 3 47,oC 49 F.dyadic_Sign 48,oK 50 .lss 49 0]) (.cond (.t 50) (oP [oF 51 3 4,oG 52 3 51,oS 3 9 52]) .skip)) (.seq (oP [oF 54 0 3,oG 55 3 54,oG 56 3 8,oM 57 2,oQ 58 (.call F.q_Quo [.t 55, .t 56, .t 57, .c (iv 0)]),oM 53 58,oX 59 53 0,oX 60 53 1,oA 10 oT,oS 3 10 59,oM 11 60]) (.seq (oP [oF 62 3 3,oG 63 3 62,oG 64 3 9,oM 65 2,oQ 66 (.call F.q_Quo [.t 63, .t 64, .t 65, .c (iv 1)]),oM 61 66,oX 67 61 0,oX 68 61 1,oA 12 oT,oS 3 12 67,oM 13 68]) (.seq (oP [oG 69 3 10,oM 70 11,oG 71 3 12,oM 72 13,oQ 73 (.call F.span_ends [.t 69, .t 70, .t 71, .t 72]),oX 74 73 0,oX 75 73 1,oS 6 6 74,oM 7 75]) .ret)))))))))
def R.span_quotients : List VRes := [.cell 6 (some 6), .tmp 7]
theorem G.span_quotients : Gok F.span_quotients Tryz.f99 C.span_quotients R.span_quotients 76 := gk (Tryz.func99) Tryz.ntmps99
def C.dyadic_Of := cD (.seq (oP [oA 2 oT]) (.seq (oP [oM 6 0,oC 7 F.whole_Of 6,oQ 8 (.call F.dyadic_told [.t 7, .c (iv 0)]),oM 5 8,oX 9 5 0,oX 10 5 1,oA 3 oT,oS 3 3 9,oM 4 10]) (.seq (oP [oG 11 3 3,oS 3 2 11]) .ret)))
def R.dyadic_Of : List VRes := [.cell 2 (some 3)]
theorem G.dyadic_Of : Gok F.dyadic_Of Tryz.f100 C.dyadic_Of R.dyadic_Of 12 := gk (Tryz.func100) Tryz.ntmps100
def C.r06Int := cD (.seq (oP [oA 2 oV]) (.seq (.seq (oP [oM 3 0,oK 4 .lss 3 0]) (.cond (.t 4) (.seq (oP [oM 5 0,oK 6 .add 5 1,oQ 7 (.un .neg (.t 6)),oQ 8 (.conv .u64 (.t 7)),oQ 9 (.bin .add false (.t 8) (.c (nv 1))),oQ 10 (.bsl true 1 1 [.int .u64 0] [(0, (1, .t 9))]),oC 11 F.r01Of 10,oQ 12 (.call F.r06make1 [.c (bv true), .t 11]),oS 2 2 12]) .ret) .skip)) (.seq (oP [oM 13 0,oC 14 F.r01Int 13,oQ 15 (.call F.r06make1 [.c (bv false), .t 14]),oS 2 2 15]) .ret)))
def R.r06Int : List VRes := [.cell 2 (some 2)]
theorem G.r06Int : Gok F.r06Int Tryz.f101 C.r06Int R.r06Int 16 := gk (Tryz.func101) Tryz.ntmps101
def C.dyadic_Sign := cD (.seq (oP [oB 1 0,oI 2 0]) (.seq (oP [oF 3 0 1,oG 4 2 3,oC 5 F.whole_Sign 4,oM 2 5]) .ret))
def R.dyadic_Sign : List VRes := [.tmp 2]
theorem G.dyadic_Sign : Gok F.dyadic_Sign Tryz.f102 C.dyadic_Sign R.dyadic_Sign 6 := gk (Tryz.func102) Tryz.ntmps102
def C.q_Sqrt := cD (.seq (oP [oB 3 0,oA 6 oT,oI 7 0]) (.seq (oP [oG 20 3 3,oC 21 F.q_read 20,oM 19 21,oX 22 19 0,oX 23 19 1,oA 8 oT,oS 3 8 22,oM 9 23]) (.seq (.seq (oP [oM 24 9,oK 25 .neq 24 0]) (.cond (.t 25) (.seq (oP [oQ 26 (.build oT []),oM 27 9,oS 3 6 26,oM 7 27]) .ret) .skip)) (.seq (.seq (oP [oM 28 1,oM 29 2,oD 30 F.q_asked 28 29,oM 10 30]) (.seq (oP [oM 31 10,oK 32 .neq 31 0]) (.cond (.t 32) (.seq (oP [oQ 33 (.build oT []),oM 34 10,oS 3 6 33,oM 7 34]) .ret) .skip))) (.seq (.seq (oP [oF 35 1 8,oL 36 35,oH 37 36,oK 38 .eql 37 0]) (.cond (.t 38) (.seq (oP [oQ 39 (.build oT []),oS 3 6 39,oI 7 0]) .ret) .skip)) (.seq (.seq (oP [oF 40 0 8,oL 41 40]) (.cond (.t 41) (.seq (oP [oQ 42 (.build oT []),oS 3 6 42,oI 7 91]) .ret) .skip)) (.seq (oP [oF 43 2 8,oL 44 43,oM 45 1,oQ 46 (.bin .mul false (.c (iv 2)) (.t 45)),oO 47 .sub 44 46,oM 11 47]) (.seq (.seq (oP [oF 48 1 8,oL 49 48,oC 50 F.nat_Length 49,oM 51 11,oO 52 .add 50 51,oK 53 .gtr 52 134217730]) (.cond (.t 53) (.seq (oP [oQ 54 (.build oT []),oS 3 6 54,oI 7 3]) .ret) .skip)) (.seq (.seq (oP [oF 55 1 8,oL 56 55,oC 57 F.nat_Length 56,oM 58 11,oO 59 .add 57 58,oK 60 .lss 59 (-4)]) (.cond (.t 60) (.seq (oP [oM 61 1,oM 62 2,oQ 63 (.call F.q_finish [.c (bv false), .c nil1, .c (iv 1), .t 61, .t 62]),oX 64 63 0,oX 65 63 1,oS 3 6 64,oM 7 65]) .ret) .skip)) (.seq (oP [oM 66 11,oK 67 .add 66 2,oM 11 67]) (.seq (oP [oQ 12 (.mov (.c (bv false)))]) (.seq (oP [oF 68 1 8,oL 69 68,oM 13 69]) (.seq (.seq (oP [oM 70 11,oK 71 .geq 70 0]) (.cond (.t 71) (oP [oM 72 13,oM 73 11,oD 74 F.q_left 72 73,oM 13 74]) (.seq (oP [oM 75 13,oC 76 F.nat_Tail 75,oM 77 11,oQ 78 (.un .neg (.t 77)),oO 79 .lss 76 78,oM 12 79]) (oP [oM 80 13,oM 81 11,oQ 82 (.un .neg (.t 81)),oD 83 F.q_right 80 82,oM 13 83])))) (.seq (oP [oM 85 13,oC 86 F.roots_Sqrt 85,oM 84 86,oX 87 84 0,oX 88 84 1,oX 89 84 2,oM 14 87,oM 15 88,oM 9 89]) (.seq (.seq (oP [oM 90 9,oK 91 .neq 90 0]) (.cond (.t 91) (.seq (oP [oQ 92 (.build oT []),oM 93 9,oS 3 6 92,oM 7 93]) .ret) .skip)) (.seq (oP [oM 94 14,oQ 95 (.call F.q_right [.t 94, .c (iv 1)]),oM 16 95]) (.seq (oP [oM 96 12,oM 97 96,oY 98 15 97 false,⟨some 99, .len (.t 98), some (97, false)⟩,⟨some 100, .bin .gtr false (.t 99) (.c (iv 0)), some (97, false)⟩,oQ 101 (.pick (.t 97) (.c (bv true)) (.t 100)),oM 17 101]) (.seq (oP [oI 18 0]) (.seq (.block 0 (.seq (oP [oM 103 14,oQ 104 (.call F.nat_Bit [.t 103, .c (iv 0)]),oK 105 .eql 104 1,oM 106 105,oY 107 17 106 true,oQ 108 (.pick (.t 106) (.t 107) (.c (bv false))),oM 102 108]) (.cond (.t 102) (oP [oI 18 3]) (.seq (oP [oM 110 14,oQ 111 (.call F.nat_Bit [.t 110, .c (iv 0)]),oK 112 .eql 111 1,oM 109 112]) (.cond (.t 109) (oP [oI 18 2]) (.seq (oP [oM 114 17,oM 113 114]) (.cond (.t 113) (oP [oI 18 1]) .skip))))))) (.seq (oP [oM 115 16,oM 116 18,oM 117 1,oM 118 2,oQ 119 (.call F.q_finish [.c (bv false), .t 115, .t 116, .t 117, .t 118]),oX 120 119 0,oX 121 119 1,oS 3 6 120,oM 7 121]) .ret))))))))))))))))))))
def R.q_Sqrt : List VRes := [.cell 6 (some 3), .tmp 7]
theorem G.q_Sqrt : Gok F.q_Sqrt Tryz.f103 C.q_Sqrt R.q_Sqrt 122 := gk (Tryz.func103) Tryz.ntmps103
def C.span_ends := cD (.seq (oP [oB 4 0,oB 6 2,oA 8 oU,oI 9 0]) (.seq (.seq (oP [oM 11 1,oM 12 3,oD 13 F.span_worst 11 12,oM 10 13]) (.seq (oP [oM 14 10,oK 15 .neq 14 0]) (.cond (.t 15) (.seq (oP [oQ 16 (.build oU []),oM 17 10,oS 6 8 16,oM 9 17]) .ret) .skip))) (.seq (oP [oG 18 3 4,oG 19 3 6,oQ 20 (.build oU [(0, (3, .t 18)), (3, (3, .t 19))]),oS 6 8 20,oI 9 0]) .ret)))
def R.span_ends : List VRes := [.cell 8 (some 6), .tmp 9]
theorem G.span_ends : Gok F.span_ends Tryz.f104 C.span_ends R.span_ends 21 := gk (Tryz.func104) Tryz.ntmps104
def C.r01Num_Zero := cD (.seq (oP [oQ 2 (.mov (.c (bv false)))]) (.seq (oP [oM 3 0,oH 4 3,oK 5 .eql 4 0,oM 2 5]) .ret))
def R.r01Num_Zero : List VRes := [.tmp 2]
theorem G.r01Num_Zero : Gok F.r01Num_Zero Tryz.f105 C.r01Num_Zero R.r01Num_Zero 6 := gk (Tryz.func105) Tryz.ntmps105
def C.span_check := cD (.seq (oP [oB 1 0,oI 2 0]) (.seq (oP [oF 6 0 1,oG 7 3 6,oF 8 3 1,oG 9 3 8,oD 10 F.dyadic_Compare 7 9,oM 5 10,oX 11 5 0,oX 12 5 1,oM 3 11,oM 4 12]) (.seq (.seq (oP [oM 13 4,oK 14 .eql 13 0,oM 15 14,oY 16 3 15 true,⟨some 17, .bin .gtr false (.t 16) (.c (iv 0)), some (15, true)⟩,oQ 18 (.pick (.t 15) (.t 17) (.c (bv false)))]) (.cond (.t 18) (.seq (oP [oI 2 100]) .ret) .skip)) (.seq (oP [oM 19 4,oM 2 19]) .ret))))
def R.span_check : List VRes := [.tmp 2]
theorem G.span_check : Gok F.span_check Tryz.f106 C.span_check R.span_check 20 := gk (Tryz.func106) Tryz.ntmps106
def C.span_sizes := cD (.seq (oP [oB 1 0,oA 2 oU]) (.seq (oR [oF 7 0 1,oG 8 3 7,oC 9 F.span_size 8,oF 10 3 1,oG 11 3 10,oC 12 F.span_size 11,oQ 3 (.mov (.c .any)),oQ 4 (.mov (.c .any)),oQ 3 (.boxA 3 (.t 9)),oQ 4 (.boxA 3 (.t 12))]) (.seq (.seq (oP [oG 14 3 3,oG 15 3 4,oD 16 F.dyadic_Compare 14 15,oM 13 16,oX 17 13 0,oX 18 13 1,oM 5 17,oM 6 18]) (.seq (oP [oM 19 5,oK 20 .gtr 19 0]) (.cond (.t 20) (oP [oG 21 3 4,oG 22 3 3,oS 3 3 21,oS 3 4 22]) .skip))) (.seq (.seq (oP [oG 23 6 1,oC 24 F.span_nought 23]) (.cond (.t 24) (oP [oQ 25 (.build oT []),oS 3 3 25]) .skip)) (.seq (oP [oG 26 3 3,oG 27 3 4,oQ 28 (.build oU [(0, (3, .t 26)), (3, (3, .t 27))]),oS 6 2 28]) .ret)))))
def R.span_sizes : List VRes := [.cell 2 (some 6)]
theorem G.span_sizes : Gok F.span_sizes Tryz.f107 C.span_sizes R.span_sizes 29 := gk (Tryz.func107) Tryz.ntmps107
def C.dyadic_Pow := cD (.seq (oP [oB 2 0,oA 4 oT,oI 5 0]) (.seq (oP [oG 10 3 2,oC 11 F.dyadic_read 10,oM 9 11,oX 12 9 0,oX 13 9 1,oA 6 oT,oS 3 6 12,oM 7 13]) (.seq (.seq (oP [oM 14 7,oK 15 .neq 14 0]) (.cond (.t 15) (.seq (oP [oQ 16 (.build oT []),oM 17 7,oS 3 4 16,oM 5 17]) .ret) .skip)) (.seq (.seq (oP [oM 18 1,oK 19 .lss 18 0]) (.cond (.t 19) (.seq (oP [oQ 20 (.build oT []),oS 3 4 20,oI 5 1]) .ret) .skip)) (.seq (oP [oF 22 0 6,oF 23 0 22,oG 24 2 23,oM 25 1,oD 26 F.whole_Pow 24 25,oM 21 26,oX 27 21 0,oX 28 21 1,oA 8 oV,oS 2 8 27,oM 7 28]) (.seq (.seq (oP [oM 29 7,oK 30 .neq 29 0]) (.cond (.t 30) (.seq (oP [oQ 31 (.build oT []),oM 32 7,oS 3 4 31,oM 5 32]) .ret) .skip)) (.seq (.seq (oP [oF 33 2 6,oL 34 33,oK 35 .neq 34 0,oM 36 35,oY 37 1 36 true,⟨some 38, .bin .gtr false (.t 37) (.c (iv 1099511627776)), some (36, true)⟩,oQ 39 (.pick (.t 36) (.t 38) (.c (bv false)))]) (.cond (.t 39) (.seq (oP [oQ 40 (.build oT []),oS 3 4 40,oI 5 80]) .ret) .skip)) (.seq (.seq (oR [oF 41 2 6,oL 42 41,oK 43 .neq 42 0,oM 44 43,oY 45 1 44 true,⟨some 46, .bin .gtr false (.t 45) (.c (iv 0)), some (44, true)⟩,oQ 47 (.pick (.t 44) (.t 46) (.c (bv false))),oM 48 47,⟨some 49, .fa 2 (.t 6), some (48, true)⟩,⟨some 50, .load none (.t 49), some (48, true)⟩,oY 51 1 48 true,⟨some 52, .bin .quo false (.c (iv 1099511627776)) (.t 51), some (48, true)⟩,⟨some 53, .bin .gtr false (.t 50) (.t 52), some (48, true)⟩,oY 54 53 48 true,⟨some 55, .fa 2 (.t 6), some (54, false)⟩,⟨some 56, .load none (.t 55), some (54, false)⟩,oY 57 1 54 false,⟨some 58, .bin .quo false (.c (iv 1099511627776)) (.t 57), some (54, false)⟩,⟨some 59, .un .neg (.t 58), some (54, false)⟩,⟨some 60, .bin .lss false (.t 56) (.t 59), some (54, false)⟩,⟨some 61, .pick (.t 54) (.c (bv true)) (.t 60), some (48, true)⟩,oQ 62 (.pick (.t 48) (.t 61) (.c (bv false)))]) (.cond (.t 62) (.seq (oP [oQ 63 (.build oT []),oS 3 4 63,oI 5 80]) .ret) .skip)) (.seq (oP [oG 64 2 8,oF 65 2 6,oL 66 65,oM 67 1,oO 68 .mul 66 67,oD 69 F.dyadic_told 64 68,oX 70 69 0,oX 71 69 1,oS 3 4 70,oM 5 71]) .ret)))))))))
def R.dyadic_Pow : List VRes := [.cell 4 (some 3), .tmp 5]
theorem G.dyadic_Pow : Gok F.dyadic_Pow Tryz.f108 C.dyadic_Pow R.dyadic_Pow 72 := gk (Tryz.func108) Tryz.ntmps108
def C.span_outward := cD (.seq (oP [oB 3 0,oB 4 1,oA 6 oU,oI 7 0]) (.seq (oP [oG 13 3 3,oM 14 2,oQ 15 (.call F.dyadic_Round [.t 13, .t 14, .c (iv 0)]),oM 12 15,oX 16 12 0,oX 17 12 1,oA 8 oT,oS 3 8 16,oM 9 17]) (.seq (oP [oG 19 3 4,oM 20 2,oQ 21 (.call F.dyadic_Round [.t 19, .t 20, .c (iv 1)]),oM 18 21,oX 22 18 0,oX 23 18 1,oA 10 oT,oS 3 10 22,oM 11 23]) (.seq (oP [oG 24 3 8,oM 25 9,oG 26 3 10,oM 27 11,oQ 28 (.call F.span_ends [.t 24, .t 25, .t 26, .t 27]),oX 29 28 0,oX 30 28 1,oS 6 6 29,oM 7 30]) .ret))))
def R.span_outward : List VRes := [.cell 6 (some 6), .tmp 7]
theorem G.span_outward : Gok F.span_outward Tryz.f109 C.span_outward R.span_outward 31 := gk (Tryz.func109) Tryz.ntmps109
def C.span_normal := cD (.seq (oP [oB 2 0,oB 3 1,oA 4 oU,oI 5 0]) (.seq (oP [oG 11 3 2,oC 12 F.span_norm 11,oM 10 12,oX 13 10 0,oX 14 10 1,oA 6 oT,oS 3 6 13,oM 7 14]) (.seq (oP [oG 16 3 3,oC 17 F.span_norm 16,oM 15 17,oX 18 15 0,oX 19 15 1,oA 8 oT,oS 3 8 18,oM 9 19]) (.seq (oP [oG 20 3 6,oM 21 7,oG 22 3 8,oM 23 9,oQ 24 (.call F.span_ends [.t 20, .t 21, .t 22, .t 23]),oX 25 24 0,oX 26 24 1,oS 6 4 25,oM 5 26]) .ret))))
def R.span_normal : List VRes := [.cell 4 (some 6), .tmp 5]
theorem G.span_normal : Gok F.span_normal Tryz.f110 C.span_normal R.span_normal 27 := gk (Tryz.func110) Tryz.ntmps110
def C.span_pair := cD (.seq (oP [oB 4 0,oB 5 1,oA 8 oU,oI 9 0]) (.seq (.seq (oP [oG 15 6 4,oG 16 6 5,oQ 17 (.bsl true 6 2 oU [(0, (6, .t 15)), (6, (6, .t 16))]),oQ 18 (.call F.span_checks [.c (iv 0), .t 17]),oM 10 18]) (.seq (oP [oM 19 10,oK 20 .neq 19 0]) (.cond (.t 20) (.seq (oP [oQ 21 (.build oU []),oM 22 10,oS 6 8 21,oM 9 22]) .ret) .skip))) (.seq (oP [oM 24 2,oF 25 0 4,oG 26 3 25,oF 27 0 5,oG 28 3 27,oQ 29 (.callv (.t 24) [.t 26, .t 28]),oM 23 29,oX 30 23 0,oX 31 23 1,oA 11 oT,oS 3 11 30,oM 12 31]) (.seq (oP [oM 33 3,oF 34 3 4,oG 35 3 34,oF 36 3 5,oG 37 3 36,oQ 38 (.callv (.t 33) [.t 35, .t 37]),oM 32 38,oX 39 32 0,oX 40 32 1,oA 13 oT,oS 3 13 39,oM 14 40]) (.seq (oP [oG 41 3 11,oM 42 12,oG 43 3 13,oM 44 14,oQ 45 (.call F.span_ends [.t 41, .t 42, .t 43, .t 44]),oX 46 45 0,oX 47 45 1,oS 6 8 46,oM 9 47]) .ret)))))
def R.span_pair : List VRes := [.cell 8 (some 6), .tmp 9]
theorem G.span_pair : Gok F.span_pair Tryz.f111 C.span_pair R.span_pair 48 := gk (Tryz.func111) Tryz.ntmps111
def C.dyadic_Min := cD (.seq (oP [oB 2 0,oB 3 1,oA 4 oT,oI 5 0]) (.seq (oP [oG 6 3 2,oG 7 3 3,oQ 8 (.call F.dyadic_pick [.t 6, .t 7, .c (iv (-1))]),oX 9 8 0,oX 10 8 1,oS 3 4 9,oM 5 10]) .ret))
def R.dyadic_Min : List VRes := [.cell 4 (some 3), .tmp 5]
theorem G.dyadic_Min : Gok F.dyadic_Min Tryz.f112 C.dyadic_Min R.dyadic_Min 11 := gk (Tryz.func112) Tryz.ntmps112
def C.r06Abs := cD (.seq (oP [oB 1 0,oA 2 oV]) (.seq (oP [oF 3 1 1,oL 4 3,oQ 5 (.build oV [(0, (1, .c (bv false))), (1, (1, .t 4))]),oS 2 2 5]) .ret))
def R.r06Abs : List VRes := [.cell 2 (some 2)]
theorem G.r06Abs : Gok F.r06Abs Tryz.f113 C.r06Abs R.r06Abs 6 := gk (Tryz.func113) Tryz.ntmps113
def C.dyadic_Compare := cD (.seq (oP [oB 2 0,oB 3 1,oI 4 0,oI 5 0]) (.seq (oP [oG 10 3 2,oG 11 3 3,oD 12 F.dyadic_two 10 11,oM 9 12,oX 13 9 0,oX 14 9 1,oX 15 9 2,oA 6 oT,oA 7 oT,oS 3 6 13,oS 3 7 14,oM 8 15]) (.seq (.seq (oP [oM 16 8,oK 17 .neq 16 0]) (.cond (.t 17) (.seq (oP [oM 18 8,oI 4 0,oM 5 18]) .ret) .skip)) (.seq (oP [oG 19 3 6,oG 20 3 7,oD 21 F.dyadic_compare 19 20,oM 4 21,oI 5 0]) .ret))))
def R.dyadic_Compare : List VRes := [.tmp 4, .tmp 5]
theorem G.dyadic_Compare : Gok F.dyadic_Compare Tryz.f114 C.dyadic_Compare R.dyadic_Compare 22 := gk (Tryz.func114) Tryz.ntmps114
def C.r06Of := cD (.seq (oP [oA 4 oV]) (.seq (oP [oM 5 0,oM 6 1,oC 7 F.r01Of 6,oD 8 F.r06make1 5 7,oS 2 4 8]) .ret))
def R.r06Of : List VRes := [.cell 4 (some 2)]
theorem G.r06Of : Gok F.r06Of Tryz.f122 C.r06Of R.r06Of 9 := gk (Tryz.func122) Tryz.ntmps122
def C.r06Z_Is := cD (.seq (oP [oB 3 0,oQ 6 (.mov (.c (bv false)))]) (.seq (oP [oF 7 0 3,oL 8 7,oM 9 1,oQ 10 (.bin .eql true (.t 8) (.t 9)),oM 11 10,⟨some 12, .fa 1 (.t 3), some (11, true)⟩,⟨some 13, .load none (.t 12), some (11, true)⟩,oY 14 2 11 true,⟨some 15, .call F.r01Num_Is [.t 13, .t 14], some (11, true)⟩,oQ 16 (.pick (.t 11) (.t 15) (.c (bv false))),oM 6 16]) .ret))
def R.r06Z_Is : List VRes := [.tmp 6]
theorem G.r06Z_Is : Gok F.r06Z_Is Tryz.f123 C.r06Z_Is R.r06Z_Is 17 := gk (Tryz.func123) Tryz.ntmps123
def C.r01Shl := cD (.seq (oP [oQ 4 (.mov (.c nil1))]) (.seq (.seq (oP [oM 9 0,oH 10 9,oK 11 .eql 10 0]) (.cond (.t 11) (.seq (oP [oQ 4 (.mov (.c nil1))]) .ret) .skip)) (.seq (oP [oM 12 0,oH 13 12,oM 14 1,oK 15 .quo 14 32,oO 16 .add 13 15,oK 17 .add 16 1,oQ 18 (.mk [.int .u64 0] 8 (.t 17) (.t 17)),oM 5 18]) (.seq (oP [oM 19 1,oK 20 .rem 19 32,oM 6 20]) (.seq (.seq (oP [oM 21 0,oH 22 21,oI 23 0]) (.block 0 (.loop (.seq (oP [oO 24 .lss 23 22]) (.seq (.cond (.t 24) .skip (.exit 0)) (.seq (.block 1 (.seq (oP [oM 25 23,oJ 26 1 21 23,oL 27 26,oM 7 25,oM 8 27]) (.seq (oR [oM 28 5,oM 29 7,oM 30 1,oK 31 .quo 30 32,oO 32 .add 29 31,oJ 33 1 28 32,oL 34 33,oM 35 8,oM 36 6,oO 37 .shl 35 36,oQ 38 (.bin .rem false (.t 37) (.c (nv 4294967296))),oO 39 .add 34 38,oJ 40 1 28 32,oS 1 40 39]) (oP [oM 41 5,oM 42 7,oM 43 1,oK 44 .quo 43 32,oO 45 .add 42 44,oK 46 .add 45 1,oM 47 8,oM 48 6,oO 49 .shl 47 48,oQ 50 (.bin .quo false (.t 49) (.c (nv 4294967296))),oJ 51 1 41 46,oS 1 51 50])))) (oP [oK 52 .add 23 1,oM 23 52]))))))) (.seq (oP [oM 53 5,oC 54 F.r01norm 53,oM 4 54]) .ret))))))
def R.r01Shl : List VRes := [.tmp 4]
theorem G.r01Shl : Gok F.r01Shl Tryz.f132 C.r01Shl R.r01Shl 55 := gk (Tryz.func132) Tryz.ntmps132
def C.r01Int := cD (.seq (oP [oQ 2 (.mov (.c nil1))]) (.seq (oP [oM 3 0,oQ 4 (.conv .u64 (.t 3)),oQ 5 (.bsl true 1 1 [.int .u64 0] [(0, (1, .t 4))]),oC 6 F.r01Of 5,oM 2 6]) .ret))
def R.r01Int : List VRes := [.tmp 2]
theorem G.r01Int : Gok F.r01Int Tryz.f133 C.r01Int R.r01Int 7 := gk (Tryz.func133) Tryz.ntmps133
def C.r01Num_Tail := cD (.seq (oP [oI 2 0]) (.seq (.seq (oP [oM 4 0,oH 5 4,oK 6 .eql 5 0]) (.cond (.t 6) (.seq (oP [oI 2 0]) .ret) .skip)) (.seq (oP [oI 3 0]) (.seq (.block 0 (.loop (.seq (.seq (oP [oM 7 0,oM 8 3,oD 9 F.r01Num_Bit 7 8,oK 10 .eql 9 0]) (.cond (.t 10) .skip (.exit 0))) (.block 1 (oP [oM 11 3,oK 12 .add 11 1,oM 3 12]))))) (.seq (oP [oM 13 3,oM 2 13]) .ret)))))
def R.r01Num_Tail : List VRes := [.tmp 2]
theorem G.r01Num_Tail : Gok F.r01Num_Tail Tryz.f137 C.r01Num_Tail R.r01Num_Tail 14 := gk (Tryz.func137) Tryz.ntmps137
def C.r01Shr := cD (.seq (oP [oQ 4 (.mov (.c nil1))]) (.seq (.seq (oP [oM 9 1,oK 10 .quo 9 32,oM 11 0,oH 12 11,oO 13 .geq 10 12]) (.cond (.t 13) (.seq (oP [oQ 4 (.mov (.c nil1))]) .ret) .skip)) (.seq (oP [oM 14 0,oH 15 14,oM 16 1,oK 17 .quo 16 32,oO 18 .sub 15 17,oQ 19 (.mk [.int .u64 0] 8 (.t 18) (.t 18)),oM 5 19]) (.seq (oP [oM 20 1,oK 21 .rem 20 32,oM 6 21]) (.seq (.seq (oP [oM 22 5,oH 23 22,oI 24 0]) (.block 0 (.loop (.seq (oP [oO 25 .lss 24 23]) (.seq (.cond (.t 25) .skip (.exit 0)) (.seq (.block 1 (.seq (oP [oM 26 24,oM 7 26]) (.seq (oR [oM 27 0,oM 28 7,oM 29 1,oK 30 .quo 29 32,oO 31 .add 28 30,oJ 32 1 27 31,oL 33 32,oM 34 0,oM 35 7,oM 36 1,oK 37 .quo 36 32,oO 38 .add 35 37,oK 39 .add 38 1,oD 40 F.r01Num_at 34 39,oQ 41 (.bin .mul false (.t 40) (.c (nv 4294967296))),oO 42 .add 33 41,oM 8 42]) (oP [oM 43 5,oM 44 7,oM 45 8,oM 46 6,oO 47 .shr 45 46,oQ 48 (.bin .rem false (.t 47) (.c (nv 4294967296))),oJ 49 1 43 44,oS 1 49 48])))) (oP [oK 50 .add 24 1,oM 24 50]))))))) (.seq (oP [oM 51 5,oC 52 F.r01norm 51,oM 4 52]) .ret))))))
def R.r01Shr : List VRes := [.tmp 4]
theorem G.r01Shr : Gok F.r01Shr Tryz.f138 C.r01Shr R.r01Shr 53 := gk (Tryz.func138) Tryz.ntmps138
def C.r06make1 := cD (.seq (oP [oA 4 oV]) (.seq (oP [oM 5 0,oM 6 5,oY 7 1 6 true,⟨some 8, .call F.r01Num_Zero [.t 7], some (6, true)⟩,⟨some 9, .un .not (.t 8), some (6, true)⟩,oQ 10 (.pick (.t 6) (.t 9) (.c (bv false))),oM 11 1,oQ 12 (.build oV [(0, (1, .t 10)), (1, (1, .t 11))]),oS 2 4 12]) .ret))
def R.r06make1 : List VRes := [.cell 4 (some 2)]
theorem G.r06make1 : Gok F.r06make1 Tryz.f139 C.r06make1 R.r06make1 13 := gk (Tryz.func139) Tryz.ntmps139
def C.r01Add := cD (.seq (oP [oQ 4 (.mov (.c nil1))]) (.seq (oP [oM 10 0,oH 11 10,oM 5 11]) (.seq (.seq (oP [oM 12 1,oH 13 12,oM 14 5,oO 15 .gtr 13 14]) (.cond (.t 15) (oP [oM 16 1,oH 17 16,oM 5 17]) .skip)) (.seq (oP [oM 18 5,oK 19 .add 18 1,oQ 20 (.mk [.int .u64 0] 8 (.t 19) (.t 19)),oM 6 20]) (.seq (oP [oN 7 0]) (.seq (.seq (oP [oI 8 0]) (.block 0 (.loop (.seq (.seq (oP [oM 21 8,oM 22 5,oO 23 .leq 21 22]) (.cond (.t 23) .skip (.exit 0))) (.seq (.block 1 (.seq (oP [oM 26 0,oM 27 8,oD 28 F.r01Num_at 26 27,oM 29 1,oM 30 8,oD 31 F.r01Num_at 29 30,oO 32 .add 28 31,oM 33 7,oO 34 .add 32 33,oM 9 34]) (.seq (oP [oM 35 6,oM 36 8,oM 37 9,oQ 38 (.bin .rem false (.t 37) (.c (nv 4294967296))),oJ 39 1 35 36,oS 1 39 38]) (oP [oM 40 9,oQ 41 (.bin .quo false (.t 40) (.c (nv 4294967296))),oM 7 41])))) (oP [oM 24 8,oK 25 .add 24 1,oM 8 25])))))) (.seq (oP [oM 42 6,oC 43 F.r01norm 42,oM 4 43]) .ret)))))))
def R.r01Add : List VRes := [.tmp 4]
theorem G.r01Add : Gok F.r01Add Tryz.f140 C.r01Add R.r01Add 44 := gk (Tryz.func140) Tryz.ntmps140
def C.r01Cmp := cD (.seq (oP [oI 4 0]) (.seq (.seq (oP [oM 6 0,oH 7 6,oM 8 1,oH 9 8,oO 10 .neq 7 9]) (.cond (.t 10) (.seq (.seq (oP [oM 11 0,oH 12 11,oM 13 1,oH 14 13,oO 15 .lss 12 14]) (.cond (.t 15) (.seq (oP [oI 4 (-1)]) .ret) .skip)) (.seq (oP [oI 4 1]) .ret)) .skip)) (.seq (.seq (oP [oM 16 0,oH 17 16,oK 18 .sub 17 1,oM 5 18]) (.block 0 (.loop (.seq (.seq (oP [oM 19 5,oK 20 .geq 19 0]) (.cond (.t 20) .skip (.exit 0))) (.seq (.block 1 (.seq (.seq (oR [oM 23 0,oM 24 5,oJ 25 1 23 24,oL 26 25,oM 27 1,oM 28 5,oJ 29 1 27 28,oL 30 29,oO 31 .lss 26 30]) (.cond (.t 31) (.seq (oP [oI 4 (-1)]) .ret) .skip)) (.seq (oR [oM 32 0,oM 33 5,oJ 34 1 32 33,oL 35 34,oM 36 1,oM 37 5,oJ 38 1 36 37,oL 39 38,oO 40 .gtr 35 39]) (.cond (.t 40) (.seq (oP [oI 4 1]) .ret) .skip)))) (oP [oM 21 5,oK 22 .sub 21 1,oM 5 22])))))) (.seq (oP [oI 4 0]) .ret))))
def R.r01Cmp : List VRes := [.tmp 4]
theorem G.r01Cmp : Gok F.r01Cmp Tryz.f141 C.r01Cmp R.r01Cmp 41 := gk (Tryz.func141) Tryz.ntmps141
def C.r01Sub := cD (.seq (oP [oQ 4 (.mov (.c nil1))]) (.seq (oP [oM 9 0,oH 10 9,oQ 11 (.mk [.int .u64 0] 8 (.t 10) (.t 10)),oM 5 11]) (.seq (oP [oN 6 0]) (.seq (.seq (oP [oM 12 0,oH 13 12,oI 14 0]) (.block 0 (.loop (.seq (oP [oO 15 .lss 14 13]) (.seq (.cond (.t 15) .skip (.exit 0)) (.seq (.block 1 (.seq (oP [oM 16 14,oM 7 16]) (.seq (oR [oM 17 0,oM 18 7,oJ 19 1 17 18,oL 20 19,oQ 21 (.bin .add false (.t 20) (.c (nv 4294967296))),oM 22 1,oM 23 7,oD 24 F.r01Num_at 22 23,oO 25 .sub 21 24,oM 26 6,oO 27 .sub 25 26,oM 8 27]) (.seq (oP [oM 28 5,oM 29 7,oM 30 8,oQ 31 (.bin .rem false (.t 30) (.c (nv 4294967296))),oJ 32 1 28 29,oS 1 32 31]) (oP [oM 33 8,oQ 34 (.bin .quo false (.t 33) (.c (nv 4294967296))),oQ 35 (.bin .sub false (.c (nv 1)) (.t 34)),oM 6 35]))))) (oP [oK 36 .add 14 1,oM 14 36]))))))) (.seq (oP [oM 37 5,oC 38 F.r01norm 37,oM 4 38]) .ret)))))
def R.r01Sub : List VRes := [.tmp 4]
theorem G.r01Sub : Gok F.r01Sub Tryz.f142 C.r01Sub R.r01Sub 39 := gk (Tryz.func142) Tryz.ntmps142
def C.r01Mul := cD (.seq (oP [oQ 4 (.mov (.c nil1))]) (.seq (oP [oM 12 0,oH 13 12,oM 14 1,oH 15 14,oO 16 .add 13 15,oK 17 .add 16 1,oQ 18 (.mk [.int .u64 0] 8 (.t 17) (.t 17)),oM 5 18]) (.seq (.seq (oP [oM 19 0,oH 20 19,oI 21 0]) (.block 0 (.loop (.seq (oP [oO 22 .lss 21 20]) (.seq (.cond (.t 22) .skip (.exit 0)) (.seq (.block 1 (.seq (oP [oM 23 21,oJ 24 1 19 21,oL 25 24,oM 6 23,oM 7 25]) (.seq (oP [oN 8 0]) (.seq (.seq (oP [oM 26 1,oH 27 26,oI 28 0]) (.block 2 (.loop (.seq (oP [oO 29 .lss 28 27]) (.seq (.cond (.t 29) .skip (.exit 2)) (.seq (.block 3 (.seq (oP [oM 30 28,oJ 31 1 26 28,oL 32 31,oM 9 30,oM 10 32]) (.seq (oP [oM 33 7,oM 34 10,oO 35 .mul 33 34,oM 36 5,oM 37 6,oM 38 9,oO 39 .add 37 38,oJ 40 1 36 39,oL 41 40,oO 42 .add 35 41,oM 43 8,oO 44 .add 42 43,oM 11 44]) (.seq (oP [oM 45 5,oM 46 6,oM 47 9,oO 48 .add 46 47,oM 49 11,oQ 50 (.bin .rem false (.t 49) (.c (nv 4294967296))),oJ 51 1 45 48,oS 1 51 50]) (oP [oM 52 11,oQ 53 (.bin .quo false (.t 52) (.c (nv 4294967296))),oM 8 53]))))) (oP [oK 54 .add 28 1,oM 28 54]))))))) (oP [oM 55 5,oM 56 6,oM 57 1,oH 58 57,oO 59 .add 56 58,oM 60 8,oJ 61 1 55 59,oS 1 61 60]))))) (oP [oK 62 .add 21 1,oM 21 62]))))))) (.seq (oP [oM 63 5,oC 64 F.r01norm 63,oM 4 64]) .ret))))
def R.r01Mul : List VRes := [.tmp 4]
theorem G.r01Mul : Gok F.r01Mul Tryz.f143 C.r01Mul R.r01Mul 65 := gk (Tryz.func143) Tryz.ntmps143
def C.dyadic_Add := cD (.seq (oP [oB 2 0,oB 3 1,oA 4 oT,oI 5 0]) (.seq (oP [oG 10 3 2,oG 11 3 3,oD 12 F.dyadic_two 10 11,oM 9 12,oX 13 9 0,oX 14 9 1,oX 15 9 2,oA 6 oT,oA 7 oT,oS 3 6 13,oS 3 7 14,oM 8 15]) (.seq (.seq (oP [oM 16 8,oK 17 .neq 16 0]) (.cond (.t 17) (.seq (oP [oQ 18 (.build oT []),oM 19 8,oS 3 4 18,oM 5 19]) .ret) .skip)) (.seq (oP [oG 20 3 6,oG 21 3 7,oD 22 F.dyadic_sum 20 21,oX 23 22 0,oX 24 22 1,oS 3 4 23,oM 5 24]) .ret))))
def R.dyadic_Add : List VRes := [.cell 4 (some 3), .tmp 5]
theorem G.dyadic_Add : Gok F.dyadic_Add Tryz.f144 C.dyadic_Add R.dyadic_Add 25 := gk (Tryz.func144) Tryz.ntmps144
def C.dyadic_two := cD (.seq (oP [oB 2 0,oB 3 1,oA 4 oT,oA 5 oT,oI 6 0]) (.seq (oP [oG 11 3 2,oC 12 F.dyadic_read 11,oM 10 12,oX 13 10 0,oX 14 10 1,oA 7 oT,oS 3 7 13,oM 8 14]) (.seq (.seq (oP [oM 15 8,oK 16 .neq 15 0]) (.cond (.t 16) (.seq (oR [oG 17 3 7,oG 18 3 7,oM 19 8,⟨none, .storeA 3 (.t 4) (.t 17) [7], none⟩,oS 3 5 18,oM 6 19]) .ret) .skip)) (.seq (oP [oG 21 3 3,oC 22 F.dyadic_read 21,oM 20 22,oX 23 20 0,oX 24 20 1,oA 9 oT,oS 3 9 23,oM 8 24]) (.seq (oR [oG 25 3 7,oG 26 3 9,oM 27 8,⟨none, .storeA 3 (.t 4) (.t 25) [9], none⟩,oS 3 5 26,oM 6 27]) .ret)))))
def R.dyadic_two : List VRes := [.cell 4 (some 3), .cell 5 (some 3), .tmp 6]
theorem G.dyadic_two : Gok F.dyadic_two Tryz.f145 C.dyadic_two R.dyadic_two 28 := gk (Tryz.func145) Tryz.ntmps145
def C.whole_Mul := cD (.seq (oP [oB 2 0,oB 3 1,oA 4 oV,oI 5 0]) (.seq (oP [oF 9 1 2,oL 10 9,oF 11 1 3,oL 12 11,oD 13 F.mul_Mul 10 12,oM 8 13,oX 14 8 0,oX 15 8 1,oM 6 14,oM 7 15]) (.seq (oP [oF 16 0 2,oL 17 16,oF 18 0 3,oL 19 18,oQ 20 (.bin .neq true (.t 17) (.t 19)),oM 21 6,oM 22 7,oE 23 F.whole_result 20 21 22,oX 24 23 0,oX 25 23 1,oS 2 4 24,oM 5 25]) .ret)))
def R.whole_Mul : List VRes := [.cell 4 (some 2), .tmp 5]
theorem G.whole_Mul : Gok F.whole_Mul Tryz.f146 C.whole_Mul R.whole_Mul 26 := gk (Tryz.func146) Tryz.ntmps146
def C.dyadic_told := cD (.seq (oP [oB 2 0,oA 4 oT,oI 5 0]) (.seq (oP [oG 7 2 2,oM 8 1,oD 9 F.dyadic_odd 7 8,oA 6 oT,oS 3 6 9]) (.seq (.block 0 (.seq (oP [oF 11 0 6,oG 12 2 11,oC 13 F.dyadic_part_sign 12,oK 14 .eql 13 0,oM 10 14]) (.cond (.t 10) (.seq (oP [oQ 15 (.build oT []),oS 3 4 15,oI 5 0]) .ret) (.seq (oP [oF 17 0 6,oG 18 2 17,oC 19 F.dyadic_part_length 18,oK 20 .gtr 19 67108864,oM 16 20]) (.cond (.t 16) (.seq (oP [oQ 21 (.build oT []),oS 3 4 21,oI 5 3]) .ret) (.seq (oP [oF 23 2 6,oL 24 23,oC 25 F.dyadic_within 24,oQ 26 (.un .not (.t 25)),oM 22 26]) (.cond (.t 22) (.seq (oP [oQ 27 (.build oT []),oS 3 4 27,oI 5 80]) .ret) .skip))))))) (.seq (oP [oF 28 0 6,oF 29 0 28,oG 30 2 29,oF 31 2 6,oL 32 31,oQ 33 (.build oT [(0, (2, .t 30)), (2, (1, .t 32))]),oS 3 4 33,oI 5 0]) .ret))))
def R.dyadic_told : List VRes := [.cell 4 (some 3), .tmp 5]
theorem G.dyadic_told : Gok F.dyadic_told Tryz.f147 C.dyadic_told R.dyadic_told 34 := gk (Tryz.func147) Tryz.ntmps147
def C.span_nought := cD (.seq (oP [oB 1 0,oQ 2 (.mov (.c (bv false)))]) (.seq (oP [oF 3 0 1,oG 4 3 3,oC 5 F.dyadic_Sign 4,oK 6 .leq 5 0,oM 7 6,⟨some 8, .fa 3 (.t 1), some (7, true)⟩,⟨some 9, .load (some 3) (.t 8), some (7, true)⟩,⟨some 10, .call F.dyadic_Sign [.t 9], some (7, true)⟩,⟨some 11, .bin .geq false (.t 10) (.c (iv 0)), some (7, true)⟩,oQ 12 (.pick (.t 7) (.t 11) (.c (bv false))),oM 2 12]) .ret))
def R.span_nought : List VRes := [.tmp 2]
theorem G.span_nought : Gok F.span_nought Tryz.f148 C.span_nought R.span_nought 13 := gk (Tryz.func148) Tryz.ntmps148
def C.q_Quo := cD (.seq (oP [oB 4 0,oB 5 1,oA 8 oT,oI 9 0]) (.seq (oP [oG 15 3 4,oC 16 F.q_read 15,oM 14 16,oX 17 14 0,oX 18 14 1,oA 10 oT,oS 3 10 17,oM 11 18]) (.seq (.seq (oP [oM 19 11,oK 20 .neq 19 0]) (.cond (.t 20) (.seq (oP [oQ 21 (.build oT []),oM 22 11,oS 3 8 21,oM 9 22]) .ret) .skip)) (.seq (oP [oG 24 3 5,oC 25 F.q_read 24,oM 23 25,oX 26 23 0,oX 27 23 1,oA 12 oT,oS 3 12 26,oM 11 27]) (.seq (.seq (oP [oM 28 11,oK 29 .neq 28 0]) (.cond (.t 29) (.seq (oP [oQ 30 (.build oT []),oM 31 11,oS 3 8 30,oM 9 31]) .ret) .skip)) (.seq (.seq (oP [oM 32 2,oM 33 3,oD 34 F.q_asked 32 33,oM 13 34]) (.seq (oP [oM 35 13,oK 36 .neq 35 0]) (.cond (.t 36) (.seq (oP [oQ 37 (.build oT []),oM 38 13,oS 3 8 37,oM 9 38]) .ret) .skip))) (.seq (.seq (oP [oF 39 1 12,oL 40 39,oH 41 40,oK 42 .eql 41 0]) (.cond (.t 42) (.seq (oP [oQ 43 (.build oT []),oS 3 8 43,oI 9 90]) .ret) .skip)) (.seq (oP [oF 44 0 10,oL 45 44,oF 46 0 12,oL 47 46,oQ 48 (.bin .neq true (.t 45) (.t 47)),oF 49 1 10,oL 50 49,oF 51 1 12,oL 52 51,oF 53 2 10,oL 54 53,oF 55 2 12,oL 56 55,oO 57 .sub 54 56,oM 58 2,oM 59 3,oQ 60 (.call F.q_quotient [.t 48, .t 50, .t 52, .t 57, .t 58, .t 59]),oX 61 60 0,oX 62 60 1,oS 3 8 61,oM 9 62]) .ret))))))))
def R.q_Quo : List VRes := [.cell 8 (some 3), .tmp 9]
theorem G.q_Quo : Gok F.q_Quo Tryz.f149 C.q_Quo R.q_Quo 63 := gk (Tryz.func149) Tryz.ntmps149
def C.whole_Of := cD (.seq (oP [oA 2 oV]) (.seq (.seq (oP [oM 3 0,oK 4 .lss 3 0]) (.cond (.t 4) (.seq (oP [oM 5 0,oQ 6 (.conv .u64 (.t 5)),oQ 7 (.un .neg (.t 6)),oC 8 F.nat_From 7,oQ 9 (.build oV [(0, (1, .c (bv true))), (1, (1, .t 8))]),oS 2 2 9]) .ret) .skip)) (.seq (oP [oM 10 0,oQ 11 (.conv .u64 (.t 10)),oC 12 F.nat_From 11,oQ 13 (.build oV [(1, (1, .t 12))]),oS 2 2 13]) .ret)))
def R.whole_Of : List VRes := [.cell 2 (some 2)]
theorem G.whole_Of : Gok F.whole_Of Tryz.f150 C.whole_Of R.whole_Of 14 := gk (Tryz.func150) Tryz.ntmps150
def C.r01Of := cD (.seq (oP [oQ 2 (.mov (.c nil1))]) (.seq (oP [oM 6 0,oH 7 6,oQ 8 (.bin .mul false (.c (iv 2)) (.t 7)),oQ 9 (.mk [.int .u64 0] 8 (.c (iv 0)) (.t 8)),oM 3 9]) (.seq (.seq (oP [oM 10 0,oH 11 10,oI 12 0]) (.block 0 (.loop (.seq (oP [oO 13 .lss 12 11]) (.seq (.cond (.t 13) .skip (.exit 0)) (.seq (.block 1 (.seq (oP [oJ 14 1 10 12,oL 15 14,oM 5 15]) (oP [oM 16 3,oM 17 5,oQ 18 (.bin .rem false (.t 17) (.c (nv 4294967296))),oM 19 5,oQ 20 (.bin .quo false (.t 19) (.c (nv 4294967296))),oQ 21 (.bsl true 1 2 [.int .u64 0] [(0, (1, .t 18)), (1, (1, .t 20))]),oQ 22 (.app 1 8 [.int .u64 0] (.t 16) (.t 21)),oM 3 22]))) (oP [oK 23 .add 12 1,oM 12 23]))))))) (.seq (oP [oM 24 3,oC 25 F.r01norm 24,oM 2 25]) .ret))))
def R.r01Of : List VRes := [.tmp 2]
theorem G.r01Of : Gok F.r01Of Tryz.f151 C.r01Of R.r01Of 26 := gk (Tryz.func151) Tryz.ntmps151
def C.whole_Sign := cD (.seq (oP [oB 1 0,oI 2 0]) (.seq (.block 0 (.seq (oP [oF 4 1 1,oL 5 4,oC 6 F.nat_Length 5,oK 7 .eql 6 0,oM 3 7]) (.cond (.t 3) (.seq (oP [oI 2 0]) .ret) (.seq (oP [oF 9 0 1,oL 10 9,oM 8 10]) (.cond (.t 8) (.seq (oP [oI 2 (-1)]) .ret) .skip))))) (.seq (oP [oI 2 1]) .ret)))
def R.whole_Sign : List VRes := [.tmp 2]
theorem G.whole_Sign : Gok F.whole_Sign Tryz.f152 C.whole_Sign R.whole_Sign 11 := gk (Tryz.func152) Tryz.ntmps152
def C.q_read := cD (.seq (oP [oB 1 0,oA 2 oT,oI 3 0]) (.seq (.seq (oP [oF 6 2 1,oL 7 6,oK 8 .lss 7 (-1099511627776),oM 9 8,⟨some 10, .fa 2 (.t 1), some (9, false)⟩,⟨some 11, .load none (.t 10), some (9, false)⟩,⟨some 12, .bin .gtr false (.t 11) (.c (iv 1099511627776)), some (9, false)⟩,oQ 13 (.pick (.t 9) (.c (bv true)) (.t 12))]) (.cond (.t 13) (.seq (oP [oQ 14 (.build oT []),oS 3 2 14,oI 3 80]) .ret) .skip)) (.seq (oP [oF 15 0 1,oF 16 1 15,oL 17 16,oC 18 F.nat_Norm 17,oM 4 18]) (.seq (.seq (oP [oM 19 4,oH 20 19,oK 21 .eql 20 0]) (.cond (.t 21) (.seq (oP [oQ 22 (.build oT []),oS 3 2 22,oI 3 0]) .ret) .skip)) (.seq (oP [oM 23 4,oC 24 F.nat_Tail 23,oM 5 24]) (.seq (oR [oF 25 0 1,oF 26 0 25,oL 27 26,oM 28 4,oM 29 5,oD 30 F.q_right 28 29,oF 31 2 1,oL 32 31,oM 33 5,oO 34 .add 32 33,oQ 35 (.build oT [(0, (1, .t 27)), (1, (1, .t 30)), (2, (1, .t 34))]),oS 3 2 35,oI 3 0]) .ret))))))
def R.q_read : List VRes := [.cell 2 (some 3), .tmp 3]
theorem G.q_read : Gok F.q_read Tryz.f153 C.q_read R.q_read 36 := gk (Tryz.func153) Tryz.ntmps153
def C.q_asked := cD (.seq (oP [oI 4 0]) (.seq (.block 0 (.seq (oP [oM 6 0,oK 7 .lss 6 (-1099511627776),oM 8 7,oY 9 0 8 false,⟨some 10, .bin .gtr false (.t 9) (.c (iv 1099511627776)), some (8, false)⟩,oQ 11 (.pick (.t 8) (.c (bv true)) (.t 10)),oM 5 11]) (.cond (.t 5) (.seq (oP [oI 4 1]) .ret) (.seq (oP [oM 13 1,oK 14 .lss 13 0,oM 15 14,oY 16 1 15 false,⟨some 17, .bin .gtr false (.t 16) (.c (iv 2)), some (15, false)⟩,oQ 18 (.pick (.t 15) (.c (bv true)) (.t 17)),oM 12 18]) (.cond (.t 12) (.seq (oP [oI 4 81]) .ret) .skip))))) (.seq (oP [oI 4 0]) .ret)))
def R.q_asked : List VRes := [.tmp 4]
theorem G.q_asked : Gok F.q_asked Tryz.f154 C.q_asked R.q_asked 19 := gk (Tryz.func154) Tryz.ntmps154
def C.nat_Length := cD (.seq (oP [oI 2 0]) (.seq (oP [oM 3 0,oC 4 F.nat_trim 3,oM 0 4]) (.seq (.seq (oP [oM 5 0,oH 6 5,oK 7 .eql 6 0]) (.cond (.t 7) (.seq (oP [oI 2 0]) .ret) .skip)) (.seq (oP [oM 8 0,oH 9 8,oK 10 .sub 9 1,oQ 11 (.bin .mul false (.c (iv 64)) (.t 10)),oM 12 0,oM 13 0,oH 14 13,oK 15 .sub 14 1,oJ 16 1 12 15,oL 17 16,oC 18 F.bits_Len64 17,oO 19 .add 11 18,oM 2 19]) .ret))))
def R.nat_Length : List VRes := [.tmp 2]
theorem G.nat_Length : Gok F.nat_Length Tryz.f155 C.nat_Length R.nat_Length 20 := gk (Tryz.func155) Tryz.ntmps155
def C.q_finish := cD (.seq (oP [oA 10 oT,oI 11 0]) (.seq (.seq (oP [oM 14 4,oC 15 F.q_way 14,oM 16 0,oM 17 1,oM 18 2,oQ 19 (.callv (.t 15) [.t 16, .t 17, .t 18])]) (.cond (.t 19) (.seq (oP [oI 12 0]) (.seq (oP [oM 21 1,oQ 22 (.call F.nat_From [.c (nv 1)]),oD 23 F.nat_Add 21 22,oM 20 23,oX 24 20 0,oX 25 20 1,oM 1 24,oM 12 25]) (.seq (oP [oM 26 12,oK 27 .neq 26 0]) (.cond (.t 27) (.seq (oP [oQ 28 (.build oT []),oM 29 12,oS 3 10 28,oM 11 29]) .ret) .skip)))) .skip)) (.seq (.seq (oP [oM 30 1,oC 31 F.nat_Length 30,oK 32 .gtr 31 67108864]) (.cond (.t 32) (.seq (oP [oQ 33 (.build oT []),oS 3 10 33,oI 11 3]) .ret) .skip)) (.seq (.seq (oP [oM 34 1,oH 35 34,oK 36 .eql 35 0]) (.cond (.t 36) (.seq (oP [oQ 37 (.build oT []),oS 3 10 37,oI 11 0]) .ret) .skip)) (.seq (oP [oM 38 1,oC 39 F.nat_Tail 38,oM 13 39]) (.seq (.seq (oP [oM 40 3,oM 41 13,oO 42 .add 40 41,oK 43 .gtr 42 1099511627776]) (.cond (.t 43) (.seq (oP [oQ 44 (.build oT []),oS 3 10 44,oI 11 80]) .ret) .skip)) (.seq (oP [oM 45 0,oM 46 1,oM 47 13,oD 48 F.q_right 46 47,oQ 49 (.build oV [(0, (1, .t 45)), (1, (1, .t 48))]),oM 50 3,oM 51 13,oO 52 .add 50 51,oQ 53 (.build oT [(0, (2, .t 49)), (2, (1, .t 52))]),oS 3 10 53,oI 11 0]) .ret)))))))
def R.q_finish : List VRes := [.cell 10 (some 3), .tmp 11]
theorem G.q_finish : Gok F.q_finish Tryz.f156 C.q_finish R.q_finish 54 := gk (Tryz.func156) Tryz.ntmps156
def C.q_left := cD (.seq (oP [oQ 4 (.mov (.c nil1))]) (.seq (.seq (oP [oM 8 0,oH 9 8,oK 10 .eql 9 0]) (.cond (.t 10) (.seq (oP [oQ 4 (.mov (.c nil1))]) .ret) .skip)) (.seq (oP [oM 11 1,oK 12 .quo 11 64,oM 13 0,oH 14 13,oO 15 .add 12 14,oK 16 .add 15 1,oQ 17 (.mk [.int .u64 0] 8 (.t 16) (.t 16)),oM 5 17]) (.seq (.seq (oP [oM 18 0,oH 19 18,oI 20 0]) (.block 0 (.loop (.seq (oP [oO 21 .lss 20 19]) (.seq (.cond (.t 21) .skip (.exit 0)) (.seq (.block 1 (.seq (oP [oM 22 20,oJ 23 1 18 20,oL 24 23,oM 6 22,oM 7 24]) (.seq (oP [oM 25 5,oM 26 1,oK 27 .quo 26 64,oM 28 6,oO 29 .add 27 28,oJ 30 1 25 29,oL 31 30,oM 32 7,oM 33 1,oK 34 .rem 33 64,oQ 35 (.conv .u64 (.t 34)),oO 36 .shl 32 35,oO 37 .or 31 36,oJ 38 1 25 29,oS 1 38 37]) (oP [oM 39 5,oM 40 1,oK 41 .quo 40 64,oM 42 6,oO 43 .add 41 42,oK 44 .add 43 1,oJ 45 1 39 44,oL 46 45,oM 47 7,oQ 48 (.bin .shr false (.t 47) (.c (nv 1))),oM 49 1,oK 50 .rem 49 64,oQ 51 (.bin .sub false (.c (iv 63)) (.t 50)),oQ 52 (.conv .u64 (.t 51)),oO 53 .shr 48 52,oO 54 .or 46 53,oJ 55 1 39 44,oS 1 55 54])))) (oP [oK 56 .add 20 1,oM 20 56]))))))) (.seq (oP [oM 57 5,oC 58 F.nat_Norm 57,oM 4 58]) .ret)))))
def R.q_left : List VRes := [.tmp 4]
theorem G.q_left : Gok F.q_left Tryz.f157 C.q_left R.q_left 59 := gk (Tryz.func157) Tryz.ntmps157
def C.nat_Tail := cD (.seq (oP [oI 2 0]) (.seq (.seq (oP [oM 5 0,oH 6 5,oI 7 0]) (.block 0 (.loop (.seq (oP [oO 8 .lss 7 6]) (.seq (.cond (.t 8) .skip (.exit 0)) (.seq (.block 1 (.seq (oP [oM 9 7,oJ 10 1 5 7,oL 11 10,oM 3 9,oM 4 11]) (.seq (oP [oM 12 4,oQ 13 (.bin .neq false (.t 12) (.c (nv 0)))]) (.cond (.t 13) (.seq (oP [oM 14 3,oQ 15 (.bin .mul false (.c (iv 64)) (.t 14)),oM 16 4,oC 17 F.bits_TrailingZeros64 16,oO 18 .add 15 17,oM 2 18]) .ret) .skip)))) (oP [oK 19 .add 7 1,oM 7 19]))))))) (.seq (oP [oI 2 0]) .ret)))
def R.nat_Tail : List VRes := [.tmp 2]
theorem G.nat_Tail : Gok F.nat_Tail Tryz.f158 C.nat_Tail R.nat_Tail 20 := gk (Tryz.func158) Tryz.ntmps158
def C.q_right := cD (.seq (oP [oQ 4 (.mov (.c nil1))]) (.seq (.seq (oP [oM 7 1,oK 8 .quo 7 64,oM 9 0,oH 10 9,oO 11 .geq 8 10]) (.cond (.t 11) (.seq (oP [oQ 4 (.mov (.c nil1))]) .ret) .skip)) (.seq (oP [oM 12 0,oM 13 1,oK 14 .quo 13 64,oQ 15 (.slc 1 (.t 12) (some (.t 14)) none none),oQ 16 (.app 1 8 [.int .u64 0] (.c nil1) (.t 15)),oM 5 16]) (.seq (.seq (oP [oM 17 5,oH 18 17,oI 19 0]) (.block 0 (.loop (.seq (oP [oO 20 .lss 19 18]) (.seq (.cond (.t 20) .skip (.exit 0)) (.seq (.block 1 (.seq (oP [oM 21 19,oM 6 21]) (.seq (oP [oM 22 5,oM 23 6,oJ 24 1 22 23,oL 25 24,oM 26 1,oK 27 .rem 26 64,oQ 28 (.conv .u64 (.t 27)),oO 29 .shr 25 28,oJ 30 1 22 23,oS 1 30 29]) (.seq (oP [oM 31 6,oK 32 .add 31 1,oM 33 5,oH 34 33,oO 35 .lss 32 34]) (.cond (.t 35) (oR [oM 36 5,oM 37 6,oJ 38 1 36 37,oL 39 38,oM 40 5,oM 41 6,oK 42 .add 41 1,oJ 43 1 40 42,oL 44 43,oQ 45 (.bin .shl false (.t 44) (.c (nv 1))),oM 46 1,oK 47 .rem 46 64,oQ 48 (.bin .sub false (.c (iv 63)) (.t 47)),oQ 49 (.conv .u64 (.t 48)),oO 50 .shl 45 49,oO 51 .or 39 50,oJ 52 1 36 37,oS 1 52 51]) .skip))))) (oP [oK 53 .add 19 1,oM 19 53]))))))) (.seq (oP [oM 54 5,oC 55 F.nat_Norm 54,oM 4 55]) .ret)))))
def R.q_right : List VRes := [.tmp 4]
theorem G.q_right : Gok F.q_right Tryz.f159 C.q_right R.q_right 56 := gk (Tryz.func159) Tryz.ntmps159
def C.roots_Sqrt := cD (.seq (oP [oQ 2 (.mov (.c nil1)),oQ 3 (.mov (.c nil1)),oI 4 0]) (.seq (oP [oM 5 0,oQ 6 (.call F.roots_Root [.t 5, .c (iv 2)]),oX 7 6 0,oX 8 6 1,oX 9 6 2,oM 2 7,oM 3 8,oM 4 9]) .ret))
def R.roots_Sqrt : List VRes := [.tmp 2, .tmp 3, .tmp 4]
theorem G.roots_Sqrt : Gok F.roots_Sqrt Tryz.f160 C.roots_Sqrt R.roots_Sqrt 10 := gk (Tryz.func160) Tryz.ntmps160
def C.nat_Bit := cD (.seq (oP [oI 4 0]) (.seq (.seq (oP [oM 5 1,oK 6 .lss 5 0,oM 7 6,oY 8 1 7 false,⟨some 9, .bin .quo false (.t 8) (.c (iv 64)), some (7, false)⟩,oY 10 0 7 false,⟨some 11, .len (.t 10), some (7, false)⟩,⟨some 12, .bin .geq false (.t 9) (.t 11), some (7, false)⟩,oQ 13 (.pick (.t 7) (.c (bv true)) (.t 12))]) (.cond (.t 13) (.seq (oP [oI 4 0]) .ret) .skip)) (.seq (oP [oM 14 0,oM 15 1,oK 16 .quo 15 64,oJ 17 1 14 16,oL 18 17,oM 19 1,oK 20 .rem 19 64,oQ 21 (.conv .u64 (.t 20)),oO 22 .shr 18 21,oQ 23 (.bin .and false (.t 22) (.c (nv 1))),oQ 24 (.conv .i64 (.t 23)),oM 4 24]) .ret)))
def R.nat_Bit : List VRes := [.tmp 4]
theorem G.nat_Bit : Gok F.nat_Bit Tryz.f161 C.nat_Bit R.nat_Bit 25 := gk (Tryz.func161) Tryz.ntmps161
def C.span_size := cD (.seq (oP [oB 1 0,oA 2 oT]) (.seq (oP [oF 3 0 1,oF 4 0 3,⟨none, .store 1 (.t 4) (.c (bv false)), none⟩]) (.seq (oP [oG 5 3 1,oS 3 2 5]) .ret)))
def R.span_size : List VRes := [.cell 2 (some 3)]
theorem G.span_size : Gok F.span_size Tryz.f162 C.span_size R.span_size 6 := gk (Tryz.func162) Tryz.ntmps162
def C.dyadic_read := cD (.seq (oP [oB 1 0,oA 2 oT,oI 3 0]) (.seq (.seq (oP [oF 4 2 1,oL 5 4,oC 6 F.dyadic_within 5,oQ 7 (.un .not (.t 6))]) (.cond (.t 7) (.seq (oP [oQ 8 (.build oT []),oS 3 2 8,oI 3 80]) .ret) .skip)) (.seq (oP [oF 9 0 1,oG 10 2 9,oF 11 2 1,oL 12 11,oD 13 F.dyadic_odd 10 12,oS 3 2 13,oI 3 0]) .ret)))
def R.dyadic_read : List VRes := [.cell 2 (some 3), .tmp 3]
theorem G.dyadic_read : Gok F.dyadic_read Tryz.f163 C.dyadic_read R.dyadic_read 14 := gk (Tryz.func163) Tryz.ntmps163
def C.whole_Pow := cD (.seq (oP [oB 2 0,oA 4 oV,oI 5 0]) (.seq (oP [oF 9 1 2,oL 10 9,oM 11 1,oD 12 F.mul_Pow 10 11,oM 8 12,oX 13 8 0,oX 14 8 1,oM 6 13,oM 7 14]) (.seq (oP [oF 15 0 2,oL 16 15,oM 17 16,oY 18 1 17 true,⟨some 19, .bin .rem false (.t 18) (.c (iv 2)), some (17, true)⟩,⟨some 20, .bin .eql false (.t 19) (.c (iv 1)), some (17, true)⟩,oQ 21 (.pick (.t 17) (.t 20) (.c (bv false))),oM 22 6,oM 23 7,oE 24 F.whole_result 21 22 23,oX 25 24 0,oX 26 24 1,oS 2 4 25,oM 5 26]) .ret)))
def R.whole_Pow : List VRes := [.cell 4 (some 2), .tmp 5]
theorem G.whole_Pow : Gok F.whole_Pow Tryz.f164 C.whole_Pow R.whole_Pow 27 := gk (Tryz.func164) Tryz.ntmps164
def C.dyadic_Round := cD (.seq (oP [oB 3 0,oA 6 oT,oI 7 0]) (.seq (oP [oG 11 3 3,oC 12 F.dyadic_read 11,oM 10 12,oX 13 10 0,oX 14 10 1,oA 8 oT,oS 3 8 13,oM 9 14]) (.seq (.block 0 (.seq (oP [oM 16 9,oK 17 .neq 16 0,oM 15 17]) (.cond (.t 15) (.seq (oP [oQ 18 (.build oT []),oM 19 9,oS 3 6 18,oM 7 19]) .ret) (.seq (oP [oM 21 1,oC 22 F.dyadic_within 21,oQ 23 (.un .not (.t 22)),oM 20 23]) (.cond (.t 20) (.seq (oP [oQ 24 (.build oT []),oS 3 6 24,oI 7 1]) .ret) (.seq (oP [oM 26 2,oC 27 F.dyadic_direction 26,oQ 28 (.un .not (.t 27)),oM 25 28]) (.cond (.t 25) (.seq (oP [oQ 29 (.build oT []),oS 3 6 29,oI 7 81]) .ret) .skip))))))) (.seq (oP [oG 30 3 8,oM 31 1,oM 32 2,oE 33 F.dyadic_rounded 30 31 32,oX 34 33 0,oX 35 33 1,oS 3 6 34,oM 7 35]) .ret))))
def R.dyadic_Round : List VRes := [.cell 6 (some 3), .tmp 7]
theorem G.dyadic_Round : Gok F.dyadic_Round Tryz.f165 C.dyadic_Round R.dyadic_Round 36 := gk (Tryz.func165) Tryz.ntmps165
def C.span_norm := cD (.seq (oP [oB 1 0,oA 2 oT,oI 3 0]) (.seq (oP [oG 4 3 1,oQ 5 (.call F.dyadic_Scale [.t 4, .c (iv 0)]),oX 6 5 0,oX 7 5 1,oS 3 2 6,oM 3 7]) .ret))
def R.span_norm : List VRes := [.cell 2 (some 3), .tmp 3]
theorem G.span_norm : Gok F.span_norm Tryz.f166 C.span_norm R.span_norm 8 := gk (Tryz.func166) Tryz.ntmps166
def C.dyadic_pick := cD (.seq (oP [oB 3 0,oB 4 1,oA 6 oT,oI 7 0]) (.seq (oP [oG 12 3 3,oG 13 3 4,oD 14 F.dyadic_two 12 13,oM 11 14,oX 15 11 0,oX 16 11 1,oX 17 11 2,oA 8 oT,oA 9 oT,oS 3 8 15,oS 3 9 16,oM 10 17]) (.seq (.seq (oP [oM 18 10,oK 19 .neq 18 0]) (.cond (.t 19) (.seq (oP [oQ 20 (.build oT []),oM 21 10,oS 3 6 20,oM 7 21]) .ret) .skip)) (.seq (.seq (oP [oG 22 3 8,oG 23 3 9,oD 24 F.dyadic_compare 22 23,oM 25 2,oO 26 .mul 24 25,oK 27 .lss 26 0]) (.cond (.t 27) (oP [oG 28 3 9,oS 3 8 28]) .skip)) (.seq (oP [oF 29 0 8,oF 30 0 29,oG 31 2 30,oF 32 2 8,oL 33 32,oD 34 F.dyadic_told 31 33,oX 35 34 0,oX 36 34 1,oS 3 6 35,oM 7 36]) .ret)))))
def R.dyadic_pick : List VRes := [.cell 6 (some 3), .tmp 7]
theorem G.dyadic_pick : Gok F.dyadic_pick Tryz.f167 C.dyadic_pick R.dyadic_pick 37 := gk (Tryz.func167) Tryz.ntmps167
def C.dyadic_compare := cD (.seq (oP [oB 2 0,oB 3 1,oI 4 0]) (.seq (oR [oF 9 0 2,oG 10 2 9,oC 11 F.dyadic_part_sign 10,oF 12 0 3,oG 13 2 12,oC 14 F.dyadic_part_sign 13,oM 5 11,oM 6 14]) (.seq (.block 0 (.seq (oP [oM 16 5,oM 17 6,oO 18 .lss 16 17,oM 15 18]) (.cond (.t 15) (.seq (oP [oI 4 (-1)]) .ret) (.seq (oP [oM 20 5,oM 21 6,oO 22 .gtr 20 21,oM 19 22]) (.cond (.t 19) (.seq (oP [oI 4 1]) .ret) (.seq (oP [oM 24 5,oK 25 .eql 24 0,oM 23 25]) (.cond (.t 23) (.seq (oP [oI 4 0]) .ret) .skip))))))) (.seq (.seq (oR [oG 26 3 2,oC 27 F.dyadic_number_top 26,oG 28 3 3,oC 29 F.dyadic_number_top 28,oO 30 .neq 27 29]) (.cond (.t 30) (.seq (.seq (oR [oG 31 3 2,oC 32 F.dyadic_number_top 31,oG 33 3 3,oC 34 F.dyadic_number_top 33,oO 35 .lss 32 34]) (.cond (.t 35) (.seq (oP [oM 36 5,oQ 37 (.un .neg (.t 36)),oM 4 37]) .ret) .skip)) (.seq (oP [oM 38 5,oM 4 38]) .ret)) .skip)) (.seq (oR [oF 39 0 2,oF 40 0 39,oF 41 1 40,oL 42 41,oF 43 0 3,oF 44 0 43,oF 45 1 44,oL 46 45,oM 7 42,oM 8 46]) (.seq (.seq (oP [oF 47 2 2,oL 48 47,oF 49 2 3,oL 50 49,oO 51 .gtr 48 50]) (.cond (.t 51) (oP [oM 52 7,oF 53 2 2,oL 54 53,oF 55 2 3,oL 56 55,oO 57 .sub 54 56,oD 58 F.dyadic_left 52 57,oM 7 58]) (oP [oM 59 8,oF 60 2 3,oL 61 60,oF 62 2 2,oL 63 62,oO 64 .sub 61 63,oD 65 F.dyadic_left 59 64,oM 8 65]))) (.seq (oP [oM 66 5,oM 67 7,oM 68 8,oD 69 F.nat_Compare 67 68,oO 70 .mul 66 69,oM 4 70]) .ret)))))))
def R.dyadic_compare : List VRes := [.tmp 4]
theorem G.dyadic_compare : Gok F.dyadic_compare Tryz.f168 C.dyadic_compare R.dyadic_compare 71 := gk (Tryz.func168) Tryz.ntmps168
def C.r01Num_Is := cD (.seq (oP [oQ 4 (.mov (.c (bv false)))]) (.seq (oP [oM 7 0,oC 8 F.r01Num_Limbs 7,oM 5 8]) (.seq (.seq (oP [oM 9 5,oH 10 9,oM 11 1,oH 12 11,oO 13 .neq 10 12]) (.cond (.t 13) (.seq (oP [oQ 4 (.mov (.c (bv false)))]) .ret) .skip)) (.seq (.seq (oP [oM 14 5,oH 15 14,oI 16 0]) (.block 0 (.loop (.seq (oP [oO 17 .lss 16 15]) (.seq (.cond (.t 17) .skip (.exit 0)) (.seq (.block 1 (.seq (oP [oM 18 16,oM 6 18]) (.seq (oR [oM 19 5,oM 20 6,oJ 21 1 19 20,oL 22 21,oM 23 1,oM 24 6,oJ 25 1 23 24,oL 26 25,oO 27 .neq 22 26]) (.cond (.t 27) (.seq (oP [oQ 4 (.mov (.c (bv false)))]) .ret) .skip)))) (oP [oK 28 .add 16 1,oM 16 28]))))))) (.seq (oP [oQ 4 (.mov (.c (bv true)))]) .ret)))))
def R.r01Num_Is : List VRes := [.tmp 4]
theorem G.r01Num_Is : Gok F.r01Num_Is Tryz.f170 C.r01Num_Is R.r01Num_Is 29 := gk (Tryz.func170) Tryz.ntmps170
def C.dyadic_Scale := cD (.seq (oP [oB 2 0,oA 4 oT,oI 5 0]) (.seq (oP [oG 9 3 2,oC 10 F.dyadic_read 9,oM 8 10,oX 11 8 0,oX 12 8 1,oA 6 oT,oS 3 6 11,oM 7 12]) (.seq (.seq (oP [oM 13 7,oK 14 .neq 13 0]) (.cond (.t 14) (.seq (oP [oQ 15 (.build oT []),oM 16 7,oS 3 4 15,oM 5 16]) .ret) .skip)) (.seq (.seq (oP [oM 17 1,oC 18 F.dyadic_within 17,oQ 19 (.un .not (.t 18))]) (.cond (.t 19) (.seq (oP [oQ 20 (.build oT []),oS 3 4 20,oI 5 1]) .ret) .skip)) (.seq (oP [oF 21 0 6,oF 22 0 21,oG 23 2 22,oF 24 2 6,oL 25 24,oM 26 1,oO 27 .add 25 26,oD 28 F.dyadic_told 23 27,oX 29 28 0,oX 30 28 1,oS 3 4 29,oM 5 30]) .ret)))))
def R.dyadic_Scale : List VRes := [.cell 4 (some 3), .tmp 5]
theorem G.dyadic_Scale : Gok F.dyadic_Scale Tryz.f172 C.dyadic_Scale R.dyadic_Scale 31 := gk (Tryz.func172) Tryz.ntmps172
def C.r01norm := cD (.seq (oP [oQ 2 (.mov (.c nil1))]) (.seq (oP [oM 4 0,oH 5 4,oM 3 5]) (.seq (.block 0 (.loop (.seq (.seq (oP [oM 6 3,oK 7 .gtr 6 0,oM 8 7,oY 9 0 8 true,oY 10 3 8 true,⟨some 11, .bin .sub false (.t 10) (.c (iv 1)), some (8, true)⟩,⟨some 12, .ixa 1 (.t 9) (.t 11), some (8, true)⟩,⟨some 13, .load none (.t 12), some (8, true)⟩,⟨some 14, .bin .eql false (.t 13) (.c (nv 0)), some (8, true)⟩,oQ 15 (.pick (.t 8) (.t 14) (.c (bv false)))]) (.cond (.t 15) .skip (.exit 0))) (.block 1 (oP [oM 16 3,oK 17 .sub 16 1,oM 3 17]))))) (.seq (oP [oM 18 0,oM 19 3,oM 20 3,oQ 21 (.slc 1 (.t 18) none (some (.t 19)) (some (.t 20))),oM 2 21]) .ret))))
def R.r01norm : List VRes := [.tmp 2]
theorem G.r01norm : Gok F.r01norm Tryz.f173 C.r01norm R.r01norm 22 := gk (Tryz.func173) Tryz.ntmps173
def C.r01Num_Bit := cD (.seq (oP [oI 4 0]) (.seq (.seq (oP [oM 5 1,oK 6 .lss 5 0,oM 7 6,oY 8 1 7 false,⟨some 9, .bin .quo false (.t 8) (.c (iv 32)), some (7, false)⟩,oY 10 0 7 false,⟨some 11, .len (.t 10), some (7, false)⟩,⟨some 12, .bin .geq false (.t 9) (.t 11), some (7, false)⟩,oQ 13 (.pick (.t 7) (.c (bv true)) (.t 12))]) (.cond (.t 13) (.seq (oP [oI 4 0]) .ret) .skip)) (.seq (oP [oM 14 0,oM 15 1,oK 16 .quo 15 32,oJ 17 1 14 16,oL 18 17,oM 19 1,oK 20 .rem 19 32,oO 21 .shr 18 20,oQ 22 (.bin .and false (.t 21) (.c (nv 1))),oQ 23 (.conv .i64 (.t 22)),oM 4 23]) .ret)))
def R.r01Num_Bit : List VRes := [.tmp 4]
theorem G.r01Num_Bit : Gok F.r01Num_Bit Tryz.f176 C.r01Num_Bit R.r01Num_Bit 24 := gk (Tryz.func176) Tryz.ntmps176
def C.r01Num_at := cD (.seq (oP [oN 4 0]) (.seq (.seq (oP [oM 5 1,oM 6 0,oH 7 6,oO 8 .lss 5 7]) (.cond (.t 8) (.seq (oP [oM 9 0,oM 10 1,oJ 11 1 9 10,oL 12 11,oM 4 12]) .ret) .skip)) (.seq (oP [oN 4 0]) .ret)))
def R.r01Num_at : List VRes := [.tmp 4]
theorem G.r01Num_at : Gok F.r01Num_at Tryz.f177 C.r01Num_at R.r01Num_at 13 := gk (Tryz.func177) Tryz.ntmps177
def C.dyadic_sum := cD (.seq (oP [oB 2 0,oB 3 1,oA 4 oT,oI 5 0]) (.seq (.seq (oP [oF 10 0 2,oG 11 2 10,oC 12 F.dyadic_part_sign 11,oK 13 .eql 12 0]) (.cond (.t 13) (oP [oG 14 3 3,oG 15 3 2,oS 3 2 14,oS 3 3 15]) .skip)) (.seq (.seq (oP [oF 16 0 3,oG 17 2 16,oC 18 F.dyadic_part_sign 17,oK 19 .eql 18 0]) (.cond (.t 19) (.seq (oP [oF 20 0 2,oF 21 0 20,oG 22 2 21,oF 23 2 2,oL 24 23,oD 25 F.dyadic_told 22 24,oX 26 25 0,oX 27 25 1,oS 3 4 26,oM 5 27]) .ret) .skip)) (.seq (.seq (oP [oF 28 2 2,oL 29 28,oF 30 2 3,oL 31 30,oO 32 .lss 29 31]) (.cond (.t 32) (oP [oG 33 3 3,oG 34 3 2,oS 3 2 33,oS 3 3 34]) .skip)) (.seq (oP [oF 35 2 2,oL 36 35,oF 37 2 3,oL 38 37,oO 39 .sub 36 38,oM 6 39]) (.seq (.seq (oR [oM 40 6,oK 41 .gtr 40 0,oM 42 41,⟨some 43, .load (some 3) (.t 2), some (42, true)⟩,⟨some 44, .call F.dyadic_number_top [.t 43], some (42, true)⟩,⟨some 45, .load (some 3) (.t 3), some (42, true)⟩,⟨some 46, .call F.dyadic_number_top [.t 45], some (42, true)⟩,⟨some 47, .bin .add false (.t 46) (.c (iv 1)), some (42, true)⟩,⟨some 48, .mm true (.t 44) (.t 47), some (42, true)⟩,⟨some 49, .fa 2 (.t 3), some (42, true)⟩,⟨some 50, .load none (.t 49), some (42, true)⟩,⟨some 51, .bin .sub false (.t 48) (.t 50), some (42, true)⟩,⟨some 52, .bin .gtr false (.t 51) (.c (iv 67108866)), some (42, true)⟩,oQ 53 (.pick (.t 42) (.t 52) (.c (bv false)))]) (.cond (.t 53) (.seq (oP [oQ 54 (.build oT []),oS 3 4 54,oI 5 3]) .ret) .skip)) (.seq (oR [oF 56 0 2,oF 57 0 56,oF 58 0 57,oL 59 58,oF 60 0 2,oF 61 0 60,oF 62 1 61,oL 63 62,oM 64 6,oD 65 F.dyadic_left 63 64,oD 66 F.whole_Make 59 65,oM 55 66,oX 67 55 0,oX 68 55 1,oQ 7 (.mov (.c .any)),oQ 7 (.boxA 2 (.t 67)),oM 8 68]) (.seq (.seq (oP [oM 69 8,oK 70 .neq 69 0]) (.cond (.t 70) (.seq (oP [oG 71 3 2,oG 72 3 3,oD 73 F.dyadic_long 71 72,oX 74 73 0,oX 75 73 1,oS 3 4 74,oM 5 75]) .ret) .skip)) (.seq (oP [oG 77 2 7,oF 78 0 3,oF 79 0 78,oG 80 2 79,oD 81 F.whole_Add 77 80,oM 76 81,oX 82 76 0,oX 83 76 1,oA 9 oV,oS 2 9 82,oM 8 83]) (.seq (.seq (oP [oM 84 8,oK 85 .neq 84 0]) (.cond (.t 85) (.seq (oP [oG 86 3 2,oG 87 3 3,oD 88 F.dyadic_long 86 87,oX 89 88 0,oX 90 88 1,oS 3 4 89,oM 5 90]) .ret) .skip)) (.seq (oP [oG 91 2 9,oF 92 2 3,oL 93 92,oD 94 F.dyadic_told 91 93,oX 95 94 0,oX 96 94 1,oS 3 4 95,oM 5 96]) .ret)))))))))))
def R.dyadic_sum : List VRes := [.cell 4 (some 3), .tmp 5]
theorem G.dyadic_sum : Gok F.dyadic_sum Tryz.f178 C.dyadic_sum R.dyadic_sum 97 := gk (Tryz.func178) Tryz.ntmps178
def C.mul_Mul := cD (.seq (oP [oQ 4 (.mov (.c nil1)),oI 5 0]) (.seq (oP [oM 6 0,oM 7 1,oQ 8 (.call F.mul_product [.t 6, .t 7, .c (.lit (.func (.func F.mul_Mul_1) #[] #[]))]),oX 9 8 0,oX 10 8 1,oM 4 9,oM 5 10]) .ret))
def R.mul_Mul : List VRes := [.tmp 4, .tmp 5]
theorem G.mul_Mul : Gok F.mul_Mul Tryz.f179 C.mul_Mul R.mul_Mul 11 := gk (Tryz.func179) Tryz.ntmps179
def C.whole_result := cD (.seq (oP [oA 6 oV,oI 7 0]) (.seq (.seq (oP [oM 8 2,oK 9 .neq 8 0]) (.cond (.t 9) (.seq (oP [oQ 10 (.build oV []),oM 11 2,oS 2 6 10,oM 7 11]) .ret) .skip)) (.seq (oP [oM 12 0,oM 13 1,oQ 14 (.build oV [(0, (1, .t 12)), (1, (1, .t 13))]),oC 15 F.whole_fits 14,oX 16 15 0,oX 17 15 1,oS 2 6 16,oM 7 17]) .ret)))
def R.whole_result : List VRes := [.cell 6 (some 2), .tmp 7]
theorem G.whole_result : Gok F.whole_result Tryz.f180 C.whole_result R.whole_result 18 := gk (Tryz.func180) Tryz.ntmps180
def C.dyadic_odd := cD (.seq (oP [oB 2 0,oA 4 oT]) (.seq (.seq (oP [oG 6 2 2,oC 7 F.whole_Sign 6,oK 8 .eql 7 0]) (.cond (.t 8) (.seq (oP [oQ 9 (.build oT []),oS 3 4 9]) .ret) .skip)) (.seq (oP [oF 10 1 2,oL 11 10,oC 12 F.nat_Norm 11,oF 13 1 2,oS 1 13 12]) (.seq (oP [oF 14 1 2,oL 15 14,oC 16 F.nat_Tail 15,oM 5 16]) (.seq (.seq (oP [oM 17 5,oK 18 .gtr 17 0]) (.cond (.t 18) (oP [oF 19 1 2,oL 20 19,oM 21 5,oD 22 F.dyadic_shifted 20 21,oF 23 1 2,oS 1 23 22]) .skip)) (.seq (oP [oG 24 2 2,oQ 25 (.build oV [(0, (2, .t 24))]),oM 26 1,oM 27 5,oO 28 .add 26 27,oQ 29 (.build oT [(0, (2, .t 25)), (2, (1, .t 28))]),oS 3 4 29]) .ret))))))
def R.dyadic_odd : List VRes := [.cell 4 (some 3)]
theorem G.dyadic_odd : Gok F.dyadic_odd Tryz.f181 C.dyadic_odd R.dyadic_odd 30 := gk (Tryz.func181) Tryz.ntmps181
def C.dyadic_part_sign := cD (.seq (oP [oB 1 0,oI 2 0]) (.seq (oP [oF 3 0 1,oG 4 2 3,oC 5 F.whole_Sign 4,oM 2 5]) .ret))
def R.dyadic_part_sign : List VRes := [.tmp 2]
theorem G.dyadic_part_sign : Gok F.dyadic_part_sign Tryz.f182 C.dyadic_part_sign R.dyadic_part_sign 6 := gk (Tryz.func182) Tryz.ntmps182
def C.dyadic_part_length := cD (.seq (oP [oB 1 0,oI 2 0]) (.seq (oP [oF 3 0 1,oF 4 1 3,oL 5 4,oC 6 F.nat_Length 5,oM 2 6]) .ret))
def R.dyadic_part_length : List VRes := [.tmp 2]
theorem G.dyadic_part_length : Gok F.dyadic_part_length Tryz.f183 C.dyadic_part_length R.dyadic_part_length 7 := gk (Tryz.func183) Tryz.ntmps183
def C.dyadic_within := cD (.seq (oP [oQ 2 (.mov (.c (bv false)))]) (.seq (oP [oM 3 0,oK 4 .geq 3 (-1099511627776),oM 5 4,oY 6 0 5 true,⟨some 7, .bin .leq false (.t 6) (.c (iv 1099511627776)), some (5, true)⟩,oQ 8 (.pick (.t 5) (.t 7) (.c (bv false))),oM 2 8]) .ret))
def R.dyadic_within : List VRes := [.tmp 2]
theorem G.dyadic_within : Gok F.dyadic_within Tryz.f184 C.dyadic_within R.dyadic_within 9 := gk (Tryz.func184) Tryz.ntmps184
def C.q_quotient := cD (.seq (oP [oA 12 oT,oI 13 0]) (.seq (.seq (oP [oM 22 1,oH 23 22,oK 24 .eql 23 0]) (.cond (.t 24) (.seq (oP [oQ 25 (.build oT []),oS 3 12 25,oI 13 0]) .ret) .skip)) (.seq (oP [oM 26 3,oM 27 4,oO 28 .sub 26 27,oM 14 28]) (.seq (oP [oM 29 1,oC 30 F.nat_Length 29,oM 31 2,oC 32 F.nat_Length 31,oO 33 .sub 30 32,oM 34 14,oO 35 .add 33 34,oM 15 35]) (.seq (.seq (oP [oM 36 15,oK 37 .gtr 36 67108865]) (.cond (.t 37) (.seq (oP [oQ 38 (.build oT []),oS 3 12 38,oI 13 3]) .ret) .skip)) (.seq (.seq (oP [oM 39 15,oK 40 .lss 39 (-2)]) (.cond (.t 40) (.seq (oP [oM 41 0,oM 42 4,oM 43 5,oQ 44 (.call F.q_finish [.t 41, .c nil1, .c (iv 1), .t 42, .t 43]),oX 45 44 0,oX 46 44 1,oS 3 12 45,oM 13 46]) .ret) .skip)) (.seq (.seq (oP [oM 47 14,oK 48 .geq 47 0]) (.cond (.t 48) (.seq (oP [oM 49 14,oM 50 2,oC 51 F.nat_Tail 50,oQ 52 (.mm false (.t 49) (.t 51)),oM 16 52]) (oP [oM 53 1,oM 54 14,oM 55 16,oO 56 .sub 54 55,oD 57 F.q_left 53 56,oM 58 2,oM 59 16,oD 60 F.q_right 58 59,oM 1 57,oM 2 60])) (.seq (oP [oM 61 14,oQ 62 (.un .neg (.t 61)),oM 63 1,oC 64 F.nat_Tail 63,oQ 65 (.mm false (.t 62) (.t 64)),oM 17 65]) (oP [oM 66 1,oM 67 17,oD 68 F.q_right 66 67,oM 69 2,oM 70 14,oQ 71 (.un .neg (.t 70)),oM 72 17,oO 73 .sub 71 72,oD 74 F.q_left 69 73,oM 1 68,oM 2 74])))) (.seq (oP [oM 76 1,oM 77 2,oD 78 F.div_Quo 76 77,oM 75 78,oX 79 75 0,oX 80 75 1,oM 18 79,oM 19 80]) (.seq (.seq (oP [oM 81 19,oK 82 .neq 81 0]) (.cond (.t 82) (.seq (oP [oQ 83 (.build oT []),oM 84 19,oS 3 12 83,oM 13 84]) .ret) .skip)) (.seq (oP [oM 85 1,oM 86 18,oM 87 2,oD 88 F.q_times 86 87,oD 89 F.q_minus 85 88,oM 20 89]) (.seq (oP [oI 21 0]) (.seq (.seq (oP [oM 90 20,oH 91 90,oK 92 .gtr 91 0]) (.cond (.t 92) (oP [oM 93 20,oQ 94 (.call F.q_left [.t 93, .c (iv 1)]),oM 95 2,oD 96 F.nat_Compare 94 95,oQ 97 (.bin .add false (.c (iv 2)) (.t 96)),oM 21 97]) .skip)) (.seq (oP [oM 98 0,oM 99 18,oM 100 21,oM 101 4,oM 102 5,oQ 103 (.call F.q_finish [.t 98, .t 99, .t 100, .t 101, .t 102]),oX 104 103 0,oX 105 103 1,oS 3 12 104,oM 13 105]) .ret)))))))))))))
def R.q_quotient : List VRes := [.cell 12 (some 3), .tmp 13]
theorem G.q_quotient : Gok F.q_quotient Tryz.f185 C.q_quotient R.q_quotient 106 := gk (Tryz.func185) Tryz.ntmps185
def C.nat_From := cD (.seq (oP [oQ 2 (.mov (.c nil1))]) (.seq (.seq (oP [oM 3 0,oQ 4 (.bin .eql false (.t 3) (.c (nv 0)))]) (.cond (.t 4) (.seq (oP [oQ 2 (.mov (.c nil1))]) .ret) .skip)) (.seq (oP [oM 5 0,oQ 6 (.bsl true 1 1 [.int .u64 0] [(0, (1, .t 5))]),oM 2 6]) .ret)))
def R.nat_From : List VRes := [.tmp 2]
theorem G.nat_From : Gok F.nat_From Tryz.f186 C.nat_From R.nat_From 7 := gk (Tryz.func186) Tryz.ntmps186
def C.nat_Norm := cD (.seq (oP [oQ 2 (.mov (.c nil1))]) (.seq (oP [oM 3 0,oC 4 F.nat_trim 3,oQ 5 (.app 1 8 [.int .u64 0] (.c nil1) (.t 4)),oM 2 5]) .ret))
def R.nat_Norm : List VRes := [.tmp 2]
theorem G.nat_Norm : Gok F.nat_Norm Tryz.f187 C.nat_Norm R.nat_Norm 6 := gk (Tryz.func187) Tryz.ntmps187
def C.nat_trim := cD (.seq (oP [oQ 2 (.mov (.c nil1))]) (.seq (.block 0 (.loop (.seq (.seq (oP [oM 3 0,oH 4 3,oK 5 .gtr 4 0,oM 6 5,oY 7 0 6 true,oY 8 0 6 true,⟨some 9, .len (.t 8), some (6, true)⟩,⟨some 10, .bin .sub false (.t 9) (.c (iv 1)), some (6, true)⟩,⟨some 11, .ixa 1 (.t 7) (.t 10), some (6, true)⟩,⟨some 12, .load none (.t 11), some (6, true)⟩,⟨some 13, .bin .eql false (.t 12) (.c (nv 0)), some (6, true)⟩,oQ 14 (.pick (.t 6) (.t 13) (.c (bv false)))]) (.cond (.t 14) .skip (.exit 0))) (.block 1 (oP [oM 15 0,oM 16 0,oH 17 16,oK 18 .sub 17 1,oQ 19 (.slc 1 (.t 15) none (some (.t 18)) none),oM 0 19]))))) (.seq (oP [oM 20 0,oM 2 20]) .ret)))
def R.nat_trim : List VRes := [.tmp 2]
theorem G.nat_trim : Gok F.nat_trim Tryz.f188 C.nat_trim R.nat_trim 21 := gk (Tryz.func188) Tryz.ntmps188
def C.bits_Len64 := cD (.seq (oP [oI 2 0]) (.seq (.seq (oP [oM 3 0,oQ 4 (.bin .geq false (.t 3) (.c (nv 4294967296)))]) (.cond (.t 4) (.seq (oP [oM 5 0,oQ 6 (.bin .shr false (.t 5) (.c (nv 32))),oM 0 6]) (oP [oI 2 32])) .skip)) (.seq (.seq (oP [oM 7 0,oQ 8 (.bin .geq false (.t 7) (.c (nv 65536)))]) (.cond (.t 8) (.seq (oP [oM 9 0,oQ 10 (.bin .shr false (.t 9) (.c (nv 16))),oM 0 10]) (oP [oM 11 2,oK 12 .add 11 16,oM 2 12])) .skip)) (.seq (.seq (oP [oM 13 0,oQ 14 (.bin .geq false (.t 13) (.c (nv 256)))]) (.cond (.t 14) (.seq (oP [oM 15 0,oQ 16 (.bin .shr false (.t 15) (.c (nv 8))),oM 0 16]) (oP [oM 17 2,oK 18 .add 17 8,oM 2 18])) .skip)) (.seq (oP [oM 19 2,oM 20 0,oQ 21 (.conv .u8 (.t 20)),⟨some 22, .six (.c (.lit (.string ⟨#[0, 1, 2, 2, 3, 3, 3, 3, 4, 4, 4, 4, 4, 4, 4, 4, 5, 5, 5, 5, 5, 5, 5, 5, 5, 5, 5, 5, 5, 5, 5, 5, 6, 6, 6, 6, 6, 6, 6, 6, 6, 6, 6, 6, 6, 6, 6, 6, 6, 6, 6, 6, 6, 6, 6, 6, 6, 6, 6, 6, 6, 6, 6, 6, 7, 7, 7, 7, 7, 7, 7, 7, 7, 7, 7, 7, 7, 7, 7, 7, 7, 7, 7, 7, 7, 7, 7, 7, 7, 7, 7, 7, 7, 7, 7, 7, 7, 7, 7, 7, 7, 7, 7, 7, 7, 7, 7, 7, 7, 7, 7, 7, 7, 7, 7, 7, 7, 7, 7, 7, 7, 7, 7, 7, 7, 7, 7, 7, 8, 8, 8, 8, 8, 8, 8, 8, 8, 8, 8, 8, 8, 8, 8, 8, 8, 8, 8, 8, 8, 8, 8, 8, 8, 8, 8, 8, 8, 8, 8, 8, 8, 8, 8, 8, 8, 8, 8, 8, 8, 8, 8, 8, 8, 8, 8, 8, 8, 8, 8, 8, 8, 8, 8, 8, 8, 8, 8, 8, 8, 8, 8, 8, 8, 8, 8, 8, 8, 8, 8, 8, 8, 8, 8, 8, 8, 8, 8, 8, 8, 8, 8, 8, 8, 8, 8, 8, 8, 8, 8, 8, 8, 8, 8, 8, 8, 8, 8, 8, 8, 8, 8, 8, 8, 8, 8, 8, 8, 8, 8, 8, 8, 8, 8, 8, 8, 8, 8, 8, 8, 8, 8, 8, 8, 8, 8, 8]⟩))) (.t 21), none⟩,oQ 23 (.conv .i64 (.t 22)),oO 24 .add 19 23,oM 2 24]) .ret)))))
def R.bits_Len64 : List VRes := [.tmp 2]
theorem G.bits_Len64 : Gok F.bits_Len64 Tryz.f189 C.bits_Len64 R.bits_Len64 25 := gk (Tryz.func189) Tryz.ntmps189
def C.q_way := cD (.seq (oP [oQ 2 (.mov (.c (.lit .nilFunc)))]) (.seq (.seq (oP [oM 3 0]) (.block 0 (.seq (oP [oK 5 .eql 3 0,oM 4 5]) (.cond (.t 4) (.seq (oP [oQ 2 (.mov (.c (.lit (.func (.func F.q_way_1) #[] #[]))))]) .ret) (.seq (oP [oK 7 .eql 3 1,oM 6 7]) (.cond (.t 6) (.seq (oP [oQ 2 (.mov (.c (.lit (.func (.func F.q_way_2) #[] #[]))))]) .ret) .skip)))))) (.seq (oP [oQ 2 (.mov (.c (.lit (.func (.func F.q_way_3) #[] #[]))))]) .ret)))
def R.q_way : List VRes := [.tmp 2]
theorem G.q_way : Gok F.q_way Tryz.f190 C.q_way R.q_way 8 := gk (Tryz.func190) Tryz.ntmps190
def C.nat_Add := cD (.seq (oP [oQ 4 (.mov (.c nil1)),oI 5 0]) (.seq (oP [oM 10 0,oC 11 F.nat_trim 10,oM 12 1,oC 13 F.nat_trim 12,oM 0 11,oM 1 13]) (.seq (.seq (oP [oM 14 0,oH 15 14,oM 16 1,oH 17 16,oO 18 .lss 15 17]) (.cond (.t 18) (oP [oM 19 1,oM 20 0,oM 0 19,oM 1 20]) .skip)) (.seq (oP [oM 21 0,oH 22 21,oK 23 .add 22 1,oQ 24 (.mk [.int .u64 0] 8 (.t 23) (.t 23)),oM 6 24]) (.seq (oP [oN 7 0]) (.seq (.seq (oP [oM 25 0,oH 26 25,oI 27 0]) (.block 0 (.loop (.seq (oP [oO 28 .lss 27 26]) (.seq (.cond (.t 28) .skip (.exit 0)) (.seq (.block 1 (.seq (oP [oM 29 27,oM 8 29]) (.seq (oP [oN 9 0]) (.seq (.seq (oP [oM 30 8,oM 31 1,oH 32 31,oO 33 .lss 30 32]) (.cond (.t 33) (oP [oM 34 1,oM 35 8,oJ 36 1 34 35,oL 37 36,oM 9 37]) .skip)) (oP [oM 39 6,oM 40 8,oM 41 0,oM 42 8,oJ 43 1 41 42,oL 44 43,oM 45 9,oM 46 7,oQ 47 (.ext64 false (.t 44) (.t 45) (.t 46)),oM 38 47,oX 48 38 0,oX 49 38 1,oJ 50 1 39 40,oS 1 50 48,oM 7 49]))))) (oP [oK 51 .add 27 1,oM 27 51]))))))) (.seq (oP [oM 52 6,oM 53 0,oH 54 53,oM 55 7,oJ 56 1 52 54,oS 1 56 55]) (.seq (oP [oM 57 6,oC 58 F.nat_told 57,oX 59 58 0,oX 60 58 1,oM 4 59,oM 5 60]) .ret))))))))
def R.nat_Add : List VRes := [.tmp 4, .tmp 5]
theorem G.nat_Add : Gok F.nat_Add Tryz.f191 C.nat_Add R.nat_Add 61 := gk (Tryz.func191) Tryz.ntmps191
def C.bits_TrailingZeros64 := cD (.seq (oP [oI 2 0]) (.seq (.seq (oP [oM 3 0,oQ 4 (.bin .eql false (.t 3) (.c (nv 0)))]) (.cond (.t 4) (.seq (oP [oI 2 64]) .ret) .skip)) (.seq (oP [oM 5 0,oM 6 0,oQ 7 (.un .neg (.t 6)),oO 8 .and 5 7,oQ 9 (.bin .mul false (.t 8) (.c (nv 285870213051353865))),oQ 10 (.bin .shr false (.t 9) (.c (nv 58))),oQ 11 (.axa 64 1 (.c (.gptr 0 0)) (.t 10)),oL 12 11,oQ 13 (.conv .i64 (.t 12)),oM 2 13]) .ret)))
def R.bits_TrailingZeros64 : List VRes := [.tmp 2]
theorem G.bits_TrailingZeros64 : Gok F.bits_TrailingZeros64 Tryz.f192 C.bits_TrailingZeros64 R.bits_TrailingZeros64 14 := gk (Tryz.func192) Tryz.ntmps192
def C.roots_Root := cD (.seq (oP [oQ 4 (.mov (.c nil1)),oQ 5 (.mov (.c nil1)),oI 6 0]) (.seq (.seq (oP [oM 11 1,oK 12 .lss 11 1]) (.cond (.t 12) (.seq (oP [oQ 4 (.mov (.c nil1)),oQ 5 (.mov (.c nil1)),oI 6 40]) .ret) .skip)) (.seq (oP [oM 14 0,oC 15 F.roots_fits 14,oM 13 15,oX 16 13 0,oX 17 13 1,oM 0 16,oM 7 17]) (.seq (.seq (oP [oM 18 7,oK 19 .neq 18 0]) (.cond (.t 19) (.seq (oP [oM 20 7,oQ 4 (.mov (.c nil1)),oQ 5 (.mov (.c nil1)),oM 6 20]) .ret) .skip)) (.seq (.seq (oP [oM 21 1,oK 22 .eql 21 1,oM 23 22,oY 24 0 23 false,⟨some 25, .call F.nat_Length [.t 24], some (23, false)⟩,⟨some 26, .bin .eql false (.t 25) (.c (iv 0)), some (23, false)⟩,oQ 27 (.pick (.t 23) (.c (bv true)) (.t 26))]) (.cond (.t 27) (.seq (oP [oM 28 0,oM 4 28,oQ 5 (.mov (.c nil1)),oI 6 0]) .ret) .skip)) (.seq (oP [oM 29 0,oM 30 1,oD 31 F.roots_newton 29 30,oM 8 31]) (.seq (oP [oM 33 8,oM 34 1,oD 35 F.mul_Pow 33 34,oM 32 35,oX 36 32 0,oX 37 32 1,oM 9 36,oM 10 37]) (.seq (oP [oM 38 8,oM 39 0,oM 40 9,oD 41 F.roots_less 39 40,oM 4 38,oM 5 41,oI 6 0]) .ret))))))))
def R.roots_Root : List VRes := [.tmp 4, .tmp 5, .tmp 6]
theorem G.roots_Root : Gok F.roots_Root Tryz.f193 C.roots_Root R.roots_Root 42 := gk (Tryz.func193) Tryz.ntmps193
def C.mul_Pow := cD (.seq (oP [oQ 4 (.mov (.c nil1)),oI 5 0]) (.seq (.seq (oP [oM 10 1,oK 11 .lss 10 0]) (.cond (.t 11) (.seq (oP [oQ 4 (.mov (.c nil1)),oI 5 1]) .ret) .skip)) (.seq (oP [oM 12 0,oC 13 F.nat_Norm 12,oM 0 13]) (.seq (.seq (oP [oM 14 1,oK 15 .eql 14 0]) (.cond (.t 15) (.seq (oP [oQ 16 (.call F.nat_From [.c (nv 1)]),oM 4 16,oI 5 0]) .ret) .skip)) (.seq (oP [oM 17 0,oC 18 F.nat_Length 17,oM 6 18]) (.seq (.seq (oP [oM 19 6,oK 20 .leq 19 1]) (.cond (.t 20) (.seq (oP [oM 21 0,oM 4 21,oI 5 0]) .ret) .skip)) (.seq (.seq (oP [oM 22 1,oK 23 .gtr 22 67108864,oM 24 23,oY 25 6 24 false,⟨some 26, .bin .sub false (.t 25) (.c (iv 1)), some (24, false)⟩,oY 27 1 24 false,⟨some 28, .bin .mul false (.t 26) (.t 27), some (24, false)⟩,⟨some 29, .bin .add false (.t 28) (.c (iv 1)), some (24, false)⟩,⟨some 30, .bin .gtr false (.t 29) (.c (iv 67108864)), some (24, false)⟩,oQ 31 (.pick (.t 24) (.c (bv true)) (.t 30))]) (.cond (.t 31) (.seq (oP [oQ 4 (.mov (.c nil1)),oI 5 3]) .ret) .skip)) (.seq (oP [oQ 32 (.call F.nat_From [.c (nv 1)]),oM 7 32]) (.seq (.seq (oP [oI 8 62]) (.block 0 (.loop (.seq (.seq (oP [oM 33 8,oK 34 .geq 33 0]) (.cond (.t 34) .skip (.exit 0))) (.seq (.block 1 (.seq (oP [oI 9 0]) (.seq (.seq (oP [oM 37 7,oH 38 37,oK 39 .gtr 38 0]) (.cond (.t 39) (.seq (oP [oM 41 7,oC 42 F.mul_Square 41,oM 40 42,oX 43 40 0,oX 44 40 1,oM 7 43,oM 9 44]) (.seq (oP [oM 45 9,oK 46 .neq 45 0]) (.cond (.t 46) (.seq (oP [oM 47 9,oQ 4 (.mov (.c nil1)),oM 5 47]) .ret) .skip))) .skip)) (.seq (oP [oM 48 1,oM 49 8,oO 50 .shr 48 49,oK 51 .and 50 1,oK 52 .eql 51 1]) (.cond (.t 52) (.seq (oP [oM 54 7,oM 55 0,oD 56 F.mul_Mul 54 55,oM 53 56,oX 57 53 0,oX 58 53 1,oM 7 57,oM 9 58]) (.seq (oP [oM 59 9,oK 60 .neq 59 0]) (.cond (.t 60) (.seq (oP [oM 61 9,oQ 4 (.mov (.c nil1)),oM 5 61]) .ret) .skip))) .skip))))) (oP [oM 35 8,oK 36 .sub 35 1,oM 8 36])))))) (.seq (oP [oM 62 7,oM 4 62,oI 5 0]) .ret))))))))))
def R.mul_Pow : List VRes := [.tmp 4, .tmp 5]
theorem G.mul_Pow : Gok F.mul_Pow Tryz.f194 C.mul_Pow R.mul_Pow 63 := gk (Tryz.func194) Tryz.ntmps194
def C.dyadic_direction := cD (.seq (oP [oQ 2 (.mov (.c (bv false)))]) (.seq (oP [oM 3 0,oK 4 .eql 3 0,oM 5 4,oY 6 0 5 false,⟨some 7, .bin .eql false (.t 6) (.c (iv 1)), some (5, false)⟩,oQ 8 (.pick (.t 5) (.c (bv true)) (.t 7)),oM 9 8,oY 10 0 9 false,⟨some 11, .bin .eql false (.t 10) (.c (iv 2)), some (9, false)⟩,oQ 12 (.pick (.t 9) (.c (bv true)) (.t 11)),oM 2 12]) .ret))
def R.dyadic_direction : List VRes := [.tmp 2]
theorem G.dyadic_direction : Gok F.dyadic_direction Tryz.f195 C.dyadic_direction R.dyadic_direction 13 := gk (Tryz.func195) Tryz.ntmps195
def C.dyadic_rounded := cD (.seq (oP [oB 3 0,oA 6 oT,oI 7 0]) (.seq (.seq (oP [oF 8 0 3,oG 9 2 8,oC 10 F.dyadic_part_sign 9,oK 11 .eql 10 0,oM 12 11,⟨some 13, .fa 2 (.t 3), some (12, false)⟩,⟨some 14, .load none (.t 13), some (12, false)⟩,oY 15 1 12 false,⟨some 16, .bin .geq false (.t 14) (.t 15), some (12, false)⟩,oQ 17 (.pick (.t 12) (.c (bv true)) (.t 16))]) (.cond (.t 17) (.seq (oP [oF 18 0 3,oF 19 0 18,oG 20 2 19,oF 21 2 3,oL 22 21,oD 23 F.dyadic_told 20 22,oX 24 23 0,oX 25 23 1,oS 3 6 24,oM 7 25]) .ret) .skip)) (.seq (oP [oG 26 3 3,oM 27 1,oM 28 2,oE 29 F.dyadic_steps 26 27 28,oM 30 1,oD 31 F.dyadic_told 29 30,oX 32 31 0,oX 33 31 1,oS 3 6 32,oM 7 33]) .ret)))
def R.dyadic_rounded : List VRes := [.cell 6 (some 3), .tmp 7]
theorem G.dyadic_rounded : Gok F.dyadic_rounded Tryz.f196 C.dyadic_rounded R.dyadic_rounded 34 := gk (Tryz.func196) Tryz.ntmps196
def C.dyadic_number_top := cD (.seq (oP [oB 1 0,oI 2 0]) (.seq (oR [oF 3 2 1,oL 4 3,oF 5 0 1,oG 6 2 5,oC 7 F.dyadic_part_length 6,oO 8 .add 4 7,oK 9 .sub 8 1,oM 2 9]) .ret))
def R.dyadic_number_top : List VRes := [.tmp 2]
theorem G.dyadic_number_top : Gok F.dyadic_number_top Tryz.f197 C.dyadic_number_top R.dyadic_number_top 10 := gk (Tryz.func197) Tryz.ntmps197
def C.dyadic_left := cD (.seq (oP [oQ 4 (.mov (.c nil1))]) (.seq (oP [oM 13 0,oM 14 1,oD 15 F.nat_Left 13 14,oM 12 15,oX 16 12 0,oX 17 12 1,oM 5 16,oM 6 17]) (.seq (.seq (oP [oM 18 6,oK 19 .eql 18 0]) (.cond (.t 19) (.seq (oP [oM 20 5,oM 4 20]) .ret) .skip)) (.seq (oP [oM 21 1,oK 22 .quo 21 64,oM 23 1,oK 24 .rem 23 64,oQ 25 (.conv .u64 (.t 24)),oM 7 22,oM 8 25]) (.seq (oP [oM 26 0,oH 27 26,oM 28 7,oO 29 .add 27 28,oK 30 .add 29 1,oQ 31 (.mk [.int .u64 0] 8 (.t 30) (.t 30)),oM 9 31]) (.seq (.seq (oP [oM 32 0,oH 33 32,oI 34 0]) (.block 0 (.loop (.seq (oP [oO 35 .lss 34 33]) (.seq (.cond (.t 35) .skip (.exit 0)) (.seq (.block 1 (.seq (oP [oM 36 34,oJ 37 1 32 34,oL 38 37,oM 10 36,oM 11 38]) (.seq (oP [oM 39 9,oM 40 10,oM 41 7,oO 42 .add 40 41,oJ 43 1 39 42,oL 44 43,oM 45 11,oM 46 8,oO 47 .shl 45 46,oO 48 .or 44 47,oJ 49 1 39 42,oS 1 49 48]) (.seq (oP [oM 50 8,oQ 51 (.bin .gtr false (.t 50) (.c (nv 0)))]) (.cond (.t 51) (oP [oM 52 9,oM 53 10,oM 54 7,oO 55 .add 53 54,oK 56 .add 55 1,oM 57 11,oM 58 8,oQ 59 (.bin .sub false (.c (nv 64)) (.t 58)),oO 60 .shr 57 59,oJ 61 1 52 56,oS 1 61 60]) .skip))))) (oP [oK 62 .add 34 1,oM 34 62]))))))) (.seq (oP [oM 63 9,oC 64 F.nat_Norm 63,oM 4 64]) .ret)))))))
def R.dyadic_left : List VRes := [.tmp 4]
theorem G.dyadic_left : Gok F.dyadic_left Tryz.f198 C.dyadic_left R.dyadic_left 65 := gk (Tryz.func198) Tryz.ntmps198
def C.nat_Compare := cD (.seq (oP [oI 4 0]) (.seq (oP [oM 6 0,oC 7 F.nat_trim 6,oM 8 1,oC 9 F.nat_trim 8,oM 0 7,oM 1 9]) (.seq (.seq (oP [oM 10 0,oH 11 10,oM 12 1,oH 13 12,oO 14 .neq 11 13]) (.cond (.t 14) (.seq (.seq (oP [oM 15 0,oH 16 15,oM 17 1,oH 18 17,oO 19 .lss 16 18]) (.cond (.t 19) (.seq (oP [oI 4 (-1)]) .ret) .skip)) (.seq (oP [oI 4 1]) .ret)) .skip)) (.seq (.seq (oP [oM 20 0,oH 21 20,oK 22 .sub 21 1,oM 5 22]) (.block 0 (.loop (.seq (.seq (oP [oM 23 5,oK 24 .geq 23 0]) (.cond (.t 24) .skip (.exit 0))) (.seq (.block 1 (.seq (.seq (oR [oM 27 0,oM 28 5,oJ 29 1 27 28,oL 30 29,oM 31 1,oM 32 5,oJ 33 1 31 32,oL 34 33,oO 35 .lss 30 34]) (.cond (.t 35) (.seq (oP [oI 4 (-1)]) .ret) .skip)) (.seq (oR [oM 36 0,oM 37 5,oJ 38 1 36 37,oL 39 38,oM 40 1,oM 41 5,oJ 42 1 40 41,oL 43 42,oO 44 .gtr 39 43]) (.cond (.t 44) (.seq (oP [oI 4 1]) .ret) .skip)))) (oP [oM 25 5,oK 26 .sub 25 1,oM 5 26])))))) (.seq (oP [oI 4 0]) .ret)))))
def R.nat_Compare : List VRes := [.tmp 4]
theorem G.nat_Compare : Gok F.nat_Compare Tryz.f199 C.nat_Compare R.nat_Compare 45 := gk (Tryz.func199) Tryz.ntmps199
def C.whole_Make := cD (.seq (oP [oA 4 oV,oI 5 0]) (.seq (oP [oM 6 0,oM 7 1,oQ 8 (.build oV [(0, (1, .t 6)), (1, (1, .t 7))]),oC 9 F.whole_fits 8,oX 10 9 0,oX 11 9 1,oS 2 4 10,oM 5 11]) .ret))
def R.whole_Make : List VRes := [.cell 4 (some 2), .tmp 5]
theorem G.whole_Make : Gok F.whole_Make Tryz.f201 C.whole_Make R.whole_Make 12 := gk (Tryz.func201) Tryz.ntmps201

def C.dyadic_long := cD (.seq (oP [oB 2 0,oB 3 1,oA 4 oT,oI 5 0]) (.seq (oR [oF 9 0 2,oF 10 0 9,oF 11 1 10,oL 12 11,oF 13 2 2,oL 14 13,oF 15 2 3,oL 16 15,oO 17 .sub 14 16,oD 18 F.dyadic_left 12 17,oF 19 0 3,oF 20 0 19,oF 21 1 20,oL 22 21,oM 6 18,oM 7 22]) (.seq (oP [oF 23 0 2,oF 24 0 23,oF 25 0 24,oL 26 25,oM 8 26]) (.seq (.seq (oP [oF 27 0 2,oF 28 0 27,oF 29 0 28,oL 30 29,oF 31 0 3,oF 32 0 31,oF 33 0 32,oL 34 33,oQ 35 (.bin .neq true (.t 30) (.t 34))]) (.cond (.t 35) (.seq (.seq (oP [oM 36 6,oM 37 7,oD 38 F.nat_Compare 36 37,oK 39 .lss 38 0]) (.cond (.t 39) (oP [oM 40 7,oM 41 6,oM 42 8,oQ 43 (.un .not (.t 42)),oM 6 40,oM 7 41,oM 8 43]) .skip)) (.seq (oR [oM 44 8,oM 45 6,oM 46 7,oD 47 F.dyadic_minus 45 46,oQ 48 (.build oV [(0, (1, .t 44)), (1, (1, .t 47))]),oF 49 2 3,oL 50 49,oD 51 F.dyadic_told 48 50,oX 52 51 0,oX 53 51 1,oS 3 4 52,oM 5 53]) .ret)) .skip)) (.seq (oR [oM 54 8,oM 55 6,oM 56 7,oD 57 F.dyadic_plus 55 56,oQ 58 (.build oV [(0, (1, .t 54)), (1, (1, .t 57))]),oF 59 2 3,oL 60 59,oD 61 F.dyadic_told 58 60,oX 62 61 0,oX 63 61 1,oS 3 4 62,oM 5 63]) .ret)))))
def R.dyadic_long : List VRes := [.cell 4 (some 3), .tmp 5]
theorem G.dyadic_long : Gok F.dyadic_long Tryz.f202 C.dyadic_long R.dyadic_long 64 := gk (Tryz.func202) Tryz.ntmps202
def C.whole_Add := cD (.seq (oP [oB 2 0,oB 3 1,oA 4 oV,oI 5 0]) (.seq (oR [oG 10 2 2,oC 11 F.whole_norm 10,oG 12 2 3,oC 13 F.whole_norm 12,oS 2 2 11,oS 2 3 13]) (.seq (.seq (oP [oF 14 0 2,oL 15 14,oF 16 0 3,oL 17 16,oQ 18 (.bin .eql true (.t 15) (.t 17))]) (.cond (.t 18) (.seq (oP [oF 20 1 2,oL 21 20,oF 22 1 3,oL 23 22,oD 24 F.nat_Add 21 23,oM 19 24,oX 25 19 0,oX 26 19 1,oM 6 25,oM 7 26]) (.seq (oP [oF 27 0 2,oL 28 27,oM 29 6,oM 30 7,oE 31 F.whole_result 28 29 30,oX 32 31 0,oX 33 31 1,oS 2 4 32,oM 5 33]) .ret)) .skip)) (.seq (.seq (oP [oF 34 1 2,oL 35 34,oF 36 1 3,oL 37 36,oD 38 F.nat_Compare 35 37,oK 39 .lss 38 0]) (.cond (.t 39) (oP [oG 40 2 3,oG 41 2 2,oS 2 2 40,oS 2 3 41]) .skip)) (.seq (oP [oF 43 1 2,oL 44 43,oF 45 1 3,oL 46 45,oD 47 F.nat_Sub 44 46,oM 42 47,oX 48 42 0,oX 49 42 1,oM 8 48,oM 9 49]) (.seq (oP [oF 50 0 2,oL 51 50,oM 52 8,oM 53 9,oE 54 F.whole_result 51 52 53,oX 55 54 0,oX 56 54 1,oS 2 4 55,oM 5 56]) .ret))))))
def R.whole_Add : List VRes := [.cell 4 (some 2), .tmp 5]
theorem G.whole_Add : Gok F.whole_Add Tryz.f203 C.whole_Add R.whole_Add 57 := gk (Tryz.func203) Tryz.ntmps203
def C.mul_product := cD (.seq (oP [oQ 6 (.mov (.c nil1)),oI 7 0]) (.seq (oP [oM 8 0,oC 9 F.nat_Norm 8,oM 10 1,oC 11 F.nat_Norm 10,oM 0 9,oM 1 11]) (.seq (.seq (oP [oM 12 0,oM 13 1,oD 14 F.mul_great 12 13]) (.cond (.t 14) (.seq (oP [oQ 6 (.mov (.c nil1)),oI 7 3]) .ret) .skip)) (.seq (oP [oM 15 2,oM 16 0,oM 17 1,oQ 18 (.callv (.t 15) [.t 16, .t 17]),oC 19 F.mul_fits 18,oX 20 19 0,oX 21 19 1,oM 6 20,oM 7 21]) .ret))))
def R.mul_product : List VRes := [.tmp 6, .tmp 7]
theorem G.mul_product : Gok F.mul_product Tryz.f204 C.mul_product R.mul_product 22 := gk (Tryz.func204) Tryz.ntmps204
def C.mul_Mul_1 := cD (.seq (oP [oQ 4 (.mov (.c nil1))]) (.seq (oP [oM 5 0,oM 6 1,oQ 7 (.call F.mul_halved [.t 5, .t 6, .c (iv 40)]),oM 4 7]) .ret))
def R.mul_Mul_1 : List VRes := [.tmp 4]
theorem G.mul_Mul_1 : Gok F.mul_Mul_1 Tryz.f205 C.mul_Mul_1 R.mul_Mul_1 8 := gk (Tryz.func205) Tryz.ntmps205
def C.mul_halved := cD (.seq (oP [oQ 6 (.mov (.c nil1))]) (.seq (.seq (oP [oM 17 0,oH 18 17,oM 19 1,oH 20 19,oO 21 .lss 18 20]) (.cond (.t 21) (oP [oM 22 1,oM 23 0,oM 0 22,oM 1 23]) .skip)) (.seq (.seq (oP [oM 24 1,oH 25 24,oM 26 2,oO 27 .lss 25 26]) (.cond (.t 27) (.seq (oP [oM 28 0,oM 29 1,oD 30 F.mul_school 28 29,oM 6 30]) .ret) .skip)) (.seq (oP [oM 31 0,oH 32 31,oK 33 .add 32 1,oK 34 .quo 33 2,oM 7 34]) (.seq (.seq (oP [oM 35 1,oH 36 35,oM 37 7,oO 38 .leq 36 37]) (.cond (.t 38) (.seq (oP [oM 39 0,oH 40 39,oM 41 1,oH 42 41,oO 43 .add 40 42,oK 44 .add 43 1,oQ 45 (.mk [.int .u64 0] 8 (.t 44) (.t 44)),oM 8 45]) (.seq (oP [oM 46 8,oM 47 0,oM 48 7,oQ 49 (.call F.mul_part [.t 47, .c (iv 0), .t 48]),oM 50 1,oM 51 2,oE 52 F.mul_halved 49 50 51,oQ 53 (.call F.mul_addAt [.t 46, .t 52, .c (iv 0)])]) (.seq (oP [oM 54 8,oM 55 0,oM 56 7,oM 57 0,oH 58 57,oE 59 F.mul_part 55 56 58,oM 60 1,oM 61 2,oE 62 F.mul_halved 59 60 61,oM 63 7,oE 64 F.mul_addAt 54 62 63]) (.seq (oP [oM 65 8,oM 6 65]) .ret)))) .skip)) (.seq (oP [oM 66 0,oM 67 7,oQ 68 (.call F.mul_part [.t 66, .c (iv 0), .t 67]),oM 69 0,oM 70 7,oM 71 0,oH 72 71,oE 73 F.mul_part 69 70 72,oM 74 1,oM 75 7,oQ 76 (.call F.mul_part [.t 74, .c (iv 0), .t 75]),oM 77 1,oM 78 7,oM 79 1,oH 80 79,oE 81 F.mul_part 77 78 80,oM 9 68,oM 10 73,oM 11 76,oM 12 81]) (.seq (oP [oM 82 9,oM 83 11,oM 84 2,oE 85 F.mul_halved 82 83 84,oM 86 10,oM 87 12,oM 88 2,oE 89 F.mul_halved 86 87 88,oM 13 85,oM 14 89]) (.seq (oP [oM 90 9,oM 91 10,oD 92 F.mul_sum 90 91,oC 93 F.nat_Norm 92,oM 94 11,oM 95 12,oD 96 F.mul_sum 94 95,oC 97 F.nat_Norm 96,oM 98 2,oE 99 F.mul_halved 93 97 98,oM 100 13,oD 101 F.mul_less 99 100,oM 102 14,oD 103 F.mul_less 101 102,oM 15 103]) (.seq (oP [oM 104 0,oH 105 104,oM 106 1,oH 107 106,oO 108 .add 105 107,oK 109 .add 108 1,oQ 110 (.mk [.int .u64 0] 8 (.t 109) (.t 109)),oM 16 110]) (.seq (oP [oM 111 16,oM 112 13,oQ 113 (.call F.mul_addAt [.t 111, .t 112, .c (iv 0)])]) (.seq (oP [oM 114 16,oM 115 15,oM 116 7,oE 117 F.mul_addAt 114 115 116]) (.seq (oP [oM 118 16,oM 119 14,oM 120 7,oQ 121 (.bin .mul false (.c (iv 2)) (.t 120)),oE 122 F.mul_addAt 118 119 121]) (.seq (oP [oM 123 16,oM 6 123]) .ret)))))))))))))
def R.mul_halved : List VRes := [.tmp 6]
theorem G.mul_halved : Gok F.mul_halved Tryz.f206 C.mul_halved R.mul_halved 124 := gk (Tryz.func206) Tryz.ntmps206
def C.whole_fits := cD (.seq (oP [oB 1 0,oA 2 oV,oI 3 0]) (.seq (.seq (oP [oF 4 1 1,oL 5 4,oC 6 F.nat_Length 5,oK 7 .gtr 6 67108864]) (.cond (.t 7) (.seq (oP [oQ 8 (.build oV []),oS 2 2 8,oI 3 3]) .ret) .skip)) (.seq (oP [oG 9 2 1,oC 10 F.whole_norm 9,oS 2 2 10,oI 3 0]) .ret)))
def R.whole_fits : List VRes := [.cell 2 (some 2), .tmp 3]
theorem G.whole_fits : Gok F.whole_fits Tryz.f207 C.whole_fits R.whole_fits 11 := gk (Tryz.func207) Tryz.ntmps207
def C.dyadic_shifted := cD (.seq (oP [oQ 4 (.mov (.c nil1))]) (.seq (oP [oM 12 0,oM 13 1,oD 14 F.nat_Right 12 13,oM 11 14,oX 15 11 0,oX 16 11 1,oM 5 15,oM 6 16]) (.seq (.seq (oP [oM 17 6,oK 18 .eql 17 0]) (.cond (.t 18) (.seq (oP [oM 19 5,oM 4 19]) .ret) .skip)) (.seq (oP [oM 20 1,oK 21 .quo 20 64,oM 22 1,oK 23 .rem 22 64,oQ 24 (.conv .u64 (.t 23)),oM 7 21,oM 8 24]) (.seq (oP [oM 25 0,oH 26 25,oM 27 7,oO 28 .sub 26 27,oQ 29 (.mk [.int .u64 0] 8 (.t 28) (.t 28)),oM 9 29]) (.seq (.seq (oP [oM 30 9,oH 31 30,oI 32 0]) (.block 0 (.loop (.seq (oP [oO 33 .lss 32 31]) (.seq (.cond (.t 33) .skip (.exit 0)) (.seq (.block 1 (.seq (oP [oM 34 32,oM 10 34]) (.seq (oP [oM 35 9,oM 36 10,oM 37 0,oM 38 10,oM 39 7,oO 40 .add 38 39,oJ 41 1 37 40,oL 42 41,oM 43 8,oO 44 .shr 42 43,oJ 45 1 35 36,oS 1 45 44]) (.seq (oP [oM 46 8,oQ 47 (.bin .gtr false (.t 46) (.c (nv 0))),oM 48 47,oY 49 10 48 true,oY 50 7 48 true,⟨some 51, .bin .add false (.t 49) (.t 50), some (48, true)⟩,⟨some 52, .bin .add false (.t 51) (.c (iv 1)), some (48, true)⟩,oY 53 0 48 true,⟨some 54, .len (.t 53), some (48, true)⟩,⟨some 55, .bin .lss false (.t 52) (.t 54), some (48, true)⟩,oQ 56 (.pick (.t 48) (.t 55) (.c (bv false)))]) (.cond (.t 56) (oR [oM 57 9,oM 58 10,oJ 59 1 57 58,oL 60 59,oM 61 0,oM 62 10,oM 63 7,oO 64 .add 62 63,oK 65 .add 64 1,oJ 66 1 61 65,oL 67 66,oM 68 8,oQ 69 (.bin .sub false (.c (nv 64)) (.t 68)),oO 70 .shl 67 69,oO 71 .or 60 70,oJ 72 1 57 58,oS 1 72 71]) .skip))))) (oP [oK 73 .add 32 1,oM 32 73]))))))) (.seq (oP [oM 74 9,oC 75 F.nat_Norm 74,oM 4 75]) .ret)))))))
def R.dyadic_shifted : List VRes := [.tmp 4]
theorem G.dyadic_shifted : Gok F.dyadic_shifted Tryz.f208 C.dyadic_shifted R.dyadic_shifted 76 := gk (Tryz.func208) Tryz.ntmps208
def C.div_Quo := cD (.seq (oP [oQ 4 (.mov (.c nil1)),oI 5 0]) (.seq (oP [oM 8 0,oC 9 F.nat_Norm 8,oM 10 1,oC 11 F.nat_Norm 10,oM 0 9,oM 1 11]) (.seq (.seq (oP [oM 12 1,oH 13 12,oK 14 .eql 13 0]) (.cond (.t 14) (.seq (oP [oQ 4 (.mov (.c nil1)),oI 5 30]) .ret) .skip)) (.seq (oP [oM 16 0,oM 17 1,oD 18 F.div_divide 16 17,oM 15 18,oX 19 15 0,oX 20 15 1,oM 6 19,oM 7 20]) (.seq (.seq (oP [oM 21 6,oC 22 F.nat_Length 21,oK 23 .gtr 22 67108864]) (.cond (.t 23) (.seq (oP [oQ 4 (.mov (.c nil1)),oI 5 3]) .ret) .skip)) (.seq (oP [oM 24 6,oM 4 24,oI 5 0]) .ret))))))
def R.div_Quo : List VRes := [.tmp 4, .tmp 5]
theorem G.div_Quo : Gok F.div_Quo Tryz.f209 C.div_Quo R.div_Quo 25 := gk (Tryz.func209) Tryz.ntmps209
def C.q_minus := cD (.seq (oP [oQ 4 (.mov (.c nil1))]) (.seq (oP [oM 10 0,oQ 11 (.app 1 8 [.int .u64 0] (.c nil1) (.t 10)),oM 5 11]) (.seq (oP [oN 6 0]) (.seq (.seq (oP [oM 12 5,oH 13 12,oI 14 0]) (.block 0 (.loop (.seq (oP [oO 15 .lss 14 13]) (.seq (.cond (.t 15) .skip (.exit 0)) (.seq (.block 1 (.seq (oP [oM 16 14,oM 7 16]) (.seq (oP [oN 8 0]) (.seq (.seq (oP [oM 17 7,oM 18 1,oH 19 18,oO 20 .lss 17 19]) (.cond (.t 20) (oP [oM 21 1,oM 22 7,oJ 23 1 21 22,oL 24 23,oM 8 24]) .skip)) (.seq (oP [oM 25 5,oM 26 7,oJ 27 1 25 26,oL 28 27,oM 9 28]) (.seq (oP [oM 29 5,oM 30 7,oM 31 9,oM 32 8,oO 33 .sub 31 32,oM 34 6,oO 35 .sub 33 34,oJ 36 1 29 30,oS 1 36 35]) (.seq (oP [oM 37 9,oM 38 8,oO 39 .lss 37 38,oM 40 39,oY 41 9 40 false,oY 42 8 40 false,⟨some 43, .bin .eql false (.t 41) (.t 42), some (40, false)⟩,oY 44 43 40 false,oY 45 6 44 true,⟨some 46, .bin .eql false (.t 45) (.c (nv 1)), some (44, true)⟩,⟨some 47, .pick (.t 44) (.t 46) (.c (bv false)), some (40, false)⟩,oQ 48 (.pick (.t 40) (.c (bv true)) (.t 47))]) (.cond (.t 48) (oP [oN 6 1]) (oP [oN 6 0]))))))))) (oP [oK 49 .add 14 1,oM 14 49]))))))) (.seq (oP [oM 50 5,oC 51 F.nat_Norm 50,oM 4 51]) .ret)))))
def R.q_minus : List VRes := [.tmp 4]
theorem G.q_minus : Gok F.q_minus Tryz.f210 C.q_minus R.q_minus 52 := gk (Tryz.func210) Tryz.ntmps210
def C.q_times := cD (.seq (oP [oQ 4 (.mov (.c nil1))]) (.seq (oP [oM 12 0,oM 13 1,oD 14 F.mul_Mul 12 13,oM 11 14,oX 15 11 0,oX 16 11 1,oM 5 15,oM 6 16]) (.seq (.seq (oP [oM 17 6,oK 18 .eql 17 0]) (.cond (.t 18) (.seq (oP [oM 19 5,oM 4 19]) .ret) .skip)) (.seq (oP [oQ 7 (.mov (.c nil1))]) (.seq (.seq (oP [oM 20 1,oH 21 20,oK 22 .sub 21 1,oM 8 22]) (.block 0 (.loop (.seq (.seq (oP [oM 23 8,oK 24 .geq 23 0]) (.cond (.t 24) .skip (.exit 0))) (.seq (.block 1 (.seq (oP [oM 27 7,oQ 28 (.call F.q_left [.t 27, .c (iv 64)]),oM 7 28]) (.seq (oP [oM 30 0,oM 31 1,oM 32 8,oJ 33 1 31 32,oL 34 33,oC 35 F.nat_From 34,oD 36 F.mul_Mul 30 35,oM 29 36,oX 37 29 0,oX 38 29 1,oM 9 37,oM 10 38]) (oP [oM 39 7,oM 40 9,oD 41 F.q_plus 39 40,oM 7 41])))) (oP [oM 25 8,oK 26 .sub 25 1,oM 8 26])))))) (.seq (oP [oM 42 7,oM 4 42]) .ret))))))
def R.q_times : List VRes := [.tmp 4]
theorem G.q_times : Gok F.q_times Tryz.f211 C.q_times R.q_times 43 := gk (Tryz.func211) Tryz.ntmps211
def C.q_way_1 := cD (.seq (oP [oQ 6 (.mov (.c (bv false)))]) (.seq (oP [oM 7 0,oM 8 7,oY 9 2 8 true,⟨some 10, .bin .gtr false (.t 9) (.c (iv 0)), some (8, true)⟩,oQ 11 (.pick (.t 8) (.t 10) (.c (bv false))),oM 6 11]) .ret))
def R.q_way_1 : List VRes := [.tmp 6]
theorem G.q_way_1 : Gok F.q_way_1 Tryz.f212 C.q_way_1 R.q_way_1 12 := gk (Tryz.func212) Tryz.ntmps212
def C.q_way_2 := cD (.seq (oP [oQ 6 (.mov (.c (bv false)))]) (.seq (oP [oM 7 0,oQ 8 (.un .not (.t 7)),oM 9 8,oY 10 2 9 true,⟨some 11, .bin .gtr false (.t 10) (.c (iv 0)), some (9, true)⟩,oQ 12 (.pick (.t 9) (.t 11) (.c (bv false))),oM 6 12]) .ret))
def R.q_way_2 : List VRes := [.tmp 6]
theorem G.q_way_2 : Gok F.q_way_2 Tryz.f213 C.q_way_2 R.q_way_2 13 := gk (Tryz.func213) Tryz.ntmps213
def C.q_way_3 := cD (.seq (oP [oQ 6 (.mov (.c (bv false)))]) (.seq (oP [oM 7 2,oK 8 .eql 7 3,oM 9 8,oY 10 2 9 false,⟨some 11, .bin .eql false (.t 10) (.c (iv 2)), some (9, false)⟩,oY 12 11 9 false,oY 13 1 12 true,⟨some 14, .call F.nat_Bit [.t 13, .c (iv 0)], some (12, true)⟩,⟨some 15, .bin .eql false (.t 14) (.c (iv 1)), some (12, true)⟩,⟨some 16, .pick (.t 12) (.t 15) (.c (bv false)), some (9, false)⟩,oQ 17 (.pick (.t 9) (.c (bv true)) (.t 16)),oM 6 17]) .ret))
def R.q_way_3 : List VRes := [.tmp 6]
theorem G.q_way_3 : Gok F.q_way_3 Tryz.f214 C.q_way_3 R.q_way_3 18 := gk (Tryz.func214) Tryz.ntmps214
def C.nat_told := cD (.seq (oP [oQ 2 (.mov (.c nil1)),oI 3 0]) (.seq (oP [oM 4 0,oC 5 F.nat_trim 4,oM 0 5]) (.seq (.seq (oP [oM 6 0,oC 7 F.nat_Length 6,oK 8 .gtr 7 67108864]) (.cond (.t 8) (.seq (oP [oQ 2 (.mov (.c nil1)),oI 3 3]) .ret) .skip)) (.seq (oP [oM 9 0,oM 2 9,oI 3 0]) .ret))))
def R.nat_told : List VRes := [.tmp 2, .tmp 3]
theorem G.nat_told : Gok F.nat_told Tryz.f216 C.nat_told R.nat_told 10 := gk (Tryz.func216) Tryz.ntmps216
def C.roots_fits := cD (.seq (oP [oQ 2 (.mov (.c nil1)),oI 3 0]) (.seq (.seq (oP [oM 4 0,oC 5 F.nat_Length 4,oK 6 .gtr 5 67108864]) (.cond (.t 6) (.seq (oP [oQ 2 (.mov (.c nil1)),oI 3 3]) .ret) .skip)) (.seq (oP [oM 7 0,oC 8 F.nat_Norm 7,oM 2 8,oI 3 0]) .ret)))
def R.roots_fits : List VRes := [.tmp 2, .tmp 3]
theorem G.roots_fits : Gok F.roots_fits Tryz.f217 C.roots_fits R.roots_fits 9 := gk (Tryz.func217) Tryz.ntmps217
def C.roots_newton := cD (.seq (oP [oQ 4 (.mov (.c nil1))]) (.seq (oP [oM 18 0,oC 19 F.nat_Length 18,oM 5 19]) (.seq (.seq (oP [oM 20 1,oM 21 5,oO 22 .geq 20 21]) (.cond (.t 22) (.seq (oP [oQ 23 (.call F.nat_From [.c (nv 1)]),oM 4 23]) .ret) .skip)) (.seq (oP [oM 24 5,oM 25 1,oO 26 .add 24 25,oK 27 .sub 26 1,oM 28 1,oO 29 .quo 27 28,oC 30 F.roots_power 29,oM 6 30]) (.block 0 (.loop (.block 1 (.seq (oP [oM 32 6,oM 33 1,oK 34 .sub 33 1,oD 35 F.mul_Pow 32 34,oM 31 35,oX 36 31 0,oX 37 31 1,oM 7 36,oM 8 37]) (.seq (oP [oM 39 0,oM 40 7,oD 41 F.div_Quo 39 40,oM 38 41,oX 42 38 0,oX 43 38 1,oM 9 42,oM 10 43]) (.seq (oP [oM 45 6,oM 46 1,oK 47 .sub 46 1,oQ 48 (.conv .u64 (.t 47)),oD 49 F.nat_Times 45 48,oM 44 49,oX 50 44 0,oX 51 44 1,oM 11 50,oM 12 51]) (.seq (oP [oM 53 11,oM 54 9,oD 55 F.nat_Add 53 54,oM 52 55,oX 56 52 0,oX 57 52 1,oM 13 56,oM 14 57]) (.seq (oP [oM 59 13,oM 60 1,oQ 61 (.conv .u64 (.t 60)),oD 62 F.nat_Through 59 61,oM 58 62,oX 63 58 0,oX 64 58 1,oX 65 58 2,oM 15 63,oM 16 64,oM 17 65]) (.seq (.seq (oP [oM 66 15,oM 67 6,oD 68 F.nat_Compare 66 67,oK 69 .geq 68 0]) (.cond (.t 69) (.seq (oP [oM 70 6,oM 4 70]) .ret) .skip)) (oP [oM 71 15,oM 6 71]))))))))))))))
def R.roots_newton : List VRes := [.tmp 4]
theorem G.roots_newton : Gok F.roots_newton Tryz.f218 C.roots_newton R.roots_newton 72 := gk (Tryz.func218) Tryz.ntmps218
def C.roots_less := cD (.seq (oP [oQ 4 (.mov (.c nil1))]) (.seq (oP [oM 8 0,oM 9 1,oD 10 F.nat_Sub 8 9,oM 7 10,oX 11 7 0,oX 12 7 1,oM 5 11,oM 6 12]) (.seq (oP [oM 13 5,oM 4 13]) .ret)))
def R.roots_less : List VRes := [.tmp 4]
theorem G.roots_less : Gok F.roots_less Tryz.f219 C.roots_less R.roots_less 14 := gk (Tryz.func219) Tryz.ntmps219
def C.mul_Square := cD (.seq (oP [oQ 2 (.mov (.c nil1)),oI 3 0]) (.seq (oP [oM 4 0,oM 5 0,oD 6 F.mul_Mul 4 5,oX 7 6 0,oX 8 6 1,oM 2 7,oM 3 8]) .ret))
def R.mul_Square : List VRes := [.tmp 2, .tmp 3]
theorem G.mul_Square : Gok F.mul_Square Tryz.f220 C.mul_Square R.mul_Square 9 := gk (Tryz.func220) Tryz.ntmps220
def C.dyadic_steps := cD (.seq (oP [oB 3 0,oA 6 oV]) (.seq (.seq (oP [oF 10 0 3,oG 11 2 10,oC 12 F.dyadic_part_sign 11,oK 13 .eql 12 0,oM 14 13,⟨some 15, .fa 2 (.t 3), some (14, false)⟩,⟨some 16, .load none (.t 15), some (14, false)⟩,oY 17 1 14 false,⟨some 18, .bin .geq false (.t 16) (.t 17), some (14, false)⟩,oQ 19 (.pick (.t 14) (.c (bv true)) (.t 18))]) (.cond (.t 19) (.seq (oR [oF 20 0 3,oF 21 0 20,oF 22 0 21,oL 23 22,oF 24 0 3,oF 25 0 24,oF 26 1 25,oL 27 26,oF 28 2 3,oL 29 28,oM 30 1,oO 31 .sub 29 30,oQ 32 (.mm true (.t 31) (.c (iv 0))),oD 33 F.dyadic_left 27 32,oQ 34 (.build oV [(0, (1, .t 23)), (1, (1, .t 33))]),oS 2 6 34]) .ret) .skip)) (.seq (oP [oM 35 1,oF 36 2 3,oL 37 36,oO 38 .sub 35 37,oM 7 38]) (.seq (oP [oQ 8 (.mov (.c nil1))]) (.seq (.seq (oP [oM 39 7,oF 40 0 3,oG 41 2 40,oC 42 F.dyadic_part_length 41,oO 43 .lss 39 42]) (.cond (.t 43) (oP [oF 44 0 3,oF 45 0 44,oF 46 1 45,oL 47 46,oM 48 7,oD 49 F.dyadic_shifted 47 48,oM 8 49]) .skip)) (.seq (oP [oQ 9 (.mov (.c (bv false)))]) (.seq (.seq (oP [oM 50 2]) (.block 0 (.seq (oP [oK 57 .eql 50 2,oM 56 57]) (.cond (.t 56) (.seq (.seq (oP [oF 58 0 3,oF 59 0 58,oF 60 1 59,oL 61 60,oM 62 7,oK 63 .sub 62 1,oD 64 F.nat_Bit 61 63,oK 65 .eql 64 1,oM 66 65,⟨some 67, .fa 0 (.t 3), some (66, true)⟩,⟨some 68, .fa 0 (.t 67), some (66, true)⟩,⟨some 69, .fa 1 (.t 68), some (66, true)⟩,⟨some 70, .load none (.t 69), some (66, true)⟩,⟨some 71, .call F.nat_Tail [.t 70], some (66, true)⟩,oY 72 7 66 true,⟨some 73, .bin .sub false (.t 72) (.c (iv 1)), some (66, true)⟩,⟨some 74, .bin .lss false (.t 71) (.t 73), some (66, true)⟩,oY 75 74 66 true,oY 76 8 75 false,⟨some 77, .call F.nat_Bit [.t 76, .c (iv 0)], some (75, false)⟩,⟨some 78, .bin .eql false (.t 77) (.c (iv 1)), some (75, false)⟩,⟨some 79, .pick (.t 75) (.c (bv true)) (.t 78), some (66, true)⟩,oQ 80 (.pick (.t 66) (.t 79) (.c (bv false))),oQ 81 (.un .not (.t 80))]) (.cond (.t 81) (.exit 0) .skip)) (oP [oQ 9 (.mov (.c (bv true)))])) (.seq (oP [oK 83 .eql 50 0,oM 82 83]) (.cond (.t 82) (oP [oF 84 0 3,oF 85 0 84,oF 86 0 85,oL 87 86,oM 9 87]) (oP [oF 51 0 3,oF 52 0 51,oF 53 0 52,oL 54 53,oQ 55 (.un .not (.t 54)),oM 9 55]))))))) (.seq (.seq (oP [oM 88 9]) (.cond (.t 88) (oP [oM 89 8,oQ 90 (.call F.nat_From [.c (nv 1)]),oD 91 F.dyadic_plus 89 90,oM 8 91]) .skip)) (.seq (oP [oF 92 0 3,oF 93 0 92,oF 94 0 93,oL 95 94,oM 96 8,oQ 97 (.build oV [(0, (1, .t 95)), (1, (1, .t 96))]),oS 2 6 97]) .ret)))))))))
def R.dyadic_steps : List VRes := [.cell 6 (some 2)]
theorem G.dyadic_steps : Gok F.dyadic_steps Tryz.f221 C.dyadic_steps R.dyadic_steps 98 := gk (Tryz.func221) Tryz.ntmps221
def C.nat_Left := cD (.seq (oP [oQ 4 (.mov (.c nil1)),oI 5 0]) (.seq (.seq (oP [oM 11 1,oK 12 .lss 11 0,oM 13 12,oY 14 1 13 false,⟨some 15, .bin .gtr false (.t 14) (.c (iv 1099511627776)), some (13, false)⟩,oQ 16 (.pick (.t 13) (.c (bv true)) (.t 15))]) (.cond (.t 16) (.seq (oP [oQ 4 (.mov (.c nil1)),oI 5 1]) .ret) .skip)) (.seq (oP [oM 17 0,oC 18 F.nat_trim 17,oM 0 18]) (.seq (.seq (oP [oM 19 0,oH 20 19,oK 21 .eql 20 0]) (.cond (.t 21) (.seq (oP [oQ 4 (.mov (.c nil1)),oI 5 0]) .ret) .skip)) (.seq (.seq (oP [oM 22 0,oC 23 F.nat_Length 22,oM 24 1,oO 25 .add 23 24,oK 26 .gtr 25 67108864]) (.cond (.t 26) (.seq (oP [oQ 4 (.mov (.c nil1)),oI 5 3]) .ret) .skip)) (.seq (oP [oM 27 1,oK 28 .quo 27 64,oM 29 1,oK 30 .rem 29 64,oQ 31 (.conv .u64 (.t 30)),oM 6 28,oM 7 31]) (.seq (oP [oM 32 6,oM 33 0,oH 34 33,oO 35 .add 32 34,oK 36 .add 35 1,oQ 37 (.mk [.int .u64 0] 8 (.t 36) (.t 36)),oM 8 37]) (.seq (.seq (oP [oM 38 0,oH 39 38,oI 40 0]) (.block 0 (.loop (.seq (oP [oO 41 .lss 40 39]) (.seq (.cond (.t 41) .skip (.exit 0)) (.seq (.block 1 (.seq (oP [oM 42 40,oJ 43 1 38 40,oL 44 43,oM 9 42,oM 10 44]) (.seq (oP [oM 45 8,oM 46 6,oM 47 9,oO 48 .add 46 47,oJ 49 1 45 48,oL 50 49,oM 51 10,oM 52 7,oO 53 .shl 51 52,oO 54 .or 50 53,oJ 55 1 45 48,oS 1 55 54]) (oP [oM 56 8,oM 57 6,oM 58 9,oO 59 .add 57 58,oK 60 .add 59 1,oJ 61 1 56 60,oL 62 61,oM 63 10,oQ 64 (.bin .shr false (.t 63) (.c (nv 1))),oM 65 7,oQ 66 (.bin .sub false (.c (nv 63)) (.t 65)),oO 67 .shr 64 66,oO 68 .or 62 67,oJ 69 1 56 60,oS 1 69 68])))) (oP [oK 70 .add 40 1,oM 40 70]))))))) (.seq (oP [oM 71 8,oC 72 F.nat_trim 71,oM 4 72,oI 5 0]) .ret)))))))))
def R.nat_Left : List VRes := [.tmp 4, .tmp 5]
theorem G.nat_Left : Gok F.nat_Left Tryz.f222 C.nat_Left R.nat_Left 73 := gk (Tryz.func222) Tryz.ntmps222
def C.dyadic_minus := cD (.seq (oP [oQ 4 (.mov (.c nil1))]) (.seq (oP [oM 11 0,oH 12 11,oQ 13 (.mk [.int .u64 0] 8 (.t 12) (.t 12)),oM 5 13]) (.seq (oP [oN 6 0]) (.seq (.seq (oP [oM 14 5,oH 15 14,oI 16 0]) (.block 0 (.loop (.seq (oP [oO 17 .lss 16 15]) (.seq (.cond (.t 17) .skip (.exit 0)) (.seq (.block 1 (.seq (oP [oM 18 16,oM 7 18]) (.seq (oP [oM 19 0,oM 20 7,oD 21 F.dyadic_limb 19 20,oM 22 1,oM 23 7,oD 24 F.dyadic_limb 22 23,oM 8 21,oM 9 24]) (.seq (oP [oM 25 8,oM 26 9,oO 27 .sub 25 26,oM 28 6,oO 29 .sub 27 28,oM 10 29]) (.seq (.seq (oP [oM 30 8,oM 31 9,oO 32 .lss 30 31,oM 33 32,oY 34 8 33 false,oY 35 9 33 false,⟨some 36, .bin .eql false (.t 34) (.t 35), some (33, false)⟩,oY 37 36 33 false,oY 38 6 37 true,⟨some 39, .bin .eql false (.t 38) (.c (nv 1)), some (37, true)⟩,⟨some 40, .pick (.t 37) (.t 39) (.c (bv false)), some (33, false)⟩,oQ 41 (.pick (.t 33) (.c (bv true)) (.t 40))]) (.cond (.t 41) (oP [oN 6 1]) (oP [oN 6 0]))) (oP [oM 42 5,oM 43 7,oM 44 10,oJ 45 1 42 43,oS 1 45 44])))))) (oP [oK 46 .add 16 1,oM 16 46]))))))) (.seq (oP [oM 47 5,oC 48 F.nat_Norm 47,oM 4 48]) .ret)))))
def R.dyadic_minus : List VRes := [.tmp 4]
theorem G.dyadic_minus : Gok F.dyadic_minus Tryz.f223 C.dyadic_minus R.dyadic_minus 49 := gk (Tryz.func223) Tryz.ntmps223
def C.dyadic_plus := cD (.seq (oP [oQ 4 (.mov (.c nil1))]) (.seq (oP [oM 12 0,oH 13 12,oM 14 1,oH 15 14,oQ 16 (.mm true (.t 13) (.t 15)),oK 17 .add 16 1,oQ 18 (.mk [.int .u64 0] 8 (.t 17) (.t 17)),oM 5 18]) (.seq (oP [oN 6 0]) (.seq (.seq (oP [oM 19 5,oH 20 19,oI 21 0]) (.block 0 (.loop (.seq (oP [oO 22 .lss 21 20]) (.seq (.cond (.t 22) .skip (.exit 0)) (.seq (.block 1 (.seq (oP [oM 23 21,oM 7 23]) (.seq (oP [oM 24 0,oM 25 7,oD 26 F.dyadic_limb 24 25,oM 27 1,oM 28 7,oD 29 F.dyadic_limb 27 28,oM 8 26,oM 9 29]) (.seq (oP [oM 30 8,oM 31 9,oO 32 .add 30 31,oM 10 32]) (.seq (oP [oM 33 10,oM 34 6,oO 35 .add 33 34,oM 11 35]) (.seq (oP [oN 6 0]) (.seq (.seq (oP [oM 36 10,oM 37 8,oO 38 .lss 36 37,oM 39 38,oY 40 11 39 false,oY 41 10 39 false,⟨some 42, .bin .lss false (.t 40) (.t 41), some (39, false)⟩,oQ 43 (.pick (.t 39) (.c (bv true)) (.t 42))]) (.cond (.t 43) (oP [oN 6 1]) .skip)) (oP [oM 44 5,oM 45 7,oM 46 11,oJ 47 1 44 45,oS 1 47 46])))))))) (oP [oK 48 .add 21 1,oM 21 48]))))))) (.seq (oP [oM 49 5,oC 50 F.nat_Norm 49,oM 4 50]) .ret)))))
def R.dyadic_plus : List VRes := [.tmp 4]
theorem G.dyadic_plus : Gok F.dyadic_plus Tryz.f224 C.dyadic_plus R.dyadic_plus 51 := gk (Tryz.func224) Tryz.ntmps224
def C.whole_norm := cD (.seq (oP [oB 1 0,oA 2 oV]) (.seq (oP [oF 4 1 1,oL 5 4,oC 6 F.nat_Norm 5,oM 3 6]) (.seq (oP [oF 7 0 1,oL 8 7,oM 9 8,oY 10 3 9 true,⟨some 11, .len (.t 10), some (9, true)⟩,⟨some 12, .bin .gtr false (.t 11) (.c (iv 0)), some (9, true)⟩,oQ 13 (.pick (.t 9) (.t 12) (.c (bv false))),oM 14 3,oQ 15 (.build oV [(0, (1, .t 13)), (1, (1, .t 14))]),oS 2 2 15]) .ret)))
def R.whole_norm : List VRes := [.cell 2 (some 2)]
theorem G.whole_norm : Gok F.whole_norm Tryz.f225 C.whole_norm R.whole_norm 16 := gk (Tryz.func225) Tryz.ntmps225
def C.nat_Sub := cD (.seq (oP [oQ 4 (.mov (.c nil1)),oI 5 0]) (.seq (.seq (oP [oM 10 0,oM 11 1,oD 12 F.nat_Compare 10 11,oK 13 .lss 12 0]) (.cond (.t 13) (.seq (oP [oQ 4 (.mov (.c nil1)),oI 5 10]) .ret) .skip)) (.seq (oP [oM 14 0,oC 15 F.nat_trim 14,oM 16 1,oC 17 F.nat_trim 16,oM 0 15,oM 1 17]) (.seq (oP [oM 18 0,oH 19 18,oQ 20 (.mk [.int .u64 0] 8 (.t 19) (.t 19)),oM 6 20]) (.seq (oP [oN 7 0]) (.seq (.seq (oP [oM 21 0,oH 22 21,oI 23 0]) (.block 0 (.loop (.seq (oP [oO 24 .lss 23 22]) (.seq (.cond (.t 24) .skip (.exit 0)) (.seq (.block 1 (.seq (oP [oM 25 23,oM 8 25]) (.seq (oP [oN 9 0]) (.seq (.seq (oP [oM 26 8,oM 27 1,oH 28 27,oO 29 .lss 26 28]) (.cond (.t 29) (oP [oM 30 1,oM 31 8,oJ 32 1 30 31,oL 33 32,oM 9 33]) .skip)) (oP [oM 35 6,oM 36 8,oM 37 0,oM 38 8,oJ 39 1 37 38,oL 40 39,oM 41 9,oM 42 7,oQ 43 (.ext64 true (.t 40) (.t 41) (.t 42)),oM 34 43,oX 44 34 0,oX 45 34 1,oJ 46 1 35 36,oS 1 46 44,oM 7 45]))))) (oP [oK 47 .add 23 1,oM 23 47]))))))) (.seq (oP [oM 48 6,oC 49 F.nat_told 48,oX 50 49 0,oX 51 49 1,oM 4 50,oM 5 51]) .ret)))))))
def R.nat_Sub : List VRes := [.tmp 4, .tmp 5]
theorem G.nat_Sub : Gok F.nat_Sub Tryz.f226 C.nat_Sub R.nat_Sub 52 := gk (Tryz.func226) Tryz.ntmps226
def C.mul_great := cD (.seq (oP [oQ 4 (.mov (.c (bv false)))]) (.seq (oP [oM 7 0,oC 8 F.nat_Length 7,oM 9 1,oC 10 F.nat_Length 9,oM 5 8,oM 6 10]) (.seq (oP [oM 11 5,oK 12 .gtr 11 0,oM 13 12,oY 14 6 13 true,⟨some 15, .bin .gtr false (.t 14) (.c (iv 0)), some (13, true)⟩,oQ 16 (.pick (.t 13) (.t 15) (.c (bv false))),oM 17 16,oY 18 5 17 true,oY 19 6 17 true,⟨some 20, .bin .add false (.t 18) (.t 19), some (17, true)⟩,⟨some 21, .bin .sub false (.t 20) (.c (iv 1)), some (17, true)⟩,⟨some 22, .bin .gtr false (.t 21) (.c (iv 67108864)), some (17, true)⟩,oQ 23 (.pick (.t 17) (.t 22) (.c (bv false))),oM 4 23]) .ret)))
def R.mul_great : List VRes := [.tmp 4]
theorem G.mul_great : Gok F.mul_great Tryz.f227 C.mul_great R.mul_great 24 := gk (Tryz.func227) Tryz.ntmps227
def C.mul_fits := cD (.seq (oP [oQ 2 (.mov (.c nil1)),oI 3 0]) (.seq (oP [oM 4 0,oC 5 F.nat_Norm 4,oM 0 5]) (.seq (.seq (oP [oM 6 0,oC 7 F.nat_Length 6,oK 8 .gtr 7 67108864]) (.cond (.t 8) (.seq (oP [oQ 2 (.mov (.c nil1)),oI 3 3]) .ret) .skip)) (.seq (oP [oM 9 0,oM 2 9,oI 3 0]) .ret))))
def R.mul_fits : List VRes := [.tmp 2, .tmp 3]
theorem G.mul_fits : Gok F.mul_fits Tryz.f228 C.mul_fits R.mul_fits 10 := gk (Tryz.func228) Tryz.ntmps228
def C.mul_school := cD (.seq (oP [oQ 4 (.mov (.c nil1))]) (.seq (oP [oM 14 0,oH 15 14,oM 16 1,oH 17 16,oO 18 .add 15 17,oQ 19 (.mk [.int .u64 0] 8 (.t 18) (.t 18)),oM 5 19]) (.seq (.seq (oP [oM 20 0,oH 21 20,oI 22 0]) (.block 0 (.loop (.seq (oP [oO 23 .lss 22 21]) (.seq (.cond (.t 23) .skip (.exit 0)) (.seq (.block 1 (.seq (oP [oM 24 22,oJ 25 1 20 22,oL 26 25,oM 6 24,oM 7 26]) (.seq (oP [oN 8 0]) (.seq (.seq (oP [oM 27 1,oH 28 27,oI 29 0]) (.block 2 (.loop (.seq (oP [oO 30 .lss 29 28]) (.seq (.cond (.t 30) .skip (.exit 2)) (.seq (.block 3 (.seq (oP [oM 31 29,oJ 32 1 27 29,oL 33 32,oM 9 31,oM 10 33]) (.seq (oP [oM 35 7,oM 36 10,oD 37 F.bits_Mul64 35 36,oM 34 37,oX 38 34 0,oX 39 34 1,oM 11 38,oM 12 39]) (.seq (oP [oN 13 0]) (.seq (oP [oM 41 12,oM 42 8,oQ 43 (.ext64 false (.t 41) (.t 42) (.c (nv 0))),oM 40 43,oX 44 40 0,oX 45 40 1,oM 12 44,oM 13 45]) (.seq (oP [oM 46 11,oM 47 13,oO 48 .add 46 47,oM 11 48]) (.seq (oP [oM 50 5,oM 51 6,oM 52 9,oO 53 .add 51 52,oM 54 5,oM 55 6,oM 56 9,oO 57 .add 55 56,oJ 58 1 54 57,oL 59 58,oM 60 12,oQ 61 (.ext64 false (.t 59) (.t 60) (.c (nv 0))),oM 49 61,oX 62 49 0,oX 63 49 1,oJ 64 1 50 53,oS 1 64 62,oM 13 63]) (oP [oM 65 11,oM 66 13,oO 67 .add 65 66,oM 8 67])))))))) (oP [oK 68 .add 29 1,oM 29 68]))))))) (oP [oM 69 5,oM 70 6,oM 71 1,oH 72 71,oO 73 .add 70 72,oM 74 8,oJ 75 1 69 73,oS 1 75 74]))))) (oP [oK 76 .add 22 1,oM 22 76]))))))) (.seq (oP [oM 77 5,oM 4 77]) .ret))))
def R.mul_school : List VRes := [.tmp 4]
theorem G.mul_school : Gok F.mul_school Tryz.f229 C.mul_school R.mul_school 78 := gk (Tryz.func229) Tryz.ntmps229
def C.mul_addAt := cD (.seq (oP [oN 6 0]) (.seq (oP [oM 9 2,oM 7 9]) (.block 0 (.loop (.seq (.seq (oP [oM 10 7,oM 11 0,oH 12 11,oO 13 .lss 10 12,oM 14 13,oY 15 7 14 true,oY 16 2 14 true,⟨some 17, .bin .sub false (.t 15) (.t 16), some (14, true)⟩,oY 18 1 14 true,⟨some 19, .len (.t 18), some (14, true)⟩,⟨some 20, .bin .lss false (.t 17) (.t 19), some (14, true)⟩,oY 21 20 14 true,oY 22 6 21 false,⟨some 23, .bin .gtr false (.t 22) (.c (nv 0)), some (21, false)⟩,⟨some 24, .pick (.t 21) (.c (bv true)) (.t 23), some (14, true)⟩,oQ 25 (.pick (.t 14) (.t 24) (.c (bv false)))]) (.cond (.t 25) .skip (.exit 0))) (.seq (.block 1 (.seq (oP [oN 8 0]) (.seq (.seq (oP [oM 28 7,oM 29 2,oO 30 .sub 28 29,oM 31 1,oH 32 31,oO 33 .lss 30 32]) (.cond (.t 33) (oP [oM 34 1,oM 35 7,oM 36 2,oO 37 .sub 35 36,oJ 38 1 34 37,oL 39 38,oM 8 39]) .skip)) (oP [oM 41 0,oM 42 7,oM 43 0,oM 44 7,oJ 45 1 43 44,oL 46 45,oM 47 8,oM 48 6,oQ 49 (.ext64 false (.t 46) (.t 47) (.t 48)),oM 40 49,oX 50 40 0,oX 51 40 1,oJ 52 1 41 42,oS 1 52 50,oM 6 51])))) (oP [oM 26 7,oK 27 .add 26 1,oM 7 27])))))))
def R.mul_addAt : List VRes := []
theorem G.mul_addAt : Gok F.mul_addAt Tryz.f230 C.mul_addAt R.mul_addAt 53 := gk (Tryz.func230) Tryz.ntmps230
def C.mul_part := cD (.seq (oP [oQ 6 (.mov (.c nil1))]) (.seq (oP [oM 7 1,oM 8 0,oH 9 8,oQ 10 (.mm false (.t 7) (.t 9)),oM 11 2,oM 12 0,oH 13 12,oQ 14 (.mm false (.t 11) (.t 13)),oM 1 10,oM 2 14]) (.seq (.block 0 (.loop (.seq (.seq (oP [oM 15 2,oM 16 1,oO 17 .gtr 15 16,oM 18 17,oY 19 0 18 true,oY 20 2 18 true,⟨some 21, .bin .sub false (.t 20) (.c (iv 1)), some (18, true)⟩,⟨some 22, .ixa 1 (.t 19) (.t 21), some (18, true)⟩,⟨some 23, .load none (.t 22), some (18, true)⟩,⟨some 24, .bin .eql false (.t 23) (.c (nv 0)), some (18, true)⟩,oQ 25 (.pick (.t 18) (.t 24) (.c (bv false)))]) (.cond (.t 25) .skip (.exit 0))) (.block 1 (oP [oM 26 2,oK 27 .sub 26 1,oM 2 27]))))) (.seq (oP [oM 28 0,oM 29 1,oM 30 2,oQ 31 (.slc 1 (.t 28) (some (.t 29)) (some (.t 30)) none),oM 6 31]) .ret))))
def R.mul_part : List VRes := [.tmp 6]
theorem G.mul_part : Gok F.mul_part Tryz.f231 C.mul_part R.mul_part 32 := gk (Tryz.func231) Tryz.ntmps231
def C.mul_less := cD (.seq (oP [oQ 4 (.mov (.c nil1))]) (.seq (oP [oM 9 0,oH 10 9,oQ 11 (.mk [.int .u64 0] 8 (.t 10) (.t 10)),oM 5 11]) (.seq (oP [oM 12 5,oM 13 0,oQ 14 (.cpy 1 (.t 12) (.t 13))]) (.seq (oP [oN 6 0]) (.seq (.seq (oP [oM 15 5,oH 16 15,oI 17 0]) (.block 0 (.loop (.seq (oP [oO 18 .lss 17 16]) (.seq (.cond (.t 18) .skip (.exit 0)) (.seq (.block 1 (.seq (oP [oM 19 17,oM 7 19]) (.seq (oP [oN 8 0]) (.seq (.seq (oP [oM 20 7,oM 21 1,oH 22 21,oO 23 .lss 20 22]) (.cond (.t 23) (oP [oM 24 1,oM 25 7,oJ 26 1 24 25,oL 27 26,oM 8 27]) .skip)) (oP [oM 29 5,oM 30 7,oM 31 5,oM 32 7,oJ 33 1 31 32,oL 34 33,oM 35 8,oM 36 6,oQ 37 (.ext64 true (.t 34) (.t 35) (.t 36)),oM 28 37,oX 38 28 0,oX 39 28 1,oJ 40 1 29 30,oS 1 40 38,oM 6 39]))))) (oP [oK 41 .add 17 1,oM 17 41]))))))) (.seq (oP [oM 42 5,oM 4 42]) .ret))))))
def R.mul_less : List VRes := [.tmp 4]
theorem G.mul_less : Gok F.mul_less Tryz.f232 C.mul_less R.mul_less 43 := gk (Tryz.func232) Tryz.ntmps232
def C.mul_sum := cD (.seq (oP [oQ 4 (.mov (.c nil1))]) (.seq (oP [oM 6 0,oH 7 6,oM 8 1,oH 9 8,oQ 10 (.mm true (.t 7) (.t 9)),oK 11 .add 10 1,oQ 12 (.mk [.int .u64 0] 8 (.t 11) (.t 11)),oM 5 12]) (.seq (oP [oM 13 5,oM 14 0,oQ 15 (.cpy 1 (.t 13) (.t 14))]) (.seq (oP [oM 16 5,oM 17 1,oQ 18 (.call F.mul_addAt [.t 16, .t 17, .c (iv 0)])]) (.seq (oP [oM 19 5,oM 4 19]) .ret)))))
def R.mul_sum : List VRes := [.tmp 4]
theorem G.mul_sum : Gok F.mul_sum Tryz.f233 C.mul_sum R.mul_sum 20 := gk (Tryz.func233) Tryz.ntmps233
def C.nat_Right := cD (.seq (oP [oQ 4 (.mov (.c nil1)),oI 5 0]) (.seq (.seq (oP [oM 10 1,oK 11 .lss 10 0,oM 12 11,oY 13 1 12 false,⟨some 14, .bin .gtr false (.t 13) (.c (iv 1099511627776)), some (12, false)⟩,oQ 15 (.pick (.t 12) (.c (bv true)) (.t 14))]) (.cond (.t 15) (.seq (oP [oQ 4 (.mov (.c nil1)),oI 5 1]) .ret) .skip)) (.seq (oP [oM 16 0,oC 17 F.nat_trim 16,oM 0 17]) (.seq (oP [oM 18 1,oK 19 .quo 18 64,oM 20 1,oK 21 .rem 20 64,oQ 22 (.conv .u64 (.t 21)),oM 6 19,oM 7 22]) (.seq (.seq (oP [oM 23 6,oM 24 0,oH 25 24,oO 26 .geq 23 25]) (.cond (.t 26) (.seq (oP [oQ 4 (.mov (.c nil1)),oI 5 0]) .ret) .skip)) (.seq (oP [oM 27 0,oH 28 27,oM 29 6,oO 30 .sub 28 29,oQ 31 (.mk [.int .u64 0] 8 (.t 30) (.t 30)),oM 8 31]) (.seq (.seq (oP [oM 32 8,oH 33 32,oI 34 0]) (.block 0 (.loop (.seq (oP [oO 35 .lss 34 33]) (.seq (.cond (.t 35) .skip (.exit 0)) (.seq (.block 1 (.seq (oP [oM 36 34,oM 9 36]) (.seq (oP [oM 37 8,oM 38 9,oM 39 0,oM 40 6,oM 41 9,oO 42 .add 40 41,oJ 43 1 39 42,oL 44 43,oM 45 7,oO 46 .shr 44 45,oJ 47 1 37 38,oS 1 47 46]) (.seq (oP [oM 48 6,oM 49 9,oO 50 .add 48 49,oK 51 .add 50 1,oM 52 0,oH 53 52,oO 54 .lss 51 53]) (.cond (.t 54) (oR [oM 55 8,oM 56 9,oJ 57 1 55 56,oL 58 57,oM 59 0,oM 60 6,oM 61 9,oO 62 .add 60 61,oK 63 .add 62 1,oJ 64 1 59 63,oL 65 64,oQ 66 (.bin .shl false (.t 65) (.c (nv 1))),oM 67 7,oQ 68 (.bin .sub false (.c (nv 63)) (.t 67)),oO 69 .shl 66 68,oO 70 .or 58 69,oJ 71 1 55 56,oS 1 71 70]) .skip))))) (oP [oK 72 .add 34 1,oM 34 72]))))))) (.seq (oP [oM 73 8,oC 74 F.nat_told 73,oX 75 74 0,oX 76 74 1,oM 4 75,oM 5 76]) .ret))))))))
def R.nat_Right : List VRes := [.tmp 4, .tmp 5]
theorem G.nat_Right : Gok F.nat_Right Tryz.f234 C.nat_Right R.nat_Right 77 := gk (Tryz.func234) Tryz.ntmps234
def C.div_divide := cD (.seq (oP [oQ 4 (.mov (.c nil1)),oQ 5 (.mov (.c nil1))]) (.seq (.seq (oP [oM 15 0,oM 16 1,oD 17 F.nat_Compare 15 16,oK 18 .lss 17 0]) (.cond (.t 18) (.seq (oP [oM 19 0,oQ 4 (.mov (.c nil1)),oM 5 19]) .ret) .skip)) (.seq (.seq (oP [oM 20 1,oH 21 20,oK 22 .eql 21 1]) (.cond (.t 22) (.seq (oP [oM 23 0,oH 24 23,oQ 25 (.mk [.int .u64 0] 8 (.t 24) (.t 24)),oM 6 25,oN 7 0]) (.seq (.seq (oP [oM 26 0,oH 27 26,oK 28 .sub 27 1,oM 8 28]) (.block 0 (.loop (.seq (.seq (oP [oM 29 8,oK 30 .geq 29 0]) (.cond (.t 30) .skip (.exit 0))) (.seq (.block 1 (oR [oM 34 6,oM 35 8,oM 36 7,oM 37 0,oM 38 8,oJ 39 1 37 38,oL 40 39,oM 41 1,oQ 42 (.ixa 1 (.t 41) (.c (iv 0))),oL 43 42,oE 44 F.bits_Div64 36 40 43,oM 33 44,oX 45 33 0,oX 46 33 1,oJ 47 1 34 35,oS 1 47 45,oM 7 46])) (oP [oM 31 8,oK 32 .sub 31 1,oM 8 32])))))) (.seq (oP [oM 48 6,oC 49 F.nat_Norm 48,oM 50 7,oC 51 F.nat_From 50,oM 4 49,oM 5 51]) .ret))) .skip)) (.seq (oP [oM 52 1,oM 53 1,oH 54 53,oK 55 .sub 54 1,oJ 56 1 52 55,oL 57 56,oC 58 F.bits_LeadingZeros64 57,oQ 59 (.conv .u64 (.t 58)),oM 9 59]) (.seq (oR [oM 60 0,oM 61 9,oD 62 F.div_up 60 61,oM 63 1,oM 64 9,oD 65 F.div_up 63 64,oM 66 1,oH 67 66,oQ 68 (.slc 1 (.t 65) none (some (.t 67)) none),oM 10 62,oM 11 68]) (.seq (oP [oM 69 11,oH 70 69,oM 12 70]) (.seq (oP [oM 71 0,oH 72 71,oM 73 12,oO 74 .sub 72 73,oK 75 .add 74 1,oQ 76 (.mk [.int .u64 0] 8 (.t 75) (.t 75)),oM 13 76]) (.seq (.seq (oP [oM 77 0,oH 78 77,oM 79 12,oO 80 .sub 78 79,oM 14 80]) (.block 2 (.loop (.seq (.seq (oP [oM 81 14,oK 82 .geq 81 0]) (.cond (.t 82) .skip (.exit 2))) (.seq (.block 3 (oP [oM 85 13,oM 86 14,oM 87 10,oM 88 14,oM 89 14,oM 90 12,oO 91 .add 89 90,oK 92 .add 91 1,oQ 93 (.slc 1 (.t 87) (some (.t 88)) (some (.t 92)) none),oM 94 11,oD 95 F.div_guess 93 94,oJ 96 1 85 86,oS 1 96 95])) (oP [oM 83 14,oK 84 .sub 83 1,oM 14 84])))))) (.seq (oR [oM 97 13,oC 98 F.nat_Norm 97,oM 99 10,oM 100 12,oQ 101 (.slc 1 (.t 99) none (some (.t 100)) none),oM 102 9,oD 103 F.div_down 101 102,oM 4 98,oM 5 103]) .ret)))))))))
def R.div_divide : List VRes := [.tmp 4, .tmp 5]
theorem G.div_divide : Gok F.div_divide Tryz.f235 C.div_divide R.div_divide 104 := gk (Tryz.func235) Tryz.ntmps235
def C.q_plus := cD (.seq (oP [oQ 4 (.mov (.c nil1))]) (.seq (oP [oM 10 0,oH 11 10,oM 12 1,oH 13 12,oQ 14 (.mm true (.t 11) (.t 13)),oK 15 .add 14 1,oQ 16 (.mk [.int .u64 0] 8 (.t 15) (.t 15)),oM 5 16]) (.seq (oP [oN 6 0]) (.seq (.seq (oP [oM 17 5,oH 18 17,oI 19 0]) (.block 0 (.loop (.seq (oP [oO 20 .lss 19 18]) (.seq (.cond (.t 20) .skip (.exit 0)) (.seq (.block 1 (.seq (oP [oM 21 19,oM 7 21]) (.seq (oP [oN 8 0,oN 9 0]) (.seq (.seq (oP [oM 22 7,oM 23 0,oH 24 23,oO 25 .lss 22 24]) (.cond (.t 25) (oP [oM 26 0,oM 27 7,oJ 28 1 26 27,oL 29 28,oM 8 29]) .skip)) (.seq (.seq (oP [oM 30 7,oM 31 1,oH 32 31,oO 33 .lss 30 32]) (.cond (.t 33) (oP [oM 34 1,oM 35 7,oJ 36 1 34 35,oL 37 36,oM 9 37]) .skip)) (oP [oM 39 5,oM 40 7,oM 41 8,oM 42 9,oM 43 6,oQ 44 (.ext64 false (.t 41) (.t 42) (.t 43)),oM 38 44,oX 45 38 0,oX 46 38 1,oJ 47 1 39 40,oS 1 47 45,oM 6 46])))))) (oP [oK 48 .add 19 1,oM 19 48]))))))) (.seq (oP [oM 49 5,oC 50 F.nat_Norm 49,oM 4 50]) .ret)))))
def R.q_plus : List VRes := [.tmp 4]
theorem G.q_plus : Gok F.q_plus Tryz.f236 C.q_plus R.q_plus 51 := gk (Tryz.func236) Tryz.ntmps236
def C.roots_power := cD (.seq (oP [oQ 2 (.mov (.c nil1))]) (.seq (oP [oQ 6 (.call F.nat_From [.c (nv 1)]),oM 7 0,oD 8 F.nat_Left 6 7,oM 5 8,oX 9 5 0,oX 10 5 1,oM 3 9,oM 4 10]) (.seq (oP [oM 11 3,oM 2 11]) .ret)))
def R.roots_power : List VRes := [.tmp 2]
theorem G.roots_power : Gok F.roots_power Tryz.f237 C.roots_power R.roots_power 12 := gk (Tryz.func237) Tryz.ntmps237
def C.nat_Times := cD (.seq (oP [oQ 4 (.mov (.c nil1)),oI 5 0]) (.seq (oP [oM 14 0,oC 15 F.nat_trim 14,oM 0 15]) (.seq (oP [oM 16 0,oH 17 16,oK 18 .add 17 1,oQ 19 (.mk [.int .u64 0] 8 (.t 18) (.t 18)),oM 6 19]) (.seq (oP [oN 7 0]) (.seq (.seq (oP [oM 20 0,oH 21 20,oI 22 0]) (.block 0 (.loop (.seq (oP [oO 23 .lss 22 21]) (.seq (.cond (.t 23) .skip (.exit 0)) (.seq (.block 1 (.seq (oP [oM 24 22,oJ 25 1 20 22,oL 26 25,oM 8 24,oM 9 26]) (.seq (oP [oM 28 9,oM 29 1,oD 30 F.bits_Mul64 28 29,oM 27 30,oX 31 27 0,oX 32 27 1,oM 10 31,oM 11 32]) (.seq (oP [oM 34 11,oM 35 7,oQ 36 (.ext64 false (.t 34) (.t 35) (.c (nv 0))),oM 33 36,oX 37 33 0,oX 38 33 1,oM 12 37,oM 13 38]) (.seq (oP [oM 39 6,oM 40 8,oM 41 12,oJ 42 1 39 40,oS 1 42 41]) (oP [oM 43 10,oM 44 13,oO 45 .add 43 44,oM 7 45])))))) (oP [oK 46 .add 22 1,oM 22 46]))))))) (.seq (oP [oM 47 6,oM 48 0,oH 49 48,oM 50 7,oJ 51 1 47 49,oS 1 51 50]) (.seq (oP [oM 52 6,oC 53 F.nat_told 52,oX 54 53 0,oX 55 53 1,oM 4 54,oM 5 55]) .ret)))))))
def R.nat_Times : List VRes := [.tmp 4, .tmp 5]
theorem G.nat_Times : Gok F.nat_Times Tryz.f238 C.nat_Times R.nat_Times 56 := gk (Tryz.func238) Tryz.ntmps238
def C.nat_Through := cD (.seq (oP [oQ 4 (.mov (.c nil1)),oN 5 0,oI 6 0]) (.seq (.seq (oP [oM 11 1,oQ 12 (.bin .eql false (.t 11) (.c (nv 0)))]) (.cond (.t 12) (.seq (oP [oQ 4 (.mov (.c nil1)),oN 5 0,oI 6 1]) .ret) .skip)) (.seq (oP [oM 13 0,oC 14 F.nat_trim 13,oM 0 14]) (.seq (oP [oM 15 0,oH 16 15,oQ 17 (.mk [.int .u64 0] 8 (.t 16) (.t 16)),oM 7 17]) (.seq (oP [oN 8 0]) (.seq (.seq (oP [oM 18 0,oH 19 18,oK 20 .sub 19 1,oM 9 20]) (.block 0 (.loop (.seq (.seq (oP [oM 21 9,oK 22 .geq 21 0]) (.cond (.t 22) .skip (.exit 0))) (.seq (.block 1 (oP [oM 26 7,oM 27 9,oM 28 8,oM 29 0,oM 30 9,oJ 31 1 29 30,oL 32 31,oM 33 1,oE 34 F.bits_Div64 28 32 33,oM 25 34,oX 35 25 0,oX 36 25 1,oJ 37 1 26 27,oS 1 37 35,oM 8 36])) (oP [oM 23 9,oK 24 .sub 23 1,oM 9 24])))))) (.seq (oP [oM 39 7,oC 40 F.nat_told 39,oM 38 40,oX 41 38 0,oX 42 38 1,oM 7 41,oM 10 42]) (.seq (.seq (oP [oM 43 10,oK 44 .neq 43 0]) (.cond (.t 44) (.seq (oP [oM 45 10,oQ 4 (.mov (.c nil1)),oN 5 0,oM 6 45]) .ret) .skip)) (.seq (oP [oM 46 7,oM 47 8,oM 4 46,oM 5 47,oI 6 0]) .ret)))))))))
def R.nat_Through : List VRes := [.tmp 4, .tmp 5, .tmp 6]
theorem G.nat_Through : Gok F.nat_Through Tryz.f239 C.nat_Through R.nat_Through 48 := gk (Tryz.func239) Tryz.ntmps239
def C.dyadic_limb := cD (.seq (oP [oN 4 0]) (.seq (.seq (oP [oM 5 1,oM 6 0,oH 7 6,oO 8 .lss 5 7]) (.cond (.t 8) (.seq (oP [oM 9 0,oM 10 1,oJ 11 1 9 10,oL 12 11,oM 4 12]) .ret) .skip)) (.seq (oP [oN 4 0]) .ret)))
def R.dyadic_limb : List VRes := [.tmp 4]
theorem G.dyadic_limb : Gok F.dyadic_limb Tryz.f240 C.dyadic_limb R.dyadic_limb 13 := gk (Tryz.func240) Tryz.ntmps240
def C.bits_Mul64 := cD (.seq (oP [oN 4 0,oN 5 0]) (.seq (oP [oM 14 0,oQ 15 (.bin .and false (.t 14) (.c (nv 4294967295))),oM 6 15]) (.seq (oP [oM 16 0,oQ 17 (.bin .shr false (.t 16) (.c (nv 32))),oM 7 17]) (.seq (oP [oM 18 1,oQ 19 (.bin .and false (.t 18) (.c (nv 4294967295))),oM 8 19]) (.seq (oP [oM 20 1,oQ 21 (.bin .shr false (.t 20) (.c (nv 32))),oM 9 21]) (.seq (oP [oM 22 6,oM 23 8,oO 24 .mul 22 23,oM 10 24]) (.seq (oP [oM 25 7,oM 26 8,oO 27 .mul 25 26,oM 28 10,oQ 29 (.bin .shr false (.t 28) (.c (nv 32))),oO 30 .add 27 29,oM 11 30]) (.seq (oP [oM 31 11,oQ 32 (.bin .and false (.t 31) (.c (nv 4294967295))),oM 12 32]) (.seq (oP [oM 33 11,oQ 34 (.bin .shr false (.t 33) (.c (nv 32))),oM 13 34]) (.seq (oP [oM 35 12,oM 36 6,oM 37 9,oO 38 .mul 36 37,oO 39 .add 35 38,oM 12 39]) (.seq (oP [oM 40 7,oM 41 9,oO 42 .mul 40 41,oM 43 13,oO 44 .add 42 43,oM 45 12,oQ 46 (.bin .shr false (.t 45) (.c (nv 32))),oO 47 .add 44 46,oM 4 47]) (.seq (oP [oM 48 0,oM 49 1,oO 50 .mul 48 49,oM 5 50]) .ret))))))))))))
def R.bits_Mul64 : List VRes := [.tmp 4, .tmp 5]
theorem G.bits_Mul64 : Gok F.bits_Mul64 Tryz.f242 C.bits_Mul64 R.bits_Mul64 51 := gk (Tryz.func242) Tryz.ntmps242
def C.bits_Div64 := cD (.seq (oP [oN 6 0,oN 7 0]) (.seq (.seq (oP [oM 19 2,oQ 20 (.bin .eql false (.t 19) (.c (nv 0)))]) (.cond (.t 20) (oP [oQ 21 (.load none (.c (.gptr 1 0))),⟨none, .bad, none⟩]) .skip)) (.seq (.seq (oP [oM 22 2,oM 23 0,oO 24 .leq 22 23]) (.cond (.t 24) (oP [oQ 25 (.load none (.c (.gptr 2 0))),⟨none, .bad, none⟩]) .skip)) (.seq (.seq (oP [oM 26 0,oQ 27 (.bin .eql false (.t 26) (.c (nv 0)))]) (.cond (.t 27) (.seq (oR [oM 28 1,oM 29 2,oO 30 .quo 28 29,oM 31 1,oM 32 2,oO 33 .rem 31 32,oM 6 30,oM 7 33]) .ret) .skip)) (.seq (oP [oM 34 2,oC 35 F.bits_LeadingZeros64 34,oQ 36 (.conv .u64 (.t 35)),oM 8 36]) (.seq (oP [oM 37 2,oM 38 8,oO 39 .shl 37 38,oM 2 39]) (.seq (oP [oM 40 2,oQ 41 (.bin .shr false (.t 40) (.c (nv 32))),oM 9 41]) (.seq (oP [oM 42 2,oQ 43 (.bin .and false (.t 42) (.c (nv 4294967295))),oM 10 43]) (.seq (oP [oM 44 0,oM 45 8,oO 46 .shl 44 45,oM 47 1,oM 48 8,oQ 49 (.bin .sub false (.c (nv 64)) (.t 48)),oO 50 .shr 47 49,oO 51 .or 46 50,oM 11 51]) (.seq (oP [oM 52 1,oM 53 8,oO 54 .shl 52 53,oM 12 54]) (.seq (oP [oM 55 12,oQ 56 (.bin .shr false (.t 55) (.c (nv 32))),oM 13 56]) (.seq (oP [oM 57 12,oQ 58 (.bin .and false (.t 57) (.c (nv 4294967295))),oM 14 58]) (.seq (oP [oM 59 11,oM 60 9,oO 61 .quo 59 60,oM 15 61]) (.seq (oP [oM 62 11,oM 63 15,oM 64 9,oO 65 .mul 63 64,oO 66 .sub 62 65,oM 16 66]) (.seq (.block 0 (.loop (.seq (.seq (oP [oM 67 15,oQ 68 (.bin .geq false (.t 67) (.c (nv 4294967296))),oM 69 68,oY 70 15 69 false,oY 71 10 69 false,⟨some 72, .bin .mul false (.t 70) (.t 71), some (69, false)⟩,oY 73 16 69 false,⟨some 74, .bin .mul false (.c (nv 4294967296)) (.t 73), some (69, false)⟩,oY 75 13 69 false,⟨some 76, .bin .add false (.t 74) (.t 75), some (69, false)⟩,⟨some 77, .bin .gtr false (.t 72) (.t 76), some (69, false)⟩,oQ 78 (.pick (.t 69) (.c (bv true)) (.t 77))]) (.cond (.t 78) .skip (.exit 0))) (.block 1 (.seq (oP [oM 79 15,oQ 80 (.bin .sub false (.t 79) (.c (nv 1))),oM 15 80]) (.seq (oP [oM 81 16,oM 82 9,oO 83 .add 81 82,oM 16 83]) (.seq (oP [oM 84 16,oQ 85 (.bin .geq false (.t 84) (.c (nv 4294967296)))]) (.cond (.t 85) (.exit 0) .skip)))))))) (.seq (oP [oM 86 11,oQ 87 (.bin .mul false (.t 86) (.c (nv 4294967296))),oM 88 13,oO 89 .add 87 88,oM 90 15,oM 91 2,oO 92 .mul 90 91,oO 93 .sub 89 92,oM 17 93]) (.seq (oP [oM 94 17,oM 95 9,oO 96 .quo 94 95,oM 18 96]) (.seq (oP [oM 97 17,oM 98 18,oM 99 9,oO 100 .mul 98 99,oO 101 .sub 97 100,oM 16 101]) (.seq (.block 2 (.loop (.seq (.seq (oP [oM 102 18,oQ 103 (.bin .geq false (.t 102) (.c (nv 4294967296))),oM 104 103,oY 105 18 104 false,oY 106 10 104 false,⟨some 107, .bin .mul false (.t 105) (.t 106), some (104, false)⟩,oY 108 16 104 false,⟨some 109, .bin .mul false (.c (nv 4294967296)) (.t 108), some (104, false)⟩,oY 110 14 104 false,⟨some 111, .bin .add false (.t 109) (.t 110), some (104, false)⟩,⟨some 112, .bin .gtr false (.t 107) (.t 111), some (104, false)⟩,oQ 113 (.pick (.t 104) (.c (bv true)) (.t 112))]) (.cond (.t 113) .skip (.exit 2))) (.block 3 (.seq (oP [oM 114 18,oQ 115 (.bin .sub false (.t 114) (.c (nv 1))),oM 18 115]) (.seq (oP [oM 116 16,oM 117 9,oO 118 .add 116 117,oM 16 118]) (.seq (oP [oM 119 16,oQ 120 (.bin .geq false (.t 119) (.c (nv 4294967296)))]) (.cond (.t 120) (.exit 2) .skip)))))))) (.seq (oP [oM 121 15,oQ 122 (.bin .mul false (.t 121) (.c (nv 4294967296))),oM 123 18,oO 124 .add 122 123,oM 125 17,oQ 126 (.bin .mul false (.t 125) (.c (nv 4294967296))),oM 127 14,oO 128 .add 126 127,oM 129 18,oM 130 2,oO 131 .mul 129 130,oO 132 .sub 128 131,oM 133 8,oO 134 .shr 132 133,oM 6 124,oM 7 134]) .ret))))))))))))))))))))
def R.bits_Div64 : List VRes := [.tmp 6, .tmp 7]
theorem G.bits_Div64 : Gok F.bits_Div64 Tryz.f243 C.bits_Div64 R.bits_Div64 135 := gk (Tryz.func243) Tryz.ntmps243
def C.bits_LeadingZeros64 := cD (.seq (oP [oI 2 0]) (.seq (oP [oM 3 0,oC 4 F.bits_Len64 3,oQ 5 (.bin .sub false (.c (iv 64)) (.t 4)),oM 2 5]) .ret))
def R.bits_LeadingZeros64 : List VRes := [.tmp 2]
theorem G.bits_LeadingZeros64 : Gok F.bits_LeadingZeros64 Tryz.f244 C.bits_LeadingZeros64 R.bits_LeadingZeros64 6 := gk (Tryz.func244) Tryz.ntmps244
def C.div_up := cD (.seq (oP [oQ 4 (.mov (.c nil1))]) (.seq (oP [oM 8 0,oH 9 8,oK 10 .add 9 1,oQ 11 (.mk [.int .u64 0] 8 (.t 10) (.t 10)),oM 5 11]) (.seq (.seq (oP [oM 12 0,oH 13 12,oI 14 0]) (.block 0 (.loop (.seq (oP [oO 15 .lss 14 13]) (.seq (.cond (.t 15) .skip (.exit 0)) (.seq (.block 1 (.seq (oP [oM 16 14,oJ 17 1 12 14,oL 18 17,oM 6 16,oM 7 18]) (.seq (oP [oM 19 5,oM 20 6,oJ 21 1 19 20,oL 22 21,oM 23 7,oM 24 1,oO 25 .shl 23 24,oO 26 .or 22 25,oJ 27 1 19 20,oS 1 27 26]) (oP [oM 28 5,oM 29 6,oK 30 .add 29 1,oM 31 7,oQ 32 (.bin .shr false (.t 31) (.c (nv 1))),oM 33 1,oQ 34 (.bin .sub false (.c (nv 63)) (.t 33)),oO 35 .shr 32 34,oJ 36 1 28 30,oS 1 36 35])))) (oP [oK 37 .add 14 1,oM 14 37]))))))) (.seq (oP [oM 38 5,oM 4 38]) .ret))))
def R.div_up : List VRes := [.tmp 4]
theorem G.div_up : Gok F.div_up Tryz.f245 C.div_up R.div_up 39 := gk (Tryz.func245) Tryz.ntmps245
def C.div_guess := cD (.seq (oP [oN 4 0]) (.seq (oP [oM 24 1,oH 25 24,oM 5 25]) (.seq (oP [oN 6 0,oN 7 0]) (.seq (oP [oQ 8 (.mov (.c (bv false)))]) (.seq (.seq (oR [oM 26 0,oM 27 5,oJ 28 1 26 27,oL 29 28,oM 30 1,oM 31 5,oK 32 .sub 31 1,oJ 33 1 30 32,oL 34 33,oO 35 .geq 29 34]) (.cond (.t 35) (.seq (oP [oN 6 18446744073709551615]) (.seq (oP [oN 9 0]) (.seq (oR [oM 37 0,oM 38 5,oK 39 .sub 38 1,oJ 40 1 37 39,oL 41 40,oM 42 1,oM 43 5,oK 44 .sub 43 1,oJ 45 1 42 44,oL 46 45,oQ 47 (.ext64 false (.t 41) (.t 46) (.c (nv 0))),oM 36 47,oX 48 36 0,oX 49 36 1,oM 7 48,oM 9 49]) (oP [oM 50 9,oQ 51 (.bin .neq false (.t 50) (.c (nv 0))),oM 8 51])))) (oR [oM 53 0,oM 54 5,oJ 55 1 53 54,oL 56 55,oM 57 0,oM 58 5,oK 59 .sub 58 1,oJ 60 1 57 59,oL 61 60,oM 62 1,oM 63 5,oK 64 .sub 63 1,oJ 65 1 62 64,oL 66 65,oE 67 F.bits_Div64 56 61 66,oM 52 67,oX 68 52 0,oX 69 52 1,oM 6 68,oM 7 69]))) (.seq (.block 0 (.loop (.seq (.seq (oP [oM 70 8,oQ 71 (.un .not (.t 70))]) (.cond (.t 71) .skip (.exit 0))) (.block 1 (.seq (oP [oM 73 6,oM 74 1,oM 75 5,oK 76 .sub 75 2,oJ 77 1 74 76,oL 78 77,oD 79 F.bits_Mul64 73 78,oM 72 79,oX 80 72 0,oX 81 72 1,oM 10 80,oM 11 81]) (.seq (.seq (oP [oM 82 10,oM 83 7,oO 84 .lss 82 83,oM 85 84,oY 86 10 85 false,oY 87 7 85 false,⟨some 88, .bin .eql false (.t 86) (.t 87), some (85, false)⟩,oY 89 88 85 false,oY 90 11 89 true,oY 91 0 89 true,oY 92 5 89 true,⟨some 93, .bin .sub false (.t 92) (.c (iv 2)), some (89, true)⟩,⟨some 94, .ixa 1 (.t 91) (.t 93), some (89, true)⟩,⟨some 95, .load none (.t 94), some (89, true)⟩,⟨some 96, .bin .leq false (.t 90) (.t 95), some (89, true)⟩,⟨some 97, .pick (.t 89) (.t 96) (.c (bv false)), some (85, false)⟩,oQ 98 (.pick (.t 85) (.c (bv true)) (.t 97))]) (.cond (.t 98) (.exit 0) .skip)) (.seq (oP [oM 99 6,oQ 100 (.bin .sub false (.t 99) (.c (nv 1))),oM 6 100]) (.seq (oP [oN 12 0]) (.seq (oP [oM 102 7,oM 103 1,oM 104 5,oK 105 .sub 104 1,oJ 106 1 103 105,oL 107 106,oQ 108 (.ext64 false (.t 102) (.t 107) (.c (nv 0))),oM 101 108,oX 109 101 0,oX 110 101 1,oM 7 109,oM 12 110]) (.seq (oP [oM 111 12,oQ 112 (.bin .neq false (.t 111) (.c (nv 0)))]) (.cond (.t 112) (.exit 0) .skip))))))))))) (.seq (oP [oN 13 0,oN 14 0]) (.seq (.seq (oP [oM 113 1,oH 114 113,oI 115 0]) (.block 2 (.loop (.seq (oP [oO 116 .lss 115 114]) (.seq (.cond (.t 116) .skip (.exit 2)) (.seq (.block 3 (.seq (oP [oM 117 115,oJ 118 1 113 115,oL 119 118,oM 15 117,oM 16 119]) (.seq (oP [oM 121 16,oM 122 6,oD 123 F.bits_Mul64 121 122,oM 120 123,oX 124 120 0,oX 125 120 1,oM 17 124,oM 18 125]) (.seq (oP [oM 127 18,oM 128 13,oQ 129 (.ext64 false (.t 127) (.t 128) (.c (nv 0))),oM 126 129,oX 130 126 0,oX 131 126 1,oM 19 130,oM 20 131]) (.seq (oP [oM 132 17,oM 133 20,oO 134 .add 132 133,oM 13 134]) (oP [oM 136 0,oM 137 15,oM 138 0,oM 139 15,oJ 140 1 138 139,oL 141 140,oM 142 19,oM 143 14,oQ 144 (.ext64 true (.t 141) (.t 142) (.t 143)),oM 135 144,oX 145 135 0,oX 146 135 1,oJ 147 1 136 137,oS 1 147 145,oM 14 146])))))) (oP [oK 148 .add 115 1,oM 115 148]))))))) (.seq (oP [oM 150 0,oM 151 5,oM 152 0,oM 153 5,oJ 154 1 152 153,oL 155 154,oM 156 13,oM 157 14,oQ 158 (.ext64 true (.t 155) (.t 156) (.t 157)),oM 149 158,oX 159 149 0,oX 160 149 1,oJ 161 1 150 151,oS 1 161 159,oM 14 160]) (.seq (.seq (oP [oM 162 14,oQ 163 (.bin .neq false (.t 162) (.c (nv 0)))]) (.cond (.t 163) (.seq (oP [oM 164 6,oQ 165 (.bin .sub false (.t 164) (.c (nv 1))),oM 6 165]) (.seq (oP [oN 21 0]) (.seq (.seq (oP [oM 166 1,oH 167 166,oI 168 0]) (.block 4 (.loop (.seq (oP [oO 169 .lss 168 167]) (.seq (.cond (.t 169) .skip (.exit 4)) (.seq (.block 5 (.seq (oP [oM 170 168,oJ 171 1 166 168,oL 172 171,oM 22 170,oM 23 172]) (oP [oM 174 0,oM 175 22,oM 176 0,oM 177 22,oJ 178 1 176 177,oL 179 178,oM 180 23,oM 181 21,oQ 182 (.ext64 false (.t 179) (.t 180) (.t 181)),oM 173 182,oX 183 173 0,oX 184 173 1,oJ 185 1 174 175,oS 1 185 183,oM 21 184]))) (oP [oK 186 .add 168 1,oM 168 186]))))))) (oP [oM 187 0,oM 188 5,oJ 189 1 187 188,oL 190 189,oM 191 21,oO 192 .add 190 191,oJ 193 1 187 188,oS 1 193 192])))) .skip)) (.seq (oP [oM 194 6,
 oM 4 194]) .ret)))))))))))
def R.div_guess : List VRes := [.tmp 4]
theorem G.div_guess : Gok F.div_guess Tryz.f246 C.div_guess R.div_guess 195 := gk (Tryz.func246) Tryz.ntmps246
def C.div_down := cD (.seq (oP [oQ 4 (.mov (.c nil1))]) (.seq (oP [oM 8 0,oH 9 8,oQ 10 (.mk [.int .u64 0] 8 (.t 9) (.t 9)),oM 5 10]) (.seq (.seq (oP [oM 11 0,oH 12 11,oI 13 0]) (.block 0 (.loop (.seq (oP [oO 14 .lss 13 12]) (.seq (.cond (.t 14) .skip (.exit 0)) (.seq (.block 1 (.seq (oP [oM 15 13,oJ 16 1 11 13,oL 17 16,oM 6 15,oM 7 17]) (.seq (oP [oM 18 5,oM 19 6,oM 20 7,oM 21 1,oO 22 .shr 20 21,oJ 23 1 18 19,oS 1 23 22]) (.seq (oP [oM 24 6,oK 25 .add 24 1,oM 26 0,oH 27 26,oO 28 .lss 25 27]) (.cond (.t 28) (oR [oM 29 5,oM 30 6,oJ 31 1 29 30,oL 32 31,oM 33 0,oM 34 6,oK 35 .add 34 1,oJ 36 1 33 35,oL 37 36,oQ 38 (.bin .shl false (.t 37) (.c (nv 1))),oM 39 1,oQ 40 (.bin .sub false (.c (nv 63)) (.t 39)),oO 41 .shl 38 40,oO 42 .or 32 41,oJ 43 1 29 30,oS 1 43 42]) .skip))))) (oP [oK 44 .add 13 1,oM 13 44]))))))) (.seq (oP [oM 45 5,oC 46 F.nat_Norm 45,oM 4 46]) .ret))))
def R.div_down : List VRes := [.tmp 4]
theorem G.div_down : Gok F.div_down Tryz.f247 C.div_down R.div_down 47 := gk (Tryz.func247) Tryz.ntmps247
theorem hm : Tryz.prog.follows .mixedOrders = true := Tryz.checked.mixed
theorem two64 : 2 ≤ 18446744073709551616 := by decide

theorem getD_snoc (m : List Nat) (x : Nat) : (m ++ [x]).getD m.length 0 = x := by simp
theorem take_snoc' (m : List Nat) (x : Nat) : (m ++ [x]).take m.length = m := by simp

theorem trim_spec (t : Tok) (l : List Nat) (c : Nat) (hl : Lim 18446744073709551616 l) (hn : l.length ≤ 4398046511104) : VSpec Tryz.prog F.nat_trim c [nats t l] (fun r _ => r = nats t (digs 18446744073709551616 (val 18446744073709551616 l))) := by
 rw [← trim_digs two64 hl]
 refine sG hm G.nat_trim ?_
 unfold C.nat_trim R.nat_trim cD
 refine v_reg ?_
 simp only [vm, ite_true, ite_false, eq_self, reduceIte, Nat.reduceEqDiff, Option.map]
 refine vwp_seq (vwp_block (vwp_loop (fun n S => ∃ l', S.ρ 0 = nats t l' ∧ trimL l' = trimL l ∧ l'.length = n ∧ n ≤ l.length ∧ S.σ = noBlk ∧ S.c = c) l.length ⟨l, rfl, rfl, rfl, Nat.le_refl _, rfl, rfl⟩ ?_))
 rintro n ⟨ρ, σ, k⟩ ⟨l', h0, h1, h2, h3, rfl, rfl⟩
 dsimp only at h0
 refine vwp_seq (v_reg ?_)
 rcases snoc_cases l' with rfl | ⟨m, x, rfl⟩
 ·have e : ¬ (0 : Int) < ([] : List Nat).length := by simp
  simp only [vm, ite_true, ite_false, eq_self, reduceIte, Nat.reduceEqDiff, Option.map, h0, e]
  refine v_cond ?_
  simp only [vm, ite_true, ite_false, eq_self, reduceIte, Nat.reduceEqDiff, Option.map]
  refine vwp_exit ?_
  simp only [vm, ite_true, ite_false, eq_self, reduceIte, Nat.reduceEqDiff, Option.map]
  refine v_reg ?_
  simp only [vm, ite_true, ite_false, eq_self, reduceIte, Nat.reduceEqDiff, Option.map, h0]
  refine vwp_ret ?_
  simp only [vm, ite_true, ite_false, eq_self, reduceIte, Nat.reduceEqDiff, Option.map]
  exact ⟨Nat.le_refl _, by rw [← h1]; rfl⟩
 ·have e : (0 : Int) < (m ++ [x]).length := by simp
  have e1 : ((m ++ [x]).length - 1 : Int).toNat = m.length := by simp
  have e2 : (m ++ [x]).length = m.length + 1 := by simp
  simp only [vm, ite_true, ite_false, eq_self, reduceIte, Nat.reduceEqDiff, Option.map, h0, e, e1, getD_snoc]
  refine ⟨⟨by omega, by omega⟩, ⟨by omega, by omega⟩, by omega, v_cond ?_⟩
  simp only [vm, ite_true, ite_false, eq_self, reduceIte, Nat.reduceEqDiff, Option.map]
  refine ⟨fun g => vwp_skip ?_, fun g => vwp_exit ?_⟩
  ·simp only [vm, ite_true, ite_false, eq_self, reduceIte, Nat.reduceEqDiff, Option.map]
   refine vwp_block (v_last ?_)
   simp only [vm, ite_true, ite_false, eq_self, reduceIte, Nat.reduceEqDiff, Option.map, h0, e1, take_snoc']
   refine ⟨by omega, by omega, m.length, by omega, m, rfl, ?_, rfl, by omega⟩
   rw [← h1, g, trimL_zero]
  ·simp only [vm, ite_true, ite_false, eq_self, reduceIte, Nat.reduceEqDiff, Option.map]
   refine v_reg ?_
   simp only [vm, ite_true, ite_false, eq_self, reduceIte, Nat.reduceEqDiff, Option.map, h0]
   refine vwp_ret ?_
   simp only [vm, ite_true, ite_false, eq_self, reduceIte, Nat.reduceEqDiff, Option.map]
   exact ⟨Nat.le_refl _, by rw [← h1, trimL_pos _ _ g]⟩

def Tk (c c' : Nat) (t : Tok) : Prop := t = .nil ∨ ∃ i, t = .id i ∧ c ≤ i ∧ i < c'
theorem Tk.mono {c c' d d' : Nat} {t : Tok} (h : Tk c c' t) (h1 : d ≤ c) (h2 : c' ≤ d') : Tk d d' t := by
 rcases h with rfl | ⟨i, rfl, h3, h4⟩
 ·exact .inl rfl
 ·exact .inr ⟨i, rfl, by omega, by omega⟩
def NatR (c c' n : Nat) (v : V) : Prop := ∃ t, v = nats t (digs 18446744073709551616 n) ∧ Tk c c' t

theorem norm_spec (t : Tok) (l : List Nat) (c : Nat) (hl : Lim 18446744073709551616 l) (hn : l.length ≤ 4398046511104) : VSpec Tryz.prog F.nat_Norm c [nats t l] (fun r c' => NatR c c' (val 18446744073709551616 l) r) := by
 refine sG hm G.nat_Norm ?_
 unfold C.nat_Norm R.nat_Norm cD
 refine v_reg ?_
 simp only [vm, ite_true, ite_false, eq_self, reduceIte, Nat.reduceEqDiff, Option.map]
 refine v_reg ?_
 simp only [vm, ite_true, ite_false, eq_self, reduceIte, Nat.reduceEqDiff, Option.map]
 refine s_call (trim_spec t l c hl hn) (by simp only [vm, ite_true, ite_false, eq_self, reduceIte, Nat.reduceEqDiff, Option.map, List.map]) ?_
 rintro v c' hc rfl
 have hlen := digs_len_le two64 hl
 refine s_app0 (t := t) (l := digs 18446744073709551616 (val 18446744073709551616 l)) (by simp only [vm, ite_true, ite_false, eq_self, reduceIte, Nat.reduceEqDiff, Option.map]) (by simp only [vm, ite_true, ite_false, eq_self, reduceIte, Nat.reduceEqDiff, Option.map]) (by omega) (fun e => ?_) (fun e => ?_)
 ·simp only [vm, ite_true, ite_false, eq_self, reduceIte, Nat.reduceEqDiff, Option.map]
  refine vwp_ret ?_
  simp only [vm, ite_true, ite_false, eq_self, reduceIte, Nat.reduceEqDiff, Option.map]
  exact ⟨hc, .nil, by rw [e]; rfl, .inl rfl⟩
 ·simp only [vm, ite_true, ite_false, eq_self, reduceIte, Nat.reduceEqDiff, Option.map]
  refine v_freeze 2 (l := digs 18446744073709551616 (val 18446744073709551616 l)) rfl (by simp only [vm, ite_true, ite_false, eq_self, reduceIte, Nat.reduceEqDiff, Option.map]) hc (by omega) ?_
  refine vwp_ret ?_
  simp only [vm, ite_true, ite_false, eq_self, reduceIte, Nat.reduceEqDiff, Option.map, List.drop_zero, List.take_length]
  exact ⟨by omega, .id c', rfl, .inr ⟨c', rfl, hc, by omega⟩⟩

theorem from_spec (n c : Nat) (hn : n < 18446744073709551616) : VSpec Tryz.prog F.nat_From c [nv n] (fun r c' => NatR c c' n r) := by
 refine sG hm G.nat_From ?_
 unfold C.nat_From R.nat_From cD
 refine v_reg ?_
 simp only [vm, ite_true, ite_false, eq_self, reduceIte, Nat.reduceEqDiff, Option.map]
 refine vwp_seq (v_reg ?_)
 simp only [vm, ite_true, ite_false, eq_self, reduceIte, Nat.reduceEqDiff, Option.map]
 refine v_cond ?_
 simp only [vm, ite_true, ite_false, eq_self, reduceIte, Nat.reduceEqDiff, Option.map]
 refine ⟨fun g => v_reg ?_, fun g => vwp_skip ?_⟩
 ·simp only [vm, ite_true, ite_false, eq_self, reduceIte, Nat.reduceEqDiff, Option.map]
  refine vwp_ret ?_
  simp only [vm, ite_true, ite_false, eq_self, reduceIte, Nat.reduceEqDiff, Option.map]
  exact ⟨Nat.le_refl _, .nil, by subst g; rfl, .inl rfl⟩
 ·simp only [vm, ite_true, ite_false, eq_self, reduceIte, Nat.reduceEqDiff, Option.map]
  refine v_reg ?_
  simp only [vm, ite_true, ite_false, eq_self, reduceIte, Nat.reduceEqDiff, Option.map]
  refine s_bsl1 (n := n) (by simp only [vm, ite_true, ite_false, eq_self, reduceIte, Nat.reduceEqDiff, Option.map]) ?_
  simp only [vm, ite_true, ite_false, eq_self, reduceIte, Nat.reduceEqDiff, Option.map]
  refine vwp_ret ?_
  simp only [vm, ite_true, ite_false, eq_self, reduceIte, Nat.reduceEqDiff, Option.map]
  refine ⟨by omega, .id c, ?_, .inr ⟨c, rfl, by omega, by omega⟩⟩
  rw [digs_pos two64 (by omega), Nat.mod_eq_of_lt hn, Nat.div_eq_of_lt hn]; rfl

structure RowS (σ : Nat → Option Blk) (tL : Nat) (ds : List (Option (Nat × Nat))) : Prop where
 hd : σ tL = some ⟨ds.map rowOf, true⟩
 row : ∀ (i t n : Nat), ds[i]? = some (some (t, n)) → t ≠ tL ∧ n ≤ 4398046511200 ∧ ∃ cells, σ t = some ⟨cells, true⟩ ∧ n ≤ cells.length
 inj : ∀ (i j t n m : Nat), ds[i]? = some (some (t, n)) → ds[j]? = some (some (t, m)) → i = j
def Holds (σ : Nat → Option Blk) (d : Option (Nat × Nat)) (f : Nat → Nat) : Prop := ∀ t n, d = some (t, n) → ∃ cells, σ t = some ⟨cells, true⟩ ∧ ∀ k, k < n → cells[k]? = some (nv (f k))
theorem Holds.none {σ : Nat → Option Blk} {f : Nat → Nat} : Holds σ none f := fun t n h => by cases h
theorem Holds.congr {σ : Nat → Option Blk} {d : Option (Nat × Nat)} {f g : Nat → Nat} (h : Holds σ d f) (e : ∀ t n, d = some (t, n) → ∀ k, k < n → f k = g k) : Holds σ d g := fun t n hd => by
 obtain ⟨cells, h1, h2⟩ := h t n hd
 exact ⟨cells, h1, fun k hk => by rw [h2 k hk, e t n hd k hk]⟩
theorem Holds.put {σ : Nat → Option Blk} {d : Option (Nat × Nat)} {f : Nat → Nat} (h : Holds σ d f) {t : Nat} {b : Option Blk} (ht : ∀ n, d ≠ some (t, n)) : Holds (supd σ t b) d f := fun u n hd => by
 obtain ⟨cells, h1, h2⟩ := h u n hd
 refine ⟨cells, ?_, h2⟩
 rw [supd_app, if_neg (fun e => ht n (by rw [← e]; exact hd))]
 exact h1
theorem RowS.put {σ : Nat → Option Blk} {tL : Nat} {ds : List (Option (Nat × Nat))} (h : RowS σ tL ds) {t : Nat} {cells : List V} (ht : t ≠ tL) (hn : ∀ (i n : Nat), ds[i]? = some (some (t, n)) → n ≤ cells.length) : RowS (supd σ t (some ⟨cells, true⟩)) tL ds := by
 refine ⟨?_, fun i u n hi => ?_, h.inj⟩
 ·rw [supd_app, if_neg (Ne.symm ht)]; exact h.hd
 ·obtain ⟨h1, h2, cs, h3, h4⟩ := h.row i u n hi
  refine ⟨h1, h2, ?_⟩
  by_cases e : u = t
  ·subst e
   exact ⟨cells, supd_same _ _ _, hn i n hi⟩
  ·exact ⟨cs, by rw [supd_app, if_neg e]; exact h3, h4⟩
theorem RowS.len {σ : Nat → Option Blk} {tL : Nat} {ds : List (Option (Nat × Nat))} (h : RowS σ tL ds) {i : Nat} {d : Option (Nat × Nat)} (hi : ds[i]? = some d) : (ds.map rowOf)[i]? = some (rowOf d) := by
 rw [List.getElem?_map, hi]; rfl

section
variable {P : Program} {dr : Bool} {c0 : Nat} {ρ : Nat → V} {σ : Nat → Option Blk} {c i : Nat} {r : List VO} {K : VS → Prop}
end
theorem killed_buf {t u o n sz : Nat} {cp : Option Nat} (h : u ≠ t) : killV t (.buf u o n cp sz) = .buf u o n cp sz := by simp [killV, h]
theorem killσ_at {t : Nat} {σ : Nat → Option Blk} {u : Nat} {cs : List V} {b : Bool} (h : σ u = some ⟨cs, b⟩) : killσ t σ u = some ⟨cs.map (killV t), b⟩ := by simp [killσ, h]

theorem Holds.kill {σ : Nat → Option Blk} {d : Option (Nat × Nat)} {f : Nat → Nat} (h : Holds σ d f) (t : Nat) : Holds (killσ t σ) d f := fun u n hd => by
 obtain ⟨cells, h1, h2⟩ := h u n hd
 exact ⟨_, killσ_at h1, fun k hk => by rw [List.getElem?_map, h2 k hk]; rfl⟩

theorem set_get {ds : List (Option (Nat × Nat))} {i j : Nat} {d x : Option (Nat × Nat)} (h : (ds.set i x)[j]? = some d) : (j = i ∧ d = x) ∨ (j ≠ i ∧ ds[j]? = some d) := by
 rw [List.getElem?_set] at h
 split at h
 ·rename_i e
  split at h
  ·exact .inl ⟨e.symm, by cases h; rfl⟩
  ·cases h
 ·rename_i e; exact .inr ⟨fun q => e q.symm, h⟩

theorem RowS.grow {σ : Nat → Option Blk} {tL : Nat} {ds : List (Option (Nat × Nat))} (h : RowS σ tL ds) {i t m : Nat} (hi : ds[i]? = some (some (t, m))) {cs ys : List V} (hn : (m + 5 ≤ cs.length)) (hm2 : m + 5 ≤ 4398046511200) :
  RowS (supd (supd (killσ t σ) t (some ⟨cs, true⟩)) tL (some ⟨((ds.map rowOf).map (killV t)).set i (.buf t 0 (m + 5) none 1), true⟩)) tL (ds.set i (some (t, m + 5))) := by
 have hne := (h.row i t m hi).1
 have hil : i < ds.length := (List.getElem?_eq_some_iff.1 hi).1
 refine ⟨?_, fun j u n hj => ?_, fun j k u n n' hj hk => ?_⟩
 ·rw [supd_same]
  refine congrArg some (congrArg (fun l => (⟨l, true⟩ : Blk)) ?_)
  refine List.ext_getElem? fun j => ?_
  rw [List.map_set, List.getElem?_set, List.getElem?_set]
  simp only [List.length_map]
  by_cases e : i = j
  ·subst e; rw [if_pos rfl, if_pos rfl]; rfl
  ·rw [if_neg e, if_neg e, List.getElem?_map, List.getElem?_map]
   cases hj : ds[j]? with
   | none => rfl
   | some d =>
    cases d with
    | none => rfl
    | some q =>
     obtain ⟨u, n⟩ := q
     have : u ≠ t := by rintro rfl; exact e (h.inj i j u m n hi hj)
     simp only [Option.map, rowOf, killed_buf this]
 ·rcases set_get hj with ⟨rfl, e⟩ | ⟨e, hj2⟩
  ·cases e
   exact ⟨hne, hm2, cs, by rw [supd_ne _ _ _ _ hne, supd_same], hn⟩
  ·obtain ⟨q1, q2, cells, q3, q4⟩ := h.row j u n hj2
   have : u ≠ t := by rintro rfl; exact e (h.inj j i u n m hj2 hi)
   exact ⟨q1, q2, _, by rw [supd_ne _ _ _ _ q1, supd_ne _ _ _ _ this]; exact killσ_at q3, by simpa using q4⟩
 ·rcases set_get hj with ⟨rfl, e⟩ | ⟨e, hj2⟩ <;> rcases set_get hk with ⟨rfl, e'⟩ | ⟨e', hk2⟩
  ·rfl
  ·cases e; exact absurd (h.inj _ _ _ _ _ hk2 hi) e'
  ·cases e'; exact absurd (h.inj _ _ _ _ _ hj2 hi) e
  ·exact h.inj _ _ _ _ _ hj2 hk2
theorem RowS.fresh {σ : Nat → Option Blk} {tL : Nat} {ds : List (Option (Nat × Nat))} (h : RowS σ tL ds) {i t : Nat} (hi : ds[i]? = some none) {cs : List V} (hn : (5 ≤ cs.length)) (hd : ∀ u k, σ u = some k → u < t) :
  RowS (supd (supd σ t (some ⟨cs, true⟩)) tL (some ⟨(ds.map rowOf).set i (.buf t 0 5 none 1), true⟩)) tL (ds.set i (some (t, 5))) := by
 have hne : t ≠ tL := fun e => by have := hd tL _ h.hd; omega
 have hil : i < ds.length := (List.getElem?_eq_some_iff.1 hi).1
 have hnew : ∀ (j u n : Nat), ds[j]? = some (some (u, n)) → u ≠ t := fun j u n hj e => by
  obtain ⟨_, _, cells, q, _⟩ := h.row j u n hj
  have := hd u _ q
  omega
 refine ⟨?_, fun j u n hj => ?_, fun j k u n n' hj hk => ?_⟩
 ·rw [supd_same]
  refine congrArg some (congrArg (fun l => (⟨l, true⟩ : Blk)) ?_)
  rw [List.map_set]; rfl
 ·rcases set_get hj with ⟨rfl, e⟩ | ⟨e, hj2⟩
  ·cases e
   exact ⟨hne, by omega, cs, by rw [supd_ne _ _ _ _ hne, supd_same], hn⟩
  ·obtain ⟨q1, q2, cells, q3, q4⟩ := h.row j u n hj2
   exact ⟨q1, q2, cells, by rw [supd_ne _ _ _ _ q1, supd_ne _ _ _ _ (hnew j u n hj2)]; exact q3, q4⟩
 ·rcases set_get hj with ⟨rfl, e⟩ | ⟨e, hj2⟩ <;> rcases set_get hk with ⟨rfl, e'⟩ | ⟨e', hk2⟩
  ·rfl
  ·cases e; exact absurd rfl (hnew _ _ _ hk2)
  ·cases e'; exact absurd rfl (hnew _ _ _ hj2)
  ·exact h.inj _ _ _ _ _ hj2 hk2

def f1 (j : Nat) : Nat → Nat := fun _ => j % 251 + 1
def f2 (j m : Nat) : Nat → Nat := fun k => if k < m then j % 251 + 1 else 300 + 5 * j + (k - m)
def Dom (σ : Nat → Option Blk) (c : Nat) : Prop := ∀ t k, σ t = some k → t < c
theorem Dom.put {σ : Nat → Option Blk} {c : Nat} (h : Dom σ c) {t : Nat} {b : Option Blk} (ht : t < c) : Dom (supd σ t b) c := fun u k hk => by
 rw [supd_app] at hk
 split at hk
 ·rename_i e; rw [e]; exact ht
 ·exact h u k hk


theorem len64_spec (x c : Nat) (hx : x < 18446744073709551616) : VSpec Tryz.prog F.bits_Len64 c [nv x] (fun r _ => r = iv (bl x)) := by
 refine sG hm G.bits_Len64 ?_
 unfold C.bits_Len64 R.bits_Len64 cD
 refine v_reg ?_
 simp only [vm, ite_true, ite_false, eq_self, reduceIte, Nat.reduceEqDiff, Option.map]
 refine v_cut (fun S => ∃ n y : Nat, S.ρ 0 = nv y ∧ S.ρ 2 = iv n ∧ y < 4294967296 ∧ bl x = n + bl y ∧ n ≤ 32 ∧ S.σ = noBlk ∧ S.c = c) ?_ ?_
 ·refine v_reg ?_
  simp only [vm, ite_true, ite_false, eq_self, reduceIte, Nat.reduceEqDiff, Option.map]
  refine v_cond ?_
  simp only [vm, ite_true, ite_false, eq_self, reduceIte, Nat.reduceEqDiff, Option.map]
  refine ⟨fun g => v_reg ?_, fun g => vwp_skip ⟨rfl, 0, x, ?_⟩⟩
  ·simp only [vm, ite_true, ite_false, eq_self, reduceIte, Nat.reduceEqDiff, Option.map]
   refine v_last ?_
   simp only [vm, ite_true, ite_false, eq_self, reduceIte, Nat.reduceEqDiff, Option.map]
   exact ⟨32, x / 4294967296, rfl, rfl, by omega, bl_shift (k := 32) g, by omega⟩
  ·simp only [vm, ite_true, ite_false, eq_self, reduceIte, Nat.reduceEqDiff, Option.map]
   exact ⟨rfl, by omega, by omega⟩
 rintro ⟨ρ, σ, k⟩ ⟨n, y, h0, h2, hy, hb, hn, rfl, rfl⟩
 dsimp only at h0 h2
 refine v_cut (fun S => ∃ n y : Nat, S.ρ 0 = nv y ∧ S.ρ 2 = iv n ∧ y < 65536 ∧ bl x = n + bl y ∧ n ≤ 48 ∧ S.σ = noBlk ∧ S.c = k) ?_ ?_
 ·refine v_reg ?_
  simp only [vm, ite_true, ite_false, eq_self, reduceIte, Nat.reduceEqDiff, Option.map, h0, h2]
  refine v_cond ?_
  simp only [vm, ite_true, ite_false, eq_self, reduceIte, Nat.reduceEqDiff, Option.map]
  refine ⟨fun g => v_reg ?_, fun g => vwp_skip ⟨rfl, n, y, ?_⟩⟩
  ·simp only [vm, ite_true, ite_false, eq_self, reduceIte, Nat.reduceEqDiff, Option.map, h0, h2]
   refine v_last ?_
   simp only [vm, ite_true, ite_false, eq_self, reduceIte, Nat.reduceEqDiff, Option.map, h0, h2]
   refine ⟨by omega, n + 16, y / 65536, rfl, rfl, by omega, ?_, by omega⟩
   rw [hb, bl_shift (k := 16) g, Nat.add_assoc]
  ·simp only [vm, ite_true, ite_false, eq_self, reduceIte, Nat.reduceEqDiff, Option.map, h0, h2]
   exact ⟨by omega, hb, by omega⟩
 rintro ⟨ρ, σ, k⟩ ⟨n, y, h0, h2, hy, hb, hn, rfl, rfl⟩
 dsimp only at h0 h2
 refine v_cut (fun S => ∃ n y : Nat, S.ρ 0 = nv y ∧ S.ρ 2 = iv n ∧ y < 256 ∧ bl x = n + bl y ∧ n ≤ 56 ∧ S.σ = noBlk ∧ S.c = k) ?_ ?_
 ·refine v_reg ?_
  simp only [vm, ite_true, ite_false, eq_self, reduceIte, Nat.reduceEqDiff, Option.map, h0, h2]
  refine v_cond ?_
  simp only [vm, ite_true, ite_false, eq_self, reduceIte, Nat.reduceEqDiff, Option.map]
  refine ⟨fun g => v_reg ?_, fun g => vwp_skip ⟨rfl, n, y, ?_⟩⟩
  ·simp only [vm, ite_true, ite_false, eq_self, reduceIte, Nat.reduceEqDiff, Option.map, h0, h2]
   refine v_last ?_
   simp only [vm, ite_true, ite_false, eq_self, reduceIte, Nat.reduceEqDiff, Option.map, h0, h2]
   refine ⟨by omega, n + 8, y / 256, rfl, rfl, by omega, ?_, by omega⟩
   rw [hb, bl_shift (k := 8) g, Nat.add_assoc]
  ·simp only [vm, ite_true, ite_false, eq_self, reduceIte, Nat.reduceEqDiff, Option.map, h0, h2]
   exact ⟨by omega, hb, by omega⟩
 rintro ⟨ρ, σ, k⟩ ⟨n, y, h0, h2, hy, hb, hn, rfl, rfl⟩
 dsimp only at h0 h2
 have h8 : bl y ≤ 8 := bl_le hy
 refine v_reg ?_
 simp only [vm, ite_true, ite_false, eq_self, reduceIte, Nat.reduceEqDiff, Option.map, h0, h2, Nat.mod_eq_of_lt hy]
 rw [six_tab (blTab_at (by decide +kernel) hy)]
 simp only [vm, ite_true, ite_false, eq_self, reduceIte, Nat.reduceEqDiff, Option.map, h0, h2, c_8i (n := bl y) (by omega)]
 refine ⟨by omega, vwp_ret ?_⟩
 simp only [vm, ite_true, ite_false, eq_self, reduceIte, Nat.reduceEqDiff, Option.map]
 refine ⟨Nat.le_refl _, ?_⟩
 rw [hb]; rfl

theorem length_spec (t : Tok) (l : List Nat) (c : Nat) (hl : Lim 18446744073709551616 l) (hn : l.length ≤ 4398046511104) : VSpec Tryz.prog F.nat_Length c [nats t l] (fun r _ => r = iv (bl (val 18446744073709551616 l))) := by
 refine sG hm G.nat_Length ?_
 unfold C.nat_Length R.nat_Length cD
 refine v_reg ?_
 simp only [vm, ite_true, ite_false, eq_self, reduceIte, Nat.reduceEqDiff, Option.map]
 refine v_reg ?_
 simp only [vm, ite_true, ite_false, eq_self, reduceIte, Nat.reduceEqDiff, Option.map]
 refine s_call (trim_spec t l c hl hn) (by simp only [vm, ite_true, ite_false, eq_self, reduceIte, Nat.reduceEqDiff, Option.map, List.map]) ?_
 rintro v c' hc rfl
 have hlen := digs_len_le two64 hl
 simp only [vm, ite_true, ite_false, eq_self, reduceIte, Nat.reduceEqDiff, Option.map]
 refine vwp_seq (v_reg ?_)
 simp only [vm, ite_true, ite_false, eq_self, reduceIte, Nat.reduceEqDiff, Option.map]
 refine v_cond ?_
 simp only [vm, ite_true, ite_false, eq_self, reduceIte, Nat.reduceEqDiff, Option.map]
 refine ⟨fun g => v_reg ?_, fun g => vwp_skip ?_⟩
 ·simp only [vm, ite_true, ite_false, eq_self, reduceIte, Nat.reduceEqDiff, Option.map]
  refine vwp_ret ?_
  simp only [vm, ite_true, ite_false, eq_self, reduceIte, Nat.reduceEqDiff, Option.map]
  have e : digs 18446744073709551616 (val 18446744073709551616 l) = [] := List.eq_nil_of_length_eq_zero (by omega)
  rw [(digs_eq_nil two64).1 e]
  exact ⟨hc, rfl⟩
 ·simp only [vm, ite_true, ite_false, eq_self, reduceIte, Nat.reduceEqDiff, Option.map]
  obtain ⟨m, x, e⟩ := snoc_of_ne (l := digs 18446744073709551616 (val 18446744073709551616 l)) (fun e => g (by rw [e]; rfl))
  obtain ⟨h1, h2, h3⟩ := bl_digs64 e
  rw [e] at hlen ⊢
  have e1 : ((m ++ [x]).length - 1 : Int).toNat = m.length := by simp
  have e2 : (m ++ [x]).length = m.length + 1 := by simp
  refine v_reg ?_
  simp only [vm, ite_true, ite_false, eq_self, reduceIte, Nat.reduceEqDiff, Option.map, e1, getD_snoc]
  refine ⟨by omega, by omega, by omega, by omega, by omega, ?_⟩
  refine s_call (len64_spec x c' h2) (by simp only [vm, ite_true, ite_false, eq_self, reduceIte, Nat.reduceEqDiff, Option.map, List.map]) ?_
  rintro v c2 hc2 rfl
  have h8 : bl x ≤ 64 := bl_le h2
  simp only [vm, ite_true, ite_false, eq_self, reduceIte, Nat.reduceEqDiff, Option.map]
  refine ⟨by omega, vwp_ret ?_⟩
  simp only [vm, ite_true, ite_false, eq_self, reduceIte, Nat.reduceEqDiff, Option.map]
  refine ⟨by omega, ?_⟩
  congr 2
  omega

theorem lz64_spec (x c : Nat) (hx : x < 18446744073709551616) : VSpec Tryz.prog F.bits_LeadingZeros64 c [nv x] (fun r _ => r = iv (64 - bl x)) := by
 refine sG hm G.bits_LeadingZeros64 ?_
 unfold C.bits_LeadingZeros64 R.bits_LeadingZeros64 cD
 have h8 : bl x ≤ 64 := bl_le hx
 refine v_reg ?_
 simp only [vm, ite_true, ite_false, eq_self, reduceIte, Nat.reduceEqDiff, Option.map]
 refine v_reg ?_
 simp only [vm, ite_true, ite_false, eq_self, reduceIte, Nat.reduceEqDiff, Option.map]
 refine s_call (len64_spec x c hx) (by simp only [vm, ite_true, ite_false, eq_self, reduceIte, Nat.reduceEqDiff, Option.map, List.map]) ?_
 rintro v c2 hc2 rfl
 simp only [vm, ite_true, ite_false, eq_self, reduceIte, Nat.reduceEqDiff, Option.map]
 refine ⟨by omega, vwp_ret ?_⟩
 simp only [vm, ite_true, ite_false, eq_self, reduceIte, Nat.reduceEqDiff, Option.map]
 exact hc2

theorem mul64_spec (x y c : Nat) (hx : x < 18446744073709551616) (hy : y < 18446744073709551616) : VSpec Tryz.prog F.bits_Mul64 c [nv x, nv y] (fun r _ => r = .tup [nv (x * y / 18446744073709551616), nv (x * y % 18446744073709551616)]) := by
 refine sG hm G.bits_Mul64 ?_
 unfold C.bits_Mul64 R.bits_Mul64 cD
 obtain ⟨h1, h2, h3, h4⟩ := Go.Lib.mul64_hi x y hx hy
 have hb : x * y < 18446744073709551616 * 18446744073709551616 := Nat.mul_lt_mul'' hx hy
 have h5 : x / 4294967296 * (y / 4294967296) < 18446744073709551616 := by
  have := Go.Lib.half_mul_le (a := x / 4294967296) (b := y / 4294967296) (by omega) (by omega)
  omega
 have h6 : x / 4294967296 * (y % 4294967296) < 18446744073709551616 := by
  have := Go.Lib.half_mul_le (a := x / 4294967296) (b := y % 4294967296) (by omega) (by omega)
  omega
 have h7 : x % 4294967296 * (y / 4294967296) < 18446744073709551616 := by
  have := Go.Lib.half_mul_le (a := x % 4294967296) (b := y / 4294967296) (by omega) (by omega)
  omega
 refine v_reg ?_
 simp only [vm, ite_true, ite_false, eq_self, reduceIte, Nat.reduceEqDiff, Option.map]
 refine v_reg ?_
 simp only [vm, ite_true, ite_false, eq_self, reduceIte, Nat.reduceEqDiff, Option.map]
 refine v_reg ?_
 simp only [vm, ite_true, ite_false, eq_self, reduceIte, Nat.reduceEqDiff, Option.map]
 refine v_reg ?_
 simp only [vm, ite_true, ite_false, eq_self, reduceIte, Nat.reduceEqDiff, Option.map]
 refine v_reg ?_
 simp only [vm, ite_true, ite_false, eq_self, reduceIte, Nat.reduceEqDiff, Option.map]
 refine v_reg ?_
 simp only [vm, ite_true, ite_false, eq_self, reduceIte, Nat.reduceEqDiff, Option.map, Nat.mod_eq_of_lt h1]
 refine v_reg ?_
 simp only [vm, ite_true, ite_false, eq_self, reduceIte, Nat.reduceEqDiff, Option.map, Nat.mod_eq_of_lt h6, Nat.mod_eq_of_lt h2]
 refine v_reg ?_
 simp only [vm, ite_true, ite_false, eq_self, reduceIte, Nat.reduceEqDiff, Option.map]
 refine v_reg ?_
 simp only [vm, ite_true, ite_false, eq_self, reduceIte, Nat.reduceEqDiff, Option.map]
 refine v_reg ?_
 simp only [vm, ite_true, ite_false, eq_self, reduceIte, Nat.reduceEqDiff, Option.map, Nat.mod_eq_of_lt h7, Nat.mod_eq_of_lt h3]
 refine v_reg ?_
 simp only [vm, ite_true, ite_false, eq_self, reduceIte, Nat.reduceEqDiff, Option.map, Nat.mod_eq_of_lt h5]
 refine v_reg ?_
 simp only [vm, ite_true, ite_false, eq_self, reduceIte, Nat.reduceEqDiff, Option.map]
 refine vwp_ret ?_
 simp only [vm, ite_true, ite_false, eq_self, reduceIte, Nat.reduceEqDiff, Option.map]
 refine ⟨Nat.le_refl _, ?_⟩
 rw [Nat.mod_add_mod, h4, Nat.mod_eq_of_lt (by omega)]

theorem told_spec (t : Tok) (l : List Nat) (c : Nat) (hl : Lim 18446744073709551616 l) (hn : l.length ≤ 4398046511104) : VSpec Tryz.prog F.nat_told c [nats t l]
  (fun r _ => r = if bl (val 18446744073709551616 l) ≤ 67108864 then .tup [nats t (digs 18446744073709551616 (val 18446744073709551616 l)), iv 0] else .tup [nil1, iv 3]) := by
 refine sG hm G.nat_told ?_
 unfold C.nat_told R.nat_told cD
 have hlen := digs_len_le two64 hl
 refine v_reg ?_
 simp only [vm, ite_true, ite_false, eq_self, reduceIte, Nat.reduceEqDiff, Option.map]
 refine v_reg ?_
 simp only [vm, ite_true, ite_false, eq_self, reduceIte, Nat.reduceEqDiff, Option.map]
 refine s_call (trim_spec t l c hl hn) (by simp only [vm, ite_true, ite_false, eq_self, reduceIte, Nat.reduceEqDiff, Option.map, List.map]) ?_
 rintro v c' hc rfl
 simp only [vm, ite_true, ite_false, eq_self, reduceIte, Nat.reduceEqDiff, Option.map]
 refine vwp_seq (v_reg ?_)
 simp only [vm, ite_true, ite_false, eq_self, reduceIte, Nat.reduceEqDiff, Option.map]
 refine s_call (length_spec t (digs 18446744073709551616 (val 18446744073709551616 l)) c' (lim_digs two64 _) (by omega)) (by simp only [vm, ite_true, ite_false, eq_self, reduceIte, Nat.reduceEqDiff, Option.map, List.map]) ?_
 rintro v c2 hc2 rfl
 simp only [vm, ite_true, ite_false, eq_self, reduceIte, Nat.reduceEqDiff, Option.map, val_digs two64]
 refine v_cond ?_
 simp only [vm, ite_true, ite_false, eq_self, reduceIte, Nat.reduceEqDiff, Option.map]
 refine ⟨fun g => v_reg ?_, fun g => vwp_skip ?_⟩
 ·simp only [vm, ite_true, ite_false, eq_self, reduceIte, Nat.reduceEqDiff, Option.map]
  refine vwp_ret ?_
  simp only [vm, ite_true, ite_false, eq_self, reduceIte, Nat.reduceEqDiff, Option.map]
  exact ⟨by omega, by rw [if_neg (by omega)]⟩
 ·simp only [vm, ite_true, ite_false, eq_self, reduceIte, Nat.reduceEqDiff, Option.map]
  refine v_reg ?_
  simp only [vm, ite_true, ite_false, eq_self, reduceIte, Nat.reduceEqDiff, Option.map]
  refine vwp_ret ?_
  simp only [vm, ite_true, ite_false, eq_self, reduceIte, Nat.reduceEqDiff, Option.map]
  exact ⟨by omega, by rw [if_pos (by omega)]⟩

def cmpI (a b : Nat) : Int := if a < b then -1 else if a = b then 0 else 1

theorem compare_spec (t u : Tok) (a b : List Nat) (c : Nat) (ha : Lim 18446744073709551616 a) (hb : Lim 18446744073709551616 b) (hna : a.length ≤ 1099511627776) (hnb : b.length ≤ 1099511627776) : VSpec Tryz.prog F.nat_Compare c [nats t a, nats u b] (fun r _ => r = iv (cmpI (val 18446744073709551616 a) (val 18446744073709551616 b))) := by
 refine sG hm G.nat_Compare ?_
 unfold C.nat_Compare R.nat_Compare cD
 have hla := digs_len_le two64 ha
 have hlb := digs_len_le two64 hb
 have hda := lim_digs two64 (val 18446744073709551616 a)
 have hdb := lim_digs two64 (val 18446744073709551616 b)
 refine v_reg ?_
 simp only [vm, ite_true, ite_false, eq_self, reduceIte, Nat.reduceEqDiff, Option.map]
 refine v_reg ?_
 simp only [vm, ite_true, ite_false, eq_self, reduceIte, Nat.reduceEqDiff, Option.map]
 refine s_call (trim_spec t a c ha (by omega)) (by simp only [vm, ite_true, ite_false, eq_self, reduceIte, Nat.reduceEqDiff, Option.map, List.map]) ?_
 rintro v c' hc rfl
 simp only [vm, ite_true, ite_false, eq_self, reduceIte, Nat.reduceEqDiff, Option.map]
 refine s_call (trim_spec u b c' hb (by omega)) (by simp only [vm, ite_true, ite_false, eq_self, reduceIte, Nat.reduceEqDiff, Option.map, List.map]) ?_
 rintro v c2 hc2 rfl
 have va := val_digs two64 (val 18446744073709551616 a)
 have vb := val_digs two64 (val 18446744073709551616 b)
 have hlt := lt_of_len two64 (m := val 18446744073709551616 a) (n := val 18446744073709551616 b)
 have hgt := lt_of_len two64 (m := val 18446744073709551616 b) (n := val 18446744073709551616 a)
 generalize digs 18446744073709551616 (val 18446744073709551616 a) = x at *
 generalize digs 18446744073709551616 (val 18446744073709551616 b) = y at *
 generalize val 18446744073709551616 a = m at *
 generalize val 18446744073709551616 b = n at *
 simp only [vm, ite_true, ite_false, eq_self, reduceIte, Nat.reduceEqDiff, Option.map]
 refine vwp_seq (v_reg ?_)
 simp only [vm, ite_true, ite_false, eq_self, reduceIte, Nat.reduceEqDiff, Option.map]
 refine v_cond ?_
 simp only [vm, ite_true, ite_false, eq_self, reduceIte, Nat.reduceEqDiff, Option.map]
 refine ⟨fun g => vwp_seq (v_reg ?_), fun g => vwp_skip ?_⟩
 ·simp only [vm, ite_true, ite_false, eq_self, reduceIte, Nat.reduceEqDiff, Option.map]
  refine v_cond ?_
  simp only [vm, ite_true, ite_false, eq_self, reduceIte, Nat.reduceEqDiff, Option.map]
  refine ⟨fun g2 => v_reg ?_, fun g2 => vwp_skip ?_⟩
  ·simp only [vm, ite_true, ite_false, eq_self, reduceIte, Nat.reduceEqDiff, Option.map]
   refine vwp_ret ?_
   simp only [vm, ite_true, ite_false, eq_self, reduceIte, Nat.reduceEqDiff, Option.map]
   exact ⟨by omega, by rw [cmpI, if_pos (hlt (by omega))]⟩
  ·simp only [vm, ite_true, ite_false, eq_self, reduceIte, Nat.reduceEqDiff, Option.map]
   refine v_reg ?_
   simp only [vm, ite_true, ite_false, eq_self, reduceIte, Nat.reduceEqDiff, Option.map]
   refine vwp_ret ?_
   simp only [vm, ite_true, ite_false, eq_self, reduceIte, Nat.reduceEqDiff, Option.map]
   have := hgt (by omega)
   exact ⟨by omega, by rw [cmpI, if_neg (by omega), if_neg (by omega)]⟩
 ·simp only [vm, ite_true, ite_false, eq_self, reduceIte, Nat.reduceEqDiff, Option.map]
  have hxy : x.length = y.length := by omega
  refine vwp_seq (v_reg ?_)
  simp only [vm, ite_true, ite_false, eq_self, reduceIte, Nat.reduceEqDiff, Option.map]
  refine ⟨by omega, vwp_block (vwp_loop (fun k S => S.ρ 0 = nats t x ∧ S.ρ 1 = nats u y ∧ S.ρ 5 = iv ((k : Int) - 1) ∧ k ≤ x.length ∧ val 18446744073709551616 (x.drop k) = val 18446744073709551616 (y.drop k) ∧ S.σ = noBlk ∧ S.c = c2) x.length ⟨rfl, rfl, rfl, Nat.le_refl _, ?_, rfl, rfl⟩ ?_)⟩
  ·rw [List.drop_of_length_le (Nat.le_refl _), hxy, List.drop_of_length_le (Nat.le_refl _)]
  rintro k ⟨ρ, σ, c3⟩ ⟨h0, h1, h5, hk, hv, hσ, hc3⟩
  dsimp only at h0 h1 h5 hσ hc3
  subst hσ hc3
  refine xGF (jn h0 (jn h1 h5)) ?_
  refine xG ?_
  refine ⟨fun g3 => ?_, fun g3 => ?_⟩
  ·refine xG ?_
   obtain ⟨i, rfl⟩ : ∃ i, k = i + 1 := ⟨k - 1, by omega⟩
   have e1 : (((i + 1 : Nat) : Int) - 1).toNat = i := by omega
   refine xGF (jn h0 (jn h1 (jn h5 e1))) ?_
   refine ⟨by omega, by omega, by omega, by omega, ?_⟩
   refine xG ?_
   refine ⟨fun g4 => ?_, fun g4 => ?_⟩
   ·refine xG ?_
    refine xG ?_
    have := val_lt_of_top two64 hda hdb (i := i) (by omega) (by omega) hxy hv g4
    exact ⟨by omega, by rw [cmpI, if_pos (by omega)]⟩
   ·refine xG ?_
    refine xGF (jn h0 (jn h1 (jn h5 e1))) ?_
    refine ⟨by omega, by omega, by omega, by omega, ?_⟩
    refine xG ?_
    refine ⟨fun g5 => ?_, fun g5 => ?_⟩
    ·refine xG ?_
     refine xG ?_
     have := val_lt_of_top two64 hdb hda (i := i) (by omega) (by omega) hxy.symm hv.symm g5
     exact ⟨by omega, by rw [cmpI, if_neg (by omega), if_neg (by omega)]⟩
    ·refine xG ?_
     refine xGF (jn h0 (jn h1 h5)) ?_
     refine ⟨by omega, i, by omega, congrArg iv (by omega), by omega, ?_⟩
     rw [val_drop (l := x) (i := i) (by omega), val_drop (l := y) (i := i) (by omega), hv, show x.getD i 0 = y.getD i 0 by omega]
  ·refine xG ?_
   refine xG ?_
   refine xG ?_
   have hk0 : k = 0 := by omega
   subst hk0
   rw [List.drop_zero, List.drop_zero] at hv
   exact ⟨by omega, by rw [cmpI, if_neg (by omega), if_pos (by omega)]⟩

def Told (c c' n : Nat) (v : V) : Prop := (bl n ≤ 67108864 ∧ ∃ t, v = .tup [nats t (digs 18446744073709551616 n), iv 0] ∧ Tk c c' t) ∨ (67108864 < bl n ∧ v = .tup [nil1, iv 3])

theorem add_spec (t u : Tok) (a b : List Nat) (c : Nat) (ha : Lim 18446744073709551616 a) (hb : Lim 18446744073709551616 b) (hna : a.length ≤ 1099511627776) (hnb : b.length ≤ 1099511627776) :
  VSpec Tryz.prog F.nat_Add c [nats t a, nats u b] (fun r c' => Told c c' (val 18446744073709551616 a + val 18446744073709551616 b) r) := by
 refine sG hm G.nat_Add ?_
 unfold C.nat_Add R.nat_Add cD
 have hla := digs_len_le two64 ha
 have hlb := digs_len_le two64 hb
 have hda := lim_digs two64 (val 18446744073709551616 a)
 have hdb := lim_digs two64 (val 18446744073709551616 b)
 have va := val_digs two64 (val 18446744073709551616 a)
 have vb := val_digs two64 (val 18446744073709551616 b)
 refine xG ?_
 refine xG ?_
 refine s_call (trim_spec t a c ha (by omega)) yM ?_
 rintro v c' hc rfl
 refine xS ?_
 refine s_call (trim_spec u b c' hb (by omega)) yM ?_
 rintro v c2 hc2 rfl
 refine xS ?_
 refine v_cut (fun S => ∃ t u x y, S.ρ 0 = nats t x ∧ S.ρ 1 = nats u y ∧ S.ρ 4 = nil1 ∧ S.ρ 5 = iv 0 ∧ Lim 18446744073709551616 x ∧ Lim 18446744073709551616 y ∧ y.length ≤ x.length ∧ x.length ≤ 1099511627776 ∧ val 18446744073709551616 x + val 18446744073709551616 y = val 18446744073709551616 a + val 18446744073709551616 b ∧ S.σ = noBlk ∧ S.c = c2) ?_ ?_
 ·refine xG ?_
  refine xG ?_
  refine ⟨fun g => ?_, fun g => ?_⟩
  ·refine xG ?_
   exact ⟨u, t, _, _, rfl, rfl, hdb, hda, by omega, by omega, by omega⟩
  ·refine vwp_skip ?_
   refine xS ?_
   exact ⟨t, u, _, _, rfl, rfl, hda, hdb, by omega, by omega, by omega⟩
 rintro ⟨ρ, σ, c3⟩ ⟨t, u, x, y, h0, h1, h4, h5, hx, hy, hxy, hxn, hv, hσ, hc3⟩
 dsimp only at h0 h1 h4 h5 hσ hc3
 subst hσ hc3
 refine xGF (jn h0 h1) ?_
 refine ⟨by omega, ?_⟩
 refine s_mk (n := x.length + 1) (m := x.length + 1) ySr ySr (Nat.le_refl _) (by omega) ?_
 refine xS ?_
 refine xG ?_
 refine xGF (jn h0 h1) ?_
 (repeat (first | refine vwp_seq ?_ | refine vwp_block ?_))
 refine vwp_loop (fun k S => ∃ i w carry, k = x.length - i ∧ i ≤ x.length ∧ S.ρ 0 = nats t x ∧ S.ρ 1 = nats u y ∧ S.ρ 6 = .buf c3 0 (x.length + 1) (some (x.length + 1)) 1 ∧ S.ρ 7 = nv carry ∧ S.ρ 26 = iv x.length ∧ S.ρ 27 = iv i ∧ carry ≤ 1 ∧
  w.length = i ∧ Lim 18446744073709551616 w ∧ val 18446744073709551616 w + 18446744073709551616 ^ i * carry = val 18446744073709551616 (x.take i) + val 18446744073709551616 (y.take i) ∧ S.σ = supd noBlk c3 (nblk (w ++ List.replicate (x.length + 1 - i) 0)) ∧ S.c = c3 + 1) x.length ?_ ?_
 ·refine ⟨0, [], 0, rfl, Nat.zero_le _, ?_⟩
  refine xSF (jn h0 h1) ?_
  exact ⟨rfl, by omega, rfl, .nil, rfl, rfl⟩
 rintro k ⟨ρ2, σ, c4⟩ ⟨i, w, carry, hk, hi, h0, h1, h6, h7, h26, h27, hca, hw, hlw, hinv, hσ, hc4⟩
 dsimp only at h0 h1 h6 h7 h26 h27 hσ hc4
 subst hσ hc4
 refine xGF (jn h26 h27) ?_
 refine xG ?_
 refine ⟨fun g => ?_, fun g => ?_⟩
 ·have hi' : i < x.length := by omega
  have hlen : (w ++ List.replicate (x.length + 1 - i) 0).length = x.length + 1 := by simp; omega
  have hset : ∀ v, (w ++ List.replicate (x.length + 1 - i) 0).set i v = (w ++ [v]) ++ List.replicate (x.length + 1 - (i + 1)) 0 := fun v => by
   have := set_fill w (x.length - i) v
   rw [hw] at this
   rw [show x.length + 1 - i = x.length - i + 1 by omega, this, show x.length + 1 - (i + 1) = x.length - i by omega]
  have hxi := hx.getD (i := i) (by decide)
  have hyi := hy.getD (i := i) (by decide)
  have key := add_step (b := 18446744073709551616) (m := x.getD i 0 + y.getD i 0) hw hinv
  rw [Nat.mul_add] at key
  have hx' := val_take' 18446744073709551616 x i
  have hy' := val_take' 18446744073709551616 y i
  have hci : (x.getD i 0 + y.getD i 0 + carry) / 18446744073709551616 ≤ 1 := by omega
  refine xG ?_
  refine xGF (jn h0 (jn h1 (jn h6 (jn h7 (jn h26 h27))))) ?_
  refine xG ?_
  by_cases g2 : (i : Int) < (y.length : Int)
  ·refine xGF (jn h0 (jn h1 (jn h6 (jn h7 (jn h26 (jn h27 g2)))))) ?_
   refine xG ?_
   refine xGF (jn h0 (jn h1 (jn h6 (jn h7 (jn h26 (jn h27 g2)))))) ?_
   refine ⟨by omega, by omega, ?_⟩
   refine xGF (jn h0 (jn h1 (jn h6 (jn h7 (jn h26 (jn h27 (jn g2 (jn hlen hset)))))))) ?_
   (repeat refine And.intro (by omega) ?_)
   refine xGF (jn h0 (jn h1 (jn h6 (jn h7 (jn h26 (jn h27 (jn g2 (jn hlen hset)))))))) ?_
   refine ⟨by omega, x.length - (i + 1), by omega, i + 1, w ++ [(x.getD i 0 + y.getD i 0 + carry) % 18446744073709551616], (x.getD i 0 + y.getD i 0 + carry) / 18446744073709551616, ?_⟩
   (repeat' apply And.intro) <;> first | rfl | omega | assumption | (simp [hw]; done) | exact lim_snoc hlw (Nat.mod_lt _ (by decide)) | (rw [key, hx', hy']; omega)
  ·have hy0 : y.getD i 0 = 0 := getD_ge (by omega)
   refine xGF (jn h0 (jn h1 (jn h6 (jn h7 (jn h26 (jn h27 g2)))))) ?_
   refine xG ?_
   refine xG ?_
   refine xGF (jn h0 (jn h1 (jn h6 (jn h7 (jn h26 (jn h27 (jn g2 (jn hlen hset)))))))) ?_
   (repeat refine And.intro (by omega) ?_)
   refine xGF (jn h0 (jn h1 (jn h6 (jn h7 (jn h26 (jn h27 (jn g2 (jn hlen hset)))))))) ?_
   rw [hy0] at key hy' hci
   simp only [Nat.add_zero] at key hci
   refine ⟨by omega, x.length - (i + 1), by omega, i + 1, w ++ [(x.getD i 0 + carry) % 18446744073709551616], (x.getD i 0 + carry) / 18446744073709551616, ?_⟩
   (repeat' apply And.intro) <;> first | rfl | omega | assumption | (simp [hw]; done) | exact lim_snoc hlw (Nat.mod_lt _ (by decide)) | (rw [key, hx', hy']; omega)
 ·have hi' : i = x.length := by omega
  subst hi'
  have hset := set_fill w 0 carry
  rw [hw] at hset
  have hlen : (w ++ List.replicate (0 + 1) 0).length = x.length + 1 := by simp; omega
  rw [show x.length + 1 - x.length = 0 + 1 by omega] at *
  refine xG ?_
  refine xGF (jn h0 (jn h1 (jn h6 (jn h7 (jn h26 (jn h27 (jn hlen hset))))))) ?_
  refine ⟨by omega, by omega, ?_⟩
  have e0 : w ++ [carry] ++ List.replicate 0 0 = w ++ [carry] := by simp
  rw [e0]
  have hlz : Lim 18446744073709551616 (w ++ [carry]) := lim_snoc hlw (by omega)
  have hvz : val 18446744073709551616 (w ++ [carry]) = val 18446744073709551616 a + val 18446744073709551616 b := by
   rw [val_append, hw]
   simp only [val, Nat.mul_zero, Nat.add_zero]
   rw [hinv, List.take_length, val_take_all _ _ _ hxy, hv]
  have hnz : (w ++ [carry]).length = x.length + 1 := by simp; omega
  refine v_freeze 6 (t := c3) (off := 0) (n := x.length + 1) (cap := some (x.length + 1)) (l := w ++ [carry]) (ySF h6) yS (by omega) (by omega) ?_
  rw [List.drop_zero, show (w ++ [carry]).take (x.length + 1) = w ++ [carry] from List.take_of_length_le (by omega)]
  refine xG ?_
  refine s_call (told_spec (.id c3) (w ++ [carry]) (c3 + 1) hlz (by omega)) yM ?_
  rintro v c5 hc5 rfl
  rw [hvz]
  by_cases gb : bl (val 18446744073709551616 a + val 18446744073709551616 b) ≤ 67108864
  ·rw [if_pos gb]
   refine xS ?_
   refine xG ?_
   exact ⟨by omega, .inl ⟨gb, .id c3, rfl, .inr ⟨c3, rfl, by omega, by omega⟩⟩⟩
  ·rw [if_neg gb]
   refine xS ?_
   refine xG ?_
   exact ⟨by omega, .inr ⟨by omega, rfl⟩⟩

theorem sub_spec (t u : Tok) (a b : List Nat) (c : Nat) (ha : Lim 18446744073709551616 a) (hb : Lim 18446744073709551616 b) (hna : a.length ≤ 1099511627776) (hnb : b.length ≤ 1099511627776) :
  VSpec Tryz.prog F.nat_Sub c [nats t a, nats u b] (fun r c' => if val 18446744073709551616 a < val 18446744073709551616 b then r = .tup [nil1, iv 10] else Told c c' (val 18446744073709551616 a - val 18446744073709551616 b) r) := by
 refine sG hm G.nat_Sub ?_
 unfold C.nat_Sub R.nat_Sub cD
 have hla := digs_len_le two64 ha
 have hlb := digs_len_le two64 hb
 refine xG ?_
 refine xG ?_
 refine s_call (compare_spec t u a b c ha hb hna hnb) yM ?_
 rintro v c0 hc0 rfl
 refine xS ?_
 refine xG ?_
 have hcmp : cmpI (val 18446744073709551616 a) (val 18446744073709551616 b) < 0 ↔ val 18446744073709551616 a < val 18446744073709551616 b := by unfold cmpI; split <;> (try split) <;> omega
 refine ⟨fun g => ?_, fun g => ?_⟩
 ·rw [hcmp] at g
  refine xG ?_
  refine xG ?_
  exact ⟨hc0, by rw [if_pos g]; trivial⟩
 rw [hcmp] at g
 simp only [if_neg g]
 refine xG ?_
 refine xG ?_
 refine s_call (trim_spec t a c0 ha (by omega)) yM ?_
 rintro v c1 hc1 rfl
 refine xS ?_
 refine s_call (trim_spec u b c1 hb (by omega)) yM ?_
 rintro v c2 hc2 rfl
 have hx := lim_digs two64 (val 18446744073709551616 a)
 have hy := lim_digs two64 (val 18446744073709551616 b)
 have va := val_digs two64 (val 18446744073709551616 a)
 have vb := val_digs two64 (val 18446744073709551616 b)
 have hxy : (digs 18446744073709551616 (val 18446744073709551616 b)).length ≤ (digs 18446744073709551616 (val 18446744073709551616 a)).length := le_len two64 (by omega)
 generalize digs 18446744073709551616 (val 18446744073709551616 a) = x at *
 generalize digs 18446744073709551616 (val 18446744073709551616 b) = y at *
 refine xS ?_
 refine xG ?_
 refine s_mk (n := x.length) (m := x.length) yS yS (Nat.le_refl _) (by omega) ?_
 refine xS ?_
 refine xG ?_
 refine xG ?_
 (repeat (first | refine vwp_seq ?_ | refine vwp_block ?_))
 refine vwp_loop (fun k S => ∃ i w bo, k = x.length - i ∧ i ≤ x.length ∧ S.ρ 0 = nats t x ∧ S.ρ 1 = nats u y ∧ S.ρ 6 = .buf c2 0 x.length (some x.length) 1 ∧ S.ρ 7 = nv bo ∧ S.ρ 22 = iv x.length ∧ S.ρ 23 = iv i ∧ bo ≤ 1 ∧
  w.length = i ∧ Lim 18446744073709551616 w ∧ val 18446744073709551616 w + val 18446744073709551616 (y.take i) = val 18446744073709551616 (x.take i) + 18446744073709551616 ^ i * bo ∧ S.σ = supd noBlk c2 (nblk (w ++ List.replicate (x.length - i) 0)) ∧ S.c = c2 + 1) x.length ?_ ?_
 ·refine ⟨0, [], 0, rfl, Nat.zero_le _, ?_⟩
  refine xS ?_
  (repeat' apply And.intro) <;> first | rfl | omega | assumption | exact Lim.nil
 rintro k ⟨ρ2, σ, c4⟩ ⟨i, w, bo, hk, hi, h0, h1, h6, h7, h22, h23, hbo, hw, hlw, hinv, hσ, hc4⟩
 dsimp only at h0 h1 h6 h7 h22 h23 hσ hc4
 subst hσ hc4
 refine xGF (jn h22 h23) ?_
 refine xG ?_
 refine ⟨fun g => ?_, fun g => ?_⟩
 ·have hi' : i < x.length := by omega
  have hlen : (w ++ List.replicate (x.length - i) 0).length = x.length := by simp; omega
  have hset : ∀ v, (w ++ List.replicate (x.length - i) 0).set i v = (w ++ [v]) ++ List.replicate (x.length - (i + 1)) 0 := fun v => by
   have := set_fill w (x.length - (i + 1)) v
   rw [hw] at this
   rw [show x.length - i = x.length - (i + 1) + 1 by omega, this]
  have hxi := hx.getD (i := i) (by decide)
  have hyi := hy.getD (i := i) (by decide)
  have hx' := val_take' 18446744073709551616 x i
  have hy' := val_take' 18446744073709551616 y i
  have key := sub_step (b := 18446744073709551616) (c' := if x.getD i 0 < y.getD i 0 + bo then 1 else 0) (x := x.getD i 0) (y := y.getD i 0) (d := (x.getD i 0 + 18446744073709551616 - y.getD i 0 - bo) % 18446744073709551616) hw hinv (by split <;> omega)
  have hb1 : (if x.getD i 0 < y.getD i 0 + bo then 1 else 0) ≤ 1 := by split <;> omega
  rw [← hx', ← hy'] at key
  refine xG ?_
  refine xGF (jn h0 (jn h1 (jn h6 (jn h7 (jn h22 h23))))) ?_
  refine xG ?_
  by_cases g2 : (i : Int) < (y.length : Int)
  ·refine xGF (jn h0 (jn h1 (jn h6 (jn h7 (jn h22 (jn h23 g2)))))) ?_
   refine xG ?_
   refine xGF (jn h0 (jn h1 (jn h6 (jn h7 (jn h22 (jn h23 g2)))))) ?_
   (repeat refine And.intro (by omega) ?_)
   refine xGF (jn h0 (jn h1 (jn h6 (jn h7 (jn h22 (jn h23 (jn g2 (jn hlen hset)))))))) ?_
   (repeat refine And.intro (by omega) ?_)
   refine xGF (jn h0 (jn h1 (jn h6 (jn h7 (jn h22 (jn h23 (jn g2 (jn hlen hset)))))))) ?_
   refine ⟨by omega, x.length - (i + 1), by omega, i + 1, w ++ [(x.getD i 0 + 18446744073709551616 - y.getD i 0 - bo) % 18446744073709551616], if x.getD i 0 < y.getD i 0 + bo then 1 else 0, ?_⟩
   (repeat' apply And.intro) <;> first | rfl | omega | assumption | (simp [hw]; done) | exact lim_snoc hlw (Nat.mod_lt _ (by decide)) | exact key
  ·have hy0 : y.getD i 0 = 0 := getD_ge (by omega)
   rw [hy0] at key hb1
   refine xGF (jn h0 (jn h1 (jn h6 (jn h7 (jn h22 (jn h23 g2)))))) ?_
   refine xG ?_
   refine xG ?_
   refine xGF (jn h0 (jn h1 (jn h6 (jn h7 (jn h22 (jn h23 (jn g2 (jn hlen hset)))))))) ?_
   (repeat refine And.intro (by omega) ?_)
   refine xGF (jn h0 (jn h1 (jn h6 (jn h7 (jn h22 (jn h23 (jn g2 (jn hlen hset)))))))) ?_
   refine ⟨by omega, x.length - (i + 1), by omega, i + 1, w ++ [(x.getD i 0 + 18446744073709551616 - 0 - bo) % 18446744073709551616], if x.getD i 0 < 0 + bo then 1 else 0, ?_⟩
   simp only [Nat.zero_add] at key hb1 ⊢
   (repeat' apply And.intro) <;> first | rfl | omega | assumption | (simp [hw]; done) | exact lim_snoc hlw (Nat.mod_lt _ (by decide)) | exact key
 ·have hi' : i = x.length := by omega
  subst hi'
  have e0 : w ++ List.replicate (x.length - x.length) 0 = w := by simp
  rw [e0]
  rw [List.take_length, val_take_all _ _ _ hxy, va, vb] at hinv
  have hwl := val_lt hlw
  rw [hw] at hwl
  have hvz : val 18446744073709551616 w = val 18446744073709551616 a - val 18446744073709551616 b := by
   have hbb : bo = 0 ∨ bo = 1 := by omega
   rcases hbb with rfl | rfl <;> omega
  refine xG ?_
  refine v_freeze 6 (t := c2) (off := 0) (n := x.length) (cap := some x.length) (l := w) (ySF h6) yS (by omega) (by omega) ?_
  rw [List.drop_zero, show w.take x.length = w from List.take_of_length_le (by omega)]
  refine xG ?_
  refine s_call (told_spec (.id c2) w (c2 + 1) hlw (by omega)) yM ?_
  rintro v c5 hc5 rfl
  rw [hvz]
  by_cases gb : bl (val 18446744073709551616 a - val 18446744073709551616 b) ≤ 67108864
  ·rw [if_pos gb]
   refine xS ?_
   refine xG ?_
   exact ⟨by omega, .inl ⟨gb, .id c2, rfl, .inr ⟨c2, rfl, by omega, by omega⟩⟩⟩
  ·rw [if_neg gb]
   refine xS ?_
   refine xG ?_
   exact ⟨by omega, .inr ⟨by omega, rfl⟩⟩

theorem times_spec (t : Tok) (a : List Nat) (m c : Nat) (ha : Lim 18446744073709551616 a) (hml : m < 18446744073709551616) (hna : a.length ≤ 1099511627776) :
  VSpec Tryz.prog F.nat_Times c [nats t a, nv m] (fun r c' => Told c c' (val 18446744073709551616 a * m) r) := by
 refine sG hm G.nat_Times ?_
 unfold C.nat_Times R.nat_Times cD
 have hla := digs_len_le two64 ha
 refine xG ?_
 refine xG ?_
 refine s_call (trim_spec t a c ha (by omega)) yM ?_
 rintro v c2 hc2 rfl
 have hx := lim_digs two64 (val 18446744073709551616 a)
 have va := val_digs two64 (val 18446744073709551616 a)
 generalize digs 18446744073709551616 (val 18446744073709551616 a) = x at *
 refine xS ?_
 refine xG ?_
 refine ⟨by omega, ?_⟩
 refine s_mk (n := x.length + 1) (m := x.length + 1) ySr ySr (Nat.le_refl _) (by omega) ?_
 refine xS ?_
 refine xG ?_
 refine xG ?_
 (repeat (first | refine vwp_seq ?_ | refine vwp_block ?_))
 refine vwp_loop (fun k S => ∃ i w carry, k = x.length - i ∧ i ≤ x.length ∧ S.ρ 0 = nats t x ∧ S.ρ 1 = nv m ∧ S.ρ 20 = nats t x ∧ S.ρ 6 = .buf c2 0 (x.length + 1) (some (x.length + 1)) 1 ∧ S.ρ 7 = nv carry ∧ S.ρ 21 = iv x.length ∧ S.ρ 22 = iv i ∧ carry < 18446744073709551616 ∧
  w.length = i ∧ Lim 18446744073709551616 w ∧ val 18446744073709551616 w + 18446744073709551616 ^ i * carry = val 18446744073709551616 (x.take i) * m ∧ S.σ = supd noBlk c2 (nblk (w ++ List.replicate (x.length + 1 - i) 0)) ∧ c2 + 1 ≤ S.c) x.length ?_ ?_
 ·refine ⟨0, [], 0, rfl, Nat.zero_le _, ?_⟩
  refine xS ?_
  (repeat' apply And.intro) <;> first | rfl | omega | assumption | exact Lim.nil | (simp [val])
 rintro k ⟨ρ2, σ, c4⟩ ⟨i, w, carry, hk, hi, h0, h1, h20, h6, h7, h21, h22, hca, hw, hlw, hinv, hσ, hc4⟩
 dsimp only at h0 h1 h20 h6 h7 h21 h22 hσ hc4
 subst hσ
 refine xGF (jn h21 h22) ?_
 refine xG ?_
 refine ⟨fun g => ?_, fun g => ?_⟩
 ·have hi' : i < x.length := by omega
  have hlen : (w ++ List.replicate (x.length + 1 - i) 0).length = x.length + 1 := by simp; omega
  have hset : ∀ v, (w ++ List.replicate (x.length + 1 - i) 0).set i v = (w ++ [v]) ++ List.replicate (x.length + 1 - (i + 1)) 0 := fun v => by
   have := set_fill w (x.length - i) v
   rw [hw] at this
   rw [show x.length + 1 - i = x.length - i + 1 by omega, this, show x.length + 1 - (i + 1) = x.length - i by omega]
  have hxi := hx.getD (i := i) (by decide)
  have hx' := val_take' 18446744073709551616 x i
  have key := add_step (b := 18446744073709551616) (m := x.getD i 0 * m) hw hinv
  obtain ⟨e1, e2⟩ := mul_step (x.getD i 0) m carry
  have e3 := mul_step_lt hxi hml hca
  refine xG ?_
  refine xGF (jn h0 (jn h1 (jn h20 (jn h6 (jn h7 (jn h21 h22)))))) ?_
  (repeat refine And.intro (by omega) ?_)
  refine xG ?_
  refine s_call (mul64_spec (x.getD i 0) m c4 hxi hml) (yMF h1) ?_
  rintro v c5 hc5 rfl
  refine xSF (jn h0 (jn h1 (jn h20 (jn h6 (jn h7 (jn h21 h22)))))) ?_
  refine xGF (jn h0 (jn h1 (jn h20 (jn h6 (jn h7 (jn h21 h22)))))) ?_
  refine ⟨by omega, ?_⟩
  simp only [Nat.add_zero, e1]
  refine xGF (jn h0 (jn h1 (jn h20 (jn h6 (jn h7 (jn h21 (jn h22 (jn hlen hset)))))))) ?_
  (repeat refine And.intro (by omega) ?_)
  refine xGF (jn h0 (jn h1 (jn h20 (jn h6 (jn h7 (jn h21 (jn h22 (jn hlen hset)))))))) ?_
  rw [e2, Nat.mod_eq_of_lt e3]
  refine xGF h22 ?_
  refine ⟨by omega, x.length - (i + 1), by omega, i + 1, w ++ [(x.getD i 0 * m + carry) % 18446744073709551616], (x.getD i 0 * m + carry) / 18446744073709551616, ?_⟩
  (repeat' apply And.intro) <;> first | rfl | omega | assumption | (simp [hw]; done) | exact lim_snoc hlw (Nat.mod_lt _ (by decide)) | (rw [key, hx', Nat.add_mul, Nat.mul_assoc])
 ·have hi' : i = x.length := by omega
  subst hi'
  have hset := set_fill w 0 carry
  rw [hw] at hset
  have hlen : (w ++ List.replicate (0 + 1) 0).length = x.length + 1 := by simp; omega
  rw [show x.length + 1 - x.length = 0 + 1 by omega] at *
  refine xG ?_
  refine xGF (jn h0 (jn h1 (jn h6 (jn h7 (jn h21 (jn h22 (jn hlen hset))))))) ?_
  (repeat refine And.intro (by omega) ?_)
  have e0 : w ++ [carry] ++ List.replicate 0 0 = w ++ [carry] := by simp
  rw [e0]
  have hlz : Lim 18446744073709551616 (w ++ [carry]) := lim_snoc hlw (by omega)
  have hvz : val 18446744073709551616 (w ++ [carry]) = val 18446744073709551616 a * m := by
   rw [val_append, hw]
   simp only [val, Nat.mul_zero, Nat.add_zero]
   rw [hinv, List.take_length, va]
  have hnz : (w ++ [carry]).length = x.length + 1 := by simp; omega
  refine v_freeze 6 (t := c2) (off := 0) (n := x.length + 1) (cap := some (x.length + 1)) (l := w ++ [carry]) (ySF h6) yS (by omega) (by omega) ?_
  rw [List.drop_zero, show (w ++ [carry]).take (x.length + 1) = w ++ [carry] from List.take_of_length_le (by omega)]
  refine xG ?_
  refine s_call (told_spec (.id c2) (w ++ [carry]) c4 hlz (by omega)) yM ?_
  rintro v c5 hc5 rfl
  rw [hvz]
  by_cases gb : bl (val 18446744073709551616 a * m) ≤ 67108864
  ·rw [if_pos gb]
   refine xS ?_
   refine xG ?_
   exact ⟨by omega, .inl ⟨gb, .id c2, rfl, .inr ⟨c2, rfl, by omega, by omega⟩⟩⟩
  ·rw [if_neg gb]
   refine xS ?_
   refine xG ?_
   exact ⟨by omega, .inr ⟨by omega, rfl⟩⟩

theorem div64_spec (hi lo y c : Nat) (hlo : lo < 18446744073709551616) (hy : y < 18446744073709551616) (hiy : hi < y) : VSpec Tryz.prog F.bits_Div64 c [nv hi, nv lo, nv y] (fun r _ => r = .tup [nv ((hi * 18446744073709551616 + lo) / y), nv ((hi * 18446744073709551616 + lo) % y)]) := by
 refine sG hm G.bits_Div64 ?_
 unfold C.bits_Div64 R.bits_Div64 cD
 have y0 : 0 < y := by omega
 have e1 : ¬ y = 0 := by omega
 have e2 : ¬ y ≤ hi := by omega
 (repeat (first | refine v_reg ?_ | refine v_last ?_ | refine vwp_seq ?_ | refine vwp_block ?_ | refine vwp_skip ?_ | refine vwp_exit ?_ | refine vwp_ret ?_ | refine v_cond ?_ | simp only [vm, ite_true, ite_false, eq_self, reduceIte, Nat.reduceEqDiff, Option.map, e1, e2] | refine And.intro (by omega) ?_))
 refine ⟨fun g => ?_, fun g => ?_⟩
 ·(repeat (first | refine v_reg ?_ | refine v_last ?_ | refine vwp_seq ?_ | refine vwp_block ?_ | refine vwp_skip ?_ | refine vwp_exit ?_ | refine vwp_ret ?_ | refine v_cond ?_ | simp only [vm, ite_true, ite_false, eq_self, reduceIte, Nat.reduceEqDiff, Option.map, e1] | refine And.intro (by omega) ?_))
  subst g
  rw [Nat.zero_mul, Nat.zero_add, Nat.mod_eq_of_lt (Nat.lt_of_le_of_lt (Nat.div_le_self _ _) hlo)]
 (repeat (first | refine v_reg ?_ | refine v_last ?_ | refine vwp_seq ?_ | refine vwp_block ?_ | refine vwp_skip ?_ | refine vwp_exit ?_ | refine vwp_ret ?_ | refine v_cond ?_ | simp only [vm, ite_true, ite_false, eq_self, reduceIte, Nat.reduceEqDiff, Option.map] | refine And.intro (by omega) ?_))
 refine s_call (lz64_spec y c hy) (by simp only [vm, ite_true, ite_false, eq_self, reduceIte, Nat.reduceEqDiff, Option.map, List.map]) ?_
 rintro v c2 hc2 rfl
 have hbl : bl y ≤ 64 := bl_le hy
 have hbp := bl_pos y0
 obtain ⟨hv64, hv63⟩ := norm_shift y0 hy
 have es : ((64 : Int) - (bl y : Int)).toNat = 64 - bl y := by omega
 simp only [vm, ite_true, ite_false, eq_self, reduceIte, Nat.reduceEqDiff, Option.map, es]
 refine ⟨by omega, ?_⟩
 obtain ⟨hor, hN⟩ := shift_two (hi := hi) (lo := lo) (s := 64 - bl y) (by omega) hlo
 have hH := shift_lt (y := y) (by omega) hN
 generalize hsd : 64 - bl y = s at *
 have hmin : min s 64 = s := by omega
 have hs64 : (64 + (18446744073709551616 - s % 18446744073709551616)) % 18446744073709551616 = 64 - s := by omega
 have hmin2 : min (64 - s) 64 = 64 - s := by omega
 have hhs : hi * 2 ^ s < 18446744073709551616 := by
  refine Nat.lt_trans (Nat.mul_lt_mul_of_pos_right hiy (Nat.two_pow_pos s)) hv64
 have hos : lo / 2 ^ (64 - s) < 18446744073709551616 := Nat.lt_of_le_of_lt (Nat.div_le_self _ _) hlo
 (repeat (first | refine v_reg ?_ | refine v_last ?_ | refine vwp_seq ?_ | refine vwp_block ?_ | refine vwp_skip ?_ | refine vwp_exit ?_ | refine vwp_ret ?_ | refine v_cond ?_)); simp only [vm, ite_true, ite_false, eq_self, reduceIte, Nat.reduceEqDiff, Option.map, hmin, Nat.mod_eq_of_lt hv64]
 have hvd : 0 < y * 2 ^ s := by omega
 have hlast : ((hi * 18446744073709551616 + lo) * 2 ^ s) / (y * 2 ^ s) = (hi * 18446744073709551616 + lo) / y := Nat.mul_div_mul_right _ _ (Nat.two_pow_pos s)
 have hlastr : ((hi * 18446744073709551616 + lo) * 2 ^ s) % (y * 2 ^ s) = (hi * 18446744073709551616 + lo) % y * 2 ^ s := Nat.mul_mod_mul_right _ _ _
 rw [hN] at hlast hlastr
 have hHp : hi * 2 ^ s + lo / 2 ^ (64 - s) < 18446744073709551616 := Nat.lt_trans hH hv64
 (repeat (first | refine v_reg ?_ | refine v_last ?_ | refine vwp_seq ?_ | refine vwp_block ?_ | refine vwp_skip ?_ | refine vwp_exit ?_ | refine vwp_ret ?_ | refine v_cond ?_ | simp only [vm, ite_true, ite_false, eq_self, reduceIte, Nat.reduceEqDiff, Option.map, hmin, u_or, hs64, hmin2, Nat.mod_eq_of_lt hhs, Nat.mod_eq_of_lt hos, or_shift hor] | refine And.intro (by omega) ?_))
 generalize hi * 2 ^ s + lo / 2 ^ (64 - s) = H at *
 have hL := Nat.mod_lt (lo * 2 ^ s) (show 0 < 18446744073709551616 by decide)
 generalize lo * 2 ^ s % 18446744073709551616 = L at *
 generalize y * 2 ^ s = v at *
 have hv : v = v / 4294967296 * 4294967296 + v % 4294967296 := by omega
 have h1 : 2147483648 ≤ v / 4294967296 := by omega
 have h0 : v % 4294967296 < 4294967296 := by omega
 have h1b : v / 4294967296 < 4294967296 := by omega
 generalize v / 4294967296 = v1 at *
 generalize v % 4294967296 = v0 at *
 obtain ⟨k1, k2⟩ := kd_two (h := H) (l := L) hvd hL
 have hd1 : L / 4294967296 < 4294967296 := by omega
 have hd0 : L % 4294967296 < 4294967296 := by omega
 obtain ⟨l1, hl1⟩ : ∃ l1, L / 4294967296 = l1 := ⟨_, rfl⟩
 obtain ⟨l0, hl0⟩ : ∃ l0, L % 4294967296 = l0 := ⟨_, rfl⟩
 rw [hl1, hl0]
 rw [hl1] at hd1
 rw [hl0] at hd0
 rw [hl1, hl0] at k1 k2
 rw [hlast] at k1
 rw [hlastr] at k2
 clear hlast hlastr hN hl1 hl0
 have hfirst := kd_first hv h1 h0 hH
 have hdm := Nat.div_add_mod H v1
 rw [Nat.mul_comm] at hdm
 have hrm := Nat.mod_lt H (show 0 < v1 by omega)
 have hq0 : H / v1 % 18446744073709551616 = H / v1 := Nat.mod_eq_of_lt (Nat.lt_of_le_of_lt hfirst (by decide))
 rw [hq0, sub_mod64 (p := H / v1 * v1) (n := H) (by omega) hHp]
 have hQb := kd_lt (b := 4294967296) (by decide) hd1 hH
 have hrest := kd_rest (q := (H * 4294967296 + l1) / v) rfl hv64 hvd
 have hQ0 := kd_up (b := 4294967296) (n := H) (by decide) hd1 hv (by omega)
 obtain ⟨Q, hQd⟩ : ∃ Q, Q = (H * 4294967296 + l1) / v := ⟨_, rfl⟩
 rw [← hQd] at hQb hrest hQ0
 refine v_loop (fun S => S.ρ 2 = nv v ∧ S.ρ 8 = nv s ∧ S.ρ 9 = nv v1 ∧ S.ρ 10 = nv v0 ∧ S.ρ 11 = nv H ∧ S.ρ 13 = nv (l1) ∧ S.ρ 14 = nv (l0) ∧ S.ρ 15 = nv Q ∧ S.σ = noBlk ∧ S.c = c2) ?_ ?_
 ·refine vwp_loop (fun k S => ∃ q r, k = q ∧ q * v1 + r = H ∧ Q ≤ q ∧ r < 4294967296 ∧ q ≤ 4294967297 ∧ S.ρ 2 = nv v ∧ S.ρ 8 = nv s ∧ S.ρ 9 = nv v1 ∧ S.ρ 10 = nv v0 ∧ S.ρ 11 = nv H ∧ S.ρ 13 = nv (l1) ∧ S.ρ 14 = nv (l0) ∧ S.ρ 15 = nv q ∧ S.ρ 16 = nv r ∧ S.σ = noBlk ∧ S.c = c2) (H / v1) ?_ ?_
  ·refine ⟨H / v1, H - H / v1 * v1, rfl, ?_⟩
   simp only [vm, ite_true, ite_false, eq_self, reduceIte, Nat.reduceEqDiff, Option.map]
   exact yA
  rintro k ⟨ρ2, σ, c4⟩ ⟨q, r, hk, he, hQ, hr, hq, g2, g8, g9, g10, g11, g13, g14, g15, g16, hσ, hc4⟩
  dsimp only at g2 g8 g9 g10 g11 g13 g14 g15 g16 hσ hc4
  subst hσ hc4
  have hqv0 := kd_fit hq h0
  have hbr : 4294967296 * r < 18446744073709551616 := by omega
  have hbr2 : 4294967296 * r + l1 < 18446744073709551616 := by omega
  have hrv : r + v1 < 18446744073709551616 := by omega
  have hdec : 4294967296 ≤ q ∨ 4294967296 * r + l1 < q * v0 → Q < q := fun h => by
   have := kd_dec (by decide) hd1 hv (by omega) hH he h
   rw [← hQd] at this
   exact this
  have hend : ¬ 4294967296 ≤ q → ¬ 4294967296 * r + l1 < q * v0 → q = Q := fun h h' => by
   have := kd_le (u := l1) (b := 4294967296) (v0 := v0) (by decide) hv (by omega) he (by omega)
   rw [← hQd] at this
   omega
  have hnext : Q < q → 4294967296 ≤ r + v1 → q - 1 = Q := fun h h' => by
   have := kd_big (u := l1) (by decide) hv (by omega) h0 (kd_next (by omega) he) (by omega) h'
   rw [← hQd] at this
   omega
  have hstep : Q < q → (q - 1) * v1 + (r + v1) = H := fun h => kd_next (by omega) he
  by_cases gq : 4294967296 ≤ q
  ·have hd := hdec (.inl gq)
   (repeat (first | refine v_reg ?_ | refine v_last ?_ | refine vwp_seq ?_ | refine vwp_block ?_ | refine vwp_skip ?_ | refine vwp_exit ?_ | refine vwp_ret ?_ | refine v_cond ?_ | simp only [vm, ite_true, ite_false, eq_self, reduceIte, Nat.reduceEqDiff, Option.map, g2, g8, g9, g10, g11, g13, g14, g15, g16, gq, dec_mod64 (show 0 < q by omega) (by omega), Nat.mod_eq_of_lt hrv] | refine And.intro (by omega) ?_))
   refine ⟨fun gr => ?_, fun gr => ?_⟩
   ·have := hnext hd gr
    (repeat (first | refine v_reg ?_ | refine v_last ?_ | refine vwp_seq ?_ | refine vwp_block ?_ | refine vwp_skip ?_ | refine vwp_exit ?_ | refine vwp_ret ?_ | refine v_cond ?_ | simp only [vm, ite_true, ite_false, eq_self, reduceIte, Nat.reduceEqDiff, Option.map, g2, g8, g9, g10, g11, g13, g14, this] | refine And.intro (by omega) ?_))
   ·(repeat (first | refine v_reg ?_ | refine v_last ?_ | refine vwp_seq ?_ | refine vwp_block ?_ | refine vwp_skip ?_ | refine vwp_exit ?_ | refine vwp_ret ?_ | refine v_cond ?_ | simp only [vm, ite_true, ite_false, eq_self, reduceIte, Nat.reduceEqDiff, Option.map, g2, g8, g9, g10, g11, g13, g14] | refine And.intro (by omega) ?_))

    refine ⟨q - 1, by omega, q - 1, r + v1, ?_⟩
    have := hstep hd
    exact yA
  ·(repeat (first | refine v_reg ?_ | refine v_last ?_ | refine vwp_seq ?_ | refine vwp_block ?_ | refine vwp_skip ?_ | refine vwp_exit ?_ | refine vwp_ret ?_ | refine v_cond ?_ | simp only [vm, ite_true, ite_false, eq_self, reduceIte, Nat.reduceEqDiff, Option.map, g2, g8, g9, g10, g11, g13, g14, g15, g16, gq, Nat.mod_eq_of_lt hqv0, Nat.mod_eq_of_lt hbr, Nat.mod_eq_of_lt hbr2] | refine And.intro (by omega) ?_))
   refine ⟨fun g3 => ?_, fun g3 => ?_⟩
   ·have hd := hdec (.inr g3)
    (repeat (first | refine v_reg ?_ | refine v_last ?_ | refine vwp_seq ?_ | refine vwp_block ?_ | refine vwp_skip ?_ | refine vwp_exit ?_ | refine vwp_ret ?_ | refine v_cond ?_ | simp only [vm, ite_true, ite_false, eq_self, reduceIte, Nat.reduceEqDiff, Option.map, g2, g8, g9, g10, g11, g13, g14, g15, g16, gq, dec_mod64 (show 0 < q by omega) (by omega), Nat.mod_eq_of_lt hrv] | refine And.intro (by omega) ?_))
    refine ⟨fun gr => ?_, fun gr => ?_⟩
    ·have := hnext hd gr
     (repeat (first | refine v_reg ?_ | refine v_last ?_ | refine vwp_seq ?_ | refine vwp_block ?_ | refine vwp_skip ?_ | refine vwp_exit ?_ | refine vwp_ret ?_ | refine v_cond ?_ | simp only [vm, ite_true, ite_false, eq_self, reduceIte, Nat.reduceEqDiff, Option.map, g2, g8, g9, g10, g11, g13, g14, this] | refine And.intro (by omega) ?_))
    ·(repeat (first | refine v_reg ?_ | refine v_last ?_ | refine vwp_seq ?_ | refine vwp_block ?_ | refine vwp_skip ?_ | refine vwp_exit ?_ | refine vwp_ret ?_ | refine v_cond ?_ | simp only [vm, ite_true, ite_false, eq_self, reduceIte, Nat.reduceEqDiff, Option.map, g2, g8, g9, g10, g11, g13, g14] | refine And.intro (by omega) ?_))
     refine ⟨q - 1, by omega, q - 1, r + v1, ?_⟩
     have := hstep hd
     exact yA
   ·have := hend gq g3
    (repeat (first | refine v_reg ?_ | refine v_last ?_ | refine vwp_seq ?_ | refine vwp_block ?_ | refine vwp_skip ?_ | refine vwp_exit ?_ | refine vwp_ret ?_ | refine v_cond ?_ | simp only [vm, ite_true, ite_false, eq_self, reduceIte, Nat.reduceEqDiff, Option.map, g2, g8, g9, g10, g11, g13, g14, g15, this] | refine And.intro (by omega) ?_))
 rintro ⟨ρ2, σ, c4⟩ ⟨g2, g8, g9, g10, g11, g13, g14, g15, hσ, hc4⟩
 dsimp only at g2 g8 g9 g10 g11 g13 g14 g15 hσ hc4
 subst hσ hc4
 rw [← hQd] at k1
 have hR := Nat.mod_lt (H * 4294967296 + l1) hvd
 obtain ⟨R, hRd⟩ : ∃ R, R = (H * 4294967296 + l1) % v := ⟨_, rfl⟩
 rw [← hRd] at hrest k1 k2 hR
 (repeat (first | refine v_reg ?_ | refine v_last ?_ | refine vwp_seq ?_ | refine vwp_block ?_ | refine vwp_skip ?_ | refine vwp_exit ?_ | refine vwp_ret ?_ | refine v_cond ?_)); simp only [vm, ite_true, ite_false, eq_self, reduceIte, Nat.reduceEqDiff, Option.map, g2, g8, g9, g10, g11, g13, g14, g15, hrest]
 have hRp : R < 18446744073709551616 := Nat.lt_trans hR hv64
 have hfirst := kd_first hv h1 h0 hR
 have hdm := Nat.div_add_mod R v1
 rw [Nat.mul_comm] at hdm
 have hrm := Nat.mod_lt R (show 0 < v1 by omega)
 have hq0 : R / v1 % 18446744073709551616 = R / v1 := Nat.mod_eq_of_lt (Nat.lt_of_le_of_lt hfirst (by decide))
 have hne : ¬ v1 = 0 := by omega
 (repeat (first | refine v_reg ?_ | refine v_last ?_ | refine vwp_seq ?_ | refine vwp_block ?_ | refine vwp_skip ?_ | refine vwp_exit ?_ | refine vwp_ret ?_ | refine v_cond ?_ | simp only [vm, ite_true, ite_false, eq_self, reduceIte, Nat.reduceEqDiff, Option.map, g2, g8, g9, g10, g11, g13, g14, g15, ne_eq, hne, hq0, sub_mod64 (p := R / v1 * v1) (n := R) (by omega) hRp] | refine And.intro (by omega) ?_))
 have hTb := kd_lt (b := 4294967296) (by decide) hd0 hR
 have hrest2 := kd_rest (q := (R * 4294967296 + l0) / v) rfl hv64 hvd
 have hT0 := kd_up (b := 4294967296) (n := R) (by decide) hd0 hv (by omega)
 obtain ⟨T, hTd⟩ : ∃ T, T = (R * 4294967296 + l0) / v := ⟨_, rfl⟩
 rw [← hTd] at hTb hrest2 hT0 k1
 refine v_loop (fun S => S.ρ 2 = nv v ∧ S.ρ 8 = nv s ∧ S.ρ 14 = nv (l0) ∧ S.ρ 15 = nv Q ∧ S.ρ 17 = nv R ∧ S.ρ 18 = nv T ∧ S.σ = noBlk ∧ S.c = c4) ?_ ?_
 ·refine vwp_loop (fun k S => ∃ q r, k = q ∧ q * v1 + r = R ∧ T ≤ q ∧ r < 4294967296 ∧ q ≤ 4294967297 ∧ S.ρ 2 = nv v ∧ S.ρ 8 = nv s ∧ S.ρ 9 = nv v1 ∧ S.ρ 10 = nv v0 ∧ S.ρ 14 = nv (l0) ∧ S.ρ 15 = nv Q ∧ S.ρ 17 = nv R ∧ S.ρ 18 = nv q ∧ S.ρ 16 = nv r ∧ S.σ = noBlk ∧ S.c = c4) (R / v1) ?_ ?_
  ·refine ⟨R / v1, R - R / v1 * v1, rfl, ?_⟩
   simp only [vm, ite_true, ite_false, eq_self, reduceIte, Nat.reduceEqDiff, Option.map, g2, g8, g9, g10, g14, g15]
   exact yA
  rintro k ⟨ρ3, σ, c5⟩ ⟨q, r, hk, he, hQ, hr, hq, g2, g8, g9, g10, g14, g15, g17, g18, g16, hσ, hc5⟩
  dsimp only at g2 g8 g9 g10 g14 g15 g17 g18 g16 hσ hc5
  subst hσ hc5
  have hqv0 := kd_fit hq h0
  have hbr : 4294967296 * r < 18446744073709551616 := by omega
  have hbr2 : 4294967296 * r + l0 < 18446744073709551616 := by omega
  have hrv : r + v1 < 18446744073709551616 := by omega
  have hdec : 4294967296 ≤ q ∨ 4294967296 * r + l0 < q * v0 → T < q := fun h => by
   have := kd_dec (by decide) hd0 hv (by omega) hR he h
   rw [← hTd] at this
   exact this
  have hend : ¬ 4294967296 ≤ q → ¬ 4294967296 * r + l0 < q * v0 → q = T := fun h h' => by
   have := kd_le (u := l0) (b := 4294967296) (v0 := v0) (by decide) hv (by omega) he (by omega)
   rw [← hTd] at this
   omega
  have hnext : T < q → 4294967296 ≤ r + v1 → q - 1 = T := fun h h' => by
   have := kd_big (u := l0) (by decide) hv (by omega) h0 (kd_next (by omega) he) (by omega) h'
   rw [← hTd] at this
   omega
  have hstep : T < q → (q - 1) * v1 + (r + v1) = R := fun h => kd_next (by omega) he
  by_cases gq : 4294967296 ≤ q
  ·have hd := hdec (.inl gq)
   (repeat (first | refine v_reg ?_ | refine v_last ?_ | refine vwp_seq ?_ | refine vwp_block ?_ | refine vwp_skip ?_ | refine vwp_exit ?_ | refine vwp_ret ?_ | refine v_cond ?_ | simp only [vm, ite_true, ite_false, eq_self, reduceIte, Nat.reduceEqDiff, Option.map, g2, g8, g9, g10, g14, g15, g17, g18, g16, gq, dec_mod64 (show 0 < q by omega) (by omega), Nat.mod_eq_of_lt hrv] | refine And.intro (by omega) ?_))
   refine ⟨fun gr => ?_, fun gr => ?_⟩
   ·have := hnext hd gr
    (repeat (first | refine v_reg ?_ | refine v_last ?_ | refine vwp_seq ?_ | refine vwp_block ?_ | refine vwp_skip ?_ | refine vwp_exit ?_ | refine vwp_ret ?_ | refine v_cond ?_ | simp only [vm, ite_true, ite_false, eq_self, reduceIte, Nat.reduceEqDiff, Option.map, g2, g8, g9, g10, g14, g15, g17, this] | refine And.intro (by omega) ?_))
   ·(repeat (first | refine v_reg ?_ | refine v_last ?_ | refine vwp_seq ?_ | refine vwp_block ?_ | refine vwp_skip ?_ | refine vwp_exit ?_ | refine vwp_ret ?_ | refine v_cond ?_ | simp only [vm, ite_true, ite_false, eq_self, reduceIte, Nat.reduceEqDiff, Option.map, g2, g8, g9, g10, g14, g15, g17] | refine And.intro (by omega) ?_))
    refine ⟨q - 1, by omega, q - 1, r + v1, ?_⟩
    have := hstep hd
    exact yA
  ·(repeat (first | refine v_reg ?_ | refine v_last ?_ | refine vwp_seq ?_ | refine vwp_block ?_ | refine vwp_skip ?_ | refine vwp_exit ?_ | refine vwp_ret ?_ | refine v_cond ?_ | simp only [vm, ite_true, ite_false, eq_self, reduceIte, Nat.reduceEqDiff, Option.map, g2, g8, g9, g10, g14, g15, g17, g18, g16, gq, Nat.mod_eq_of_lt hqv0, Nat.mod_eq_of_lt hbr, Nat.mod_eq_of_lt hbr2] | refine And.intro (by omega) ?_))
   refine ⟨fun g3 => ?_, fun g3 => ?_⟩
   ·have hd := hdec (.inr g3)
    (repeat (first | refine v_reg ?_ | refine v_last ?_ | refine vwp_seq ?_ | refine vwp_block ?_ | refine vwp_skip ?_ | refine vwp_exit ?_ | refine vwp_ret ?_ | refine v_cond ?_ | simp only [vm, ite_true, ite_false, eq_self, reduceIte, Nat.reduceEqDiff, Option.map, g2, g8, g9, g10, g14, g15, g17, g18, g16, gq, dec_mod64 (show 0 < q by omega) (by omega), Nat.mod_eq_of_lt hrv] | refine And.intro (by omega) ?_))
    refine ⟨fun gr => ?_, fun gr => ?_⟩
    ·have := hnext hd gr
     (repeat (first | refine v_reg ?_ | refine v_last ?_ | refine vwp_seq ?_ | refine vwp_block ?_ | refine vwp_skip ?_ | refine vwp_exit ?_ | refine vwp_ret ?_ | refine v_cond ?_ | simp only [vm, ite_true, ite_false, eq_self, reduceIte, Nat.reduceEqDiff, Option.map, g2, g8, g9, g10, g14, g15, g17, this] | refine And.intro (by omega) ?_))
    ·(repeat (first | refine v_reg ?_ | refine v_last ?_ | refine vwp_seq ?_ | refine vwp_block ?_ | refine vwp_skip ?_ | refine vwp_exit ?_ | refine vwp_ret ?_ | refine v_cond ?_ | simp only [vm, ite_true, ite_false, eq_self, reduceIte, Nat.reduceEqDiff, Option.map, g2, g8, g9, g10, g14, g15, g17] | refine And.intro (by omega) ?_))
     refine ⟨q - 1, by omega, q - 1, r + v1, ?_⟩
     have := hstep hd
     exact yA
   ·have := hend gq g3
    (repeat (first | refine v_reg ?_ | refine v_last ?_ | refine vwp_seq ?_ | refine vwp_block ?_ | refine vwp_skip ?_ | refine vwp_exit ?_ | refine vwp_ret ?_ | refine v_cond ?_ | simp only [vm, ite_true, ite_false, eq_self, reduceIte, Nat.reduceEqDiff, Option.map, g2, g8, g9, g10, g14, g15, g17, g18, this] | refine And.intro (by omega) ?_))
 rintro ⟨ρ3, σ, c5⟩ ⟨g2, g8, g14, g15, g17, g18, hσ, hc5⟩
 dsimp only at g2 g8 g14 g15 g17 g18 hσ hc5
 subst hσ hc5
 obtain ⟨hQT, hQT2⟩ := two_lt hQb hTb
 (repeat (first | refine v_reg ?_ | refine v_last ?_ | refine vwp_seq ?_ | refine vwp_block ?_ | refine vwp_skip ?_ | refine vwp_exit ?_ | refine vwp_ret ?_ | refine v_cond ?_ | simp only [vm, ite_true, ite_false, eq_self, reduceIte, Nat.reduceEqDiff, Option.map, g2, g8, g14, g15, g17, g18, hmin, hrest2, Nat.mod_eq_of_lt hQT2, Nat.mod_eq_of_lt hQT] | refine And.intro (by omega) ?_))
 rw [k1, k2, Nat.mul_div_cancel _ (Nat.two_pow_pos s)]

theorem through_spec (t : Tok) (a : List Nat) (d c : Nat) (ha : Lim 18446744073709551616 a) (hd : d < 18446744073709551616) (hna : a.length ≤ 1099511627776) :
  VSpec Tryz.prog F.nat_Through c [nats t a, nv d] (fun r c' => (d = 0 → r = .tup [nil1, nv 0, iv 1]) ∧ (0 < d → bl (val 18446744073709551616 a / d) ≤ 67108864 → ∃ t, r = .tup [nats t (digs 18446744073709551616 (val 18446744073709551616 a / d)), nv (val 18446744073709551616 a % d), iv 0] ∧ Tk c c' t) ∧ (0 < d → 67108864 < bl (val 18446744073709551616 a / d) → r = .tup [nil1, nv 0, iv 3])) := by
 refine sG hm G.nat_Through ?_
 unfold C.nat_Through R.nat_Through cD
 have hla := digs_len_le two64 ha
 by_cases hd0 : d = 0
 ·refine xRF hd0 ?_
  exact ⟨fun _ => trivial, fun h => absurd h (by omega), fun h => absurd h (by omega)⟩
 refine xRF hd0 ?_
 refine s_call (trim_spec t a c ha (by omega)) yM ?_
 rintro v c2 hc2 rfl
 have hx := lim_digs two64 (val 18446744073709551616 a)
 have va := val_digs two64 (val 18446744073709551616 a)
 generalize digs 18446744073709551616 (val 18446744073709551616 a) = x at *
 refine xR ?_
 refine s_mk (n := x.length) (m := x.length) yS yS (Nat.le_refl _) (by omega) ?_
 refine xR ?_
 refine v_loop (fun S => ∃ w, w.length = x.length ∧ Lim 18446744073709551616 w ∧ val 18446744073709551616 w = val 18446744073709551616 x / d ∧ S.ρ 7 = .buf c2 0 x.length (some x.length) 1 ∧ S.ρ 8 = nv (val 18446744073709551616 x % d) ∧ S.σ = supd noBlk c2 (nblk w) ∧ c2 + 1 ≤ S.c) ?_ ?_
 ·refine vwp_loop (fun k S => ∃ w rest, k ≤ x.length ∧ w.length = x.length - k ∧ Lim 18446744073709551616 w ∧ val 18446744073709551616 w * d + rest = val 18446744073709551616 (x.drop k) ∧ rest < d ∧ S.ρ 0 = nats t x ∧ S.ρ 1 = nv d ∧ S.ρ 7 = .buf c2 0 x.length (some x.length) 1 ∧ S.ρ 8 = nv rest ∧ S.ρ 9 = iv ((k : Int) - 1) ∧ S.σ = supd noBlk c2 (nblk (List.replicate k 0 ++ w)) ∧ c2 + 1 ≤ S.c) x.length ?_ ?_
  ·refine ⟨[], 0, Nat.le_refl _, ?_⟩
   simp only [vm, ite_true, ite_false, eq_self, reduceIte, Nat.reduceEqDiff, Option.map, List.drop_length]
   (repeat' apply And.intro) <;> first | rfl | omega | assumption | exact Lim.nil | (simp [val]; done)
  rintro k ⟨ρ2, σ, c4⟩ ⟨w, rest, hk, hw, hlw, hinv, hr, h0, h1, h7, h8, h9, hσ, hc4⟩
  dsimp only at h0 h1 h7 h8 h9 hσ hc4
  subst hσ
  rcases Nat.eq_zero_or_pos k with rfl | hkp
  ·have g : ¬ (0 : Int) ≤ ((0 : Nat) : Int) - 1 := by omega
   refine xRF (jn h9 g) ?_
   obtain ⟨e1, e2⟩ := div_mod_of hinv hr
   rw [List.drop_zero] at e1 e2
   refine ⟨w, ?_⟩
   rw [e1, e2]
   exact yA
  ·obtain ⟨i, rfl⟩ : ∃ i, k = i + 1 := ⟨k - 1, by omega⟩
   have e1 : (((i + 1 : Nat) : Int) - 1).toNat = i := by omega
   have g : (0 : Int) ≤ ((i + 1 : Nat) : Int) - 1 := by omega
   have hset : ∀ v, (List.replicate (i + 1) 0 ++ w).set i v = List.replicate i 0 ++ (v :: w) := fun v => set_top w i v
   have hlen : (List.replicate (i + 1) 0 ++ w).length = x.length := by simp; omega
   have hxi := hx.getD (i := i) (by decide)
   have hq := dig_lt hr hxi
   have hdm := Nat.div_add_mod (rest * 18446744073709551616 + x.getD i 0) d
   have hrm := Nat.mod_lt (rest * 18446744073709551616 + x.getD i 0) (show 0 < d by omega)
   obtain ⟨q, hqd⟩ : ∃ q, q = (rest * 18446744073709551616 + x.getD i 0) / d := ⟨_, rfl⟩
   obtain ⟨r, hrd⟩ : ∃ r, r = (rest * 18446744073709551616 + x.getD i 0) % d := ⟨_, rfl⟩
   rw [← hqd, ← hrd, Nat.mul_comm] at hdm
   rw [← hqd] at hq
   rw [← hrd] at hrm
   have key := thr_step hinv hdm
   rw [← val_drop (l := x) (i := i) (by omega)] at key
   refine xRF (jn h0 (jn h1 (jn h7 (jn h8 (jn h9 (jn g e1)))))) ?_
   refine s_call (div64_spec rest (x.getD i 0) d c4 hxi hd hr) (yMF (jn h0 (jn h1 (jn h7 (jn h8 h9))))) ?_
   rintro v c5 hc5 rfl
   rw [← hqd, ← hrd]
   refine xRF (jn h0 (jn h1 (jn h7 (jn h8 (jn h9 (jn hset (jn hlen e1))))))) ?_
   refine ⟨i, by omega, q :: w, r, ?_⟩
   refine xSF (jn hset e1) ?_
   (repeat' apply And.intro) <;> first | rfl | omega | assumption | (simp [hw]; omega) | (simp only [e1, hset]; done) | exact Lim.cons hq hlw | exact key | exact congrArg iv (by omega)
 rintro ⟨ρ3, σ, c5⟩ ⟨w, hw, hlw, hvw, h7, h8, hσ, hc5⟩
 dsimp only at h7 h8 hσ hc5
 subst hσ
 refine v_freeze 7 (t := c2) (off := 0) (n := x.length) (cap := some x.length) (l := w) (ySF h7) yS (by omega) (by omega) ?_
 rw [List.drop_zero, show w.take x.length = w from List.take_of_length_le (by omega)]
 refine xRF h8 ?_
 refine s_call (told_spec (.id c2) w c5 hlw (by omega)) yM ?_
 rintro v c6 hc6 rfl
 rw [hvw, va]
 rw [va] at h8
 by_cases gb : bl (val 18446744073709551616 a / d) ≤ 67108864
 ·rw [if_pos gb]
  refine xRF h8 ?_
  exact ⟨fun h => h.elim, fun _ _ => ⟨_, rfl, .inr ⟨c2, rfl, by omega, by omega⟩⟩, fun _ h => absurd h (by omega)⟩
 ·have g3 : ¬ (3 : Int) = 0 := by omega
  rw [if_neg gb]
  refine xRF (jn h8 g3) ?_
  exact ⟨fun h => h.elim, fun _ h => absurd h gb, fun _ _ => trivial⟩

theorem left_spec (t : Tok) (a : List Nat) (n c : Nat) (ha : Lim 18446744073709551616 a) (hn : n ≤ 1099511627776) (hna : a.length ≤ 1099511627776) :
  VSpec Tryz.prog F.nat_Left c [nats t a, iv n] (fun r c' => Told c c' (val 18446744073709551616 a * 2 ^ n) r) := by
 refine sG hm G.nat_Left ?_
 unfold C.nat_Left R.nat_Left cD
 have hla := digs_len_le two64 ha
 have g1 : ¬ (n : Int) < 0 := by omega
 have g2 : ¬ (1099511627776 : Int) < n := by omega
 refine xRF (jn g1 g2) ?_
 refine s_call (trim_spec t a c ha (by omega)) yM ?_
 rintro v c2 hc2 rfl
 have hx := lim_digs two64 (val 18446744073709551616 a)
 have va := val_digs two64 (val 18446744073709551616 a)
 have hz := digs_eq_nil two64 (n := val 18446744073709551616 a)
 generalize digs 18446744073709551616 (val 18446744073709551616 a) = x at *
 by_cases hx0 : x = []
 ·have g3 : (x.length : Int) = 0 := by rw [hx0]; rfl
  refine xRF (jn g1 (jn g2 g3)) ?_
  have := hz.1 hx0
  rw [this, Nat.zero_mul]
  exact .inl ⟨by decide, .nil, rfl, .inl rfl⟩
 have hpos : 0 < val 18446744073709551616 a := by
  rcases Nat.eq_zero_or_pos (val 18446744073709551616 a) with h | h
  ·exact absurd (hz.2 h) hx0
  ·exact h
 have hxl : 0 < x.length := List.length_pos_iff.2 hx0
 have g3 : ¬ (x.length : Int) = 0 := by omega
 refine xRF (jn g1 (jn g2 g3)) ?_
 refine s_call (length_spec t x c2 hx (by omega)) yM ?_
 rintro v c3 hc3 rfl
 rw [va]
 have hbl : bl (val 18446744073709551616 a) ≤ 64 * x.length := by
  refine bl_le ?_
  have := val_lt hx
  rw [va, pow64] at this
  exact this
 have hmul := bl_mul_pow (n := n) hpos
 by_cases g4 : (67108864 : Int) < (bl (val 18446744073709551616 a) : Int) + n
 ·refine xRF g4 ?_
  exact .inr ⟨by omega, rfl⟩
 have hns : ((n : Int) % 64).toNat = n % 64 := by omega
 have hnw : (n : Int) / 64 = ((n / 64 : Nat) : Int) := by omega
 refine xRF (jn g4 (jn hns hnw)) ?_
 refine s_mk (n := n / 64 + x.length + 1) (m := n / 64 + x.length + 1) ySr ySr (Nat.le_refl _) (by omega) ?_
 have hs : n % 64 < 64 := Nat.mod_lt _ (by decide)
 have hpow : val 18446744073709551616 x * 2 ^ n = 18446744073709551616 ^ (n / 64) * (val 18446744073709551616 x * 2 ^ (n % 64)) := by
  rw [pow64, Nat.mul_left_comm, ← Nat.pow_add, show 64 * (n / 64) + n % 64 = n by omega]
 generalize n / 64 = wd at *
 generalize n % 64 = s at *
 refine xR ?_
 refine v_loop (fun S => ∃ w, w.length = wd + x.length + 1 ∧ Lim 18446744073709551616 w ∧ val 18446744073709551616 w = val 18446744073709551616 x * 2 ^ n ∧ S.ρ 8 = .buf c3 0 (wd + x.length + 1) (some (wd + x.length + 1)) 1 ∧ S.σ = supd noBlk c3 (nblk w) ∧ c3 + 1 ≤ S.c) ?_ ?_
 ·refine vwp_loop (fun k S => ∃ i w top, k = x.length - i ∧ i ≤ x.length ∧ w.length = i ∧ Lim 18446744073709551616 w ∧ top < 2 ^ s ∧ val 18446744073709551616 (w ++ [top]) = val 18446744073709551616 (x.take i) * 2 ^ s ∧ S.ρ 38 = nats t x ∧ S.ρ 6 = iv wd ∧ S.ρ 7 = nv s ∧ S.ρ 39 = iv x.length ∧ S.ρ 40 = iv i ∧ S.ρ 8 = .buf c3 0 (wd + x.length + 1) (some (wd + x.length + 1)) 1 ∧ S.σ = supd noBlk c3 (nblk ((List.replicate wd 0 ++ w) ++ top :: List.replicate (x.length - i) 0)) ∧ c3 + 1 ≤ S.c) x.length ?_ ?_
  ·refine ⟨0, [], 0, by omega, by omega, ?_⟩
   refine xS ?_
   have e0 : List.replicate (wd + x.length + 1) 0 = (List.replicate wd 0 ++ []) ++ 0 :: List.replicate (x.length - 0) 0 := by
    rw [List.append_nil, Nat.sub_zero, Nat.add_assoc, ← List.replicate_append_replicate, List.replicate_succ]
   (repeat' apply And.intro) <;> first | rfl | omega | assumption | exact Lim.nil | exact Nat.two_pow_pos s | (simp [val]; done) | (rw [e0])
  rintro k ⟨ρ2, σ, c4⟩ ⟨i, w, top, hk, hi, hw, hlw, ht, hinv, h38, h6, h7, h39, h40, h8, hσ, hc4⟩
  dsimp only at h38 h6 h7 h39 h40 h8 hσ hc4
  subst hσ
  by_cases g : (i : Int) < x.length
  ·have hi' : i < x.length := by omega
   have hxi := hx.getD (i := i) (by decide)
   obtain ⟨p1, p2, p3⟩ := shl_parts hs hxi
   obtain ⟨o1, o2⟩ := or_top hs hxi ht
   have hlo := Nat.mod_lt (x.getD i 0 * 2 ^ s) (show 0 < 18446744073709551616 by decide)
   have e1 : ((wd : Int) + (i : Int)).toNat = wd + i := by omega
   have e2 : ((wd : Int) + (i : Int) + 1).toNat = wd + i + 1 := by omega
   have e3 : min s 64 = s := by omega
   have e4 : (63 + (18446744073709551616 - s % 18446744073709551616)) % 18446744073709551616 = 63 - s := by omega
   have e5 : min (63 - s) 64 = 63 - s := by omega
   have hps : 2 ^ s ≤ 18446744073709551616 := Nat.le_trans (Nat.pow_le_pow_right (by decide) (show s ≤ 64 by omega)) (by decide)
   have e6 : top % 18446744073709551616 = top := Nat.mod_eq_of_lt (by omega)
   have e7 : x.getD i 0 / 2 / 2 ^ (63 - s) % 18446744073709551616 = x.getD i 0 / 2 / 2 ^ (63 - s) := Nat.mod_eq_of_lt (by omega)
   have hl1 : (List.replicate wd 0 ++ w).length = wd + i := by simp; omega
   have hget1 : ((List.replicate wd 0 ++ w) ++ top :: List.replicate (x.length - i) 0).getD (wd + i) 0 = top := by
    rw [← hl1]; exact getD_at _ _ _
   have hlen1 : ((List.replicate wd 0 ++ w) ++ top :: List.replicate (x.length - i) 0).length = wd + x.length + 1 := by simp; omega
   have hset1 : ∀ v, ((List.replicate wd 0 ++ w) ++ top :: List.replicate (x.length - i) 0).set (wd + i) v = ((List.replicate wd 0 ++ w) ++ [v]) ++ 0 :: List.replicate (x.length - (i + 1)) 0 := fun v => by
    rw [← hl1, set_at, show x.length - i = x.length - (i + 1) + 1 by omega, List.replicate_succ]; simp
   have hl2 : ∀ v, ((List.replicate wd 0 ++ w) ++ [v]).length = wd + i + 1 := fun v => by simp; omega
   have hget2 : ∀ v, (((List.replicate wd 0 ++ w) ++ [v]) ++ 0 :: List.replicate (x.length - (i + 1)) 0).getD (wd + i + 1) 0 = 0 := fun v => by
    rw [← hl2 v]; exact getD_at _ _ _
   have hlen2 : ∀ v, (((List.replicate wd 0 ++ w) ++ [v]) ++ 0 :: List.replicate (x.length - (i + 1)) 0).length = wd + x.length + 1 := fun v => by simp; omega
   have hset2 : ∀ v u, (((List.replicate wd 0 ++ w) ++ [v]) ++ 0 :: List.replicate (x.length - (i + 1)) 0).set (wd + i + 1) u = (List.replicate wd 0 ++ (w ++ [v])) ++ u :: List.replicate (x.length - (i + 1)) 0 := fun v u => by
    rw [← hl2 v, set_at, List.append_assoc (List.replicate wd 0)]
   have key := shl_step (i := i) hw hinv p1
   rw [← Nat.mul_assoc, ← Nat.add_mul, ← val_take (l := x) (i := i) hi'] at key
   refine xRF (jn h38 (jn h6 (jn h7 (jn h39 (jn h40 (jn h8 (jn g (jn e1 (jn e2 (jn e3 (jn e4 (jn e5 (jn hget1 (jn hlen1 (jn hset1 (jn @u_or (jn e6 (jn @Nat.mod_mod (jn o1 (jn hget2 (jn hlen2 (jn hset2 (jn e7 (jn @Nat.zero_mod @Nat.zero_or)))))))))))))))))))))))) ?_
   refine ⟨x.length - (i + 1), by omega, i + 1, w ++ [top + x.getD i 0 * 2 ^ s % 18446744073709551616], x.getD i 0 / 2 / 2 ^ (63 - s), ?_⟩
   (repeat' apply And.intro) <;> first | rfl | omega | assumption | (simp [hw]; done) | exact lim_snoc hlw o2 | exact key
  ·have hi' : i = x.length := by omega
   subst hi'
   refine xRF (jn h38 (jn h6 (jn h7 (jn h39 (jn h40 (jn h8 g)))))) ?_
   rw [List.take_length] at hinv
   have hps : 2 ^ s ≤ 18446744073709551616 := Nat.le_trans (Nat.pow_le_pow_right (by decide) (show s ≤ 64 by omega)) (by decide)
   refine ⟨(List.replicate wd 0 ++ w) ++ [top], ?_⟩
   have e0 : (List.replicate wd 0 ++ w) ++ top :: List.replicate (x.length - x.length) 0 = (List.replicate wd 0 ++ w) ++ [top] := by simp
   rw [e0]
   have hvv : val 18446744073709551616 ((List.replicate wd 0 ++ w) ++ [top]) = val 18446744073709551616 x * 2 ^ n := by
    rw [List.append_assoc, val_zeros, hinv, hpow]
   (repeat' apply And.intro) <;> first | rfl | omega | assumption | (simp [hw]; omega) | exact (Lim.append (Lim.append (Lim.replicate (by decide)) hlw) (.cons (by omega) .nil)) | exact hvv
 rintro ⟨ρ3, σ, c5⟩ ⟨w, hw, hlw, hvw, h8, hσ, hc5⟩
 dsimp only at h8 hσ hc5
 subst hσ
 refine v_freeze 8 (t := c3) (off := 0) (n := wd + x.length + 1) (cap := some (wd + x.length + 1)) (l := w) (ySF h8) yS (by omega) (by omega) ?_
 rw [List.drop_zero, show w.take (wd + x.length + 1) = w from List.take_of_length_le (by omega)]
 refine xR ?_
 refine s_call (trim_spec (.id c3) w c5 hlw (by omega)) yM ?_
 rintro v c6 hc6 rfl
 rw [hvw, va]
 refine xR ?_
 exact .inl ⟨by omega, .id c3, rfl, .inr ⟨c3, rfl, by omega, by omega⟩⟩

theorem addAt_spec (t : Nat) (u : Tok) (l y : List Nat) (k n c : Nat) (cap : Option Nat) (hl : Lim 18446744073709551616 l) (hy : Lim 18446744073709551616 y) (hn : l.length = n) (hnb : n ≤ 4398046511104) (hyb : y.length ≤ 4398046511104) (hkb : k ≤ 4398046511104) (hroom : val 18446744073709551616 l + 18446744073709551616 ^ k * val 18446744073709551616 y < 18446744073709551616 ^ n) :
  VSpecL Tryz.prog F.mul_addAt c (supd noBlk t (nblk l)) [.buf t 0 n cap 1, nats u y, iv k] (fun r σ' c' => r = .tup [] ∧ ∃ l', σ' t = nblk l' ∧ l'.length = n ∧ Lim 18446744073709551616 l' ∧ val 18446744073709551616 l' = val 18446744073709551616 l + 18446744073709551616 ^ k * val 18446744073709551616 y) := by
 refine sL hm G.mul_addAt ?_
 unfold C.mul_addAt R.mul_addAt cD
 refine xR ?_
 refine vwp_loop (fun m S => ∃ i w carry, m = n - i ∧ k ≤ i ∧ w.length = n ∧ Lim 18446744073709551616 w ∧ carry ≤ 1 ∧ val 18446744073709551616 w + 18446744073709551616 ^ i * carry = val 18446744073709551616 l + 18446744073709551616 ^ k * val 18446744073709551616 (y.take (i - k)) ∧ S.ρ 0 = .buf t 0 n cap 1 ∧ S.ρ 1 = nats u y ∧ S.ρ 2 = iv k ∧ S.ρ 6 = nv carry ∧ S.ρ 7 = iv i ∧ S.σ = supd noBlk t (nblk w) ∧ S.c = c) (n - k) ?_ ?_
 ·refine ⟨k, l, 0, rfl, ?_⟩
  simp only [vm, ite_true, ite_false, eq_self, reduceIte, Nat.reduceEqDiff, Option.map, Nat.sub_self, List.take_zero]
  (repeat' apply And.intro) <;> first | rfl | omega | assumption | (simp [val]; done)
 rintro m ⟨ρ, σ, c3⟩ ⟨i, w, carry, hm', hki, hw, hlw, hca, hinv, h0, h1, h2, h6, h7, hσ, hc3⟩
 dsimp only at h0 h1 h2 h6 h7 hσ hc3
 subst hσ hc3
 have hfin : n ≤ i ∨ (y.length ≤ i - k ∧ carry = 0) → val 18446744073709551616 w = val 18446744073709551616 l + 18446744073709551616 ^ k * val 18446744073709551616 y := fun h => by
  rcases h with h | ⟨h, h'⟩
  ·exact addAt_end (by decide) h hki hinv hroom
  ·rw [List.take_of_length_le h, h', Nat.mul_zero, Nat.add_zero] at hinv
   exact hinv
 by_cases g1 : (i : Int) < n
 ·have hw0 := hlw.getD (i := i) (by decide)
  have hy0 := hy.getD (i := i - k) (by decide)
  have hty := val_take' 18446744073709551616 y (i - k)
  have key := addAt_step (b := 18446744073709551616) (y := y.getD (i - k) 0) (by omega) hki hinv _ rfl
  rw [← hty, show i - k + 1 = i + 1 - k by omega] at key
  have eik : ((i : Int) - k).toNat = i - k := by omega
  have hc1 : (w.getD i 0 + y.getD (i - k) 0 + carry) / 18446744073709551616 ≤ 1 := by omega
  by_cases g2 : (i : Int) - k < y.length
  ·refine xRF (jn h0 (jn h1 (jn h2 (jn h6 (jn h7 (jn g1 (jn g2 eik))))))) ?_
   refine ⟨n - (i + 1), by omega, i + 1, w.set i ((w.getD i 0 + y.getD (i - k) 0 + carry) % 18446744073709551616), (w.getD i 0 + y.getD (i - k) 0 + carry) / 18446744073709551616, ?_⟩
   (repeat' apply And.intro) <;> first | rfl | omega | assumption | (rw [List.length_set]; exact hw) | exact hlw.set (Nat.mod_lt _ (by decide)) | exact key
  ·have hyz : y.getD (i - k) 0 = 0 := getD_ge (by omega)
   by_cases g3 : 0 < carry
   ·refine xRF (jn h0 (jn h1 (jn h2 (jn h6 (jn h7 (jn g1 (jn g2 (jn g3 eik)))))))) ?_
    rw [hyz, Nat.add_zero] at key hc1
    refine ⟨n - (i + 1), by omega, i + 1, w.set i ((w.getD i 0 + carry) % 18446744073709551616), (w.getD i 0 + carry) / 18446744073709551616, ?_⟩
    (repeat' apply And.intro) <;> first | rfl | omega | assumption | (rw [List.length_set]; exact hw) | exact hlw.set (Nat.mod_lt _ (by decide)) | exact key
   ·refine xRF (jn h0 (jn h1 (jn h2 (jn h6 (jn h7 (jn g1 (jn g2 (jn g3 eik)))))))) ?_
    exact ⟨w, rfl, hw, hlw, hfin (.inr ⟨by omega, by omega⟩)⟩
 ·refine xRF (jn h0 (jn h1 (jn h2 (jn h6 (jn h7 g1))))) ?_
  exact ⟨w, rfl, hw, hlw, hfin (.inl (by omega))⟩

theorem sum_spec (t u : Tok) (a b : List Nat) (c : Nat) (ha : Lim 18446744073709551616 a) (hb : Lim 18446744073709551616 b) (hna : a.length ≤ 1099511627776) (hnb : b.length ≤ 1099511627776) :
  VSpec Tryz.prog F.mul_sum c [nats t a, nats u b] (fun r c' => ∃ l i, r = nats (.id i) l ∧ c ≤ i ∧ i < c' ∧ Lim 18446744073709551616 l ∧ l.length = max a.length b.length + 1 ∧ val 18446744073709551616 l = val 18446744073709551616 a + val 18446744073709551616 b) := by
 refine sG hm G.mul_sum ?_
 unfold C.mul_sum R.mul_sum cD
 have em : max (a.length : Int) (b.length : Int) = ((max a.length b.length : Nat) : Int) := by omega
 refine xRF em ?_
 refine s_mk (n := max a.length b.length + 1) (m := max a.length b.length + 1) (ySrF em) (ySrF em) (Nat.le_refl _) (by omega) ?_
 have h1 : a.length ≤ max a.length b.length := Nat.le_max_left _ _
 have h2 : b.length ≤ max a.length b.length := Nat.le_max_right _ _
 have h3 : max a.length b.length ≤ 1099511627776 := by omega
 generalize max a.length b.length = n at *
 refine xR ?_
 refine s_cpy (t := c) (n := n + 1) (cap := some (n + 1)) (l := List.replicate (n + 1) 0) (a := a) (u := t) yS yS yS (by omega) (by simp) ?_
 have e0 : a ++ (List.replicate (n + 1) 0).drop a.length = a ++ List.replicate (n + 1 - a.length) 0 := by simp
 rw [e0]
 have hl0 : Lim 18446744073709551616 (a ++ List.replicate (n + 1 - a.length) 0) := ha.append (Lim.replicate (by decide))
 have hv0 : val 18446744073709551616 (a ++ List.replicate (n + 1 - a.length) 0) = val 18446744073709551616 a := by rw [val_append, val_replicate]; simp
 have hn0 : (a ++ List.replicate (n + 1 - a.length) 0).length = n + 1 := by simp; omega
 generalize a ++ List.replicate (n + 1 - a.length) 0 = l0 at *
 have hroom : val 18446744073709551616 l0 + 18446744073709551616 ^ 0 * val 18446744073709551616 b < 18446744073709551616 ^ (n + 1) := by
  rw [hv0, Nat.pow_zero, Nat.one_mul, Nat.pow_succ]
  have p1 := Nat.lt_of_lt_of_le (val_lt ha) (Nat.pow_le_pow_right (show 0 < 18446744073709551616 by decide) h1)
  have p2 := Nat.lt_of_lt_of_le (val_lt hb) (Nat.pow_le_pow_right (show 0 < 18446744073709551616 by decide) h2)
  generalize 18446744073709551616 ^ n = q at *
  omega
 refine xR ?_
 refine s_call1 c (l := l0) yS (fun s hs => by refine xS ?_; rw [if_neg (by omega)]; rfl) (addAt_spec c u l0 b 0 (n + 1) (c + 1) (some (n + 1)) hl0 hb hn0 (by omega) (by omega) (by omega) hroom) yMr ?_
 rintro v σ' c2 hc2 ⟨rfl, l', hσ', hn', hlim, hval⟩
 rw [hσ']
 rw [Nat.pow_zero, Nat.one_mul, hv0] at hval
 refine xS ?_
 refine v_freeze 5 (t := c) (off := 0) (n := n + 1) (cap := some (n + 1)) (l := l') yS yS (by omega) (by omega) ?_
 rw [List.drop_zero, show l'.take (n + 1) = l' from List.take_of_length_le (by omega)]
 refine xR ?_
 exact ⟨l', c, rfl, by omega, by omega, hlim, hn', hval⟩

theorem less_spec (t u : Tok) (a b : List Nat) (c : Nat) (ha : Lim 18446744073709551616 a) (hb : Lim 18446744073709551616 b) (hna : a.length ≤ 1099511627776) (hnb : b.length ≤ 1099511627776) (hle : val 18446744073709551616 b ≤ val 18446744073709551616 a) :
  VSpec Tryz.prog F.mul_less c [nats t a, nats u b] (fun r c' => ∃ l i, r = nats (.id i) l ∧ c ≤ i ∧ i < c' ∧ Lim 18446744073709551616 l ∧ l.length = a.length ∧ val 18446744073709551616 l = val 18446744073709551616 a - val 18446744073709551616 b) := by
 refine sG hm G.mul_less ?_
 unfold C.mul_less R.mul_less cD
 refine xR ?_
 refine s_mk (n := a.length) (m := a.length) yS yS (Nat.le_refl _) (by omega) ?_
 refine xR ?_
 refine s_cpy (t := c) (n := a.length) (cap := some a.length) (l := List.replicate a.length 0) (a := a) (u := t) yS yS yS (by omega) (by simp) ?_
 have e0 : a ++ (List.replicate a.length 0).drop a.length = a := by simp
 rw [e0]
 refine xR ?_
 refine v_loop (fun S => ∃ w, w.length = a.length ∧ Lim 18446744073709551616 w ∧ val 18446744073709551616 w = val 18446744073709551616 a - val 18446744073709551616 b ∧ S.ρ 5 = .buf c 0 a.length (some a.length) 1 ∧ S.σ = supd noBlk c (nblk w) ∧ S.c = c + 1) ?_ ?_
 ·refine vwp_loop (fun k S => ∃ i w bo, k = a.length - i ∧ i ≤ a.length ∧ w.length = i ∧ Lim 18446744073709551616 w ∧ bo ≤ 1 ∧ val 18446744073709551616 w + val 18446744073709551616 (b.take i) = val 18446744073709551616 (a.take i) + 18446744073709551616 ^ i * bo ∧ S.ρ 1 = nats u b ∧ S.ρ 5 = .buf c 0 a.length (some a.length) 1 ∧ S.ρ 6 = nv bo ∧ S.ρ 16 = iv a.length ∧ S.ρ 17 = iv i ∧ S.σ = supd noBlk c (nblk (w ++ a.drop i)) ∧ S.c = c + 1) a.length ?_ ?_
  ·refine ⟨0, [], 0, by omega, by omega, ?_⟩
   refine xS ?_
   (repeat' apply And.intro) <;> first | rfl | omega | assumption | exact Lim.nil
  rintro k ⟨ρ2, σ, c4⟩ ⟨i, w, bo, hk, hi, hw, hlw, hbo, hinv, h1, h5, h6, h16, h17, hσ, hc4⟩
  dsimp only at h1 h5 h6 h16 h17 hσ hc4
  subst hσ hc4
  by_cases g : (i : Int) < a.length
  ·have hi' : i < a.length := by omega
   have hxi := ha.getD (i := i) (by decide)
   have hyi := hb.getD (i := i) (by decide)
   have hx' := val_take' 18446744073709551616 a i
   have hy' := val_take' 18446744073709551616 b i
   have hlen : (w ++ a.drop i).length = a.length := by simp; omega
   have hget : (w ++ a.drop i).getD i 0 = a.getD i 0 := by
    rw [drop_cons hi', ← hw]; exact getD_at _ _ _
   have hset : ∀ v, (w ++ a.drop i).set i v = (w ++ [v]) ++ a.drop (i + 1) := fun v => by
    rw [drop_cons hi']
    conv => lhs; rw [← hw]
    rw [set_at, hw]; simp
   have key := sub_step (b := 18446744073709551616) (c' := if a.getD i 0 < b.getD i 0 + bo then 1 else 0) (x := a.getD i 0) (y := b.getD i 0) (d := (a.getD i 0 + 18446744073709551616 - b.getD i 0 - bo) % 18446744073709551616) hw hinv (by split <;> omega)
   have hb1 : (if a.getD i 0 < b.getD i 0 + bo then 1 else 0) ≤ 1 := by split <;> omega
   rw [← hx', ← hy'] at key
   by_cases g2 : (i : Int) < b.length
   ·refine xRF (jn h1 (jn h5 (jn h6 (jn h16 (jn h17 (jn g (jn g2 (jn hlen (jn hget hset))))))))) ?_
    refine ⟨a.length - (i + 1), by omega, i + 1, w ++ [(a.getD i 0 + 18446744073709551616 - b.getD i 0 - bo) % 18446744073709551616], if a.getD i 0 < b.getD i 0 + bo then 1 else 0, ?_⟩
    (repeat' apply And.intro) <;> first | rfl | omega | assumption | (simp [hw]; done) | exact lim_snoc hlw (Nat.mod_lt _ (by decide)) | exact key
   ·have hy0 : b.getD i 0 = 0 := getD_ge (by omega)
    rw [hy0] at key hb1
    refine xRF (jn h1 (jn h5 (jn h6 (jn h16 (jn h17 (jn g (jn g2 (jn hlen (jn hget hset))))))))) ?_
    refine ⟨a.length - (i + 1), by omega, i + 1, w ++ [(a.getD i 0 + 18446744073709551616 - 0 - bo) % 18446744073709551616], if a.getD i 0 < 0 + bo then 1 else 0, ?_⟩
    simp only [Nat.zero_add] at key hb1 ⊢
    (repeat' apply And.intro) <;> first | rfl | omega | assumption | (simp [hw]; done) | exact lim_snoc hlw (Nat.mod_lt _ (by decide)) | exact key
  ·have hi' : i = a.length := by omega
   subst hi'
   refine xRF (jn h1 (jn h5 (jn h6 (jn h16 (jn h17 g))))) ?_
   have hwl := val_lt hlw
   rw [hw] at hwl
   have hbt : val 18446744073709551616 (b.take a.length) = val 18446744073709551616 b := by
    by_cases gl : a.length ≤ b.length
    ·have p := val_take_drop 18446744073709551616 a.length b gl
     have p2 := val_lt ha
     have p3 : val 18446744073709551616 (b.drop a.length) = 0 := by
      rcases Nat.eq_zero_or_pos (val 18446744073709551616 (b.drop a.length)) with e | e
      ·exact e
      ·have := Nat.mul_le_mul_left (18446744073709551616 ^ a.length) e
       omega
     rw [p3] at p
     omega
    ·rw [List.take_of_length_le (by omega)]
   rw [List.take_length, hbt] at hinv
   have hvz : val 18446744073709551616 w = val 18446744073709551616 a - val 18446744073709551616 b := by
    have hbb : bo = 0 ∨ bo = 1 := by omega
    rcases hbb with rfl | rfl <;> omega
   refine ⟨w, hw, hlw, hvz, ?_⟩
   rw [List.drop_length, List.append_nil]
 rintro ⟨ρ3, σ, c5⟩ ⟨w, hw, hlw, hvw, h5, hσ, hc5⟩
 dsimp only at h5 hσ hc5
 subst hσ hc5
 refine v_freeze 5 (t := c) (off := 0) (n := a.length) (cap := some a.length) (l := w) (ySF h5) yS (by omega) (by omega) ?_
 rw [List.drop_zero, show w.take a.length = w from List.take_of_length_le (by omega)]
 refine xR ?_
 exact ⟨w, c, rfl, by omega, by omega, hlw, hw, hvw⟩

theorem part_spec (t : Tok) (a : List Nat) (f e c : Nat) (ha : Lim 18446744073709551616 a) (hna : a.length ≤ 1099511627776) (hfe : f ≤ e) :
  VSpec Tryz.prog F.mul_part c [nats t a, iv f, iv e] (fun r c' => ∃ t' l, r = nats t' l ∧ Lim 18446744073709551616 l ∧ l.length ≤ e - f ∧ l.length ≤ a.length - f ∧ val 18446744073709551616 l = val 18446744073709551616 ((a.drop f).take (e - f))) := by
 refine sG hm G.mul_part ?_
 unfold C.mul_part R.mul_part cD
 have e1 : min (f : Int) (a.length : Int) = ((min f a.length : Nat) : Int) := by omega
 have e2 : min (e : Int) (a.length : Int) = ((min e a.length : Nat) : Int) := by omega
 have hval : (a.drop f).take (e - f) = (a.drop (min f a.length)).take (min e a.length - min f a.length) := by
  rcases Nat.lt_or_ge a.length f with g | g
  ·rw [List.drop_of_length_le (by omega), show min f a.length = a.length by omega, List.drop_of_length_le (Nat.le_refl _)]; simp
  ·rw [show min f a.length = f by omega]
   rcases Nat.lt_or_ge a.length e with g2 | g2
   ·rw [show min e a.length = a.length by omega, List.take_of_length_le (by simp; omega), List.take_of_length_le (by simp)]
   ·rw [show min e a.length = e by omega]
 rw [hval]
 have h1 : min f a.length ≤ min e a.length := by omega
 have h2 : min e a.length ≤ a.length := by omega
 have h3 : min e a.length - min f a.length ≤ e - f := by omega
 have h4 : min e a.length - min f a.length ≤ a.length - f := by omega
 refine xRF (jn e1 e2) ?_
 generalize min f a.length = f' at *
 generalize min e a.length = e' at *
 refine v_loop (fun S => ∃ k, f' ≤ k ∧ k ≤ e' ∧ val 18446744073709551616 ((a.drop f').take (k - f')) = val 18446744073709551616 ((a.drop f').take (e' - f')) ∧ S.ρ 0 = nats t a ∧ S.ρ 1 = iv f' ∧ S.ρ 2 = iv k ∧ S.σ = noBlk ∧ S.c = c) ?_ ?_
 ·refine vwp_loop (fun m S => ∃ k, m = k ∧ f' ≤ k ∧ k ≤ e' ∧ val 18446744073709551616 ((a.drop f').take (k - f')) = val 18446744073709551616 ((a.drop f').take (e' - f')) ∧ S.ρ 0 = nats t a ∧ S.ρ 1 = iv f' ∧ S.ρ 2 = iv k ∧ S.σ = noBlk ∧ S.c = c) e' ?_ ?_
  ·refine ⟨e', rfl, ?_⟩
   refine xS ?_
   exact yA
  rintro m ⟨ρ2, σ, c4⟩ ⟨k, hm', hk1, hk2, hv, g0, g1, g2, hσ, hc4⟩
  dsimp only at g0 g1 g2 hσ hc4
  subst hσ hc4
  by_cases g : (f' : Int) < k
  ·obtain ⟨i, rfl⟩ : ∃ i, k = i + 1 := ⟨k - 1, by omega⟩
   have ei : (((i + 1 : Nat) : Int) - 1).toNat = i := by omega
   by_cases gz : a.getD i 0 = 0
   ·refine xRF (jn g0 (jn g1 (jn g2 (jn g (jn ei gz))))) ?_
    refine ⟨i, by omega, i, ?_⟩
    have hs := slice_snoc (a := a) (f := f') (k := i) (by omega) (by omega)
    rw [hs, gz, val_snoc0] at hv
    (repeat' apply And.intro) <;> first | rfl | omega | assumption | exact congrArg iv (by omega)
   ·refine xRF (jn g0 (jn g1 (jn g2 (jn g (jn ei gz))))) ?_
    exact ⟨i + 1, hk1, hk2, hv, rfl⟩
  ·refine xRF (jn g0 (jn g1 (jn g2 g))) ?_
   exact ⟨k, hk1, hk2, hv, rfl⟩
 rintro ⟨ρ3, σ, c5⟩ ⟨k, hk1, hk2, hv, g0, g1, g2, hσ, hc5⟩
 dsimp only at g0 g1 g2 hσ hc5
 subst hσ hc5
 refine xRF (jn g0 (jn g1 g2)) ?_
 refine ⟨_, _, rfl, ha.drop.take, ?_, ?_, hv⟩
 ·simp; omega
 ·simp; omega

theorem school_spec (t u : Tok) (a b : List Nat) (c : Nat) (ha : Lim 18446744073709551616 a) (hb : Lim 18446744073709551616 b) (hna : a.length ≤ 1099511627776) (hnb : b.length ≤ 1099511627776) :
  VSpec Tryz.prog F.mul_school c [nats t a, nats u b] (fun r c' => ∃ l i, r = nats (.id i) l ∧ c ≤ i ∧ i < c' ∧ Lim 18446744073709551616 l ∧ l.length = a.length + b.length ∧ val 18446744073709551616 l = val 18446744073709551616 a * val 18446744073709551616 b) := by
 refine sG hm G.mul_school ?_
 unfold C.mul_school R.mul_school cD
 refine xR ?_
 refine s_mk (n := a.length + b.length) (m := a.length + b.length) ySr ySr (Nat.le_refl _) (by omega) ?_
 refine xR ?_
 refine v_loop (fun S => ∃ w, w.length = a.length + b.length ∧ Lim 18446744073709551616 w ∧ val 18446744073709551616 w = val 18446744073709551616 a * val 18446744073709551616 b ∧ S.ρ 5 = .buf c 0 (a.length + b.length) (some (a.length + b.length)) 1 ∧ S.σ = supd noBlk c (nblk w) ∧ c + 1 ≤ S.c) ?_ ?_
 ·refine vwp_loop (fun m S => ∃ i w, m = a.length - i ∧ i ≤ a.length ∧ w.length = i + b.length ∧ Lim 18446744073709551616 w ∧ val 18446744073709551616 w = val 18446744073709551616 (a.take i) * val 18446744073709551616 b ∧ S.ρ 1 = nats u b ∧ S.ρ 5 = .buf c 0 (a.length + b.length) (some (a.length + b.length)) 1 ∧ S.ρ 20 = nats t a ∧ S.ρ 21 = iv a.length ∧ S.ρ 22 = iv i ∧ S.σ = supd noBlk c (nblk (w ++ List.replicate (a.length - i) 0)) ∧ c + 1 ≤ S.c) a.length ?_ ?_
  ·refine ⟨0, List.replicate b.length 0, by omega, by omega, ?_⟩
   refine xS ?_
   have e0 : List.replicate b.length 0 ++ List.replicate (a.length - 0) 0 = List.replicate (a.length + b.length) 0 := by
    rw [List.replicate_append_replicate]; congr 1; omega
   (repeat' apply And.intro) <;> first | rfl | omega | assumption | (simp; done) | exact Lim.replicate (by decide) | (rw [val_replicate]; simp [val]; done) | (rw [e0])
  rintro m ⟨ρ2, σ, c4⟩ ⟨i, w, hm', hi, hw, hlw, hinv, h1, h5, h20, h21, h22, hσ, hc4⟩
  dsimp only at h1 h5 h20 h21 h22 hσ hc4
  subst hσ
  by_cases g : (i : Int) < a.length
  ·have hi' : i < a.length := by omega
   have hxi := ha.getD (i := i) (by decide)
   have hx' := val_take' 18446744073709551616 a i
   refine xRF (jn h1 (jn h5 (jn h20 (jn h21 (jn h22 g))))) ?_
   generalize a.getD i 0 = x at *
   refine v_loop (fun S => ∃ w' carry, w'.length = i + b.length ∧ Lim 18446744073709551616 w' ∧ carry < 18446744073709551616 ∧ val 18446744073709551616 w' + 18446744073709551616 ^ (i + b.length) * carry = val 18446744073709551616 w + 18446744073709551616 ^ i * (x * val 18446744073709551616 b) ∧ S.ρ 1 = nats u b ∧ S.ρ 5 = .buf c 0 (a.length + b.length) (some (a.length + b.length)) 1 ∧ S.ρ 6 = iv i ∧ S.ρ 8 = nv carry ∧ S.ρ 20 = nats t a ∧ S.ρ 21 = iv a.length ∧ S.ρ 22 = iv i ∧ S.σ = supd noBlk c (nblk (w' ++ List.replicate (a.length - i) 0)) ∧ c + 1 ≤ S.c) ?_ ?_
   ·refine vwp_loop (fun m S => ∃ k w' carry, m = b.length - k ∧ k ≤ b.length ∧ w'.length = i + b.length ∧ Lim 18446744073709551616 w' ∧ carry < 18446744073709551616 ∧ val 18446744073709551616 w' + 18446744073709551616 ^ (i + k) * carry = val 18446744073709551616 w + 18446744073709551616 ^ i * (x * val 18446744073709551616 (b.take k)) ∧ S.ρ 1 = nats u b ∧ S.ρ 5 = .buf c 0 (a.length + b.length) (some (a.length + b.length)) 1 ∧ S.ρ 6 = iv i ∧ S.ρ 7 = nv x ∧ S.ρ 8 = nv carry ∧ S.ρ 20 = nats t a ∧ S.ρ 21 = iv a.length ∧ S.ρ 22 = iv i ∧ S.ρ 27 = nats u b ∧ S.ρ 28 = iv b.length ∧ S.ρ 29 = iv k ∧ S.σ = supd noBlk c (nblk (w' ++ List.replicate (a.length - i) 0)) ∧ c + 1 ≤ S.c) b.length ?_ ?_
    ·refine ⟨0, w, 0, by omega, by omega, ?_⟩
     refine xSF (jn h1 (jn h5 (jn h20 (jn h21 h22)))) ?_
     (repeat' apply And.intro) <;> first | rfl | omega | assumption | (simp [val]; done)
    rintro m ⟨ρ3, σ, c5⟩ ⟨k, w', carry, hm2, hk, hw', hlw', hca, hinv', q1, q5, q6, q7, q8, q20, q21, q22, q27, q28, q29, hσ, hc5⟩
    dsimp only at q1 q5 q6 q7 q8 q20 q21 q22 q27 q28 q29 hσ hc5
    subst hσ
    by_cases g2 : (k : Int) < b.length
    ·have hk' : k < b.length := by omega
     have hyk := hb.getD (i := k) (by decide)
     have hy' := val_take' 18446744073709551616 b k
     have hik : i + k < w'.length := by omega
     have hwk := hlw'.getD (i := i + k) (by decide)
     have key := addAt_step (b := 18446744073709551616) (k := i) (Y := x * val 18446744073709551616 (b.take k)) (y := x * b.getD k 0) (c := carry) hik (by omega) hinv' _ rfl
     rw [show i + k - i = k by omega, Nat.mul_left_comm, ← Nat.mul_add, ← hy'] at key
     obtain ⟨s1, s2, s3⟩ := school_step (mul_le_max hxi hyk) hca hwk
     have eik : ((i : Int) + (k : Int)).toNat = i + k := by omega
     have hget : (w' ++ List.replicate (a.length - i) 0).getD (i + k) 0 = w'.getD (i + k) 0 := getD_append_left hik
     have hset : ∀ v, (w' ++ List.replicate (a.length - i) 0).set (i + k) v = w'.set (i + k) v ++ List.replicate (a.length - i) 0 := fun v => List.set_append_left _ _ hik
     have hlen : (w' ++ List.replicate (a.length - i) 0).length = a.length + b.length := by simp; omega
     refine xRF (jn q1 (jn q5 (jn q6 (jn q7 (jn q8 (jn q20 (jn q21 (jn q22 (jn q27 (jn q28 (jn q29 g2))))))))))) ?_
     refine s_call (mul64_spec x (b.getD k 0) c5 hxi hyk) (yMF q7) ?_
     rintro v c6 hc6 rfl
     refine xRF (jn q1 (jn q5 (jn q6 (jn q7 (jn q8 (jn q20 (jn q21 (jn q22 (jn q27 (jn q28 (jn q29 (jn g2 (jn @Nat.add_zero (jn eik (jn hget (jn hset (jn hlen (jn s1 s2)))))))))))))))))) ?_
     refine ⟨b.length - (k + 1), by omega, k + 1, w'.set (i + k) ((w'.getD (i + k) 0 + x * b.getD k 0 + carry) % 18446744073709551616), (w'.getD (i + k) 0 + x * b.getD k 0 + carry) / 18446744073709551616, ?_⟩
     (repeat' apply And.intro) <;> first | rfl | omega | assumption | (rw [List.length_set]; exact hw') | exact hlw'.set (Nat.mod_lt _ (by decide)) | exact key
    ·have hk' : k = b.length := by omega
     subst hk'
     refine xRF (jn q1 (jn q5 (jn q6 (jn q7 (jn q8 (jn q20 (jn q21 (jn q22 (jn q27 (jn q28 (jn q29 g2))))))))))) ?_
     rw [List.take_length] at hinv'
     refine ⟨w', carry, hw', hlw', hca, hinv', ?_⟩
     exact yA
   rintro ⟨ρ3, σ, c5⟩ ⟨w', carry, hw', hlw', hca, hinv', q1, q5, q6, q8, q20, q21, q22, hσ, hc5⟩
   dsimp only at q1 q5 q6 q8 q20 q21 q22 hσ hc5
   subst hσ
   have eib : ((i : Int) + (b.length : Int)).toNat = i + b.length := by omega
   have hlen : (w' ++ List.replicate (a.length - i) 0).length = a.length + b.length := by simp; omega
   have hset : ∀ v, (w' ++ List.replicate (a.length - i) 0).set (i + b.length) v = (w' ++ [v]) ++ List.replicate (a.length - (i + 1)) 0 := fun v => by
    have := set_fill w' (a.length - (i + 1)) v
    rw [hw'] at this
    rw [show a.length - i = a.length - (i + 1) + 1 by omega, this]
   refine xRF (jn q1 (jn q5 (jn q6 (jn q8 (jn q20 (jn q21 (jn q22 (jn eib (jn hlen hset))))))))) ?_
   refine ⟨a.length - (i + 1), by omega, i + 1, w' ++ [carry], ?_⟩
   have hvv : val 18446744073709551616 (w' ++ [carry]) = val 18446744073709551616 (a.take (i + 1)) * val 18446744073709551616 b := by
    rw [val_append, hw']
    simp only [val, Nat.mul_zero, Nat.add_zero]
    rw [hinv', hinv, hx', Nat.add_mul, Nat.mul_assoc]
   (repeat' apply And.intro) <;> first | rfl | omega | assumption | (simp; omega) | exact lim_snoc hlw' hca | exact hvv
  ·have hi' : i = a.length := by omega
   subst hi'
   refine xRF (jn h1 (jn h5 (jn h20 (jn h21 (jn h22 g))))) ?_
   rw [List.take_length] at hinv
   refine ⟨w, by omega, hlw, hinv, ?_⟩
   have e0 : w ++ List.replicate (a.length - a.length) 0 = w := by simp
   rw [e0]
   exact yA
 rintro ⟨ρ3, σ, c5⟩ ⟨w, hw, hlw, hvw, h5, hσ, hc5⟩
 dsimp only at h5 hσ hc5
 subst hσ
 refine v_freeze 5 (t := c) (off := 0) (n := a.length + b.length) (cap := some (a.length + b.length)) (l := w) (ySF h5) yS (by omega) (by omega) ?_
 rw [List.drop_zero, show w.take (a.length + b.length) = w from List.take_of_length_le (by omega)]
 refine xR ?_
 exact ⟨w, c, rfl, by omega, by omega, hlw, hw, hvw⟩

def RawR (c c' n m : Nat) (r : V) : Prop := ∃ l i, r = nats (.id i) l ∧ c ≤ i ∧ i < c' ∧ Lim 18446744073709551616 l ∧ l.length ≤ m ∧ val 18446744073709551616 l = n

theorem kar (X0 X1 Y0 Y1 P : Nat) : X0 * Y0 + P * ((X0 + X1) * (Y0 + Y1) - X0 * Y0 - X1 * Y1) + P * P * (X1 * Y1) = (X0 + P * X1) * (Y0 + P * Y1) ∧ X0 * Y0 ≤ (X0 + X1) * (Y0 + Y1) ∧ X1 * Y1 ≤ (X0 + X1) * (Y0 + Y1) - X0 * Y0 := by
 have e : (X0 + X1) * (Y0 + Y1) = X0 * Y0 + X0 * Y1 + X1 * Y0 + X1 * Y1 := by rw [Nat.add_mul, Nat.mul_add, Nat.mul_add]; omega
 have e2 : (X0 + X1) * (Y0 + Y1) - X0 * Y0 - X1 * Y1 = X0 * Y1 + X1 * Y0 := by omega
 have e3 : (X0 + P * X1) * (Y0 + P * Y1) = X0 * Y0 + P * (X0 * Y1 + X1 * Y0) + P * P * (X1 * Y1) := by
  simp only [Nat.add_mul, Nat.mul_add]
  rw [Nat.mul_left_comm X0 P Y1, Nat.mul_assoc P X1 Y0, show P * X1 * (P * Y1) = P * P * (X1 * Y1) by rw [Nat.mul_mul_mul_comm]]
  omega
 rw [e2, e3]
 exact ⟨rfl, by omega, by omega⟩
theorem prod_lt {x y : List Nat} (hx : Lim 18446744073709551616 x) (hy : Lim 18446744073709551616 y) : val 18446744073709551616 x * val 18446744073709551616 y < 18446744073709551616 ^ (x.length + y.length) := by
 rw [Nat.pow_add]
 exact Nat.mul_lt_mul'' (val_lt hx) (val_lt hy)

theorem halved_spec : ∀ (m0 : Nat) (t u : Tok) (a b : List Nat) (c : Nat), a.length + b.length = m0 → Lim 18446744073709551616 a → Lim 18446744073709551616 b → a.length ≤ 549755813888 → b.length ≤ 549755813888 →
  VSpec Tryz.prog F.mul_halved c [nats t a, nats u b, iv 40] (fun r c' => RawR c c' (val 18446744073709551616 a * val 18446744073709551616 b) (a.length + b.length + 1) r) := by
 intro m0
 induction m0 using Nat.strongRecOn with
 | _ m0 ih =>
 intro t u a b c hN ha hb hna hnb
 refine sG hm G.mul_halved ?_
 unfold C.mul_halved R.mul_halved cD
 refine xG ?_
 refine v_cut (fun S => ∃ t u x y, S.ρ 0 = nats t x ∧ S.ρ 1 = nats u y ∧ S.ρ 2 = iv 40 ∧ Lim 18446744073709551616 x ∧ Lim 18446744073709551616 y ∧ y.length ≤ x.length ∧ x.length + y.length = m0 ∧ x.length ≤ 549755813888 ∧ val 18446744073709551616 x * val 18446744073709551616 y = val 18446744073709551616 a * val 18446744073709551616 b ∧ S.σ = noBlk ∧ S.c = c) ?_ ?_
 ·refine xR ?_
  refine ⟨fun g => ?_, fun g => ?_⟩
  ·refine xR ?_
   exact ⟨u, t, b, a, rfl, rfl, hb, ha, by omega, by omega, by omega, Nat.mul_comm _ _⟩
  ·refine vwp_skip ?_
   refine xS ?_
   exact ⟨t, u, a, b, rfl, rfl, ha, hb, by omega, hN, by omega, rfl⟩
 rintro ⟨ρ, σ, c1⟩ ⟨t, u, x, y, h0, h1, h2, hx, hy, hyx, hN2, hxn, hv, hσ, hc1⟩
 dsimp only at h0 h1 h2 hσ hc1
 subst hσ hc1
 rw [← hv, hN, ← hN2]
 by_cases g1 : (y.length : Int) < 40
 ·refine xRF (jn h0 (jn h1 (jn h2 g1))) ?_
  refine s_call (school_spec t u x y c1 hx hy (by omega) (by omega)) (yMF (jn h0 h1)) ?_
  rintro v c2 hc2 ⟨l, i, rfl, hi1, hi2, hl, hll, hlv⟩
  refine xRF (jn h0 h1) ?_
  exact ⟨l, i, rfl, hi1, hi2, hl, by omega, hlv⟩
 have ek : ((x.length : Int) + 1) / 2 = (((x.length + 1) / 2 : Nat) : Int) := by omega
 have hk1 : (x.length + 1) / 2 ≤ x.length := by omega
 have hk2 : 2 * ((x.length + 1) / 2) ≤ x.length + 1 := by omega
 have hk3 : 20 ≤ (x.length + 1) / 2 := by omega
 have hXY := prod_lt hx hy
 have hXd := val_take_drop 18446744073709551616 ((x.length + 1) / 2) x hk1
 have hx0 : (x.drop 0).take ((x.length + 1) / 2 - 0) = x.take ((x.length + 1) / 2) := by simp
 have hx1 : (x.drop ((x.length + 1) / 2)).take (x.length - (x.length + 1) / 2) = x.drop ((x.length + 1) / 2) := List.take_of_length_le (by simp)
 have hxl : ((x.length + 1) / 2) + (x.length - (x.length + 1) / 2) = x.length := by omega
 generalize (x.length + 1) / 2 = k at *
 have hpow : 18446744073709551616 ^ (x.length + y.length) ≤ 18446744073709551616 ^ (x.length + y.length + 1) := Nat.pow_le_pow_right (by decide) (by omega)
 by_cases g2 : (y.length : Int) ≤ k
 ·refine xRF (jn h0 (jn h1 (jn h2 (jn g1 (jn g2 ek))))) ?_
  refine s_mk (n := x.length + y.length + 1) (m := x.length + y.length + 1) (ySrF (jn h0 h1)) (ySrF (jn h0 h1)) (Nat.le_refl _) (by omega) ?_
  refine xRF (jn h0 (jn h1 h2)) ?_
  refine s_call (part_spec t x 0 k _ hx (by omega) (by omega)) yMr ?_
  rintro v c2 hc2 ⟨tk0, l0, rfl, hl0, hl0a, hl0b, hl0v⟩
  rw [hx0] at hl0v
  refine xRF (jn h0 (jn h1 h2)) ?_
  refine s_call (ih _ (by omega) tk0 u l0 y c2 rfl hl0 hy (by omega) (by omega)) yM ?_
  rintro v c3 hc3 ⟨p0, i0, rfl, hi01, hi02, hp0, hp0l, hp0v⟩
  rw [hl0v] at hp0v
  have hroom : val 18446744073709551616 (List.replicate (x.length + y.length + 1) 0) + 18446744073709551616 ^ 0 * val 18446744073709551616 p0 < 18446744073709551616 ^ (x.length + y.length + 1) := by
   rw [val_replicate, Nat.zero_add, Nat.pow_zero, Nat.one_mul, hp0v]
   refine Nat.lt_of_le_of_lt (Nat.mul_le_mul_right _ ?_) (Nat.lt_of_lt_of_le hXY hpow)
   rw [hXd]; exact Nat.le_add_right _ _
  refine xRF (jn h0 (jn h1 h2)) ?_
  refine s_call1 c1 (l := List.replicate (x.length + y.length + 1) 0) yS (fun s hs => by refine xS ?_; rw [if_neg (by omega)]; rfl) (addAt_spec c1 (.id i0) _ p0 0 (x.length + y.length + 1) c3 (some (x.length + y.length + 1)) (Lim.replicate (by decide)) hp0 (by simp) (by omega) (by omega) (by omega) hroom) yMr ?_
  rintro v σ' c4 hc4 ⟨rfl, w, hσ', hwn, hwl, hwv⟩
  rw [hσ']
  rw [val_replicate, Nat.zero_add, Nat.pow_zero, Nat.one_mul, hp0v] at hwv
  refine xRF (jn h0 (jn h1 h2)) ?_
  refine s_call (part_spec t x k x.length _ hx (by omega) (by omega)) yM ?_
  rintro v c5 hc5 ⟨tk1, l1, rfl, hl1, hl1a, hl1b, hl1v⟩
  rw [hx1] at hl1v
  refine xRF (jn h0 (jn h1 h2)) ?_
  refine s_call (ih _ (by omega) tk1 u l1 y c5 rfl hl1 hy (by omega) (by omega)) yM ?_
  rintro v c6 hc6 ⟨p1, i1, rfl, hi11, hi12, hp1, hp1l, hp1v⟩
  rw [hl1v] at hp1v
  have htot : val 18446744073709551616 w + 18446744073709551616 ^ k * val 18446744073709551616 p1 = val 18446744073709551616 x * val 18446744073709551616 y := by
   rw [hwv, hp1v, hXd, Nat.add_mul, Nat.mul_assoc]
  refine xRF (jn h0 (jn h1 h2)) ?_
  refine s_call1 c1 (l := w) yS (fun s hs => by refine xS ?_; rw [if_neg (by omega)]; rfl) (addAt_spec c1 (.id i1) w p1 k (x.length + y.length + 1) c6 (some (x.length + y.length + 1)) hwl hp1 hwn (by omega) (by omega) (by omega) (by rw [htot]; exact Nat.lt_of_lt_of_le hXY hpow)) yM ?_
  rintro v σ' c7 hc7 ⟨rfl, w2, hσ', hw2n, hw2l, hw2v⟩
  rw [hσ']
  rw [htot] at hw2v
  refine xS ?_
  refine v_freeze 8 (t := c1) (off := 0) (n := x.length + y.length + 1) (cap := some (x.length + y.length + 1)) (l := w2) yS yS (by omega) (by omega) ?_
  rw [List.drop_zero, show w2.take (x.length + y.length + 1) = w2 from List.take_of_length_le (by omega)]
  refine xR ?_
  exact ⟨w2, c1, rfl, by omega, by omega, hw2l, by omega, hw2v⟩
 have hYd := val_take_drop 18446744073709551616 k y (by omega)
 have hy0 : (y.drop 0).take (k - 0) = y.take k := by simp
 have hy1 : (y.drop k).take (y.length - k) = y.drop k := List.take_of_length_le (by simp)
 obtain ⟨kar1, kar2, kar3⟩ := kar (val 18446744073709551616 (x.take k)) (val 18446744073709551616 (x.drop k)) (val 18446744073709551616 (y.take k)) (val 18446744073709551616 (y.drop k)) (18446744073709551616 ^ k)
 rw [← hXd, ← hYd] at kar1
 generalize hX0 : val 18446744073709551616 (x.take k) = X0 at *
 generalize hX1 : val 18446744073709551616 (x.drop k) = X1 at *
 generalize hY0 : val 18446744073709551616 (y.take k) = Y0 at *
 generalize hY1 : val 18446744073709551616 (y.drop k) = Y1 at *
 refine xRF (jn h0 (jn h1 (jn h2 (jn g1 (jn g2 ek))))) ?_
 refine s_call (part_spec t x 0 k _ hx (by omega) (by omega)) yMr ?_
 rintro v c2 hc2 ⟨tk2, al, rfl, hal, hala, halb, halv⟩
 rw [hx0, hX0] at halv
 refine xRF (jn h0 (jn h1 h2)) ?_
 refine s_call (part_spec t x k x.length _ hx (by omega) (by omega)) yM ?_
 rintro v c3 hc3 ⟨tk3, ah, rfl, hah, haha, hahb, hahv⟩
 rw [hx1, hX1] at hahv
 refine xRF (jn h0 (jn h1 h2)) ?_
 refine s_call (part_spec u y 0 k _ hy (by omega) (by omega)) yMr ?_
 rintro v c4 hc4 ⟨tk4, bl', rfl, hbl, hbla, hblb, hblv⟩
 rw [hy0, hY0] at hblv
 refine xRF (jn h0 (jn h1 h2)) ?_
 refine s_call (part_spec u y k y.length _ hy (by omega) (by omega)) yM ?_
 rintro v c5 hc5 ⟨tk5, bh, rfl, hbh, hbha, hbhb, hbhv⟩
 rw [hy1, hY1] at hbhv
 refine xRF (jn h0 (jn h1 h2)) ?_
 refine s_call (ih _ (by omega) tk2 tk4 al bl' c5 rfl hal hbl (by omega) (by omega)) (yMF h2) ?_
 rintro v c6 hc6 ⟨low, i1, rfl, hi11, hi12, hlow, hlowl, hlowv⟩
 rw [halv, hblv] at hlowv
 refine xRF (jn h0 (jn h1 h2)) ?_
 refine s_call (ih _ (by omega) tk3 tk5 ah bh c6 rfl hah hbh (by omega) (by omega)) (yMF h2) ?_
 rintro v c7 hc7 ⟨high, i2, rfl, hi21, hi22, hhigh, hhighl, hhighv⟩
 rw [hahv, hbhv] at hhighv
 refine xRF (jn h0 (jn h1 h2)) ?_
 refine s_call (sum_spec tk2 tk3 al ah c7 hal hah (by omega) (by omega)) yM ?_
 rintro v c8 hc8 ⟨sx, i3, rfl, hi31, hi32, hsx, hsxl, hsxv⟩
 rw [halv, hahv] at hsxv
 refine xRF (jn h0 (jn h1 h2)) ?_
 refine s_call (norm_spec (.id i3) sx c8 hsx (by omega)) yM ?_
 rintro v c9 hc9 ⟨t3, rfl, ht3⟩
 have hdx := digs_len_le two64 hsx
 rw [hsxv] at hdx ⊢
 refine xRF (jn h0 (jn h1 h2)) ?_
 refine s_call (sum_spec tk4 tk5 bl' bh c9 hbl hbh (by omega) (by omega)) yM ?_
 rintro v c10 hc10 ⟨sy, i4, rfl, hi41, hi42, hsy, hsyl, hsyv⟩
 rw [hblv, hbhv] at hsyv
 refine xRF (jn h0 (jn h1 h2)) ?_
 refine s_call (norm_spec (.id i4) sy c10 hsy (by omega)) yM ?_
 rintro v c11 hc11 ⟨t4, rfl, ht4⟩
 have hdy := digs_len_le two64 hsy
 rw [hsyv] at hdy ⊢
 refine xRF (jn h0 (jn h1 h2)) ?_
 refine s_call (ih _ (by omega) t3 t4 (digs 18446744073709551616 (X0 + X1)) (digs 18446744073709551616 (Y0 + Y1)) c11 rfl (lim_digs two64 _) (lim_digs two64 _) (by omega) (by omega)) (yMF h2) ?_
 rintro v c12 hc12 ⟨mid, i5, rfl, hi51, hi52, hmid, hmidl, hmidv⟩
 rw [val_digs two64, val_digs two64] at hmidv
 refine xRF (jn h0 (jn h1 h2)) ?_
 refine s_call (less_spec (.id i5) (.id i1) mid low c12 hmid hlow (by omega) (by omega) (by rw [hmidv, hlowv]; exact kar2)) yM ?_
 rintro v c13 hc13 ⟨m1, i6, rfl, hi61, hi62, hm1, hm1l, hm1v⟩
 rw [hmidv, hlowv] at hm1v
 refine xRF (jn h0 (jn h1 h2)) ?_
 refine s_call (less_spec (.id i6) (.id i2) m1 high c13 hm1 hhigh (by omega) (by omega) (by rw [hm1v, hhighv]; exact kar3)) yM ?_
 rintro v c14 hc14 ⟨m2, i7, rfl, hi71, hi72, hm2, hm2l, hm2v⟩
 rw [hm1v, hhighv] at hm2v
 rw [← hm2v, ← hlowv, ← hhighv] at kar1
 have hpow2 : 18446744073709551616 ^ k * 18446744073709551616 ^ k = 18446744073709551616 ^ (2 * k) := by rw [← Nat.pow_add]; congr 1; omega
 rw [hpow2] at kar1
 have hroomT : val 18446744073709551616 low + 18446744073709551616 ^ k * val 18446744073709551616 m2 + 18446744073709551616 ^ (2 * k) * val 18446744073709551616 high < 18446744073709551616 ^ (x.length + y.length + 1) := by
  rw [kar1]; exact Nat.lt_of_lt_of_le hXY hpow
 refine xRF (jn h0 (jn h1 h2)) ?_
 refine s_mk (n := x.length + y.length + 1) (m := x.length + y.length + 1) (ySrF (jn h0 h1)) (ySrF (jn h0 h1)) (Nat.le_refl _) (by omega) ?_
 refine xRF (jn h0 (jn h1 h2)) ?_
 refine s_call1 c14 (l := List.replicate (x.length + y.length + 1) 0) yS (fun s hs => by refine xS ?_; rw [if_neg (by omega)]; rfl) (addAt_spec c14 (.id i1) _ low 0 (x.length + y.length + 1) (c14 + 1) (some (x.length + y.length + 1)) (Lim.replicate (by decide)) hlow (by simp) (by omega) (by omega) (by omega) (by rw [val_replicate, Nat.zero_add, Nat.pow_zero, Nat.one_mul]; omega)) yMr ?_
 rintro v σ' c15 hc15 ⟨rfl, w, hσ', hwn, hwl, hwv⟩
 rw [hσ']
 rw [val_replicate, Nat.zero_add, Nat.pow_zero, Nat.one_mul] at hwv
 refine xRF (jn h0 (jn h1 h2)) ?_
 refine s_call1 c14 (l := w) yS (fun s hs => by refine xS ?_; rw [if_neg (by omega)]; rfl) (addAt_spec c14 (.id i7) w m2 k (x.length + y.length + 1) c15 (some (x.length + y.length + 1)) hwl hm2 hwn (by omega) (by omega) (by omega) (by rw [hwv]; omega)) yM ?_
 rintro v σ' c16 hc16 ⟨rfl, w2, hσ', hw2n, hw2l, hw2v⟩
 rw [hσ']
 rw [hwv] at hw2v
 have e2k : 2 * (k : Int) = ((2 * k : Nat) : Int) := by omega
 refine xRF (jn h0 (jn h1 (jn h2 e2k))) ?_
 refine s_call1 c14 (l := w2) yS (fun s hs => by refine xS ?_; rw [if_neg (by omega)]; rfl) (addAt_spec c14 (.id i2) w2 high (2 * k) (x.length + y.length + 1) c16 (some (x.length + y.length + 1)) hw2l hhigh hw2n (by omega) (by omega) (by omega) (by rw [hw2v]; exact hroomT)) yM ?_
 rintro v σ' c17 hc17 ⟨rfl, w3, hσ', hw3n, hw3l, hw3v⟩
 rw [hσ']
 rw [hw2v, kar1] at hw3v
 refine xS ?_
 refine v_freeze 16 (t := c14) (off := 0) (n := x.length + y.length + 1) (cap := some (x.length + y.length + 1)) (l := w3) yS yS (by omega) (by omega) ?_
 rw [List.drop_zero, show w3.take (x.length + y.length + 1) = w3 from List.take_of_length_le (by omega)]
 refine xR ?_
 exact ⟨w3, c14, rfl, by omega, by omega, hw3l, by omega, hw3v⟩

theorem mfits_spec (t : Tok) (l : List Nat) (c : Nat) (hl : Lim 18446744073709551616 l) (hn : l.length ≤ 4398046511104) : VSpec Tryz.prog F.mul_fits c [nats t l] (fun r c' => Told c c' (val 18446744073709551616 l) r) := by
 refine sG hm G.mul_fits ?_
 unfold C.mul_fits R.mul_fits cD
 have hlen := digs_len_le two64 hl
 refine xR ?_
 refine s_call (norm_spec t l c hl hn) yM ?_
 rintro v c2 hc2 ⟨t2, rfl, ht2⟩
 refine xR ?_
 refine s_call (length_spec t2 (digs 18446744073709551616 (val 18446744073709551616 l)) c2 (lim_digs two64 _) (by omega)) yM ?_
 rintro v c3 hc3 rfl
 rw [val_digs two64]
 refine xR ?_
 refine ⟨fun g => ?_, fun g => ?_⟩
 ·refine xR ?_
  exact .inr ⟨by omega, rfl⟩
 ·refine xR ?_
  exact .inl ⟨by omega, t2, rfl, ht2.mono (Nat.le_refl _) hc3⟩

theorem great_spec (t u : Tok) (a b : List Nat) (c : Nat) (ha : Lim 18446744073709551616 a) (hb : Lim 18446744073709551616 b) (hna : a.length ≤ 1099511627776) (hnb : b.length ≤ 1099511627776) :
  VSpec Tryz.prog F.mul_great c [nats t a, nats u b] (fun r c' => ∃ g, r = bv g ∧ (g = true → 67108864 < bl (val 18446744073709551616 a * val 18446744073709551616 b)) ∧ (g = false → a.length + b.length ≤ 4398046511104)) := by
 refine sG hm G.mul_great ?_
 unfold C.mul_great R.mul_great cD
 have h1 : bl (val 18446744073709551616 a) ≤ 64 * a.length := by
  refine bl_le ?_
  have := val_lt ha
  rw [pow64] at this
  exact this
 have h2 : bl (val 18446744073709551616 b) ≤ 64 * b.length := by
  refine bl_le ?_
  have := val_lt hb
  rw [pow64] at this
  exact this
 refine xR ?_
 refine s_call (length_spec t a c ha (by omega)) yM ?_
 rintro v c2 hc2 rfl
 refine xR ?_
 refine s_call (length_spec u b c2 hb (by omega)) yM ?_
 rintro v c3 hc3 rfl
 by_cases g1 : (0 : Int) < bl (val 18446744073709551616 a)
 ·by_cases g2 : (0 : Int) < bl (val 18446744073709551616 b)
  ·refine xRF (jn g1 g2) ?_
   refine ⟨_, rfl, fun h => ?_, fun _ => by omega⟩
   have h := of_decide_eq_true h
   have p1 := le_of_bl (n := val 18446744073709551616 a) (by rcases Nat.eq_zero_or_pos (val 18446744073709551616 a) with e | e; rw [e] at g1; simp [bl] at g1; exact e)
   have p2 := le_of_bl (n := val 18446744073709551616 b) (by rcases Nat.eq_zero_or_pos (val 18446744073709551616 b) with e | e; rw [e] at g2; simp [bl] at g2; exact e)
   have p3 := Nat.mul_le_mul p1 p2
   rw [← Nat.pow_add] at p3
   have p4 : ¬ bl (val 18446744073709551616 a * val 18446744073709551616 b) ≤ bl (val 18446744073709551616 a) - 1 + (bl (val 18446744073709551616 b) - 1) := fun h => by
    have := lt_of_bl h
    omega
   omega
  ·refine xRF (jn g1 g2) ?_
   exact ⟨_, rfl, (fun h => by cases h), fun _ => by omega⟩
 ·refine xRF g1 ?_
  exact ⟨_, rfl, (fun h => by cases h), fun _ => by omega⟩

theorem mul1_spec (t u : Tok) (a b : List Nat) (c : Nat) (ha : Lim 18446744073709551616 a) (hb : Lim 18446744073709551616 b) (hna : a.length ≤ 549755813888) (hnb : b.length ≤ 549755813888) :
  VSpec Tryz.prog F.mul_Mul_1 c [nats t a, nats u b] (fun r c' => RawR c c' (val 18446744073709551616 a * val 18446744073709551616 b) (a.length + b.length + 1) r) := by
 refine sG hm G.mul_Mul_1 ?_
 unfold C.mul_Mul_1 R.mul_Mul_1 cD
 refine xR ?_
 refine s_call (halved_spec _ t u a b c rfl ha hb hna hnb) yM ?_
 rintro v c2 hc2 ⟨l, i, rfl, h1, h2, h3, h4, h5⟩
 refine xR ?_
 exact ⟨l, i, rfl, h1, h2, h3, h4, h5⟩

theorem product_spec (t u : Tok) (a b : List Nat) (c : Nat) (ha : Lim 18446744073709551616 a) (hb : Lim 18446744073709551616 b) (hna : a.length ≤ 549755813888) (hnb : b.length ≤ 549755813888) :
  VSpec Tryz.prog F.mul_product c [nats t a, nats u b, .lit (.func (.func F.mul_Mul_1) #[] #[])] (fun r c' => Told c c' (val 18446744073709551616 a * val 18446744073709551616 b) r) := by
 refine sG hm G.mul_product ?_
 unfold C.mul_product R.mul_product cD
 have hla := digs_len_le two64 ha
 have hlb := digs_len_le two64 hb
 refine xR ?_
 refine s_call (norm_spec t a c ha (by omega)) yM ?_
 rintro v c2 hc2 ⟨t2, rfl, ht2⟩
 refine xR ?_
 refine s_call (norm_spec u b c2 hb (by omega)) yM ?_
 rintro v c3 hc3 ⟨u2, rfl, hu2⟩
 have hx := lim_digs two64 (val 18446744073709551616 a)
 have hy := lim_digs two64 (val 18446744073709551616 b)
 have va := val_digs two64 (val 18446744073709551616 a)
 have vb := val_digs two64 (val 18446744073709551616 b)
 refine xR ?_
 refine s_call (great_spec t2 u2 _ _ c3 hx hy (by omega) (by omega)) yM ?_
 rintro v c4 hc4 ⟨g, rfl, hg1, hg2⟩
 rw [va, vb] at hg1
 cases g with
 | true =>
  refine xR ?_
  exact .inr ⟨hg1 rfl, rfl⟩
 | false =>
  refine xR ?_
  refine s_callv (f := F.mul_Mul_1) yS ⟨_, _, G.mul_Mul_1.e, by kernel_rfl, G.mul_Mul_1.b⟩ (mul1_spec t2 u2 _ _ c4 hx hy (by omega) (by omega)) yM ?_
  rintro v c5 hc5 ⟨l, i, rfl, h1, h2, h3, h4, h5⟩
  rw [va, vb] at h5
  refine xR ?_
  refine s_call (mfits_spec (.id i) l c5 h3 (by omega)) yM ?_
  rintro v c6 hc6 (⟨hb1, t6, rfl, ht6⟩ | ⟨hb1, rfl⟩)
  ·rw [h5] at hb1 ⊢
   refine xR ?_
   exact .inl ⟨hb1, t6, rfl, ht6.mono (by omega) (Nat.le_refl _)⟩
  ·rw [h5] at hb1
   refine xR ?_
   exact .inr ⟨hb1, rfl⟩

theorem mul_spec (t u : Tok) (a b : List Nat) (c : Nat) (ha : Lim 18446744073709551616 a) (hb : Lim 18446744073709551616 b) (hna : a.length ≤ 549755813888) (hnb : b.length ≤ 549755813888) :
  VSpec Tryz.prog F.mul_Mul c [nats t a, nats u b] (fun r c' => Told c c' (val 18446744073709551616 a * val 18446744073709551616 b) r) := by
 refine sG hm G.mul_Mul ?_
 unfold C.mul_Mul R.mul_Mul cD
 refine xR ?_
 refine s_call (product_spec t u a b c ha hb hna hnb) yM ?_
 rintro v c2 hc2 (⟨hb1, t6, rfl, ht6⟩ | ⟨hb1, rfl⟩)
 ·refine xR ?_
  exact .inl ⟨hb1, t6, rfl, ht6⟩
 ·refine xR ?_
  exact .inr ⟨hb1, rfl⟩

theorem square_spec (t : Tok) (a : List Nat) (c : Nat) (ha : Lim 18446744073709551616 a) (hna : a.length ≤ 549755813888) :
  VSpec Tryz.prog F.mul_Square c [nats t a] (fun r c' => Told c c' (val 18446744073709551616 a * val 18446744073709551616 a) r) := by
 refine sG hm G.mul_Square ?_
 unfold C.mul_Square R.mul_Square cD
 refine xR ?_
 refine s_call (mul_spec t t a a c ha ha hna hna) yM ?_
 rintro v c2 hc2 (⟨hb1, t6, rfl, ht6⟩ | ⟨hb1, rfl⟩)
 ·refine xR ?_
  exact .inl ⟨hb1, t6, rfl, ht6⟩
 ·refine xR ?_
  exact .inr ⟨hb1, rfl⟩

theorem pow_spec (t : Tok) (a : List Nat) (n c : Nat) (ha : Lim 18446744073709551616 a) (hna : a.length ≤ 1073741824) (hn : n < 9223372036854775808) :
  VSpec Tryz.prog F.mul_Pow c [nats t a, iv n] (fun r c' => Told c c' (val 18446744073709551616 a ^ n) r) := by
 refine sG hm G.mul_Pow ?_
 unfold C.mul_Pow R.mul_Pow cD
 have hla := digs_len_le two64 ha
 have hx := lim_digs two64 (val 18446744073709551616 a)
 have va := val_digs two64 (val 18446744073709551616 a)
 have g1 : ¬ (n : Int) < 0 := by omega
 refine xRF g1 ?_
 refine s_call (norm_spec t a c ha (by omega)) yM ?_
 rintro v c2 hc2 ⟨t2, rfl, ht2⟩
 by_cases g2 : (n : Int) = 0
 ·refine xRF g2 ?_
  refine s_call (from_spec 1 c2 (by decide)) yM ?_
  rintro v c3 hc3 ⟨t3, rfl, ht3⟩
  refine xRF g2 ?_
  have hn0 : n = 0 := by omega
  subst hn0
  rw [Nat.pow_zero]
  exact .inl ⟨by decide, t3, rfl, ht3.mono hc2 (Nat.le_refl _)⟩
 refine xRF g2 ?_
 refine s_call (length_spec t2 _ c2 hx (by omega)) yM ?_
 rintro v c3 hc3 rfl
 rw [va]
 by_cases g3 : (bl (val 18446744073709551616 a) : Int) ≤ 1
 ·refine xRF (jn g2 g3) ?_
  have hA : val 18446744073709551616 a = 0 ∨ val 18446744073709551616 a = 1 := by
   have := lt_of_bl (show bl (val 18446744073709551616 a) ≤ 1 by omega)
   omega
  have : val 18446744073709551616 a ^ n = val 18446744073709551616 a := by
   rcases hA with e | e <;> rw [e]
   ·exact Nat.zero_pow (by omega)
   ·exact Nat.one_pow n
  rw [this]
  exact .inl ⟨by omega, t2, rfl, ht2.mono (Nat.le_refl _) hc3⟩
 have hA2 : 2 ≤ val 18446744073709551616 a := by
  rcases Nat.lt_or_ge (val 18446744073709551616 a) 2 with g | g
  ·have := bl_le (k := 1) g; omega
  ·exact g
 have hlow := bl_pow_low (A := val 18446744073709551616 a) (n := n) (by omega)
 have hblA : bl (val 18446744073709551616 a) ≤ 64 * a.length := by
  refine bl_le ?_
  have := val_lt ha
  rw [pow64] at this
  exact this
 by_cases g4 : (67108864 : Int) < n
 ·refine xRF (jn g2 (jn g3 g4)) ?_
  refine .inr ⟨?_, rfl⟩
  have : 1 * n ≤ (bl (val 18446744073709551616 a) - 1) * n := Nat.mul_le_mul_right _ (by omega)
  omega
 have hprod : ((bl (val 18446744073709551616 a) : Int) - 1) * n = (((bl (val 18446744073709551616 a) - 1) * n : Nat) : Int) := by
  rw [Int.natCast_mul]; congr 1; omega
 have hprodle : (bl (val 18446744073709551616 a) - 1) * n ≤ 64 * 1073741824 * 67108864 := Nat.mul_le_mul (by omega) (by omega)
 obtain ⟨q, hq⟩ : ∃ q, q = (bl (val 18446744073709551616 a) - 1) * n := ⟨_, rfl⟩
 rw [← hq] at hprod hprodle hlow
 by_cases g5 : (67108864 : Int) < (q : Int) + 1
 ·refine xRF (jn g2 (jn g3 (jn g4 (jn hprod g5)))) ?_
  exact .inr ⟨by omega, rfl⟩
 refine xRF (jn g2 (jn g3 (jn g4 (jn hprod g5)))) ?_
 refine s_call (from_spec 1 c3 (by decide)) yM ?_
 rintro v c4 hc4 ⟨t3, rfl, ht3⟩
 refine xR ?_
 have ht30 : Tk c c4 t3 := ht3.mono (by omega) (Nat.le_refl _)
 refine v_loopR (fun S => ∃ t, bl (val 18446744073709551616 a ^ n) ≤ 67108864 ∧ Tk c S.c t ∧ S.ρ 7 = nats t (digs 18446744073709551616 (val 18446744073709551616 a ^ n)) ∧ S.σ = noBlk ∧ c3 ≤ S.c) ?_ ?_
 ·refine vwp_loop (fun m S => ∃ k t, m = k ∧ k ≤ 63 ∧ bl (val 18446744073709551616 a ^ (n / 2 ^ k)) ≤ 67108864 ∧ Tk c S.c t ∧ S.ρ 0 = nats t2 (digs 18446744073709551616 (val 18446744073709551616 a)) ∧ S.ρ 1 = iv n ∧ S.ρ 7 = nats t (digs 18446744073709551616 (val 18446744073709551616 a ^ (n / 2 ^ k))) ∧ S.ρ 8 = iv ((k : Int) - 1) ∧ S.σ = noBlk ∧ c3 ≤ S.c) 63 ?_ ?_
  ·have e0 : n / 2 ^ 63 = 0 := by omega
   refine ⟨63, t3, rfl, ?_⟩
   rw [e0, Nat.pow_zero]
   refine xS ?_
   (repeat' apply And.intro) <;> first | rfl | omega | assumption | decide
  rintro m ⟨ρ2, σ, c5⟩ ⟨k, t4, hm', hk, hb4, ht4, h0, h1, h7, h8, hσ, hc5⟩
  dsimp only at ht4 h0 h1 h7 h8 hσ hc5
  subst hσ
  rcases Nat.eq_zero_or_pos k with rfl | hkp
  ·have g : ¬ (0 : Int) ≤ ((0 : Nat) : Int) - 1 := by omega
   rw [Nat.pow_zero, Nat.div_one] at hb4 h7
   refine xRF (jn h8 g) ?_
   exact ⟨t4, hb4, ht4, h7, hc5⟩
  obtain ⟨i, rfl⟩ : ∃ i, k = i + 1 := ⟨k - 1, by omega⟩
  have e1 : (((i + 1 : Nat) : Int) - 1) = (i : Int) := by omega
  rw [e1] at h8
  have hi0 : (0 : Int) ≤ (i : Int) := by omega
  have emin : min i 64 = i := by omega
  have hpos : 0 < val 18446744073709551616 a ^ (n / 2 ^ (i + 1)) := Nat.pow_pos (by omega)
  have hlen : (digs 18446744073709551616 (val 18446744073709551616 a ^ (n / 2 ^ (i + 1)))).length ≤ 1048576 := digs_len_bl (by omega)
  have hg : (0 : Int) < (digs 18446744073709551616 (val 18446744073709551616 a ^ (n / 2 ^ (i + 1)))).length := by
   have : digs 18446744073709551616 (val 18446744073709551616 a ^ (n / 2 ^ (i + 1))) ≠ [] := fun e => by have := (digs_eq_nil two64).1 e; omega
   have := List.length_pos_iff.2 this
   omega
  have hld := lim_digs two64 (val 18446744073709551616 a ^ (n / 2 ^ (i + 1)))
  have hvd := val_digs two64 (val 18446744073709551616 a ^ (n / 2 ^ (i + 1)))
  have hhalf := pow_half (val 18446744073709551616 a) n i
  have hle : val 18446744073709551616 a ^ (n / 2 ^ i) ≤ val 18446744073709551616 a ^ n := Nat.pow_le_pow_right (by omega) (Nat.div_le_self _ _)
  generalize val 18446744073709551616 a ^ (n / 2 ^ (i + 1)) = o at *
  refine xRF (jn h0 (jn h1 (jn h7 (jn h8 (jn hi0 hg))))) ?_
  refine s_call (square_spec t4 _ c5 hld (by omega)) (yMF h7) ?_
  rw [hvd]
  have g30 : ¬ (3 : Int) = 0 := by omega
  rintro v c6 hc6 (⟨hb6, t6, rfl, ht6⟩ | ⟨hb6, rfl⟩)
  ·by_cases gb : n / 2 ^ i % 2 = 1
   ·rw [if_pos gb] at hhalf
    have hlen2 : (digs 18446744073709551616 (o * o)).length ≤ 1048576 := digs_len_bl (by omega)
    have hld2 := lim_digs two64 (o * o)
    have hvd2 := val_digs two64 (o * o)
    generalize digs 18446744073709551616 (o * o) = oo at *
    have gbi : ((n / 2 ^ i % 2 : Nat) : Int) = 1 := by omega
    refine xRF (jn h0 (jn h1 (jn h7 (jn h8 (jn emin gbi))))) ?_
    refine s_call (mul_spec t6 t2 oo (digs 18446744073709551616 (val 18446744073709551616 a)) c6 hld2 hx (by omega) (by omega)) (yMF h0) ?_
    rw [hvd2, va]
    rintro v c7 hc7 (⟨hb7, t7, rfl, ht7⟩ | ⟨hb7, rfl⟩)
    ·refine xRF (jn h0 (jn h1 (jn h7 (jn h8 g30)))) ?_
     rw [← hhalf] at hb7 ⊢
     exact ⟨i, by omega, i, t7, rfl, by omega, hb7, ht7.mono (by omega) (Nat.le_refl _), rfl, rfl, by omega⟩
    ·refine xRF (jn h0 (jn h1 (jn h7 (jn h8 g30)))) ?_
     rw [← hhalf] at hb7
     exact .inr ⟨Nat.lt_of_lt_of_le hb7 (bl_mono hle), rfl⟩
   ·rw [if_neg gb, Nat.mul_one] at hhalf
    have gbi : ¬ ((n / 2 ^ i % 2 : Nat) : Int) = 1 := by omega
    refine xRF (jn h0 (jn h1 (jn h7 (jn h8 (jn emin gbi))))) ?_
    rw [← hhalf] at hb6 ⊢
    exact ⟨i, by omega, i, t6, rfl, by omega, hb6, ht6.mono (by omega) (Nat.le_refl _), rfl, rfl, by omega⟩
  ·refine xRF (jn h0 (jn h1 (jn h7 (jn h8 g30)))) ?_
   refine .inr ⟨?_, rfl⟩
   refine Nat.lt_of_lt_of_le hb6 (bl_mono (Nat.le_trans ?_ hle))
   rw [hhalf]
   refine Nat.le_mul_of_pos_right _ ?_
   split <;> omega
 rintro ⟨ρ3, σ, c5⟩ ⟨t5, hb5, ht5, h7, hσ, hc5⟩
 dsimp only at ht5 h7 hσ hc5
 subst hσ
 refine xRF h7 ?_
 exact .inl ⟨hb5, t5, rfl, ht5⟩

theorem up_spec (t : Tok) (a : List Nat) (s c : Nat) (ha : Lim 18446744073709551616 a) (hs : s < 64) (hna : a.length ≤ 1099511627776) :
  VSpec Tryz.prog F.div_up c [nats t a, nv s] (fun r c' => ∃ l i, r = nats (.id i) l ∧ c ≤ i ∧ i < c' ∧ Lim 18446744073709551616 l ∧ l.length = a.length + 1 ∧ val 18446744073709551616 l = val 18446744073709551616 a * 2 ^ s) := by
 refine sG hm G.div_up ?_
 unfold C.div_up R.div_up cD
 refine xR ?_
 refine s_mk (n := a.length + 1) (m := a.length + 1) ySr ySr (Nat.le_refl _) (by omega) ?_
 refine xR ?_
 refine v_loop (fun S => ∃ w, w.length = a.length + 1 ∧ Lim 18446744073709551616 w ∧ val 18446744073709551616 w = val 18446744073709551616 a * 2 ^ s ∧ S.ρ 5 = .buf c 0 (a.length + 1) (some (a.length + 1)) 1 ∧ S.σ = supd noBlk c (nblk w) ∧ c + 1 ≤ S.c) ?_ ?_
 ·refine vwp_loop (fun k S => ∃ i w top, k = a.length - i ∧ i ≤ a.length ∧ w.length = i ∧ Lim 18446744073709551616 w ∧ top < 2 ^ s ∧ val 18446744073709551616 (w ++ [top]) = val 18446744073709551616 (a.take i) * 2 ^ s ∧ S.ρ 12 = nats t a ∧ S.ρ 1 = nv s ∧ S.ρ 13 = iv a.length ∧ S.ρ 14 = iv i ∧ S.ρ 5 = .buf c 0 (a.length + 1) (some (a.length + 1)) 1 ∧ S.σ = supd noBlk c (nblk (w ++ top :: List.replicate (a.length - i) 0)) ∧ c + 1 ≤ S.c) a.length ?_ ?_
  ·refine ⟨0, [], 0, by omega, by omega, ?_⟩
   refine xS ?_
   (repeat' apply And.intro) <;> first | rfl | omega | assumption | exact Lim.nil | exact Nat.two_pow_pos s | (simp [val]; done) | (rw [List.nil_append, Nat.sub_zero, List.replicate_succ])
  rintro k ⟨ρ2, σ, c4⟩ ⟨i, w, top, hk, hi, hw, hlw, ht, hinv, h12, h1, h13, h14, h5, hσ, hc4⟩
  dsimp only at h12 h1 h13 h14 h5 hσ hc4
  subst hσ
  by_cases g : (i : Int) < a.length
  ·have hi' : i < a.length := by omega
   have hxi := ha.getD (i := i) (by decide)
   obtain ⟨p1, p2, p3⟩ := shl_parts hs hxi
   obtain ⟨o1, o2⟩ := or_top hs hxi ht
   have e2 : ((i : Int) + 1).toNat = i + 1 := by omega
   have e3 : min s 64 = s := by omega
   have e4 : (63 + (18446744073709551616 - s % 18446744073709551616)) % 18446744073709551616 = 63 - s := by omega
   have e5 : min (63 - s) 64 = 63 - s := by omega
   have hps : 2 ^ s ≤ 18446744073709551616 := Nat.le_trans (Nat.pow_le_pow_right (by decide) (show s ≤ 64 by omega)) (by decide)
   have e6 : top % 18446744073709551616 = top := Nat.mod_eq_of_lt (by omega)
   have hget1 : (w ++ top :: List.replicate (a.length - i) 0).getD i 0 = top := by rw [← hw]; exact getD_at _ _ _
   have hlen1 : (w ++ top :: List.replicate (a.length - i) 0).length = a.length + 1 := by simp; omega
   have hset1 : ∀ v, (w ++ top :: List.replicate (a.length - i) 0).set i v = (w ++ [v]) ++ 0 :: List.replicate (a.length - (i + 1)) 0 := fun v => by
    conv => lhs; rw [← hw]
    rw [set_at, show a.length - w.length = a.length - (i + 1) + 1 by omega, List.replicate_succ]; simp
   have hl2 : ∀ v, (w ++ [v]).length = i + 1 := fun v => by simp; omega
   have hlen2 : ∀ v, ((w ++ [v]) ++ 0 :: List.replicate (a.length - (i + 1)) 0).length = a.length + 1 := fun v => by simp; omega
   have hset2 : ∀ v u, ((w ++ [v]) ++ 0 :: List.replicate (a.length - (i + 1)) 0).set (i + 1) u = (w ++ [v]) ++ u :: List.replicate (a.length - (i + 1)) 0 := fun v u => by
    rw [← hl2 v, set_at]
   have key := shl_step (i := i) hw hinv p1
   rw [← Nat.mul_assoc, ← Nat.add_mul, ← val_take (l := a) (i := i) hi'] at key
   refine xRF (jn h12 (jn h1 (jn h13 (jn h14 (jn h5 (jn g (jn e2 (jn e3 (jn e4 (jn e5 (jn hget1 (jn hlen1 (jn hset1 (jn @u_or (jn e6 (jn @Nat.mod_mod (jn o1 (jn hlen2 hset2)))))))))))))))))) ?_
   refine ⟨a.length - (i + 1), by omega, i + 1, w ++ [top + a.getD i 0 * 2 ^ s % 18446744073709551616], a.getD i 0 / 2 / 2 ^ (63 - s), ?_⟩
   (repeat' apply And.intro) <;> first | rfl | omega | assumption | (simp [hw]; done) | exact lim_snoc hlw o2 | exact key
  ·have hi' : i = a.length := by omega
   subst hi'
   refine xRF (jn h12 (jn h1 (jn h13 (jn h14 (jn h5 g))))) ?_
   rw [List.take_length] at hinv
   have hps : 2 ^ s ≤ 18446744073709551616 := Nat.le_trans (Nat.pow_le_pow_right (by decide) (show s ≤ 64 by omega)) (by decide)
   refine ⟨w ++ [top], ?_⟩
   have e0 : w ++ top :: List.replicate (a.length - a.length) 0 = w ++ [top] := by simp
   rw [e0]
   (repeat' apply And.intro) <;> first | rfl | omega | assumption | (simp [hw]; done) | exact lim_snoc hlw (by omega) | exact hinv
 rintro ⟨ρ3, σ, c5⟩ ⟨w, hw, hlw, hvw, h5, hσ, hc5⟩
 dsimp only at h5 hσ hc5
 subst hσ
 refine v_freeze 5 (t := c) (off := 0) (n := a.length + 1) (cap := some (a.length + 1)) (l := w) (ySF h5) yS (by omega) (by omega) ?_
 rw [List.drop_zero, show w.take (a.length + 1) = w from List.take_of_length_le (by omega)]
 refine xR ?_
 exact ⟨w, c, rfl, by omega, by omega, hlw, hw, hvw⟩

theorem down_spec (t : Tok) (a : List Nat) (s c : Nat) (ha : Lim 18446744073709551616 a) (hs : s < 64) (hna : a.length ≤ 1099511627776) :
  VSpec Tryz.prog F.div_down c [nats t a, nv s] (fun r c' => NatR c c' (val 18446744073709551616 a / 2 ^ s) r) := by
 refine sG hm G.div_down ?_
 unfold C.div_down R.div_down cD
 refine xR ?_
 refine s_mk (n := a.length) (m := a.length) yS yS (Nat.le_refl _) (by omega) ?_
 refine xR ?_
 have hp : (18446744073709551616 : Nat) = 2 ^ s * 2 ^ (64 - s) := by rw [← Nat.pow_add, show s + (64 - s) = 64 by omega]
 refine v_loop (fun S => ∃ w, w.length = a.length ∧ Lim 18446744073709551616 w ∧ val 18446744073709551616 w = val 18446744073709551616 a / 2 ^ s ∧ S.ρ 5 = .buf c 0 a.length (some a.length) 1 ∧ S.σ = supd noBlk c (nblk w) ∧ c + 1 ≤ S.c) ?_ ?_
 ·refine vwp_loop (fun k S => ∃ i w, k = a.length - i ∧ i ≤ a.length ∧ w.length = i ∧ Lim 18446744073709551616 w ∧ val 18446744073709551616 w * 2 ^ s + a.getD 0 0 % 2 ^ s = val 18446744073709551616 (a.take i) + 18446744073709551616 ^ i * (a.getD i 0 % 2 ^ s) ∧ S.ρ 0 = nats t a ∧ S.ρ 1 = nv s ∧ S.ρ 11 = nats t a ∧ S.ρ 12 = iv a.length ∧ S.ρ 13 = iv i ∧ S.ρ 5 = .buf c 0 a.length (some a.length) 1 ∧ S.σ = supd noBlk c (nblk (w ++ List.replicate (a.length - i) 0)) ∧ c + 1 ≤ S.c) a.length ?_ ?_
  ·refine ⟨0, [], by omega, by omega, ?_⟩
   refine xS ?_
   (repeat' apply And.intro) <;> first | rfl | omega | assumption | exact Lim.nil | (simp [val]; done)
  rintro k ⟨ρ2, σ, c4⟩ ⟨i, w, hk, hi, hw, hlw, hinv, h0, h1, h11, h12, h13, h5, hσ, hc4⟩
  dsimp only at h0 h1 h11 h12 h13 h5 hσ hc4
  subst hσ
  by_cases g : (i : Int) < a.length
  ·have hi' : i < a.length := by omega
   have hxi := ha.getD (i := i) (by decide)
   obtain ⟨o1, o2⟩ := down_limb (y := a.getD (i + 1) 0) hs hxi
   have e2 : ((i : Int) + 1).toNat = i + 1 := by omega
   have e3 : min s 64 = s := by omega
   have e4 : (63 + (18446744073709551616 - s % 18446744073709551616)) % 18446744073709551616 = 63 - s := by omega
   have e5 : min (63 - s) 64 = 63 - s := by omega
   have e6 : a.getD i 0 / 2 ^ s < 18446744073709551616 := Nat.lt_of_le_of_lt (Nat.div_le_self _ _) hxi
   have e7 : a.getD i 0 / 2 ^ s % 18446744073709551616 = a.getD i 0 / 2 ^ s := Nat.mod_eq_of_lt e6
   have hlen1 : (w ++ List.replicate (a.length - i) 0).length = a.length := by simp; omega
   have hset1 : ∀ v, (w ++ List.replicate (a.length - i) 0).set i v = w ++ v :: List.replicate (a.length - (i + 1)) 0 := fun v => by
    conv => lhs; rw [← hw]
    rw [show a.length - w.length = a.length - (i + 1) + 1 by omega, List.replicate_succ, set_at]
   have hlen2 : ∀ v, (w ++ v :: List.replicate (a.length - (i + 1)) 0).length = a.length := fun v => by simp; omega
   have hget2 : ∀ v, (w ++ v :: List.replicate (a.length - (i + 1)) 0).getD i 0 = v := fun v => by rw [← hw]; exact getD_at _ _ _
   have hset2 : ∀ v u, (w ++ v :: List.replicate (a.length - (i + 1)) 0).set i u = w ++ u :: List.replicate (a.length - (i + 1)) 0 := fun v u => by
    conv => lhs; rw [← hw]
    rw [set_at, hw]
   have key := down_step (y := a.getD (i + 1) 0) hw hinv hp rfl
   rw [← val_take (l := a) (i := i) hi'] at key
   have eapp : ∀ v, w ++ v :: List.replicate (a.length - (i + 1)) 0 = (w ++ [v]) ++ List.replicate (a.length - (i + 1)) 0 := fun v => by simp
   by_cases g2 : (i : Int) + 1 < a.length
   ·refine xRF (jn h0 (jn h1 (jn h11 (jn h12 (jn h13 (jn h5 (jn g (jn g2 (jn e2 (jn e3 (jn e4 (jn e5 (jn e7 (jn hlen1 (jn hset1 (jn hlen2 (jn hget2 (jn hset2 (jn @u_or (jn @Nat.mod_mod o1)))))))))))))))))))) ?_
    refine ⟨a.length - (i + 1), by omega, i + 1, w ++ [a.getD i 0 / 2 ^ s + (a.getD (i + 1) 0 % 2 ^ s) * 2 ^ (64 - s)], ?_⟩
    rw [eapp]
    (repeat' apply And.intro) <;> first | rfl | omega | assumption | (simp [hw]; done) | exact lim_snoc hlw o2 | exact key
   ·have hy : a.getD (i + 1) 0 = 0 := getD_ge (by omega)
    rw [hy, Nat.zero_mod, Nat.zero_mul, Nat.add_zero] at key
    refine xRF (jn h0 (jn h1 (jn h11 (jn h12 (jn h13 (jn h5 (jn g (jn g2 (jn e2 (jn e3 (jn e4 (jn e5 (jn e7 (jn hlen1 hset1)))))))))))))) ?_
    refine ⟨a.length - (i + 1), by omega, i + 1, w ++ [a.getD i 0 / 2 ^ s], ?_⟩
    rw [eapp, hy, Nat.zero_mod]
    (repeat' apply And.intro) <;> first | rfl | omega | assumption | (simp [hw]; done) | exact lim_snoc hlw e6 | exact key
  ·have hi' : i = a.length := by omega
   subst hi'
   refine xRF (jn h0 (jn h1 (jn h11 (jn h12 (jn h13 (jn h5 g)))))) ?_
   rw [List.take_length, getD_ge (Nat.le_refl _), Nat.zero_mod, Nat.mul_zero, Nat.add_zero] at hinv
   refine ⟨w, ?_⟩
   have e0 : w ++ List.replicate (a.length - a.length) 0 = w := by simp
   rw [e0]
   have hv : val 18446744073709551616 w = val 18446744073709551616 a / 2 ^ s := (div_mod_of hinv (Nat.mod_lt _ (Nat.two_pow_pos s))).1.symm
   (repeat' apply And.intro) <;> first | rfl | omega | assumption | exact hv
 rintro ⟨ρ3, σ, c5⟩ ⟨w, hw, hlw, hvw, h5, hσ, hc5⟩
 dsimp only at h5 hσ hc5
 subst hσ
 refine v_freeze 5 (t := c) (off := 0) (n := a.length) (cap := some a.length) (l := w) (ySF h5) yS (by omega) (by omega) ?_
 rw [List.drop_zero, show w.take a.length = w from List.take_of_length_le (by omega)]
 refine xR ?_
 refine s_call (norm_spec (.id c) w c5 hlw (by omega)) yM ?_
 rintro v c6 hc6 ⟨t6, rfl, ht6⟩
 rw [hvw]
 refine xR ?_
 exact ⟨t6, rfl, ht6.mono (by omega) (Nat.le_refl _)⟩
end Go.Proofs.YtcafgpconlkecaaGreatDoor
