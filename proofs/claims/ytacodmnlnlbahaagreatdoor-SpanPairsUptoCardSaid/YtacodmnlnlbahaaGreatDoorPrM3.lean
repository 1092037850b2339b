/- Texts of a claim, merged: what they prove is told at the last one's head. -/
import Derived.Test.YtacodmnlnlbahaaGreatDoorPrM2
import Derived.Test.YtacodmnlnlbahaaGreatDoorProg
import Derived.Test.YtacodmnlnlbahaaGreatDoorChecked
set_option linter.unusedVariables false
namespace Go.Proofs.YtacodmnlnlbahaaGreatDoor
open Go.VM

abbrev F.surdlaw10_SpanPairs : FuncId := 4
abbrev F.surdlaw10_lend : FuncId := 10
abbrev F.surdlaw10_of : FuncId := 13
abbrev F.surdref08_Fits : FuncId := 14
abbrev F.surdlaw10_dyad : FuncId := 15
abbrev F.surdlaw10_alike : FuncId := 16
abbrev F.surdlaw10_own : FuncId := 17
abbrev F.surdlaw10_Two_kept : FuncId := 18
abbrev F.surdlaw10_awake : FuncId := 19
abbrev F.surdlaw10_worst : FuncId := 20
abbrev F.span_Min : FuncId := 21
abbrev F.span_Max : FuncId := 22
abbrev F.span_Hull : FuncId := 23
abbrev F.span_Meet : FuncId := 24
abbrev F.surdref10_Meet : FuncId := 25
abbrev F.surdref10_Min : FuncId := 26
abbrev F.surdref10_Max : FuncId := 27
abbrev F.surdref10_Hull : FuncId := 28
abbrev F.surdlaw10_lent : FuncId := 29
abbrev F.surdlaw10_num : FuncId := 34
abbrev F.surdref01_Kept : FuncId := 35
abbrev F.surdref08_Cmp : FuncId := 38
abbrev F.surdref01_Own : FuncId := 49
abbrev F.span_Add : FuncId := 50
abbrev F.surdref06_Z_Sign : FuncId := 58
abbrev F.span_check : FuncId := 64
abbrev F.surdref08_Of : FuncId := 66
abbrev F.surdref06_Of : FuncId := 67
abbrev F.surdref10_Told : FuncId := 68
abbrev F.surdref08_D_Is : FuncId := 69
abbrev F.surdlaw10_small : FuncId := 70
abbrev F.surdref08_Int : FuncId := 71
abbrev F.span_pair : FuncId := 72
abbrev F.dyadic_Min : FuncId := 73
abbrev F.dyadic_Max : FuncId := 74
abbrev F.span_checks : FuncId := 75
abbrev F.dyadic_Compare : FuncId := 76
abbrev F.surdref10_more : FuncId := 77
abbrev F.surdref10_less : FuncId := 78
abbrev F.surdref01_Lend : FuncId := 79
abbrev F.surdref08_D_Top : FuncId := 81
abbrev F.surdref06_Cmp : FuncId := 82
abbrev F.surdref06_Shift : FuncId := 83
abbrev F.dyadic_Round : FuncId := 86
abbrev F.span_worst : FuncId := 87
abbrev F.surdref08_Told : FuncId := 88
abbrev F.surdref01_Num_Len : FuncId := 91
abbrev F.surdref01_Shl : FuncId := 92
abbrev F.surdref01_Int : FuncId := 93
abbrev F.surdref06_Floor : FuncId := 94
abbrev F.surdref10_worst : FuncId := 97
abbrev F.span_sums : FuncId := 98
abbrev F.surdref01_Num_Zero : FuncId := 104
abbrev F.span_ends : FuncId := 110
abbrev F.surdref01_Num_Tail : FuncId := 111
abbrev F.surdref01_Shr : FuncId := 112
abbrev F.surdref06_make1 : FuncId := 113
abbrev F.surdref01_Of : FuncId := 114
abbrev F.surdref06_Z_Is : FuncId := 115
abbrev F.surdref06_Int : FuncId := 116
abbrev F.dyadic_pick : FuncId := 117
abbrev F.dyadic_two : FuncId := 118
abbrev F.dyadic_compare : FuncId := 119
abbrev F.whole_Sign : FuncId := 120
abbrev F.surdref01_Cmp : FuncId := 121
abbrev F.dyadic_sum : FuncId := 122
abbrev F.dyadic_part_sign : FuncId := 123
abbrev F.dyadic_read : FuncId := 124
abbrev F.dyadic_within : FuncId := 125
abbrev F.dyadic_direction : FuncId := 126
abbrev F.dyadic_rounded : FuncId := 127
abbrev F.surdref01_norm : FuncId := 128
abbrev F.surdref01_Num_Bit : FuncId := 131
abbrev F.dyadic_Add : FuncId := 132
abbrev F.span_outward : FuncId := 133
abbrev F.dyadic_told : FuncId := 135
abbrev F.surdref01_Num_at : FuncId := 142
abbrev F.surdref01_Num_Is : FuncId := 143
abbrev F.dyadic_number_top : FuncId := 144
abbrev F.dyadic_left : FuncId := 145
abbrev F.nat_Compare : FuncId := 146
abbrev F.nat_Length : FuncId := 147
abbrev F.whole_Make : FuncId := 148
abbrev F.dyadic_long : FuncId := 149
abbrev F.whole_Add : FuncId := 150
abbrev F.dyadic_odd : FuncId := 151
abbrev F.dyadic_steps : FuncId := 152
abbrev F.whole_result : FuncId := 154
abbrev F.dyadic_part_length : FuncId := 155
abbrev F.surdref01_Num_Limbs : FuncId := 159
abbrev F.nat_Left : FuncId := 160
abbrev F.nat_Norm : FuncId := 161
abbrev F.nat_trim : FuncId := 162
abbrev F.bits_Len64 : FuncId := 163
abbrev F.whole_fits : FuncId := 164
abbrev F.dyadic_minus : FuncId := 165
abbrev F.dyadic_plus : FuncId := 166
abbrev F.whole_norm : FuncId := 167
abbrev F.nat_Add : FuncId := 168
abbrev F.nat_Sub : FuncId := 169
abbrev F.nat_Tail : FuncId := 170
abbrev F.dyadic_shifted : FuncId := 171
abbrev F.nat_Bit : FuncId := 172
abbrev F.nat_From : FuncId := 173
abbrev F.dyadic_limb : FuncId := 178
abbrev F.nat_told : FuncId := 180
abbrev F.bits_TrailingZeros64 : FuncId := 182
abbrev F.nat_Right : FuncId := 183
def C.surdlaw10_SpanPairs : VC :=
  .seq (.region false [⟨some 2, .box (.t 0), none⟩,
   ⟨some 3, .box (.t 1), none⟩,
   ⟨some 4, .mov (.c (bv false)), none⟩]) (.seq (.region true [⟨some 23, .load (some 6) (.t 2), none⟩,
   ⟨some 24, .call F.surdlaw10_lend [.t 23], none⟩,
   ⟨some 25, .load (some 6) (.t 3), none⟩,
   ⟨some 26, .call F.surdlaw10_lend [.t 25], none⟩,
   ⟨some 5, .mov (.c .any), none⟩,
   ⟨some 6, .mov (.c .any), none⟩,
   ⟨some 5, .boxA 8 (.t 24), none⟩,
   ⟨some 6, .boxA 8 (.t 26), none⟩]) (.seq (.region false [⟨some 28, .load (some 6) (.t 2), none⟩,
   ⟨some 29, .call F.surdlaw10_of [.t 28], none⟩,
   ⟨some 27, .mov (.t 29), none⟩,
   ⟨some 30, .ext (.t 27) 0, none⟩,
   ⟨some 31, .ext (.t 27) 1, none⟩,
   ⟨some 7, .alloc [.bool false, .slice none 0 0, .int .i64 0, .bool false, .slice none 0 0, .int .i64 0], none⟩,
   ⟨none, .store 6 (.t 7) (.t 30), none⟩,
   ⟨some 8, .mov (.t 31), none⟩]) (.seq (.region false [⟨some 33, .load (some 6) (.t 3), none⟩,
   ⟨some 34, .call F.surdlaw10_of [.t 33], none⟩,
   ⟨some 32, .mov (.t 34), none⟩,
   ⟨some 35, .ext (.t 32) 0, none⟩,
   ⟨some 36, .ext (.t 32) 1, none⟩,
   ⟨some 9, .alloc [.bool false, .slice none 0 0, .int .i64 0, .bool false, .slice none 0 0, .int .i64 0], none⟩,
   ⟨none, .store 6 (.t 9) (.t 35), none⟩,
   ⟨some 10, .mov (.t 36), none⟩]) (.seq (.region false [⟨some 37, .mov (.t 8), none⟩,
   ⟨some 38, .mov (.t 10), none⟩,
   ⟨some 39, .bsl true 1 2 [.int .i64 0] [(0, (1, .t 37)), (1, (1, .t 38))], none⟩,
   ⟨some 40, .call F.surdlaw10_worst [.c (iv 0), .t 39], none⟩,
   ⟨some 11, .mov (.t 40), none⟩]) (.seq (.region false [⟨some 42, .fa 2 (.t 5), none⟩,
   ⟨some 43, .load (some 6) (.t 42), none⟩,
   ⟨some 44, .fa 2 (.t 6), none⟩,
   ⟨some 45, .load (some 6) (.t 44), none⟩,
   ⟨some 46, .call F.span_Min [.t 43, .t 45], none⟩,
   ⟨some 41, .mov (.t 46), none⟩,
   ⟨some 47, .ext (.t 41) 0, none⟩,
   ⟨some 48, .ext (.t 41) 1, none⟩,
   ⟨some 12, .alloc [.bool false, .slice none 0 0, .int .i64 0, .bool false, .slice none 0 0, .int .i64 0], none⟩,
   ⟨none, .store 6 (.t 12) (.t 47), none⟩,
   ⟨some 13, .mov (.t 48), none⟩]) (.seq (.region false [⟨some 50, .fa 2 (.t 5), none⟩,
   ⟨some 51, .load (some 6) (.t 50), none⟩,
   ⟨some 52, .fa 2 (.t 6), none⟩,
   ⟨some 53, .load (some 6) (.t 52), none⟩,
   ⟨some 54, .call F.span_Max [.t 51, .t 53], none⟩,
   ⟨some 49, .mov (.t 54), none⟩,
   ⟨some 55, .ext (.t 49) 0, none⟩,
   ⟨some 56, .ext (.t 49) 1, none⟩,
   ⟨some 14, .alloc [.bool false, .slice none 0 0, .int .i64 0, .bool false, .slice none 0 0, .int .i64 0], none⟩,
   ⟨none, .store 6 (.t 14) (.t 55), none⟩,
   ⟨some 15, .mov (.t 56), none⟩]) (.seq (.region false [⟨some 58, .fa 2 (.t 5), none⟩,
   ⟨some 59, .load (some 6) (.t 58), none⟩,
   ⟨some 60, .fa 2 (.t 6), none⟩,
   ⟨some 61, .load (some 6) (.t 60), none⟩,
   ⟨some 62, .call F.span_Hull [.t 59, .t 61], none⟩,
   ⟨some 57, .mov (.t 62), none⟩,
   ⟨some 63, .ext (.t 57) 0, none⟩,
   ⟨some 64, .ext (.t 57) 1, none⟩,
   ⟨some 16, .alloc [.bool false, .slice none 0 0, .int .i64 0, .bool false, .slice none 0 0, .int .i64 0], none⟩,
   ⟨none, .store 6 (.t 16) (.t 63), none⟩,
   ⟨some 17, .mov (.t 64), none⟩]) (.seq (.region false [⟨some 66, .fa 2 (.t 5), none⟩,
   ⟨some 67, .load (some 6) (.t 66), none⟩,
   ⟨some 68, .fa 2 (.t 6), none⟩,
   ⟨some 69, .load (some 6) (.t 68), none⟩,
   ⟨some 70, .call F.span_Meet [.t 67, .t 69], none⟩,
   ⟨some 65, .mov (.t 70), none⟩,
   ⟨some 71, .ext (.t 65) 0, none⟩,
   ⟨some 72, .ext (.t 65) 1, none⟩,
   ⟨some 18, .alloc [.bool false, .slice none 0 0, .int .i64 0, .bool false, .slice none 0 0, .int .i64 0], none⟩,
   ⟨none, .store 6 (.t 18) (.t 71), none⟩,
   ⟨some 19, .mov (.t 72), none⟩]) (.seq (.region false [⟨some 74, .load (some 6) (.t 7), none⟩,
   ⟨some 75, .load (some 6) (.t 9), none⟩,
   ⟨some 76, .call F.surdref10_Meet [.t 74, .t 75], none⟩,
   ⟨some 73, .mov (.t 76), none⟩,
   ⟨some 77, .ext (.t 73) 0, none⟩,
   ⟨some 78, .ext (.t 73) 1, none⟩,
   ⟨some 20, .alloc [.bool false, .slice none 0 0, .int .i64 0, .bool false, .slice none 0 0, .int .i64 0], none⟩,
   ⟨none, .store 6 (.t 20) (.t 77), none⟩,
   ⟨some 21, .mov (.t 78), none⟩]) (.seq (.region false [⟨some 79, .mov (.t 11), none⟩,
   ⟨some 22, .mov (.t 79), none⟩]) (.seq (.seq (.region false [⟨some 80, .mov (.t 11), none⟩,
   ⟨some 81, .bin .eql false (.t 80) (.c (iv 0)), none⟩,
   ⟨some 82, .mov (.t 81), none⟩,
   ⟨some 83, .mov (.t 21), some (82, true)⟩,
   ⟨some 84, .un .not (.t 83), some (82, true)⟩,
   ⟨some 85, .pick (.t 82) (.t 84) (.c (bv false)), none⟩]) (.cond (.t 85) (.region false [⟨some 22, .mov (.c (iv 103)), none⟩]) .skip)) (.seq (.region true [⟨some 86, .load (some 6) (.t 12), none⟩,
   ⟨some 87, .mov (.t 13), none⟩,
   ⟨some 88, .load (some 6) (.t 7), none⟩,
   ⟨some 89, .load (some 6) (.t 9), none⟩,
   ⟨some 90, .call F.surdref10_Min [.t 88, .t 89], none⟩,
   ⟨some 91, .mov (.t 11), none⟩,
   ⟨some 92, .call F.surdlaw10_alike [.t 86, .t 87, .t 90, .t 91], none⟩,
   ⟨some 93, .mov (.t 92), none⟩,
   ⟨some 94, .load (some 6) (.t 14), some (93, true)⟩,
   ⟨some 95, .mov (.t 15), some (93, true)⟩,
   ⟨some 96, .load (some 6) (.t 7), some (93, true)⟩,
   ⟨some 97, .load (some 6) (.t 9), some (93, true)⟩,
   ⟨some 98, .call F.surdref10_Max [.t 96, .t 97], some (93, true)⟩,
   ⟨some 99, .mov (.t 11), some (93, true)⟩,
   ⟨some 100, .call F.surdlaw10_alike [.t 94, .t 95, .t 98, .t 99], some (93, true)⟩,
   ⟨some 101, .pick (.t 93) (.t 100) (.c (bv false)), none⟩,
   ⟨some 102, .mov (.t 101), none⟩,
   ⟨some 103, .load (some 6) (.t 16), some (102, true)⟩,
   ⟨some 104, .mov (.t 17), some (102, true)⟩,
   ⟨some 105, .load (some 6) (.t 7), some (102, true)⟩,
   ⟨some 106, .load (some 6) (.t 9), some (102, true)⟩,
   ⟨some 107, .call F.surdref10_Hull [.t 105, .t 106], some (102, true)⟩,
   ⟨some 108, .mov (.t 11), some (102, true)⟩,
   ⟨some 109, .call F.surdlaw10_alike [.t 103, .t 104, .t 107, .t 108], some (102, true)⟩,
   ⟨some 110, .pick (.t 102) (.t 109) (.c (bv false)), none⟩,
   ⟨some 111, .mov (.t 110), none⟩,
   ⟨some 112, .load (some 6) (.t 18), some (111, true)⟩,
   ⟨some 113, .mov (.t 19), some (111, true)⟩,
   ⟨some 114, .load (some 6) (.t 20), some (111, true)⟩,
   ⟨some 115, .mov (.t 22), some (111, true)⟩,
   ⟨some 116, .call F.surdlaw10_alike [.t 112, .t 113, .t 114, .t 115], some (111, true)⟩,
   ⟨some 117, .pick (.t 111) (.t 116) (.c (bv false)), none⟩,
   ⟨some 118, .mov (.t 117), none⟩,
   ⟨some 119, .load (some 6) (.t 12), some (118, true)⟩,
   ⟨some 120, .load (some 6) (.t 14), some (118, true)⟩,
   ⟨some 121, .load (some 6) (.t 16), some (118, true)⟩,
   ⟨some 122, .load (some 6) (.t 18), some (118, true)⟩,
   ⟨some 123, .bsl true 6 4 [.bool false, .slice none 0 0, .int .i64 0, .bool false, .slice none 0 0, .int .i64 0] [(0, (6, .t 119)), (6, (6, .t 120)), (12, (6, .t 121)), (18, (6, .t 122))], some (118, true)⟩,
   ⟨some 124, .callO 17 (.t 123), some (118, true)⟩,
   ⟨some 125, .pick (.t 118) (.t 124) (.c (bv false)), none⟩,
   ⟨some 126, .mov (.t 125), none⟩,
   ⟨some 127, .load (some 8) (.t 5), some (126, true)⟩,
   ⟨some 128, .load (some 6) (.t 2), some (126, true)⟩,
   ⟨some 129, .call F.surdlaw10_Two_kept [.t 127, .t 128], some (126, true)⟩,
   ⟨some 130, .pick (.t 126) (.t 129) (.c (bv false)), none⟩,
   ⟨some 131, .mov (.t 130), none⟩,
   ⟨some 132, .load (some 8) (.t 6), some (131, true)⟩,
   ⟨some 133, .load (some 6) (.t 3), some (131, true)⟩,
   ⟨some 134, .call F.surdlaw10_Two_kept [.t 132, .t 133], some (131, true)⟩,
   ⟨some 135, .pick (.t 131) (.t 134) (.c (bv false)), none⟩,
   ⟨some 136, .mov (.t 135), none⟩,
   ⟨some 137, .call F.surdlaw10_awake [], some (136, true)⟩,
   ⟨some 138, .pick (.t 136) (.t 137) (.c (bv false)), none⟩,
   ⟨some 4, .mov (.t 138), none⟩]) .ret))))))))))))
def R.surdlaw10_SpanPairs : List VRes := [.tmp 4]
theorem K.surdlaw10_SpanPairs : resCode Tryz.prog Tryz.f4.ntmps (Tryz.f4.body.getD .skip) = C.surdlaw10_SpanPairs := by kernel_rfl
theorem Q.surdlaw10_SpanPairs : resResults Tryz.prog Tryz.f4.results.toList = some R.surdlaw10_SpanPairs := by kernel_rfl
theorem E.surdlaw10_SpanPairs : Tryz.prog.funcs[F.surdlaw10_SpanPairs]? = some Tryz.f4 := Tryz.func4
theorem B.surdlaw10_SpanPairs : Tryz.f4.body = some (Tryz.f4.body.getD .skip) := by kernel_rfl
theorem N.surdlaw10_SpanPairs : Tryz.f4.ntmps = 139 := Tryz.ntmps4

def C.surdlaw10_lend : VC :=
  .seq (.region false [⟨some 1, .box (.t 0), none⟩,
   ⟨some 2, .alloc [.slice none 0 0, .slice none 0 0, .bool false, .slice none 0 0, .int .i64 0, .bool false, .slice none 0 0, .int .i64 0], none⟩]) (.seq (.region false [⟨some 8, .fa 0 (.t 1), none⟩,
   ⟨some 9, .load (some 3) (.t 8), none⟩,
   ⟨some 10, .call F.surdlaw10_lent [.t 9], none⟩,
   ⟨some 7, .mov (.t 10), none⟩,
   ⟨some 11, .ext (.t 7) 0, none⟩,
   ⟨some 12, .ext (.t 7) 1, none⟩,
   ⟨some 4, .alloc [.bool false, .slice none 0 0, .int .i64 0], none⟩,
   ⟨some 3, .mov (.t 11), none⟩,
   ⟨none, .store 3 (.t 4) (.t 12), none⟩]) (.seq (.region false [⟨some 14, .fa 3 (.t 1), none⟩,
   ⟨some 15, .load (some 3) (.t 14), none⟩,
   ⟨some 16, .call F.surdlaw10_lent [.t 15], none⟩,
   ⟨some 13, .mov (.t 16), none⟩,
   ⟨some 17, .ext (.t 13) 0, none⟩,
   ⟨some 18, .ext (.t 13) 1, none⟩,
   ⟨some 6, .alloc [.bool false, .slice none 0 0, .int .i64 0], none⟩,
   ⟨some 5, .mov (.t 17), none⟩,
   ⟨none, .store 3 (.t 6) (.t 18), none⟩]) (.seq (.region false [⟨some 19, .mov (.t 3), none⟩,
   ⟨some 20, .mov (.t 5), none⟩,
   ⟨some 21, .load (some 3) (.t 4), none⟩,
   ⟨some 22, .load (some 3) (.t 6), none⟩,
   ⟨some 23, .build [.bool false, .slice none 0 0, .int .i64 0, .bool false, .slice none 0 0, .int .i64 0] [(0, (3, .t 21)), (3, (3, .t 22))], none⟩,
   ⟨some 24, .build [.slice none 0 0, .slice none 0 0, .bool false, .slice none 0 0, .int .i64 0, .bool false, .slice none 0 0, .int .i64 0] [(0, (1, .t 19)), (1, (1, .t 20)), (2, (6, .t 23))], none⟩,
   ⟨none, .store 8 (.t 2) (.t 24), none⟩]) .ret)))
def R.surdlaw10_lend : List VRes := [.cell 2 (some 8)]
theorem K.surdlaw10_lend : resCode Tryz.prog Tryz.f10.ntmps (Tryz.f10.body.getD .skip) = C.surdlaw10_lend := by kernel_rfl
theorem Q.surdlaw10_lend : resResults Tryz.prog Tryz.f10.results.toList = some R.surdlaw10_lend := by kernel_rfl
theorem E.surdlaw10_lend : Tryz.prog.funcs[F.surdlaw10_lend]? = some Tryz.f10 := Tryz.func10
theorem B.surdlaw10_lend : Tryz.f10.body = some (Tryz.f10.body.getD .skip) := by kernel_rfl
theorem N.surdlaw10_lend : Tryz.f10.ntmps = 25 := Tryz.ntmps10

def C.surdlaw10_of : VC :=
  .seq (.region false [⟨some 1, .box (.t 0), none⟩,
   ⟨some 2, .alloc [.bool false, .slice none 0 0, .int .i64 0, .bool false, .slice none 0 0, .int .i64 0], none⟩,
   ⟨some 3, .mov (.c (iv 0)), none⟩]) (.seq (.seq (.region false [⟨some 5, .fa 0 (.t 1), none⟩,
   ⟨some 6, .fa 2 (.t 5), none⟩,
   ⟨some 7, .load none (.t 6), none⟩,
   ⟨some 8, .call F.surdref08_Fits [.t 7], none⟩,
   ⟨some 9, .un .not (.t 8), none⟩,
   ⟨some 10, .mov (.t 9), none⟩,
   ⟨some 11, .fa 3 (.t 1), some (10, false)⟩,
   ⟨some 12, .fa 2 (.t 11), some (10, false)⟩,
   ⟨some 13, .load none (.t 12), some (10, false)⟩,
   ⟨some 14, .call F.surdref08_Fits [.t 13], some (10, false)⟩,
   ⟨some 15, .un .not (.t 14), some (10, false)⟩,
   ⟨some 16, .pick (.t 10) (.c (bv true)) (.t 15), none⟩]) (.cond (.t 16) (.seq (.region false [⟨some 17, .build [.bool false, .slice none 0 0, .int .i64 0, .bool false, .slice none 0 0, .int .i64 0] [], none⟩,
   ⟨none, .store 6 (.t 2) (.t 17), none⟩,
   ⟨some 3, .mov (.c (iv 80)), none⟩]) .ret) .skip)) (.seq (.region true [⟨some 18, .fa 0 (.t 1), none⟩,
   ⟨some 19, .load (some 3) (.t 18), none⟩,
   ⟨some 20, .call F.surdlaw10_dyad [.t 19], none⟩,
   ⟨some 21, .fa 3 (.t 1), none⟩,
   ⟨some 22, .load (some 3) (.t 21), none⟩,
   ⟨some 23, .call F.surdlaw10_dyad [.t 22], none⟩,
   ⟨some 24, .build [.bool false, .slice none 0 0, .int .i64 0, .bool false, .slice none 0 0, .int .i64 0] [(0, (3, .t 20)), (3, (3, .t 23))], none⟩,
   ⟨some 4, .mov (.c .any), none⟩,
   ⟨some 4, .boxA 6 (.t 24), none⟩]) (.seq (.seq (.region false [⟨some 25, .fa 0 (.t 4), none⟩,
   ⟨some 26, .load (some 3) (.t 25), none⟩,
   ⟨some 27, .fa 3 (.t 4), none⟩,
   ⟨some 28, .load (some 3) (.t 27), none⟩,
   ⟨some 29, .call F.surdref08_Cmp [.t 26, .t 28], none⟩,
   ⟨some 30, .bin .gtr false (.t 29) (.c (iv 0)), none⟩]) (.cond (.t 30) (.seq (.region false [⟨some 31, .build [.bool false, .slice none 0 0, .int .i64 0, .bool false, .slice none 0 0, .int .i64 0] [], none⟩,
   ⟨none, .store 6 (.t 2) (.t 31), none⟩,
   ⟨some 3, .mov (.c (iv 100)), none⟩]) .ret) .skip)) (.seq (.region false [⟨some 32, .load (some 6) (.t 4), none⟩,
   ⟨none, .store 6 (.t 2) (.t 32), none⟩,
   ⟨some 3, .mov (.c (iv 0)), none⟩]) .ret))))
def R.surdlaw10_of : List VRes := [.cell 2 (some 6), .tmp 3]
theorem K.surdlaw10_of : resCode Tryz.prog Tryz.f13.ntmps (Tryz.f13.body.getD .skip) = C.surdlaw10_of := by kernel_rfl
theorem Q.surdlaw10_of : resResults Tryz.prog Tryz.f13.results.toList = some R.surdlaw10_of := by kernel_rfl
theorem E.surdlaw10_of : Tryz.prog.funcs[F.surdlaw10_of]? = some Tryz.f13 := Tryz.func13
theorem B.surdlaw10_of : Tryz.f13.body = some (Tryz.f13.body.getD .skip) := by kernel_rfl
theorem N.surdlaw10_of : Tryz.f13.ntmps = 33 := Tryz.ntmps13

def C.surdref08_Fits : VC :=
  .seq (.region false [⟨some 2, .mov (.c (bv false)), none⟩]) (.seq (.region false [⟨some 3, .mov (.t 0), none⟩,
   ⟨some 4, .bin .geq false (.t 3) (.c (iv (-1099511627776))), none⟩,
   ⟨some 5, .mov (.t 4), none⟩,
   ⟨some 6, .mov (.t 0), some (5, true)⟩,
   ⟨some 7, .bin .leq false (.t 6) (.c (iv 1099511627776)), some (5, true)⟩,
   ⟨some 8, .pick (.t 5) (.t 7) (.c (bv false)), none⟩,
   ⟨some 2, .mov (.t 8), none⟩]) .ret)
def R.surdref08_Fits : List VRes := [.tmp 2]
theorem K.surdref08_Fits : resCode Tryz.prog Tryz.f14.ntmps (Tryz.f14.body.getD .skip) = C.surdref08_Fits := by kernel_rfl
theorem Q.surdref08_Fits : resResults Tryz.prog Tryz.f14.results.toList = some R.surdref08_Fits := by kernel_rfl
theorem E.surdref08_Fits : Tryz.prog.funcs[F.surdref08_Fits]? = some Tryz.f14 := Tryz.func14
theorem B.surdref08_Fits : Tryz.f14.body = some (Tryz.f14.body.getD .skip) := by kernel_rfl
theorem N.surdref08_Fits : Tryz.f14.ntmps = 9 := Tryz.ntmps14

def C.surdlaw10_dyad : VC :=
  .seq (.region false [⟨some 1, .box (.t 0), none⟩,
   ⟨some 2, .alloc [.bool false, .slice none 0 0, .int .i64 0], none⟩]) (.seq (.region true [⟨some 3, .fa 0 (.t 1), none⟩,
   ⟨some 4, .load none (.t 3), none⟩,
   ⟨some 5, .fa 1 (.t 1), none⟩,
   ⟨some 6, .load none (.t 5), none⟩,
   ⟨some 7, .call F.surdref06_Of [.t 4, .t 6], none⟩,
   ⟨some 8, .fa 2 (.t 1), none⟩,
   ⟨some 9, .load none (.t 8), none⟩,
   ⟨some 10, .call F.surdref08_Of [.t 7, .t 9], none⟩,
   ⟨none, .store 3 (.t 2) (.t 10), none⟩]) .ret)
def R.surdlaw10_dyad : List VRes := [.cell 2 (some 3)]
theorem K.surdlaw10_dyad : resCode Tryz.prog Tryz.f15.ntmps (Tryz.f15.body.getD .skip) = C.surdlaw10_dyad := by kernel_rfl
theorem Q.surdlaw10_dyad : resResults Tryz.prog Tryz.f15.results.toList = some R.surdlaw10_dyad := by kernel_rfl
theorem E.surdlaw10_dyad : Tryz.prog.funcs[F.surdlaw10_dyad]? = some Tryz.f15 := Tryz.func15
theorem B.surdlaw10_dyad : Tryz.f15.body = some (Tryz.f15.body.getD .skip) := by kernel_rfl
theorem N.surdlaw10_dyad : Tryz.f15.ntmps = 11 := Tryz.ntmps15

def C.surdlaw10_alike : VC :=
  .seq (.region false [⟨some 4, .box (.t 0), none⟩,
   ⟨some 6, .box (.t 2), none⟩,
   ⟨some 8, .mov (.c (bv false)), none⟩]) (.seq (.seq (.region false [⟨some 9, .mov (.t 3), none⟩,
   ⟨some 10, .bin .eql false (.t 9) (.c (iv 0)), none⟩]) (.cond (.t 10) (.region false [⟨some 12, .load (some 6) (.t 6), none⟩,
   ⟨some 13, .call F.surdref10_Told [.t 12], none⟩,
   ⟨some 11, .mov (.t 13), none⟩,
   ⟨some 14, .ext (.t 11) 0, none⟩,
   ⟨some 15, .ext (.t 11) 1, none⟩,
   ⟨none, .store 6 (.t 6) (.t 14), none⟩,
   ⟨some 3, .mov (.t 15), none⟩]) .skip)) (.seq (.seq (.region false [⟨some 16, .mov (.t 3), none⟩,
   ⟨some 17, .bin .neq false (.t 16) (.c (iv 0)), none⟩]) (.cond (.t 17) (.seq (.region false [⟨some 18, .mov (.t 1), none⟩,
   ⟨some 19, .call F.surdlaw10_num [.t 18], none⟩,
   ⟨some 20, .mov (.t 3), none⟩,
   ⟨some 21, .bin .eql false (.t 19) (.t 20), none⟩,
   ⟨some 22, .mov (.t 21), none⟩,
   ⟨some 23, .fa 0 (.t 4), some (22, true)⟩,
   ⟨some 24, .fa 0 (.t 23), some (22, true)⟩,
   ⟨some 25, .fa 1 (.t 24), some (22, true)⟩,
   ⟨some 26, .load none (.t 25), some (22, true)⟩,
   ⟨some 27, .len (.t 26), some (22, true)⟩,
   ⟨some 28, .bin .eql false (.t 27) (.c (iv 0)), some (22, true)⟩,
   ⟨some 29, .pick (.t 22) (.t 28) (.c (bv false)), none⟩,
   ⟨some 30, .mov (.t 29), none⟩,
   ⟨some 31, .fa 3 (.t 4), some (30, true)⟩,
   ⟨some 32, .fa 0 (.t 31), some (30, true)⟩,
   ⟨some 33, .fa 1 (.t 32), some (30, true)⟩,
   ⟨some 34, .load none (.t 33), some (30, true)⟩,
   ⟨some 35, .len (.t 34), some (30, true)⟩,
   ⟨some 36, .bin .eql false (.t 35) (.c (iv 0)), some (30, true)⟩,
   ⟨some 37, .pick (.t 30) (.t 36) (.c (bv false)), none⟩,
   ⟨some 38, .mov (.t 37), none⟩,
   ⟨some 39, .fa 0 (.t 4), some (38, true)⟩,
   ⟨some 40, .fa 2 (.t 39), some (38, true)⟩,
   ⟨some 41, .load none (.t 40), some (38, true)⟩,
   ⟨some 42, .bin .eql false (.t 41) (.c (iv 0)), some (38, true)⟩,
   ⟨some 43, .pick (.t 38) (.t 42) (.c (bv false)), none⟩,
   ⟨some 44, .mov (.t 43), none⟩,
   ⟨some 45, .fa 3 (.t 4), some (44, true)⟩,
   ⟨some 46, .fa 2 (.t 45), some (44, true)⟩,
   ⟨some 47, .load none (.t 46), some (44, true)⟩,
   ⟨some 48, .bin .eql false (.t 47) (.c (iv 0)), some (44, true)⟩,
   ⟨some 49, .pick (.t 44) (.t 48) (.c (bv false)), none⟩,
   ⟨some 50, .mov (.t 49), none⟩,
   ⟨some 51, .fa 0 (.t 4), some (50, true)⟩,
   ⟨some 52, .fa 0 (.t 51), some (50, true)⟩,
   ⟨some 53, .fa 0 (.t 52), some (50, true)⟩,
   ⟨some 54, .load none (.t 53), some (50, true)⟩,
   ⟨some 55, .un .not (.t 54), some (50, true)⟩,
   ⟨some 56, .pick (.t 50) (.t 55) (.c (bv false)), none⟩,
   ⟨some 57, .mov (.t 56), none⟩,
   ⟨some 58, .fa 3 (.t 4), some (57, true)⟩,
   ⟨some 59, .fa 0 (.t 58), some (57, true)⟩,
   ⟨some 60, .fa 0 (.t 59), some (57, true)⟩,
   ⟨some 61, .load none (.t 60), some (57, true)⟩,
   ⟨some 62, .un .not (.t 61), some (57, true)⟩,
   ⟨some 63, .pick (.t 57) (.t 62) (.c (bv false)), none⟩,
   ⟨some 8, .mov (.t 63), none⟩]) .ret) .skip)) (.seq (.region false [⟨some 64, .mov (.t 1), none⟩,
   ⟨some 65, .call F.surdlaw10_num [.t 64], none⟩,
   ⟨some 66, .bin .eql false (.t 65) (.c (iv 0)), none⟩,
   ⟨some 67, .mov (.t 66), none⟩,
   ⟨some 68, .fa 0 (.t 6), some (67, true)⟩,
   ⟨some 69, .load (some 3) (.t 68), some (67, true)⟩,
   ⟨some 70, .fa 0 (.t 4), some (67, true)⟩,
   ⟨some 71, .fa 0 (.t 70), some (67, true)⟩,
   ⟨some 72, .fa 0 (.t 71), some (67, true)⟩,
   ⟨some 73, .load none (.t 72), some (67, true)⟩,
   ⟨some 74, .fa 0 (.t 4), some (67, true)⟩,
   ⟨some 75, .fa 0 (.t 74), some (67, true)⟩,
   ⟨some 76, .fa 1 (.t 75), some (67, true)⟩,
   ⟨some 77, .load none (.t 76), some (67, true)⟩,
   ⟨some 78, .fa 0 (.t 4), some (67, true)⟩,
   ⟨some 79, .fa 2 (.t 78), some (67, true)⟩,
   ⟨some 80, .load none (.t 79), some (67, true)⟩,
   ⟨some 81, .call F.surdref08_D_Is [.t 69, .t 73, .t 77, .t 80], some (67, true)⟩,
   ⟨some 82, .pick (.t 67) (.t 81) (.c (bv false)), none⟩,
   ⟨some 83, .mov (.t 82), none⟩,
   ⟨some 84, .fa 3 (.t 6), some (83, true)⟩,
   ⟨some 85, .load (some 3) (.t 84), some (83, true)⟩,
   ⟨some 86, .fa 3 (.t 4), some (83, true)⟩,
   ⟨some 87, .fa 0 (.t 86), some (83, true)⟩,
   ⟨some 88, .fa 0 (.t 87), some (83, true)⟩,
   ⟨some 89, .load none (.t 88), some (83, true)⟩,
   ⟨some 90, .fa 3 (.t 4), some (83, true)⟩,
   ⟨some 91, .fa 0 (.t 90), some (83, true)⟩,
   ⟨some 92, .fa 1 (.t 91), some (83, true)⟩,
   ⟨some 93, .load none (.t 92), some (83, true)⟩,
   ⟨some 94, .fa 3 (.t 4), some (83, true)⟩,
   ⟨some 95, .fa 2 (.t 94), some (83, true)⟩,
   ⟨some 96, .load none (.t 95), some (83, true)⟩,
   ⟨some 97, .call F.surdref08_D_Is [.t 85, .t 89, .t 93, .t 96], some (83, true)⟩,
   ⟨some 98, .pick (.t 83) (.t 97) (.c (bv false)), none⟩,
   ⟨some 8, .mov (.t 98), none⟩]) .ret)))
def R.surdlaw10_alike : List VRes := [.tmp 8]
theorem K.surdlaw10_alike : resCode Tryz.prog Tryz.f16.ntmps (Tryz.f16.body.getD .skip) = C.surdlaw10_alike := by kernel_rfl
theorem Q.surdlaw10_alike : resResults Tryz.prog Tryz.f16.results.toList = some R.surdlaw10_alike := by kernel_rfl
theorem E.surdlaw10_alike : Tryz.prog.funcs[F.surdlaw10_alike]? = some Tryz.f16 := Tryz.func16
theorem B.surdlaw10_alike : Tryz.f16.body = some (Tryz.f16.body.getD .skip) := by kernel_rfl
theorem N.surdlaw10_alike : Tryz.f16.ntmps = 99 := Tryz.ntmps16

def C.surdlaw10_own : VC :=
  .seq (.region false [⟨some 2, .mov (.c (bv false)), none⟩]) (.seq (.region false [⟨some 3, .mov (.c nil1), none⟩]) (.seq (.seq (.region false [⟨some 6, .mov (.t 0), none⟩,
   ⟨some 7, .len (.t 6), none⟩,
   ⟨some 8, .mov (.c (iv 0)), none⟩]) (.block 0 (.loop (.seq (.region false [⟨some 9, .bin .lss false (.t 8) (.t 7), none⟩]) (.seq (.cond (.t 9) .skip (.exit 0)) (.seq (.block 1 (.seq (.region false [⟨some 10, .ixa 6 (.t 6) (.t 8), none⟩,
   ⟨some 11, .load (some 6) (.t 10), none⟩,
   ⟨some 5, .alloc [.bool false, .slice none 0 0, .int .i64 0, .bool false, .slice none 0 0, .int .i64 0], none⟩,
   ⟨none, .store 6 (.t 5) (.t 11), none⟩]) (.region false [⟨some 12, .mov (.t 3), none⟩,
   ⟨some 13, .fa 0 (.t 5), none⟩,
   ⟨some 14, .fa 0 (.t 13), none⟩,
   ⟨some 15, .fa 1 (.t 14), none⟩,
   ⟨some 16, .load none (.t 15), none⟩,
   ⟨some 17, .fa 3 (.t 5), none⟩,
   ⟨some 18, .fa 0 (.t 17), none⟩,
   ⟨some 19, .fa 1 (.t 18), none⟩,
   ⟨some 20, .load none (.t 19), none⟩,
   ⟨some 21, .bsl true 1 2 [.slice none 0 0] [(0, (1, .t 16)), (1, (1, .t 20))], none⟩,
   ⟨some 22, .app 1 24 [.slice none 0 0] (.t 12) (.t 21), none⟩,
   ⟨some 3, .mov (.t 22), none⟩]))) (.region false [⟨some 23, .bin .add false (.t 8) (.c (iv 1)), none⟩,
   ⟨some 8, .mov (.t 23), none⟩]))))))) (.seq (.region false [⟨some 24, .mov (.t 3), none⟩,
   ⟨some 25, .call F.surdref01_Own [.t 24], none⟩,
   ⟨some 2, .mov (.t 25), none⟩]) .ret)))
def R.surdlaw10_own : List VRes := [.tmp 2]
theorem K.surdlaw10_own : resCode Tryz.prog Tryz.f17.ntmps (Tryz.f17.body.getD .skip) = C.surdlaw10_own := by kernel_rfl
theorem Q.surdlaw10_own : resResults Tryz.prog Tryz.f17.results.toList = some R.surdlaw10_own := by kernel_rfl
theorem E.surdlaw10_own : Tryz.prog.funcs[F.surdlaw10_own]? = some Tryz.f17 := Tryz.func17
theorem B.surdlaw10_own : Tryz.f17.body = some (Tryz.f17.body.getD .skip) := by kernel_rfl
theorem N.surdlaw10_own : Tryz.f17.ntmps = 26 := Tryz.ntmps17

def C.surdlaw10_Two_kept : VC :=
  .seq (.region false [⟨some 2, .box (.t 0), none⟩,
   ⟨some 3, .box (.t 1), none⟩,
   ⟨some 4, .mov (.c (bv false)), none⟩]) (.seq (.region false [⟨some 5, .fa 0 (.t 2), none⟩,
   ⟨some 6, .load none (.t 5), none⟩,
   ⟨some 7, .fa 0 (.t 3), none⟩,
   ⟨some 8, .fa 1 (.t 7), none⟩,
   ⟨some 9, .load none (.t 8), none⟩,
   ⟨some 10, .call F.surdref01_Kept [.t 6, .t 9], none⟩,
   ⟨some 11, .mov (.t 10), none⟩,
   ⟨some 12, .fa 1 (.t 2), some (11, true)⟩,
   ⟨some 13, .load none (.t 12), some (11, true)⟩,
   ⟨some 14, .fa 3 (.t 3), some (11, true)⟩,
   ⟨some 15, .fa 1 (.t 14), some (11, true)⟩,
   ⟨some 16, .load none (.t 15), some (11, true)⟩,
   ⟨some 17, .call F.surdref01_Kept [.t 13, .t 16], some (11, true)⟩,
   ⟨some 18, .pick (.t 11) (.t 17) (.c (bv false)), none⟩,
   ⟨some 4, .mov (.t 18), none⟩]) .ret)
def R.surdlaw10_Two_kept : List VRes := [.tmp 4]
theorem K.surdlaw10_Two_kept : resCode Tryz.prog Tryz.f18.ntmps (Tryz.f18.body.getD .skip) = C.surdlaw10_Two_kept := by kernel_rfl
theorem Q.surdlaw10_Two_kept : resResults Tryz.prog Tryz.f18.results.toList = some R.surdlaw10_Two_kept := by kernel_rfl
theorem E.surdlaw10_Two_kept : Tryz.prog.funcs[F.surdlaw10_Two_kept]? = some Tryz.f18 := Tryz.func18
theorem B.surdlaw10_Two_kept : Tryz.f18.body = some (Tryz.f18.body.getD .skip) := by kernel_rfl
theorem N.surdlaw10_Two_kept : Tryz.f18.ntmps = 19 := Tryz.ntmps18

def C.surdlaw10_awake : VC :=
  .seq (.region false [⟨some 0, .mov (.c (bv false)), none⟩]) (.seq (.region false [⟨some 4, .call F.surdlaw10_small [.c (iv 1)], none⟩,
   ⟨some 5, .call F.surdlaw10_small [.c (iv 2)], none⟩,
   ⟨some 6, .build [.bool false, .slice none 0 0, .int .i64 0, .bool false, .slice none 0 0, .int .i64 0] [(0, (3, .t 4)), (3, (3, .t 5))], none⟩,
   ⟨some 7, .call F.surdlaw10_small [.c (iv 3)], none⟩,
   ⟨some 8, .call F.surdlaw10_small [.c (iv 5)], none⟩,
   ⟨some 9, .build [.bool false, .slice none 0 0, .int .i64 0, .bool false, .slice none 0 0, .int .i64 0] [(0, (3, .t 7)), (3, (3, .t 8))], none⟩,
   ⟨some 10, .call F.span_Add [.t 6, .t 9, .c (iv 0)], none⟩,
   ⟨some 3, .mov (.t 10), none⟩,
   ⟨some 11, .ext (.t 3) 0, none⟩,
   ⟨some 12, .ext (.t 3) 1, none⟩,
   ⟨some 1, .alloc [.bool false, .slice none 0 0, .int .i64 0, .bool false, .slice none 0 0, .int .i64 0], none⟩,
   ⟨none, .store 6 (.t 1) (.t 11), none⟩,
   ⟨some 2, .mov (.t 12), none⟩]) (.seq (.region true [⟨some 13, .mov (.t 2), none⟩,
   ⟨some 14, .call F.surdlaw10_num [.t 13], none⟩,
   ⟨some 15, .bin .eql false (.t 14) (.c (iv 0)), none⟩,
   ⟨some 16, .mov (.t 15), none⟩,
   ⟨some 17, .call F.surdref08_Int [.c (iv 4), .c (iv 0)], some (16, true)⟩,
   ⟨some 18, .fa 0 (.t 1), some (16, true)⟩,
   ⟨some 19, .fa 0 (.t 18), some (16, true)⟩,
   ⟨some 20, .fa 0 (.t 19), some (16, true)⟩,
   ⟨some 21, .load none (.t 20), some (16, true)⟩,
   ⟨some 22, .fa 0 (.t 1), some (16, true)⟩,
   ⟨some 23, .fa 0 (.t 22), some (16, true)⟩,
   ⟨some 24, .fa 1 (.t 23), some (16, true)⟩,
   ⟨some 25, .load none (.t 24), some (16, true)⟩,
   ⟨some 26, .fa 0 (.t 1), some (16, true)⟩,
   ⟨some 27, .fa 2 (.t 26), some (16, true)⟩,
   ⟨some 28, .load none (.t 27), some (16, true)⟩,
   ⟨some 29, .call F.surdref08_D_Is [.t 17, .t 21, .t 25, .t 28], some (16, true)⟩,
   ⟨some 30, .pick (.t 16) (.t 29) (.c (bv false)), none⟩,
   ⟨some 31, .mov (.t 30), none⟩,
   ⟨some 32, .call F.surdref08_Int [.c (iv 7), .c (iv 0)], some (31, true)⟩,
   ⟨some 33, .fa 3 (.t 1), some (31, true)⟩,
   ⟨some 34, .fa 0 (.t 33), some (31, true)⟩,
   ⟨some 35, .fa 0 (.t 34), some (31, true)⟩,
   ⟨some 36, .load none (.t 35), some (31, true)⟩,
   ⟨some 37, .fa 3 (.t 1), some (31, true)⟩,
   ⟨some 38, .fa 0 (.t 37), some (31, true)⟩,
   ⟨some 39, .fa 1 (.t 38), some (31, true)⟩,
   ⟨some 40, .load none (.t 39), some (31, true)⟩,
   ⟨some 41, .fa 3 (.t 1), some (31, true)⟩,
   ⟨some 42, .fa 2 (.t 41), some (31, true)⟩,
   ⟨some 43, .load none (.t 42), some (31, true)⟩,
   ⟨some 44, .call F.surdref08_D_Is [.t 32, .t 36, .t 40, .t 43], some (31, true)⟩,
   ⟨some 45, .pick (.t 31) (.t 44) (.c (bv false)), none⟩,
   ⟨some 0, .mov (.t 45), none⟩]) .ret))
def R.surdlaw10_awake : List VRes := [.tmp 0]
theorem K.surdlaw10_awake : resCode Tryz.prog Tryz.f19.ntmps (Tryz.f19.body.getD .skip) = C.surdlaw10_awake := by kernel_rfl
theorem Q.surdlaw10_awake : resResults Tryz.prog Tryz.f19.results.toList = some R.surdlaw10_awake := by kernel_rfl
theorem E.surdlaw10_awake : Tryz.prog.funcs[F.surdlaw10_awake]? = some Tryz.f19 := Tryz.func19
theorem B.surdlaw10_awake : Tryz.f19.body = some (Tryz.f19.body.getD .skip) := by kernel_rfl
theorem N.surdlaw10_awake : Tryz.f19.ntmps = 46 := Tryz.ntmps19

def C.surdlaw10_worst : VC :=
  .seq (.region false [⟨some 4, .mov (.c (iv 0)), none⟩]) (.seq (.seq (.region false [⟨some 7, .mov (.t 1), none⟩,
   ⟨some 8, .len (.t 7), none⟩,
   ⟨some 9, .mov (.c (iv 0)), none⟩]) (.block 0 (.loop (.seq (.region false [⟨some 10, .bin .lss false (.t 9) (.t 8), none⟩]) (.seq (.cond (.t 10) .skip (.exit 0)) (.seq (.block 1 (.seq (.region false [⟨some 11, .ixa 1 (.t 7) (.t 9), none⟩,
   ⟨some 12, .load none (.t 11), none⟩,
   ⟨some 6, .mov (.t 12), none⟩]) (.seq (.region false [⟨some 13, .mov (.t 6), none⟩,
   ⟨some 14, .bin .neq false (.t 13) (.c (iv 0)), none⟩]) (.cond (.t 14) (.seq (.region false [⟨some 15, .mov (.t 6), none⟩,
   ⟨some 4, .mov (.t 15), none⟩]) .ret) .skip)))) (.region false [⟨some 16, .bin .add false (.t 9) (.c (iv 1)), none⟩,
   ⟨some 9, .mov (.t 16), none⟩]))))))) (.seq (.seq (.region false [⟨some 17, .mov (.t 0), none⟩,
   ⟨some 18, .call F.surdref08_Fits [.t 17], none⟩,
   ⟨some 19, .un .not (.t 18), none⟩]) (.cond (.t 19) (.seq (.region false [⟨some 4, .mov (.c (iv 1)), none⟩]) .ret) .skip)) (.seq (.region false [⟨some 4, .mov (.c (iv 0)), none⟩]) .ret)))
def R.surdlaw10_worst : List VRes := [.tmp 4]
theorem K.surdlaw10_worst : resCode Tryz.prog Tryz.f20.ntmps (Tryz.f20.body.getD .skip) = C.surdlaw10_worst := by kernel_rfl
theorem Q.surdlaw10_worst : resResults Tryz.prog Tryz.f20.results.toList = some R.surdlaw10_worst := by kernel_rfl
theorem E.surdlaw10_worst : Tryz.prog.funcs[F.surdlaw10_worst]? = some Tryz.f20 := Tryz.func20
theorem B.surdlaw10_worst : Tryz.f20.body = some (Tryz.f20.body.getD .skip) := by kernel_rfl
theorem N.surdlaw10_worst : Tryz.f20.ntmps = 20 := Tryz.ntmps20

def C.span_Min : VC :=
  .seq (.region false [⟨some 2, .box (.t 0), none⟩,
   ⟨some 3, .box (.t 1), none⟩,
   ⟨some 4, .alloc [.bool false, .slice none 0 0, .int .i64 0, .bool false, .slice none 0 0, .int .i64 0], none⟩,
   ⟨some 5, .mov (.c (iv 0)), none⟩]) (.seq (.region false [⟨some 6, .load (some 6) (.t 2), none⟩,
   ⟨some 7, .load (some 6) (.t 3), none⟩,
   ⟨some 8, .call F.span_pair [.t 6, .t 7, .c (.lit (.func (.func F.dyadic_Min) #[] #[])), .c (.lit (.func (.func F.dyadic_Min) #[] #[]))], none⟩,
   ⟨some 9, .ext (.t 8) 0, none⟩,
   ⟨some 10, .ext (.t 8) 1, none⟩,
   ⟨none, .store 6 (.t 4) (.t 9), none⟩,
   ⟨some 5, .mov (.t 10), none⟩]) .ret)
def R.span_Min : List VRes := [.cell 4 (some 6), .tmp 5]
theorem K.span_Min : resCode Tryz.prog Tryz.f21.ntmps (Tryz.f21.body.getD .skip) = C.span_Min := by kernel_rfl
theorem Q.span_Min : resResults Tryz.prog Tryz.f21.results.toList = some R.span_Min := by kernel_rfl
theorem E.span_Min : Tryz.prog.funcs[F.span_Min]? = some Tryz.f21 := Tryz.func21
theorem B.span_Min : Tryz.f21.body = some (Tryz.f21.body.getD .skip) := by kernel_rfl
theorem N.span_Min : Tryz.f21.ntmps = 11 := Tryz.ntmps21

def C.span_Max : VC :=
  .seq (.region false [⟨some 2, .box (.t 0), none⟩,
   ⟨some 3, .box (.t 1), none⟩,
   ⟨some 4, .alloc [.bool false, .slice none 0 0, .int .i64 0, .bool false, .slice none 0 0, .int .i64 0], none⟩,
   ⟨some 5, .mov (.c (iv 0)), none⟩]) (.seq (.region false [⟨some 6, .load (some 6) (.t 2), none⟩,
   ⟨some 7, .load (some 6) (.t 3), none⟩,
   ⟨some 8, .call F.span_pair [.t 6, .t 7, .c (.lit (.func (.func F.dyadic_Max) #[] #[])), .c (.lit (.func (.func F.dyadic_Max) #[] #[]))], none⟩,
   ⟨some 9, .ext (.t 8) 0, none⟩,
   ⟨some 10, .ext (.t 8) 1, none⟩,
   ⟨none, .store 6 (.t 4) (.t 9), none⟩,
   ⟨some 5, .mov (.t 10), none⟩]) .ret)
def R.span_Max : List VRes := [.cell 4 (some 6), .tmp 5]
theorem K.span_Max : resCode Tryz.prog Tryz.f22.ntmps (Tryz.f22.body.getD .skip) = C.span_Max := by kernel_rfl
theorem Q.span_Max : resResults Tryz.prog Tryz.f22.results.toList = some R.span_Max := by kernel_rfl
theorem E.span_Max : Tryz.prog.funcs[F.span_Max]? = some Tryz.f22 := Tryz.func22
theorem B.span_Max : Tryz.f22.body = some (Tryz.f22.body.getD .skip) := by kernel_rfl
theorem N.span_Max : Tryz.f22.ntmps = 11 := Tryz.ntmps22

def C.span_Hull : VC :=
  .seq (.region false [⟨some 2, .box (.t 0), none⟩,
   ⟨some 3, .box (.t 1), none⟩,
   ⟨some 4, .alloc [.bool false, .slice none 0 0, .int .i64 0, .bool false, .slice none 0 0, .int .i64 0], none⟩,
   ⟨some 5, .mov (.c (iv 0)), none⟩]) (.seq (.region false [⟨some 6, .load (some 6) (.t 2), none⟩,
   ⟨some 7, .load (some 6) (.t 3), none⟩,
   ⟨some 8, .call F.span_pair [.t 6, .t 7, .c (.lit (.func (.func F.dyadic_Min) #[] #[])), .c (.lit (.func (.func F.dyadic_Max) #[] #[]))], none⟩,
   ⟨some 9, .ext (.t 8) 0, none⟩,
   ⟨some 10, .ext (.t 8) 1, none⟩,
   ⟨none, .store 6 (.t 4) (.t 9), none⟩,
   ⟨some 5, .mov (.t 10), none⟩]) .ret)
def R.span_Hull : List VRes := [.cell 4 (some 6), .tmp 5]
theorem K.span_Hull : resCode Tryz.prog Tryz.f23.ntmps (Tryz.f23.body.getD .skip) = C.span_Hull := by kernel_rfl
theorem Q.span_Hull : resResults Tryz.prog Tryz.f23.results.toList = some R.span_Hull := by kernel_rfl
theorem E.span_Hull : Tryz.prog.funcs[F.span_Hull]? = some Tryz.f23 := Tryz.func23
theorem B.span_Hull : Tryz.f23.body = some (Tryz.f23.body.getD .skip) := by kernel_rfl
theorem N.span_Hull : Tryz.f23.ntmps = 11 := Tryz.ntmps23

def C.span_Meet : VC :=
  .seq (.region false [⟨some 2, .box (.t 0), none⟩,
   ⟨some 3, .box (.t 1), none⟩,
   ⟨some 4, .alloc [.bool false, .slice none 0 0, .int .i64 0, .bool false, .slice none 0 0, .int .i64 0], none⟩,
   ⟨some 5, .mov (.c (iv 0)), none⟩]) (.seq (.seq (.region false [⟨some 11, .load (some 6) (.t 2), none⟩,
   ⟨some 12, .load (some 6) (.t 3), none⟩,
   ⟨some 13, .bsl true 6 2 [.bool false, .slice none 0 0, .int .i64 0, .bool false, .slice none 0 0, .int .i64 0] [(0, (6, .t 11)), (6, (6, .t 12))], none⟩,
   ⟨some 14, .call F.span_checks [.c (iv 0), .t 13], none⟩,
   ⟨some 6, .mov (.t 14), none⟩]) (.seq (.region false [⟨some 15, .mov (.t 6), none⟩,
   ⟨some 16, .bin .neq false (.t 15) (.c (iv 0)), none⟩]) (.cond (.t 16) (.seq (.region false [⟨some 17, .build [.bool false, .slice none 0 0, .int .i64 0, .bool false, .slice none 0 0, .int .i64 0] [], none⟩,
   ⟨some 18, .mov (.t 6), none⟩,
   ⟨none, .store 6 (.t 4) (.t 17), none⟩,
   ⟨some 5, .mov (.t 18), none⟩]) .ret) .skip))) (.seq (.seq (.region false [⟨some 20, .fa 3 (.t 2), none⟩,
   ⟨some 21, .load (some 3) (.t 20), none⟩,
   ⟨some 22, .fa 0 (.t 3), none⟩,
   ⟨some 23, .load (some 3) (.t 22), none⟩,
   ⟨some 24, .call F.dyadic_Compare [.t 21, .t 23], none⟩,
   ⟨some 19, .mov (.t 24), none⟩,
   ⟨some 25, .ext (.t 19) 0, none⟩,
   ⟨some 26, .ext (.t 19) 1, none⟩,
   ⟨some 7, .mov (.t 25), none⟩,
   ⟨some 8, .mov (.t 26), none⟩]) (.seq (.region false [⟨some 27, .mov (.t 7), none⟩,
   ⟨some 28, .bin .lss false (.t 27) (.c (iv 0)), none⟩]) (.cond (.t 28) (.seq (.region false [⟨some 29, .build [.bool false, .slice none 0 0, .int .i64 0, .bool false, .slice none 0 0, .int .i64 0] [], none⟩,
   ⟨none, .store 6 (.t 4) (.t 29), none⟩,
   ⟨some 5, .mov (.c (iv 103)), none⟩]) .ret) .skip))) (.seq (.seq (.region false [⟨some 31, .fa 3 (.t 3), none⟩,
   ⟨some 32, .load (some 3) (.t 31), none⟩,
   ⟨some 33, .fa 0 (.t 2), none⟩,
   ⟨some 34, .load (some 3) (.t 33), none⟩,
   ⟨some 35, .call F.dyadic_Compare [.t 32, .t 34], none⟩,
   ⟨some 30, .mov (.t 35), none⟩,
   ⟨some 36, .ext (.t 30) 0, none⟩,
   ⟨some 37, .ext (.t 30) 1, none⟩,
   ⟨some 9, .mov (.t 36), none⟩,
   ⟨some 10, .mov (.t 37), none⟩]) (.seq (.region false [⟨some 38, .mov (.t 9), none⟩,
   ⟨some 39, .bin .lss false (.t 38) (.c (iv 0)), none⟩]) (.cond (.t 39) (.seq (.region false [⟨some 40, .build [.bool false, .slice none 0 0, .int .i64 0, .bool false, .slice none 0 0, .int .i64 0] [], none⟩,
   ⟨none, .store 6 (.t 4) (.t 40), none⟩,
   ⟨some 5, .mov (.c (iv 103)), none⟩]) .ret) .skip))) (.seq (.region false [⟨some 41, .load (some 6) (.t 2), none⟩,
   ⟨some 42, .load (some 6) (.t 3), none⟩,
   ⟨some 43, .call F.span_pair [.t 41, .t 42, .c (.lit (.func (.func F.dyadic_Max) #[] #[])), .c (.lit (.func (.func F.dyadic_Min) #[] #[]))], none⟩,
   ⟨some 44, .ext (.t 43) 0, none⟩,
   ⟨some 45, .ext (.t 43) 1, none⟩,
   ⟨none, .store 6 (.t 4) (.t 44), none⟩,
   ⟨some 5, .mov (.t 45), none⟩]) .ret))))
def R.span_Meet : List VRes := [.cell 4 (some 6), .tmp 5]
theorem K.span_Meet : resCode Tryz.prog Tryz.f24.ntmps (Tryz.f24.body.getD .skip) = C.span_Meet := by kernel_rfl
theorem Q.span_Meet : resResults Tryz.prog Tryz.f24.results.toList = some R.span_Meet := by kernel_rfl
theorem E.span_Meet : Tryz.prog.funcs[F.span_Meet]? = some Tryz.f24 := Tryz.func24
theorem B.span_Meet : Tryz.f24.body = some (Tryz.f24.body.getD .skip) := by kernel_rfl
theorem N.span_Meet : Tryz.f24.ntmps = 46 := Tryz.ntmps24

def C.surdref10_Meet : VC :=
  .seq (.region false [⟨some 2, .box (.t 0), none⟩,
   ⟨some 3, .box (.t 1), none⟩,
   ⟨some 4, .alloc [.bool false, .slice none 0 0, .int .i64 0, .bool false, .slice none 0 0, .int .i64 0], none⟩,
   ⟨some 5, .mov (.c (bv false)), none⟩]) (.seq (.region true [⟨some 7, .fa 0 (.t 2), none⟩,
   ⟨some 8, .load (some 3) (.t 7), none⟩,
   ⟨some 9, .fa 0 (.t 3), none⟩,
   ⟨some 10, .load (some 3) (.t 9), none⟩,
   ⟨some 11, .call F.surdref10_more [.t 8, .t 10], none⟩,
   ⟨some 12, .fa 3 (.t 2), none⟩,
   ⟨some 13, .load (some 3) (.t 12), none⟩,
   ⟨some 14, .fa 3 (.t 3), none⟩,
   ⟨some 15, .load (some 3) (.t 14), none⟩,
   ⟨some 16, .call F.surdref10_less [.t 13, .t 15], none⟩,
   ⟨some 17, .build [.bool false, .slice none 0 0, .int .i64 0, .bool false, .slice none 0 0, .int .i64 0] [(0, (3, .t 11)), (3, (3, .t 16))], none⟩,
   ⟨some 6, .mov (.c .any), none⟩,
   ⟨some 6, .boxA 6 (.t 17), none⟩]) (.seq (.region true [⟨some 18, .load (some 6) (.t 6), none⟩,
   ⟨some 19, .fa 0 (.t 6), none⟩,
   ⟨some 20, .load (some 3) (.t 19), none⟩,
   ⟨some 21, .fa 3 (.t 6), none⟩,
   ⟨some 22, .load (some 3) (.t 21), none⟩,
   ⟨some 23, .call F.surdref08_Cmp [.t 20, .t 22], none⟩,
   ⟨some 24, .bin .leq false (.t 23) (.c (iv 0)), none⟩,
   ⟨none, .store 6 (.t 4) (.t 18), none⟩,
   ⟨some 5, .mov (.t 24), none⟩]) .ret))
def R.surdref10_Meet : List VRes := [.cell 4 (some 6), .tmp 5]
theorem K.surdref10_Meet : resCode Tryz.prog Tryz.f25.ntmps (Tryz.f25.body.getD .skip) = C.surdref10_Meet := by kernel_rfl
theorem Q.surdref10_Meet : resResults Tryz.prog Tryz.f25.results.toList = some R.surdref10_Meet := by kernel_rfl
theorem E.surdref10_Meet : Tryz.prog.funcs[F.surdref10_Meet]? = some Tryz.f25 := Tryz.func25
theorem B.surdref10_Meet : Tryz.f25.body = some (Tryz.f25.body.getD .skip) := by kernel_rfl
theorem N.surdref10_Meet : Tryz.f25.ntmps = 25 := Tryz.ntmps25

def C.surdref10_Min : VC :=
  .seq (.region false [⟨some 2, .box (.t 0), none⟩,
   ⟨some 3, .box (.t 1), none⟩,
   ⟨some 4, .alloc [.bool false, .slice none 0 0, .int .i64 0, .bool false, .slice none 0 0, .int .i64 0], none⟩]) (.seq (.region true [⟨some 5, .fa 0 (.t 2), none⟩,
   ⟨some 6, .load (some 3) (.t 5), none⟩,
   ⟨some 7, .fa 0 (.t 3), none⟩,
   ⟨some 8, .load (some 3) (.t 7), none⟩,
   ⟨some 9, .call F.surdref10_less [.t 6, .t 8], none⟩,
   ⟨some 10, .fa 3 (.t 2), none⟩,
   ⟨some 11, .load (some 3) (.t 10), none⟩,
   ⟨some 12, .fa 3 (.t 3), none⟩,
   ⟨some 13, .load (some 3) (.t 12), none⟩,
   ⟨some 14, .call F.surdref10_less [.t 11, .t 13], none⟩,
   ⟨some 15, .build [.bool false, .slice none 0 0, .int .i64 0, .bool false, .slice none 0 0, .int .i64 0] [(0, (3, .t 9)), (3, (3, .t 14))], none⟩,
   ⟨none, .store 6 (.t 4) (.t 15), none⟩]) .ret)
def R.surdref10_Min : List VRes := [.cell 4 (some 6)]
theorem K.surdref10_Min : resCode Tryz.prog Tryz.f26.ntmps (Tryz.f26.body.getD .skip) = C.surdref10_Min := by kernel_rfl
theorem Q.surdref10_Min : resResults Tryz.prog Tryz.f26.results.toList = some R.surdref10_Min := by kernel_rfl
theorem E.surdref10_Min : Tryz.prog.funcs[F.surdref10_Min]? = some Tryz.f26 := Tryz.func26
theorem B.surdref10_Min : Tryz.f26.body = some (Tryz.f26.body.getD .skip) := by kernel_rfl
theorem N.surdref10_Min : Tryz.f26.ntmps = 16 := Tryz.ntmps26

def C.surdref10_Max : VC :=
  .seq (.region false [⟨some 2, .box (.t 0), none⟩,
   ⟨some 3, .box (.t 1), none⟩,
   ⟨some 4, .alloc [.bool false, .slice none 0 0, .int .i64 0, .bool false, .slice none 0 0, .int .i64 0], none⟩]) (.seq (.region true [⟨some 5, .fa 0 (.t 2), none⟩,
   ⟨some 6, .load (some 3) (.t 5), none⟩,
   ⟨some 7, .fa 0 (.t 3), none⟩,
   ⟨some 8, .load (some 3) (.t 7), none⟩,
   ⟨some 9, .call F.surdref10_more [.t 6, .t 8], none⟩,
   ⟨some 10, .fa 3 (.t 2), none⟩,
   ⟨some 11, .load (some 3) (.t 10), none⟩,
   ⟨some 12, .fa 3 (.t 3), none⟩,
   ⟨some 13, .load (some 3) (.t 12), none⟩,
   ⟨some 14, .call F.surdref10_more [.t 11, .t 13], none⟩,
   ⟨some 15, .build [.bool false, .slice none 0 0, .int .i64 0, .bool false, .slice none 0 0, .int .i64 0] [(0, (3, .t 9)), (3, (3, .t 14))], none⟩,
   ⟨none, .store 6 (.t 4) (.t 15), none⟩]) .ret)
def R.surdref10_Max : List VRes := [.cell 4 (some 6)]
theorem K.surdref10_Max : resCode Tryz.prog Tryz.f27.ntmps (Tryz.f27.body.getD .skip) = C.surdref10_Max := by kernel_rfl
theorem Q.surdref10_Max : resResults Tryz.prog Tryz.f27.results.toList = some R.surdref10_Max := by kernel_rfl
theorem E.surdref10_Max : Tryz.prog.funcs[F.surdref10_Max]? = some Tryz.f27 := Tryz.func27
theorem B.surdref10_Max : Tryz.f27.body = some (Tryz.f27.body.getD .skip) := by kernel_rfl
theorem N.surdref10_Max : Tryz.f27.ntmps = 16 := Tryz.ntmps27

def C.surdref10_Hull : VC :=
  .seq (.region false [⟨some 2, .box (.t 0), none⟩,
   ⟨some 3, .box (.t 1), none⟩,
   ⟨some 4, .alloc [.bool false, .slice none 0 0, .int .i64 0, .bool false, .slice none 0 0, .int .i64 0], none⟩]) (.seq (.region true [⟨some 5, .fa 0 (.t 2), none⟩,
   ⟨some 6, .load (some 3) (.t 5), none⟩,
   ⟨some 7, .fa 0 (.t 3), none⟩,
   ⟨some 8, .load (some 3) (.t 7), none⟩,
   ⟨some 9, .call F.surdref10_less [.t 6, .t 8], none⟩,
   ⟨some 10, .fa 3 (.t 2), none⟩,
   ⟨some 11, .load (some 3) (.t 10), none⟩,
   ⟨some 12, .fa 3 (.t 3), none⟩,
   ⟨some 13, .load (some 3) (.t 12), none⟩,
   ⟨some 14, .call F.surdref10_more [.t 11, .t 13], none⟩,
   ⟨some 15, .build [.bool false, .slice none 0 0, .int .i64 0, .bool false, .slice none 0 0, .int .i64 0] [(0, (3, .t 9)), (3, (3, .t 14))], none⟩,
   ⟨none, .store 6 (.t 4) (.t 15), none⟩]) .ret)
def R.surdref10_Hull : List VRes := [.cell 4 (some 6)]
theorem K.surdref10_Hull : resCode Tryz.prog Tryz.f28.ntmps (Tryz.f28.body.getD .skip) = C.surdref10_Hull := by kernel_rfl
theorem Q.surdref10_Hull : resResults Tryz.prog Tryz.f28.results.toList = some R.surdref10_Hull := by kernel_rfl
theorem E.surdref10_Hull : Tryz.prog.funcs[F.surdref10_Hull]? = some Tryz.f28 := Tryz.func28
theorem B.surdref10_Hull : Tryz.f28.body = some (Tryz.f28.body.getD .skip) := by kernel_rfl
theorem N.surdref10_Hull : Tryz.f28.ntmps = 16 := Tryz.ntmps28

def C.surdlaw10_lent : VC :=
  .seq (.region false [⟨some 1, .box (.t 0), none⟩,
   ⟨some 2, .mov (.c nil1), none⟩,
   ⟨some 3, .alloc [.bool false, .slice none 0 0, .int .i64 0], none⟩]) (.seq (.region false [⟨some 7, .fa 1 (.t 1), none⟩,
   ⟨some 8, .load none (.t 7), none⟩,
   ⟨some 9, .call F.surdref01_Lend [.t 8], none⟩,
   ⟨some 6, .mov (.t 9), none⟩,
   ⟨some 10, .ext (.t 6) 0, none⟩,
   ⟨some 11, .ext (.t 6) 1, none⟩,
   ⟨some 4, .mov (.t 10), none⟩,
   ⟨some 5, .mov (.t 11), none⟩]) (.seq (.region true [⟨some 12, .mov (.t 4), none⟩,
   ⟨some 13, .fa 0 (.t 1), none⟩,
   ⟨some 14, .load none (.t 13), none⟩,
   ⟨some 15, .mov (.t 5), none⟩,
   ⟨some 16, .build [.bool false, .slice none 0 0] [(0, (1, .t 14)), (1, (1, .t 15))], none⟩,
   ⟨some 17, .fa 2 (.t 1), none⟩,
   ⟨some 18, .load none (.t 17), none⟩,
   ⟨some 19, .build [.bool false, .slice none 0 0, .int .i64 0] [(0, (2, .t 16)), (2, (1, .t 18))], none⟩,
   ⟨some 2, .mov (.t 12), none⟩,
   ⟨none, .store 3 (.t 3) (.t 19), none⟩]) .ret))
def R.surdlaw10_lent : List VRes := [.tmp 2, .cell 3 (some 3)]
theorem K.surdlaw10_lent : resCode Tryz.prog Tryz.f29.ntmps (Tryz.f29.body.getD .skip) = C.surdlaw10_lent := by kernel_rfl
theorem Q.surdlaw10_lent : resResults Tryz.prog Tryz.f29.results.toList = some R.surdlaw10_lent := by kernel_rfl
theorem E.surdlaw10_lent : Tryz.prog.funcs[F.surdlaw10_lent]? = some Tryz.f29 := Tryz.func29
theorem B.surdlaw10_lent : Tryz.f29.body = some (Tryz.f29.body.getD .skip) := by kernel_rfl
theorem N.surdlaw10_lent : Tryz.f29.ntmps = 20 := Tryz.ntmps29

def C.surdlaw10_num : VC :=
  .seq (.region false [⟨some 2, .mov (.c (iv 0)), none⟩]) (.seq (.region false [⟨some 3, .mov (.t 0), none⟩,
   ⟨some 2, .mov (.t 3), none⟩]) .ret)
def R.surdlaw10_num : List VRes := [.tmp 2]
theorem K.surdlaw10_num : resCode Tryz.prog Tryz.f34.ntmps (Tryz.f34.body.getD .skip) = C.surdlaw10_num := by kernel_rfl
theorem Q.surdlaw10_num : resResults Tryz.prog Tryz.f34.results.toList = some R.surdlaw10_num := by kernel_rfl
theorem E.surdlaw10_num : Tryz.prog.funcs[F.surdlaw10_num]? = some Tryz.f34 := Tryz.func34
theorem B.surdlaw10_num : Tryz.f34.body = some (Tryz.f34.body.getD .skip) := by kernel_rfl
theorem N.surdlaw10_num : Tryz.f34.ntmps = 4 := Tryz.ntmps34

def C.surdref01_Kept : VC :=
  .seq (.region false [⟨some 4, .mov (.c (bv false)), none⟩]) (.seq (.seq (.region false [⟨some 7, .mov (.t 0), none⟩,
   ⟨some 8, .len (.t 7), none⟩,
   ⟨some 9, .mov (.t 1), none⟩,
   ⟨some 10, .len (.t 9), none⟩,
   ⟨some 11, .bin .add false (.t 10) (.c (iv 4)), none⟩,
   ⟨some 12, .bin .neq false (.t 8) (.t 11), none⟩]) (.cond (.t 12) (.seq (.region false [⟨some 4, .mov (.c (bv false)), none⟩]) .ret) .skip)) (.seq (.seq (.region false [⟨some 13, .mov (.t 0), none⟩,
   ⟨some 14, .len (.t 13), none⟩,
   ⟨some 15, .mov (.c (iv 0)), none⟩]) (.block 0 (.loop (.seq (.region false [⟨some 16, .bin .lss false (.t 15) (.t 14), none⟩]) (.seq (.cond (.t 16) .skip (.exit 0)) (.seq (.block 1 (.seq (.region false [⟨some 17, .mov (.t 15), none⟩,
   ⟨some 18, .ixa 1 (.t 13) (.t 15), none⟩,
   ⟨some 19, .load none (.t 18), none⟩,
   ⟨some 5, .mov (.t 17), none⟩,
   ⟨some 6, .mov (.t 19), none⟩]) (.seq (.region false [⟨some 20, .mov (.t 5), none⟩,
   ⟨some 21, .bin .lss false (.t 20) (.c (iv 2)), none⟩,
   ⟨some 22, .mov (.t 21), none⟩,
   ⟨some 23, .mov (.t 5), some (22, false)⟩,
   ⟨some 24, .mov (.t 1), some (22, false)⟩,
   ⟨some 25, .len (.t 24), some (22, false)⟩,
   ⟨some 26, .bin .add false (.t 25) (.c (iv 2)), some (22, false)⟩,
   ⟨some 27, .bin .geq false (.t 23) (.t 26), some (22, false)⟩,
   ⟨some 28, .pick (.t 22) (.c (bv true)) (.t 27), none⟩]) (.cond (.t 28) (.seq (.region false [⟨some 29, .mov (.t 6), none⟩,
   ⟨some 30, .bin .neq false (.t 29) (.c (nv 10855845)), none⟩]) (.cond (.t 30) (.seq (.region false [⟨some 4, .mov (.c (bv false)), none⟩]) .ret) .skip)) (.seq (.region false [⟨some 31, .mov (.t 6), none⟩,
   ⟨some 32, .mov (.t 1), none⟩,
   ⟨some 33, .mov (.t 5), none⟩,
   ⟨some 34, .bin .sub false (.t 33) (.c (iv 2)), none⟩,
   ⟨some 35, .ixa 1 (.t 32) (.t 34), none⟩,
   ⟨some 36, .load none (.t 35), none⟩,
   ⟨some 37, .bin .neq false (.t 31) (.t 36), none⟩]) (.cond (.t 37) (.seq (.region false [⟨some 4, .mov (.c (bv false)), none⟩]) .ret) .skip)))))) (.region false [⟨some 38, .bin .add false (.t 15) (.c (iv 1)), none⟩,
   ⟨some 15, .mov (.t 38), none⟩]))))))) (.seq (.region false [⟨some 4, .mov (.c (bv true)), none⟩]) .ret)))
def R.surdref01_Kept : List VRes := [.tmp 4]
theorem K.surdref01_Kept : resCode Tryz.prog Tryz.f35.ntmps (Tryz.f35.body.getD .skip) = C.surdref01_Kept := by kernel_rfl
theorem Q.surdref01_Kept : resResults Tryz.prog Tryz.f35.results.toList = some R.surdref01_Kept := by kernel_rfl
theorem E.surdref01_Kept : Tryz.prog.funcs[F.surdref01_Kept]? = some Tryz.f35 := Tryz.func35
theorem B.surdref01_Kept : Tryz.f35.body = some (Tryz.f35.body.getD .skip) := by kernel_rfl
theorem N.surdref01_Kept : Tryz.f35.ntmps = 39 := Tryz.ntmps35

def C.surdref08_Cmp : VC :=
  .seq (.region false [⟨some 2, .box (.t 0), none⟩,
   ⟨some 3, .box (.t 1), none⟩,
   ⟨some 4, .mov (.c (iv 0)), none⟩]) (.seq (.region true [⟨some 7, .fa 0 (.t 2), none⟩,
   ⟨some 8, .load (some 2) (.t 7), none⟩,
   ⟨some 9, .call F.surdref06_Z_Sign [.t 8], none⟩,
   ⟨some 10, .fa 0 (.t 3), none⟩,
   ⟨some 11, .load (some 2) (.t 10), none⟩,
   ⟨some 12, .call F.surdref06_Z_Sign [.t 11], none⟩,
   ⟨some 5, .mov (.t 9), none⟩,
   ⟨some 6, .mov (.t 12), none⟩]) (.seq (.seq (.region false [⟨some 13, .mov (.t 5), none⟩,
   ⟨some 14, .mov (.t 6), none⟩,
   ⟨some 15, .bin .neq false (.t 13) (.t 14), none⟩]) (.cond (.t 15) (.seq (.seq (.region false [⟨some 16, .mov (.t 5), none⟩,
   ⟨some 17, .mov (.t 6), none⟩,
   ⟨some 18, .bin .lss false (.t 16) (.t 17), none⟩]) (.cond (.t 18) (.seq (.region false [⟨some 4, .mov (.c (iv (-1))), none⟩]) .ret) .skip)) (.seq (.region false [⟨some 4, .mov (.c (iv 1)), none⟩]) .ret)) .skip)) (.seq (.seq (.region false [⟨some 19, .mov (.t 5), none⟩,
   ⟨some 20, .bin .eql false (.t 19) (.c (iv 0)), none⟩]) (.cond (.t 20) (.seq (.region false [⟨some 4, .mov (.c (iv 0)), none⟩]) .ret) .skip)) (.seq (.seq (.region true [⟨some 21, .load (some 3) (.t 2), none⟩,
   ⟨some 22, .call F.surdref08_D_Top [.t 21], none⟩,
   ⟨some 23, .load (some 3) (.t 3), none⟩,
   ⟨some 24, .call F.surdref08_D_Top [.t 23], none⟩,
   ⟨some 25, .bin .neq false (.t 22) (.t 24), none⟩]) (.cond (.t 25) (.seq (.seq (.region true [⟨some 26, .load (some 3) (.t 2), none⟩,
   ⟨some 27, .call F.surdref08_D_Top [.t 26], none⟩,
   ⟨some 28, .load (some 3) (.t 3), none⟩,
   ⟨some 29, .call F.surdref08_D_Top [.t 28], none⟩,
   ⟨some 30, .bin .lss false (.t 27) (.t 29), none⟩]) (.cond (.t 30) (.seq (.region false [⟨some 31, .mov (.t 5), none⟩,
   ⟨some 32, .un .neg (.t 31), none⟩,
   ⟨some 4, .mov (.t 32), none⟩]) .ret) .skip)) (.seq (.region false [⟨some 33, .mov (.t 5), none⟩,
   ⟨some 4, .mov (.t 33), none⟩]) .ret)) .skip)) (.seq (.seq (.region false [⟨some 34, .fa 2 (.t 2), none⟩,
   ⟨some 35, .load none (.t 34), none⟩,
   ⟨some 36, .fa 2 (.t 3), none⟩,
   ⟨some 37, .load none (.t 36), none⟩,
   ⟨some 38, .bin .leq false (.t 35) (.t 37), none⟩]) (.cond (.t 38) (.seq (.region true [⟨some 39, .fa 0 (.t 2), none⟩,
   ⟨some 40, .load (some 2) (.t 39), none⟩,
   ⟨some 41, .fa 0 (.t 3), none⟩,
   ⟨some 42, .load (some 2) (.t 41), none⟩,
   ⟨some 43, .fa 2 (.t 3), none⟩,
   ⟨some 44, .load none (.t 43), none⟩,
   ⟨some 45, .fa 2 (.t 2), none⟩,
   ⟨some 46, .load none (.t 45), none⟩,
   ⟨some 47, .bin .sub false (.t 44) (.t 46), none⟩,
   ⟨some 48, .call F.surdref06_Shift [.t 42, .t 47], none⟩,
   ⟨some 49, .call F.surdref06_Cmp [.t 40, .t 48], none⟩,
   ⟨some 4, .mov (.t 49), none⟩]) .ret) .skip)) (.seq (.region true [⟨some 50, .fa 0 (.t 2), none⟩,
   ⟨some 51, .load (some 2) (.t 50), none⟩,
   ⟨some 52, .fa 2 (.t 2), none⟩,
   ⟨some 53, .load none (.t 52), none⟩,
   ⟨some 54, .fa 2 (.t 3), none⟩,
   ⟨some 55, .load none (.t 54), none⟩,
   ⟨some 56, .bin .sub false (.t 53) (.t 55), none⟩,
   ⟨some 57, .call F.surdref06_Shift [.t 51, .t 56], none⟩,
   ⟨some 58, .fa 0 (.t 3), none⟩,
   ⟨some 59, .load (some 2) (.t 58), none⟩,
   ⟨some 60, .call F.surdref06_Cmp [.t 57, .t 59], none⟩,
   ⟨some 4, .mov (.t 60), none⟩]) .ret))))))
def R.surdref08_Cmp : List VRes := [.tmp 4]
theorem K.surdref08_Cmp : resCode Tryz.prog Tryz.f38.ntmps (Tryz.f38.body.getD .skip) = C.surdref08_Cmp := by kernel_rfl
theorem Q.surdref08_Cmp : resResults Tryz.prog Tryz.f38.results.toList = some R.surdref08_Cmp := by kernel_rfl
theorem E.surdref08_Cmp : Tryz.prog.funcs[F.surdref08_Cmp]? = some Tryz.f38 := Tryz.func38
theorem B.surdref08_Cmp : Tryz.f38.body = some (Tryz.f38.body.getD .skip) := by kernel_rfl
theorem N.surdref08_Cmp : Tryz.f38.ntmps = 61 := Tryz.ntmps38

def C.surdref01_Own : VC :=
  .seq (.region false [⟨some 2, .mov (.c (bv false)), none⟩]) (.seq (.seq (.region false [⟨some 13, .mov (.t 0), none⟩,
   ⟨some 14, .len (.t 13), none⟩,
   ⟨some 15, .mov (.c (iv 0)), none⟩]) (.block 0 (.loop (.seq (.region false [⟨some 16, .bin .lss false (.t 15) (.t 14), none⟩]) (.seq (.cond (.t 16) .skip (.exit 0)) (.seq (.block 1 (.seq (.region false [⟨some 17, .mov (.t 15), none⟩,
   ⟨some 18, .ixa 1 (.t 13) (.t 15), none⟩,
   ⟨some 19, .load none (.t 18), none⟩,
   ⟨some 3, .mov (.t 17), none⟩,
   ⟨some 4, .mov (.t 19), none⟩]) (.seq (.region false [⟨some 20, .mov (.t 4), none⟩,
   ⟨some 21, .len (.t 20), none⟩,
   ⟨some 22, .mov (.c (iv 0)), none⟩]) (.block 2 (.loop (.seq (.region false [⟨some 23, .bin .lss false (.t 22) (.t 21), none⟩]) (.seq (.cond (.t 23) .skip (.exit 2)) (.seq (.block 3 (.seq (.region false [⟨some 24, .mov (.t 22), none⟩,
   ⟨some 5, .mov (.t 24), none⟩]) (.region false [⟨some 25, .mov (.t 4), none⟩,
   ⟨some 26, .mov (.t 5), none⟩,
   ⟨some 27, .mov (.t 3), none⟩,
   ⟨some 28, .bin .rem false (.t 27) (.c (iv 251)), none⟩,
   ⟨some 29, .bin .add false (.t 28) (.c (iv 1)), none⟩,
   ⟨some 30, .conv .u64 (.t 29), none⟩,
   ⟨some 31, .ixa 1 (.t 25) (.t 26), none⟩,
   ⟨none, .store 1 (.t 31) (.t 30), none⟩]))) (.region false [⟨some 32, .bin .add false (.t 22) (.c (iv 1)), none⟩,
   ⟨some 22, .mov (.t 32), none⟩]))))))))) (.region false [⟨some 33, .bin .add false (.t 15) (.c (iv 1)), none⟩,
   ⟨some 15, .mov (.t 33), none⟩]))))))) (.seq (.seq (.region false [⟨some 34, .mov (.t 0), none⟩,
   ⟨some 35, .len (.t 34), none⟩,
   ⟨some 36, .mov (.c (iv 0)), none⟩]) (.block 4 (.loop (.seq (.region false [⟨some 37, .bin .lss false (.t 36) (.t 35), none⟩]) (.seq (.cond (.t 37) .skip (.exit 4)) (.seq (.block 5 (.seq (.region false [⟨some 38, .mov (.t 36), none⟩,
   ⟨some 39, .ixa 1 (.t 34) (.t 36), none⟩,
   ⟨some 40, .load none (.t 39), none⟩,
   ⟨some 6, .mov (.t 38), none⟩,
   ⟨some 7, .mov (.t 40), none⟩]) (.seq (.region false [⟨some 41, .mov (.t 6), none⟩,
   ⟨some 42, .bin .mul false (.c (iv 5)) (.t 41), none⟩,
   ⟨some 43, .bin .add false (.c (iv 300)) (.t 42), none⟩,
   ⟨some 44, .conv .u64 (.t 43), none⟩,
   ⟨some 8, .mov (.t 44), none⟩]) (.seq (.region false [⟨some 45, .mov (.t 7), none⟩,
   ⟨some 46, .mov (.t 8), none⟩,
   ⟨some 47, .mov (.t 8), none⟩,
   ⟨some 48, .bin .add false (.t 47) (.c (nv 1)), none⟩,
   ⟨some 49, .mov (.t 8), none⟩,
   ⟨some 50, .bin .add false (.t 49) (.c (nv 2)), none⟩,
   ⟨some 51, .mov (.t 8), none⟩,
   ⟨some 52, .bin .add false (.t 51) (.c (nv 3)), none⟩,
   ⟨some 53, .mov (.t 8), none⟩,
   ⟨some 54, .bin .add false (.t 53) (.c (nv 4)), none⟩,
   ⟨some 55, .bsl true 1 5 [.int .u64 0] [(0, (1, .t 46)), (1, (1, .t 48)), (2, (1, .t 50)), (3, (1, .t 52)), (4, (1, .t 54))], none⟩,
   ⟨some 56, .app 1 8 [.int .u64 0] (.t 45) (.t 55), none⟩,
   ⟨some 7, .mov (.t 56), none⟩]) (.region false [⟨some 57, .mov (.t 0), none⟩,
   ⟨some 58, .mov (.t 6), none⟩,
   ⟨some 59, .mov (.t 7), none⟩,
   ⟨some 60, .ixa 1 (.t 57) (.t 58), none⟩,
   ⟨none, .store 1 (.t 60) (.t 59), none⟩]))))) (.region false [⟨some 61, .bin .add false (.t 36) (.c (iv 1)), none⟩,
   ⟨some 36, .mov (.t 61), none⟩]))))))) (.seq (.seq (.region false [⟨some 62, .mov (.t 0), none⟩,
   ⟨some 63, .len (.t 62), none⟩,
   ⟨some 64, .mov (.c (iv 0)), none⟩]) (.block 6 (.loop (.seq (.region false [⟨some 65, .bin .lss false (.t 64) (.t 63), none⟩]) (.seq (.cond (.t 65) .skip (.exit 6)) (.seq (.block 7 (.seq (.region false [⟨some 66, .mov (.t 64), none⟩,
   ⟨some 67, .ixa 1 (.t 62) (.t 64), none⟩,
   ⟨some 68, .load none (.t 67), none⟩,
   ⟨some 9, .mov (.t 66), none⟩,
   ⟨some 10, .mov (.t 68), none⟩]) (.seq (.region false [⟨some 69, .mov (.t 10), none⟩,
   ⟨some 70, .len (.t 69), none⟩,
   ⟨some 71, .mov (.c (iv 0)), none⟩]) (.block 8 (.loop (.seq (.region false [⟨some 72, .bin .lss false (.t 71) (.t 70), none⟩]) (.seq (.cond (.t 72) .skip (.exit 8)) (.seq (.block 9 (.seq (.region false [⟨some 73, .mov (.t 71), none⟩,
   ⟨some 74, .ixa 1 (.t 69) (.t 71), none⟩,
   ⟨some 75, .load none (.t 74), none⟩,
   ⟨some 11, .mov (.t 73), none⟩,
   ⟨some 12, .mov (.t 75), none⟩]) (.seq (.region false [⟨some 76, .mov (.t 11), none⟩,
   ⟨some 77, .mov (.t 10), none⟩,
   ⟨some 78, .len (.t 77), none⟩,
   ⟨some 79, .bin .sub false (.t 78) (.c (iv 5)), none⟩,
   ⟨some 80, .bin .lss false (.t 76) (.t 79), none⟩,
   ⟨some 81, .mov (.t 80), none⟩,
   ⟨some 82, .mov (.t 12), some (81, true)⟩,
   ⟨some 83, .mov (.t 9), some (81, true)⟩,
   ⟨some 84, .bin .rem false (.t 83) (.c (iv 251)), some (81, true)⟩,
   ⟨some 85, .bin .add false (.t 84) (.c (iv 1)), some (81, true)⟩,
   ⟨some 86, .conv .u64 (.t 85), some (81, true)⟩,
   ⟨some 87, .bin .neq false (.t 82) (.t 86), some (81, true)⟩,
   ⟨some 88, .pick (.t 81) (.t 87) (.c (bv false)), none⟩,
   ⟨some 89, .mov (.t 88), none⟩,
   ⟨some 90, .mov (.t 11), some (89, false)⟩,
   ⟨some 91, .mov (.t 10), some (89, false)⟩,
   ⟨some 92, .len (.t 91), some (89, false)⟩,
   ⟨some 93, .bin .sub false (.t 92) (.c (iv 5)), some (89, false)⟩,
   ⟨some 94, .bin .geq false (.t 90) (.t 93), some (89, false)⟩,
   ⟨some 95, .mov (.t 94), some (89, false)⟩,
   ⟨some 96, .mov (.t 12), some (95, true)⟩,
   ⟨some 97, .mov (.t 9), some (95, true)⟩,
   ⟨some 98, .bin .mul false (.c (iv 5)) (.t 97), some (95, true)⟩,
   ⟨some 99, .bin .add false (.c (iv 300)) (.t 98), some (95, true)⟩,
   ⟨some 100, .mov (.t 11), some (95, true)⟩,
   ⟨some 101, .bin .add false (.t 99) (.t 100), some (95, true)⟩,
   ⟨some 102, .mov (.t 10), some (95, true)⟩,
   ⟨some 103, .len (.t 102), some (95, true)⟩,
   ⟨some 104, .bin .sub false (.t 101) (.t 103), some (95, true)⟩,
   ⟨some 105, .bin .add false (.t 104) (.c (iv 5)), some (95, true)⟩,
   ⟨some 106, .conv .u64 (.t 105), some (95, true)⟩,
   ⟨some 107, .bin .neq false (.t 96) (.t 106), some (95, true)⟩,
   ⟨some 108, .pick (.t 95) (.t 107) (.c (bv false)), some (89, false)⟩,
   ⟨some 109, .pick (.t 89) (.c (bv true)) (.t 108), none⟩]) (.cond (.t 109) (.seq (.region false [⟨some 2, .mov (.c (bv false)), none⟩]) .ret) .skip)))) (.region false [⟨some 110, .bin .add false (.t 71) (.c (iv 1)), none⟩,
   ⟨some 71, .mov (.t 110), none⟩]))))))))) (.region false [⟨some 111, .bin .add false (.t 64) (.c (iv 1)), none⟩,
   ⟨some 64, .mov (.t 111), none⟩]))))))) (.seq (.region false [⟨some 2, .mov (.c (bv true)), none⟩]) .ret))))
def R.surdref01_Own : List VRes := [.tmp 2]
theorem K.surdref01_Own : resCode Tryz.prog Tryz.f49.ntmps (Tryz.f49.body.getD .skip) = C.surdref01_Own := by kernel_rfl
theorem Q.surdref01_Own : resResults Tryz.prog Tryz.f49.results.toList = some R.surdref01_Own := by kernel_rfl
theorem E.surdref01_Own : Tryz.prog.funcs[F.surdref01_Own]? = some Tryz.f49 := Tryz.func49
theorem B.surdref01_Own : Tryz.f49.body = some (Tryz.f49.body.getD .skip) := by kernel_rfl
theorem N.surdref01_Own : Tryz.f49.ntmps = 112 := Tryz.ntmps49

def C.span_Add : VC :=
  .seq (.region false [⟨some 3, .box (.t 0), none⟩,
   ⟨some 4, .box (.t 1), none⟩,
   ⟨some 6, .alloc [.bool false, .slice none 0 0, .int .i64 0, .bool false, .slice none 0 0, .int .i64 0], none⟩,
   ⟨some 7, .mov (.c (iv 0)), none⟩]) (.seq (.seq (.region false [⟨some 9, .mov (.t 2), none⟩,
   ⟨some 10, .load (some 6) (.t 3), none⟩,
   ⟨some 11, .load (some 6) (.t 4), none⟩,
   ⟨some 12, .bsl true 6 2 [.bool false, .slice none 0 0, .int .i64 0, .bool false, .slice none 0 0, .int .i64 0] [(0, (6, .t 10)), (6, (6, .t 11))], none⟩,
   ⟨some 13, .call F.span_checks [.t 9, .t 12], none⟩,
   ⟨some 8, .mov (.t 13), none⟩]) (.seq (.region false [⟨some 14, .mov (.t 8), none⟩,
   ⟨some 15, .bin .neq false (.t 14) (.c (iv 0)), none⟩]) (.cond (.t 15) (.seq (.region false [⟨some 16, .build [.bool false, .slice none 0 0, .int .i64 0, .bool false, .slice none 0 0, .int .i64 0] [], none⟩,
   ⟨some 17, .mov (.t 8), none⟩,
   ⟨none, .store 6 (.t 6) (.t 16), none⟩,
   ⟨some 7, .mov (.t 17), none⟩]) .ret) .skip))) (.seq (.region false [⟨some 18, .load (some 6) (.t 3), none⟩,
   ⟨some 19, .load (some 6) (.t 4), none⟩,
   ⟨some 20, .mov (.t 2), none⟩,
   ⟨some 21, .call F.span_sums [.t 18, .t 19, .t 20], none⟩,
   ⟨some 22, .ext (.t 21) 0, none⟩,
   ⟨some 23, .ext (.t 21) 1, none⟩,
   ⟨none, .store 6 (.t 6) (.t 22), none⟩,
   ⟨some 7, .mov (.t 23), none⟩]) .ret))
def R.span_Add : List VRes := [.cell 6 (some 6), .tmp 7]
theorem K.span_Add : resCode Tryz.prog Tryz.f50.ntmps (Tryz.f50.body.getD .skip) = C.span_Add := by kernel_rfl
theorem Q.span_Add : resResults Tryz.prog Tryz.f50.results.toList = some R.span_Add := by kernel_rfl
theorem E.span_Add : Tryz.prog.funcs[F.span_Add]? = some Tryz.f50 := Tryz.func50
theorem B.span_Add : Tryz.f50.body = some (Tryz.f50.body.getD .skip) := by kernel_rfl
theorem N.span_Add : Tryz.f50.ntmps = 24 := Tryz.ntmps50

def C.surdref06_Z_Sign : VC :=
  .seq (.region false [⟨some 1, .box (.t 0), none⟩,
   ⟨some 2, .mov (.c (iv 0)), none⟩]) (.seq (.seq (.region false [⟨some 3, .fa 0 (.t 1), none⟩,
   ⟨some 4, .load none (.t 3), none⟩]) (.cond (.t 4) (.seq (.region false [⟨some 2, .mov (.c (iv (-1))), none⟩]) .ret) .skip)) (.seq (.seq (.region false [⟨some 5, .fa 1 (.t 1), none⟩,
   ⟨some 6, .load none (.t 5), none⟩,
   ⟨some 7, .call F.surdref01_Num_Zero [.t 6], none⟩]) (.cond (.t 7) (.seq (.region false [⟨some 2, .mov (.c (iv 0)), none⟩]) .ret) .skip)) (.seq (.region false [⟨some 2, .mov (.c (iv 1)), none⟩]) .ret)))
def R.surdref06_Z_Sign : List VRes := [.tmp 2]
theorem K.surdref06_Z_Sign : resCode Tryz.prog Tryz.f58.ntmps (Tryz.f58.body.getD .skip) = C.surdref06_Z_Sign := by kernel_rfl
theorem Q.surdref06_Z_Sign : resResults Tryz.prog Tryz.f58.results.toList = some R.surdref06_Z_Sign := by kernel_rfl
theorem E.surdref06_Z_Sign : Tryz.prog.funcs[F.surdref06_Z_Sign]? = some Tryz.f58 := Tryz.func58
theorem B.surdref06_Z_Sign : Tryz.f58.body = some (Tryz.f58.body.getD .skip) := by kernel_rfl
theorem N.surdref06_Z_Sign : Tryz.f58.ntmps = 8 := Tryz.ntmps58

def C.span_check : VC :=
  .seq (.region false [⟨some 1, .box (.t 0), none⟩,
   ⟨some 2, .mov (.c (iv 0)), none⟩]) (.seq (.region false [⟨some 6, .fa 0 (.t 1), none⟩,
   ⟨some 7, .load (some 3) (.t 6), none⟩,
   ⟨some 8, .fa 3 (.t 1), none⟩,
   ⟨some 9, .load (some 3) (.t 8), none⟩,
   ⟨some 10, .call F.dyadic_Compare [.t 7, .t 9], none⟩,
   ⟨some 5, .mov (.t 10), none⟩,
   ⟨some 11, .ext (.t 5) 0, none⟩,
   ⟨some 12, .ext (.t 5) 1, none⟩,
   ⟨some 3, .mov (.t 11), none⟩,
   ⟨some 4, .mov (.t 12), none⟩]) (.seq (.seq (.region false [⟨some 13, .mov (.t 4), none⟩,
   ⟨some 14, .bin .eql false (.t 13) (.c (iv 0)), none⟩,
   ⟨some 15, .mov (.t 14), none⟩,
   ⟨some 16, .mov (.t 3), some (15, true)⟩,
   ⟨some 17, .bin .gtr false (.t 16) (.c (iv 0)), some (15, true)⟩,
   ⟨some 18, .pick (.t 15) (.t 17) (.c (bv false)), none⟩]) (.cond (.t 18) (.seq (.region false [⟨some 2, .mov (.c (iv 100)), none⟩]) .ret) .skip)) (.seq (.region false [⟨some 19, .mov (.t 4), none⟩,
   ⟨some 2, .mov (.t 19), none⟩]) .ret)))
def R.span_check : List VRes := [.tmp 2]
theorem K.span_check : resCode Tryz.prog Tryz.f64.ntmps (Tryz.f64.body.getD .skip) = C.span_check := by kernel_rfl
theorem Q.span_check : resResults Tryz.prog Tryz.f64.results.toList = some R.span_check := by kernel_rfl
theorem E.span_check : Tryz.prog.funcs[F.span_check]? = some Tryz.f64 := Tryz.func64
theorem B.span_check : Tryz.f64.body = some (Tryz.f64.body.getD .skip) := by kernel_rfl
theorem N.span_check : Tryz.f64.ntmps = 20 := Tryz.ntmps64

def C.surdref08_Of : VC :=
  .seq (.region false [⟨some 2, .box (.t 0), none⟩,
   ⟨some 4, .alloc [.bool false, .slice none 0 0, .int .i64 0], none⟩]) (.seq (.seq (.region false [⟨some 6, .load (some 2) (.t 2), none⟩,
   ⟨some 7, .call F.surdref06_Z_Sign [.t 6], none⟩,
   ⟨some 8, .bin .eql false (.t 7) (.c (iv 0)), none⟩]) (.cond (.t 8) (.seq (.region false [⟨some 9, .build [.bool false, .slice none 0 0, .int .i64 0] [], none⟩,
   ⟨none, .store 3 (.t 4) (.t 9), none⟩]) .ret) .skip)) (.seq (.region false [⟨some 10, .fa 1 (.t 2), none⟩,
   ⟨some 11, .load none (.t 10), none⟩,
   ⟨some 12, .call F.surdref01_Num_Tail [.t 11], none⟩,
   ⟨some 5, .mov (.t 12), none⟩]) (.seq (.region true [⟨some 13, .fa 0 (.t 2), none⟩,
   ⟨some 14, .load none (.t 13), none⟩,
   ⟨some 15, .fa 1 (.t 2), none⟩,
   ⟨some 16, .load none (.t 15), none⟩,
   ⟨some 17, .mov (.t 5), none⟩,
   ⟨some 18, .call F.surdref01_Shr [.t 16, .t 17], none⟩,
   ⟨some 19, .build [.bool false, .slice none 0 0] [(0, (1, .t 14)), (1, (1, .t 18))], none⟩,
   ⟨some 20, .mov (.t 1), none⟩,
   ⟨some 21, .mov (.t 5), none⟩,
   ⟨some 22, .bin .add false (.t 20) (.t 21), none⟩,
   ⟨some 23, .build [.bool false, .slice none 0 0, .int .i64 0] [(0, (2, .t 19)), (2, (1, .t 22))], none⟩,
   ⟨none, .store 3 (.t 4) (.t 23), none⟩]) .ret)))
def R.surdref08_Of : List VRes := [.cell 4 (some 3)]
theorem K.surdref08_Of : resCode Tryz.prog Tryz.f66.ntmps (Tryz.f66.body.getD .skip) = C.surdref08_Of := by kernel_rfl
theorem Q.surdref08_Of : resResults Tryz.prog Tryz.f66.results.toList = some R.surdref08_Of := by kernel_rfl
theorem E.surdref08_Of : Tryz.prog.funcs[F.surdref08_Of]? = some Tryz.f66 := Tryz.func66
theorem B.surdref08_Of : Tryz.f66.body = some (Tryz.f66.body.getD .skip) := by kernel_rfl
theorem N.surdref08_Of : Tryz.f66.ntmps = 24 := Tryz.ntmps66

def C.surdref06_Of : VC :=
  .seq (.region false [⟨some 4, .alloc [.bool false, .slice none 0 0], none⟩]) (.seq (.region false [⟨some 5, .mov (.t 0), none⟩,
   ⟨some 6, .mov (.t 1), none⟩,
   ⟨some 7, .call F.surdref01_Of [.t 6], none⟩,
   ⟨some 8, .call F.surdref06_make1 [.t 5, .t 7], none⟩,
   ⟨none, .store 2 (.t 4) (.t 8), none⟩]) .ret)
def R.surdref06_Of : List VRes := [.cell 4 (some 2)]
theorem K.surdref06_Of : resCode Tryz.prog Tryz.f67.ntmps (Tryz.f67.body.getD .skip) = C.surdref06_Of := by kernel_rfl
theorem Q.surdref06_Of : resResults Tryz.prog Tryz.f67.results.toList = some R.surdref06_Of := by kernel_rfl
theorem E.surdref06_Of : Tryz.prog.funcs[F.surdref06_Of]? = some Tryz.f67 := Tryz.func67
theorem B.surdref06_Of : Tryz.f67.body = some (Tryz.f67.body.getD .skip) := by kernel_rfl
theorem N.surdref06_Of : Tryz.f67.ntmps = 9 := Tryz.ntmps67

def C.surdref10_Told : VC :=
  .seq (.region false [⟨some 1, .box (.t 0), none⟩,
   ⟨some 2, .alloc [.bool false, .slice none 0 0, .int .i64 0, .bool false, .slice none 0 0, .int .i64 0], none⟩,
   ⟨some 3, .mov (.c (iv 0)), none⟩]) (.seq (.region false [⟨some 9, .fa 0 (.t 1), none⟩,
   ⟨some 10, .load (some 3) (.t 9), none⟩,
   ⟨some 11, .call F.surdref08_Told [.t 10], none⟩,
   ⟨some 8, .mov (.t 11), none⟩,
   ⟨some 12, .ext (.t 8) 0, none⟩,
   ⟨some 13, .ext (.t 8) 1, none⟩,
   ⟨some 4, .alloc [.bool false, .slice none 0 0, .int .i64 0], none⟩,
   ⟨none, .store 3 (.t 4) (.t 12), none⟩,
   ⟨some 5, .mov (.t 13), none⟩]) (.seq (.region false [⟨some 15, .fa 3 (.t 1), none⟩,
   ⟨some 16, .load (some 3) (.t 15), none⟩,
   ⟨some 17, .call F.surdref08_Told [.t 16], none⟩,
   ⟨some 14, .mov (.t 17), none⟩,
   ⟨some 18, .ext (.t 14) 0, none⟩,
   ⟨some 19, .ext (.t 14) 1, none⟩,
   ⟨some 6, .alloc [.bool false, .slice none 0 0, .int .i64 0], none⟩,
   ⟨none, .store 3 (.t 6) (.t 18), none⟩,
   ⟨some 7, .mov (.t 19), none⟩]) (.seq (.seq (.region false [⟨some 20, .mov (.t 5), none⟩,
   ⟨some 21, .mov (.t 7), none⟩,
   ⟨some 22, .call F.surdref10_worst [.t 20, .t 21], none⟩,
   ⟨some 23, .bin .neq false (.t 22) (.c (iv 0)), none⟩]) (.cond (.t 23) (.seq (.region false [⟨some 24, .build [.bool false, .slice none 0 0, .int .i64 0, .bool false, .slice none 0 0, .int .i64 0] [], none⟩,
   ⟨some 25, .mov (.t 5), none⟩,
   ⟨some 26, .mov (.t 7), none⟩,
   ⟨some 27, .call F.surdref10_worst [.t 25, .t 26], none⟩,
   ⟨none, .store 6 (.t 2) (.t 24), none⟩,
   ⟨some 3, .mov (.t 27), none⟩]) .ret) .skip)) (.seq (.region false [⟨some 28, .load (some 6) (.t 1), none⟩,
   ⟨none, .store 6 (.t 2) (.t 28), none⟩,
   ⟨some 3, .mov (.c (iv 0)), none⟩]) .ret))))
def R.surdref10_Told : List VRes := [.cell 2 (some 6), .tmp 3]
theorem K.surdref10_Told : resCode Tryz.prog Tryz.f68.ntmps (Tryz.f68.body.getD .skip) = C.surdref10_Told := by kernel_rfl
theorem Q.surdref10_Told : resResults Tryz.prog Tryz.f68.results.toList = some R.surdref10_Told := by kernel_rfl
theorem E.surdref10_Told : Tryz.prog.funcs[F.surdref10_Told]? = some Tryz.f68 := Tryz.func68
theorem B.surdref10_Told : Tryz.f68.body = some (Tryz.f68.body.getD .skip) := by kernel_rfl
theorem N.surdref10_Told : Tryz.f68.ntmps = 29 := Tryz.ntmps68

def C.surdref08_D_Is : VC :=
  .seq (.region false [⟨some 4, .box (.t 0), none⟩,
   ⟨some 8, .mov (.c (bv false)), none⟩]) (.seq (.region false [⟨some 9, .fa 0 (.t 4), none⟩,
   ⟨some 10, .load (some 2) (.t 9), none⟩,
   ⟨some 11, .mov (.t 1), none⟩,
   ⟨some 12, .mov (.t 2), none⟩,
   ⟨some 13, .call F.surdref06_Z_Is [.t 10, .t 11, .t 12], none⟩,
   ⟨some 14, .mov (.t 13), none⟩,
   ⟨some 15, .fa 2 (.t 4), some (14, true)⟩,
   ⟨some 16, .load none (.t 15), some (14, true)⟩,
   ⟨some 17, .mov (.t 3), some (14, true)⟩,
   ⟨some 18, .bin .eql false (.t 16) (.t 17), some (14, true)⟩,
   ⟨some 19, .pick (.t 14) (.t 18) (.c (bv false)), none⟩,
   ⟨some 8, .mov (.t 19), none⟩]) .ret)
def R.surdref08_D_Is : List VRes := [.tmp 8]
theorem K.surdref08_D_Is : resCode Tryz.prog Tryz.f69.ntmps (Tryz.f69.body.getD .skip) = C.surdref08_D_Is := by kernel_rfl
theorem Q.surdref08_D_Is : resResults Tryz.prog Tryz.f69.results.toList = some R.surdref08_D_Is := by kernel_rfl
theorem E.surdref08_D_Is : Tryz.prog.funcs[F.surdref08_D_Is]? = some Tryz.f69 := Tryz.func69
theorem B.surdref08_D_Is : Tryz.f69.body = some (Tryz.f69.body.getD .skip) := by kernel_rfl
theorem N.surdref08_D_Is : Tryz.f69.ntmps = 20 := Tryz.ntmps69

def C.surdlaw10_small : VC :=
  .seq (.region false [⟨some 2, .alloc [.bool false, .slice none 0 0, .int .i64 0], none⟩]) (.seq (.region false [⟨some 3, .mov (.t 0), none⟩,
   ⟨some 4, .conv .u64 (.t 3), none⟩,
   ⟨some 5, .bsl true 1 1 [.int .u64 0] [(0, (1, .t 4))], none⟩,
   ⟨some 6, .build [.bool false, .slice none 0 0] [(1, (1, .t 5))], none⟩,
   ⟨some 7, .build [.bool false, .slice none 0 0, .int .i64 0] [(0, (2, .t 6))], none⟩,
   ⟨none, .store 3 (.t 2) (.t 7), none⟩]) .ret)
def R.surdlaw10_small : List VRes := [.cell 2 (some 3)]
theorem K.surdlaw10_small : resCode Tryz.prog Tryz.f70.ntmps (Tryz.f70.body.getD .skip) = C.surdlaw10_small := by kernel_rfl
theorem Q.surdlaw10_small : resResults Tryz.prog Tryz.f70.results.toList = some R.surdlaw10_small := by kernel_rfl
theorem E.surdlaw10_small : Tryz.prog.funcs[F.surdlaw10_small]? = some Tryz.f70 := Tryz.func70
theorem B.surdlaw10_small : Tryz.f70.body = some (Tryz.f70.body.getD .skip) := by kernel_rfl
theorem N.surdlaw10_small : Tryz.f70.ntmps = 8 := Tryz.ntmps70

def C.surdref08_Int : VC :=
  .seq (.region false [⟨some 4, .alloc [.bool false, .slice none 0 0, .int .i64 0], none⟩]) (.seq (.region false [⟨some 5, .mov (.t 0), none⟩,
   ⟨some 6, .call F.surdref06_Int [.t 5], none⟩,
   ⟨some 7, .mov (.t 1), none⟩,
   ⟨some 8, .call F.surdref08_Of [.t 6, .t 7], none⟩,
   ⟨none, .store 3 (.t 4) (.t 8), none⟩]) .ret)
def R.surdref08_Int : List VRes := [.cell 4 (some 3)]
theorem K.surdref08_Int : resCode Tryz.prog Tryz.f71.ntmps (Tryz.f71.body.getD .skip) = C.surdref08_Int := by kernel_rfl
theorem Q.surdref08_Int : resResults Tryz.prog Tryz.f71.results.toList = some R.surdref08_Int := by kernel_rfl
theorem E.surdref08_Int : Tryz.prog.funcs[F.surdref08_Int]? = some Tryz.f71 := Tryz.func71
theorem B.surdref08_Int : Tryz.f71.body = some (Tryz.f71.body.getD .skip) := by kernel_rfl
theorem N.surdref08_Int : Tryz.f71.ntmps = 9 := Tryz.ntmps71

def C.span_pair : VC :=
  .seq (.region false [⟨some 4, .box (.t 0), none⟩,
   ⟨some 5, .box (.t 1), none⟩,
   ⟨some 8, .alloc [.bool false, .slice none 0 0, .int .i64 0, .bool false, .slice none 0 0, .int .i64 0], none⟩,
   ⟨some 9, .mov (.c (iv 0)), none⟩]) (.seq (.seq (.region false [⟨some 15, .load (some 6) (.t 4), none⟩,
   ⟨some 16, .load (some 6) (.t 5), none⟩,
   ⟨some 17, .bsl true 6 2 [.bool false, .slice none 0 0, .int .i64 0, .bool false, .slice none 0 0, .int .i64 0] [(0, (6, .t 15)), (6, (6, .t 16))], none⟩,
   ⟨some 18, .call F.span_checks [.c (iv 0), .t 17], none⟩,
   ⟨some 10, .mov (.t 18), none⟩]) (.seq (.region false [⟨some 19, .mov (.t 10), none⟩,
   ⟨some 20, .bin .neq false (.t 19) (.c (iv 0)), none⟩]) (.cond (.t 20) (.seq (.region false [⟨some 21, .build [.bool false, .slice none 0 0, .int .i64 0, .bool false, .slice none 0 0, .int .i64 0] [], none⟩,
   ⟨some 22, .mov (.t 10), none⟩,
   ⟨none, .store 6 (.t 8) (.t 21), none⟩,
   ⟨some 9, .mov (.t 22), none⟩]) .ret) .skip))) (.seq (.region false [⟨some 24, .mov (.t 2), none⟩,
   ⟨some 25, .fa 0 (.t 4), none⟩,
   ⟨some 26, .load (some 3) (.t 25), none⟩,
   ⟨some 27, .fa 0 (.t 5), none⟩,
   ⟨some 28, .load (some 3) (.t 27), none⟩,
   ⟨some 29, .callv (.t 24) [.t 26, .t 28], none⟩,
   ⟨some 23, .mov (.t 29), none⟩,
   ⟨some 30, .ext (.t 23) 0, none⟩,
   ⟨some 31, .ext (.t 23) 1, none⟩,
   ⟨some 11, .alloc [.bool false, .slice none 0 0, .int .i64 0], none⟩,
   ⟨none, .store 3 (.t 11) (.t 30), none⟩,
   ⟨some 12, .mov (.t 31), none⟩]) (.seq (.region false [⟨some 33, .mov (.t 3), none⟩,
   ⟨some 34, .fa 3 (.t 4), none⟩,
   ⟨some 35, .load (some 3) (.t 34), none⟩,
   ⟨some 36, .fa 3 (.t 5), none⟩,
   ⟨some 37, .load (some 3) (.t 36), none⟩,
   ⟨some 38, .callv (.t 33) [.t 35, .t 37], none⟩,
   ⟨some 32, .mov (.t 38), none⟩,
   ⟨some 39, .ext (.t 32) 0, none⟩,
   ⟨some 40, .ext (.t 32) 1, none⟩,
   ⟨some 13, .alloc [.bool false, .slice none 0 0, .int .i64 0], none⟩,
   ⟨none, .store 3 (.t 13) (.t 39), none⟩,
   ⟨some 14, .mov (.t 40), none⟩]) (.seq (.region false [⟨some 41, .load (some 3) (.t 11), none⟩,
   ⟨some 42, .mov (.t 12), none⟩,
   ⟨some 43, .load (some 3) (.t 13), none⟩,
   ⟨some 44, .mov (.t 14), none⟩,
   ⟨some 45, .call F.span_ends [.t 41, .t 42, .t 43, .t 44], none⟩,
   ⟨some 46, .ext (.t 45) 0, none⟩,
   ⟨some 47, .ext (.t 45) 1, none⟩,
   ⟨none, .store 6 (.t 8) (.t 46), none⟩,
   ⟨some 9, .mov (.t 47), none⟩]) .ret))))
def R.span_pair : List VRes := [.cell 8 (some 6), .tmp 9]
theorem K.span_pair : resCode Tryz.prog Tryz.f72.ntmps (Tryz.f72.body.getD .skip) = C.span_pair := by kernel_rfl
theorem Q.span_pair : resResults Tryz.prog Tryz.f72.results.toList = some R.span_pair := by kernel_rfl
theorem E.span_pair : Tryz.prog.funcs[F.span_pair]? = some Tryz.f72 := Tryz.func72
theorem B.span_pair : Tryz.f72.body = some (Tryz.f72.body.getD .skip) := by kernel_rfl
theorem N.span_pair : Tryz.f72.ntmps = 48 := Tryz.ntmps72

def C.dyadic_Min : VC :=
  .seq (.region false [⟨some 2, .box (.t 0), none⟩,
   ⟨some 3, .box (.t 1), none⟩,
   ⟨some 4, .alloc [.bool false, .slice none 0 0, .int .i64 0], none⟩,
   ⟨some 5, .mov (.c (iv 0)), none⟩]) (.seq (.region false [⟨some 6, .load (some 3) (.t 2), none⟩,
   ⟨some 7, .load (some 3) (.t 3), none⟩,
   ⟨some 8, .call F.dyadic_pick [.t 6, .t 7, .c (iv (-1))], none⟩,
   ⟨some 9, .ext (.t 8) 0, none⟩,
   ⟨some 10, .ext (.t 8) 1, none⟩,
   ⟨none, .store 3 (.t 4) (.t 9), none⟩,
   ⟨some 5, .mov (.t 10), none⟩]) .ret)
def R.dyadic_Min : List VRes := [.cell 4 (some 3), .tmp 5]
theorem K.dyadic_Min : resCode Tryz.prog Tryz.f73.ntmps (Tryz.f73.body.getD .skip) = C.dyadic_Min := by kernel_rfl
theorem Q.dyadic_Min : resResults Tryz.prog Tryz.f73.results.toList = some R.dyadic_Min := by kernel_rfl
theorem E.dyadic_Min : Tryz.prog.funcs[F.dyadic_Min]? = some Tryz.f73 := Tryz.func73
theorem B.dyadic_Min : Tryz.f73.body = some (Tryz.f73.body.getD .skip) := by kernel_rfl
theorem N.dyadic_Min : Tryz.f73.ntmps = 11 := Tryz.ntmps73

def C.dyadic_Max : VC :=
  .seq (.region false [⟨some 2, .box (.t 0), none⟩,
   ⟨some 3, .box (.t 1), none⟩,
   ⟨some 4, .alloc [.bool false, .slice none 0 0, .int .i64 0], none⟩,
   ⟨some 5, .mov (.c (iv 0)), none⟩]) (.seq (.region false [⟨some 6, .load (some 3) (.t 2), none⟩,
   ⟨some 7, .load (some 3) (.t 3), none⟩,
   ⟨some 8, .call F.dyadic_pick [.t 6, .t 7, .c (iv 1)], none⟩,
   ⟨some 9, .ext (.t 8) 0, none⟩,
   ⟨some 10, .ext (.t 8) 1, none⟩,
   ⟨none, .store 3 (.t 4) (.t 9), none⟩,
   ⟨some 5, .mov (.t 10), none⟩]) .ret)
def R.dyadic_Max : List VRes := [.cell 4 (some 3), .tmp 5]
theorem K.dyadic_Max : resCode Tryz.prog Tryz.f74.ntmps (Tryz.f74.body.getD .skip) = C.dyadic_Max := by kernel_rfl
theorem Q.dyadic_Max : resResults Tryz.prog Tryz.f74.results.toList = some R.dyadic_Max := by kernel_rfl
theorem E.dyadic_Max : Tryz.prog.funcs[F.dyadic_Max]? = some Tryz.f74 := Tryz.func74
theorem B.dyadic_Max : Tryz.f74.body = some (Tryz.f74.body.getD .skip) := by kernel_rfl
theorem N.dyadic_Max : Tryz.f74.ntmps = 11 := Tryz.ntmps74

def C.span_checks : VC :=
  .seq (.region false [⟨some 4, .mov (.c (iv 0)), none⟩]) (.seq (.seq (.region false [⟨some 8, .mov (.t 1), none⟩,
   ⟨some 9, .len (.t 8), none⟩,
   ⟨some 10, .mov (.c (iv 0)), none⟩]) (.block 0 (.loop (.seq (.region false [⟨some 11, .bin .lss false (.t 10) (.t 9), none⟩]) (.seq (.cond (.t 11) .skip (.exit 0)) (.seq (.block 1 (.seq (.region false [⟨some 12, .ixa 6 (.t 8) (.t 10), none⟩,
   ⟨some 13, .load (some 6) (.t 12), none⟩,
   ⟨some 6, .alloc [.bool false, .slice none 0 0, .int .i64 0, .bool false, .slice none 0 0, .int .i64 0], none⟩,
   ⟨none, .store 6 (.t 6) (.t 13), none⟩]) (.seq (.region false [⟨some 14, .load (some 6) (.t 6), none⟩,
   ⟨some 15, .call F.span_check [.t 14], none⟩,
   ⟨some 7, .mov (.t 15), none⟩]) (.seq (.region false [⟨some 16, .mov (.t 7), none⟩,
   ⟨some 17, .bin .neq false (.t 16) (.c (iv 0)), none⟩]) (.cond (.t 17) (.seq (.region false [⟨some 18, .mov (.t 7), none⟩,
   ⟨some 4, .mov (.t 18), none⟩]) .ret) .skip))))) (.region false [⟨some 19, .bin .add false (.t 10) (.c (iv 1)), none⟩,
   ⟨some 10, .mov (.t 19), none⟩]))))))) (.seq (.seq (.region false [⟨some 20, .mov (.t 0), none⟩,
   ⟨some 21, .bin .lss false (.t 20) (.c (iv (-1099511627776))), none⟩,
   ⟨some 22, .mov (.t 21), none⟩,
   ⟨some 23, .mov (.t 0), some (22, false)⟩,
   ⟨some 24, .bin .gtr false (.t 23) (.c (iv 1099511627776)), some (22, false)⟩,
   ⟨some 25, .pick (.t 22) (.c (bv true)) (.t 24), none⟩]) (.cond (.t 25) (.seq (.region false [⟨some 4, .mov (.c (iv 1)), none⟩]) .ret) .skip)) (.seq (.region false [⟨some 4, .mov (.c (iv 0)), none⟩]) .ret)))
def R.span_checks : List VRes := [.tmp 4]
theorem K.span_checks : resCode Tryz.prog Tryz.f75.ntmps (Tryz.f75.body.getD .skip) = C.span_checks := by kernel_rfl
theorem Q.span_checks : resResults Tryz.prog Tryz.f75.results.toList = some R.span_checks := by kernel_rfl
theorem E.span_checks : Tryz.prog.funcs[F.span_checks]? = some Tryz.f75 := Tryz.func75
theorem B.span_checks : Tryz.f75.body = some (Tryz.f75.body.getD .skip) := by kernel_rfl
theorem N.span_checks : Tryz.f75.ntmps = 26 := Tryz.ntmps75

def C.dyadic_Compare : VC :=
  .seq (.region false [⟨some 2, .box (.t 0), none⟩,
   ⟨some 3, .box (.t 1), none⟩,
   ⟨some 4, .mov (.c (iv 0)), none⟩,
   ⟨some 5, .mov (.c (iv 0)), none⟩]) (.seq (.region false [⟨some 10, .load (some 3) (.t 2), none⟩,
   ⟨some 11, .load (some 3) (.t 3), none⟩,
   ⟨some 12, .call F.dyadic_two [.t 10, .t 11], none⟩,
   ⟨some 9, .mov (.t 12), none⟩,
   ⟨some 13, .ext (.t 9) 0, none⟩,
   ⟨some 14, .ext (.t 9) 1, none⟩,
   ⟨some 15, .ext (.t 9) 2, none⟩,
   ⟨some 6, .alloc [.bool false, .slice none 0 0, .int .i64 0], none⟩,
   ⟨some 7, .alloc [.bool false, .slice none 0 0, .int .i64 0], none⟩,
   ⟨none, .store 3 (.t 6) (.t 13), none⟩,
   ⟨none, .store 3 (.t 7) (.t 14), none⟩,
   ⟨some 8, .mov (.t 15), none⟩]) (.seq (.seq (.region false [⟨some 16, .mov (.t 8), none⟩,
   ⟨some 17, .bin .neq false (.t 16) (.c (iv 0)), none⟩]) (.cond (.t 17) (.seq (.region false [⟨some 18, .mov (.t 8), none⟩,
   ⟨some 4, .mov (.c (iv 0)), none⟩,
   ⟨some 5, .mov (.t 18), none⟩]) .ret) .skip)) (.seq (.region false [⟨some 19, .load (some 3) (.t 6), none⟩,
   ⟨some 20, .load (some 3) (.t 7), none⟩,
   ⟨some 21, .call F.dyadic_compare [.t 19, .t 20], none⟩,
   ⟨some 4, .mov (.t 21), none⟩,
   ⟨some 5, .mov (.c (iv 0)), none⟩]) .ret)))
def R.dyadic_Compare : List VRes := [.tmp 4, .tmp 5]
theorem K.dyadic_Compare : resCode Tryz.prog Tryz.f76.ntmps (Tryz.f76.body.getD .skip) = C.dyadic_Compare := by kernel_rfl
theorem Q.dyadic_Compare : resResults Tryz.prog Tryz.f76.results.toList = some R.dyadic_Compare := by kernel_rfl
theorem E.dyadic_Compare : Tryz.prog.funcs[F.dyadic_Compare]? = some Tryz.f76 := Tryz.func76
theorem B.dyadic_Compare : Tryz.f76.body = some (Tryz.f76.body.getD .skip) := by kernel_rfl
theorem N.dyadic_Compare : Tryz.f76.ntmps = 22 := Tryz.ntmps76

def C.surdref10_more : VC :=
  .seq (.region false [⟨some 2, .box (.t 0), none⟩,
   ⟨some 3, .box (.t 1), none⟩,
   ⟨some 4, .alloc [.bool false, .slice none 0 0, .int .i64 0], none⟩]) (.seq (.seq (.region false [⟨some 5, .load (some 3) (.t 2), none⟩,
   ⟨some 6, .load (some 3) (.t 3), none⟩,
   ⟨some 7, .call F.surdref08_Cmp [.t 5, .t 6], none⟩,
   ⟨some 8, .bin .geq false (.t 7) (.c (iv 0)), none⟩]) (.cond (.t 8) (.seq (.region false [⟨some 9, .load (some 3) (.t 2), none⟩,
   ⟨none, .store 3 (.t 4) (.t 9), none⟩]) .ret) .skip)) (.seq (.region false [⟨some 10, .load (some 3) (.t 3), none⟩,
   ⟨none, .store 3 (.t 4) (.t 10), none⟩]) .ret))
def R.surdref10_more : List VRes := [.cell 4 (some 3)]
theorem K.surdref10_more : resCode Tryz.prog Tryz.f77.ntmps (Tryz.f77.body.getD .skip) = C.surdref10_more := by kernel_rfl
theorem Q.surdref10_more : resResults Tryz.prog Tryz.f77.results.toList = some R.surdref10_more := by kernel_rfl
theorem E.surdref10_more : Tryz.prog.funcs[F.surdref10_more]? = some Tryz.f77 := Tryz.func77
theorem B.surdref10_more : Tryz.f77.body = some (Tryz.f77.body.getD .skip) := by kernel_rfl
theorem N.surdref10_more : Tryz.f77.ntmps = 11 := Tryz.ntmps77

def C.surdref10_less : VC :=
  .seq (.region false [⟨some 2, .box (.t 0), none⟩,
   ⟨some 3, .box (.t 1), none⟩,
   ⟨some 4, .alloc [.bool false, .slice none 0 0, .int .i64 0], none⟩]) (.seq (.seq (.region false [⟨some 5, .load (some 3) (.t 2), none⟩,
   ⟨some 6, .load (some 3) (.t 3), none⟩,
   ⟨some 7, .call F.surdref08_Cmp [.t 5, .t 6], none⟩,
   ⟨some 8, .bin .leq false (.t 7) (.c (iv 0)), none⟩]) (.cond (.t 8) (.seq (.region false [⟨some 9, .load (some 3) (.t 2), none⟩,
   ⟨none, .store 3 (.t 4) (.t 9), none⟩]) .ret) .skip)) (.seq (.region false [⟨some 10, .load (some 3) (.t 3), none⟩,
   ⟨none, .store 3 (.t 4) (.t 10), none⟩]) .ret))
def R.surdref10_less : List VRes := [.cell 4 (some 3)]
theorem K.surdref10_less : resCode Tryz.prog Tryz.f78.ntmps (Tryz.f78.body.getD .skip) = C.surdref10_less := by kernel_rfl
theorem Q.surdref10_less : resResults Tryz.prog Tryz.f78.results.toList = some R.surdref10_less := by kernel_rfl
theorem E.surdref10_less : Tryz.prog.funcs[F.surdref10_less]? = some Tryz.f78 := Tryz.func78
theorem B.surdref10_less : Tryz.f78.body = some (Tryz.f78.body.getD .skip) := by kernel_rfl
theorem N.surdref10_less : Tryz.f78.ntmps = 11 := Tryz.ntmps78

def C.surdref01_Lend : VC :=
  .seq (.region false [⟨some 2, .mov (.c nil1), none⟩,
   ⟨some 3, .mov (.c nil1), none⟩]) (.seq (.region false [⟨some 8, .mov (.t 0), none⟩,
   ⟨some 9, .len (.t 8), none⟩,
   ⟨some 10, .bin .add false (.t 9) (.c (iv 4)), none⟩,
   ⟨some 11, .mk [.int .u64 0] 8 (.t 10) (.t 10), none⟩,
   ⟨some 4, .mov (.t 11), none⟩]) (.seq (.seq (.region false [⟨some 12, .mov (.t 4), none⟩,
   ⟨some 13, .len (.t 12), none⟩,
   ⟨some 14, .mov (.c (iv 0)), none⟩]) (.block 0 (.loop (.seq (.region false [⟨some 15, .bin .lss false (.t 14) (.t 13), none⟩]) (.seq (.cond (.t 15) .skip (.exit 0)) (.seq (.block 1 (.seq (.region false [⟨some 16, .mov (.t 14), none⟩,
   ⟨some 5, .mov (.t 16), none⟩]) (.region false [⟨some 17, .mov (.t 4), none⟩,
   ⟨some 18, .mov (.t 5), none⟩,
   ⟨some 19, .ixa 1 (.t 17) (.t 18), none⟩,
   ⟨none, .store 1 (.t 19) (.c (nv 10855845)), none⟩]))) (.region false [⟨some 20, .bin .add false (.t 14) (.c (iv 1)), none⟩,
   ⟨some 14, .mov (.t 20), none⟩]))))))) (.seq (.seq (.region false [⟨some 21, .mov (.t 0), none⟩,
   ⟨some 22, .len (.t 21), none⟩,
   ⟨some 23, .mov (.c (iv 0)), none⟩]) (.block 2 (.loop (.seq (.region false [⟨some 24, .bin .lss false (.t 23) (.t 22), none⟩]) (.seq (.cond (.t 24) .skip (.exit 2)) (.seq (.block 3 (.seq (.region false [⟨some 25, .mov (.t 23), none⟩,
   ⟨some 26, .ixa 1 (.t 21) (.t 23), none⟩,
   ⟨some 27, .load none (.t 26), none⟩,
   ⟨some 6, .mov (.t 25), none⟩,
   ⟨some 7, .mov (.t 27), none⟩]) (.region false [⟨some 28, .mov (.t 4), none⟩,
   ⟨some 29, .mov (.t 6), none⟩,
   ⟨some 30, .bin .add false (.t 29) (.c (iv 2)), none⟩,
   ⟨some 31, .mov (.t 7), none⟩,
   ⟨some 32, .ixa 1 (.t 28) (.t 30), none⟩,
   ⟨none, .store 1 (.t 32) (.t 31), none⟩]))) (.region false [⟨some 33, .bin .add false (.t 23) (.c (iv 1)), none⟩,
   ⟨some 23, .mov (.t 33), none⟩]))))))) (.seq (.region true [⟨some 34, .mov (.t 4), none⟩,
   ⟨some 35, .mov (.t 4), none⟩,
   ⟨some 36, .mov (.t 0), none⟩,
   ⟨some 37, .len (.t 36), none⟩,
   ⟨some 38, .bin .add false (.t 37) (.c (iv 2)), none⟩,
   ⟨some 39, .slc 1 (.t 35) (some (.c (iv 2))) (some (.t 38)) none, none⟩,
   ⟨some 2, .mov (.t 34), none⟩,
   ⟨some 3, .mov (.t 39), none⟩]) .ret))))
def R.surdref01_Lend : List VRes := [.tmp 2, .tmp 3]
theorem K.surdref01_Lend : resCode Tryz.prog Tryz.f79.ntmps (Tryz.f79.body.getD .skip) = C.surdref01_Lend := by kernel_rfl
theorem Q.surdref01_Lend : resResults Tryz.prog Tryz.f79.results.toList = some R.surdref01_Lend := by kernel_rfl
theorem E.surdref01_Lend : Tryz.prog.funcs[F.surdref01_Lend]? = some Tryz.f79 := Tryz.func79
theorem B.surdref01_Lend : Tryz.f79.body = some (Tryz.f79.body.getD .skip) := by kernel_rfl
theorem N.surdref01_Lend : Tryz.f79.ntmps = 40 := Tryz.ntmps79

def C.surdref08_D_Top : VC :=
  .seq (.region false [⟨some 1, .box (.t 0), none⟩,
   ⟨some 2, .mov (.c (iv 0)), none⟩]) (.seq (.region true [⟨some 3, .fa 0 (.t 1), none⟩,
   ⟨some 4, .fa 1 (.t 3), none⟩,
   ⟨some 5, .load none (.t 4), none⟩,
   ⟨some 6, .call F.surdref01_Num_Len [.t 5], none⟩,
   ⟨some 7, .bin .sub false (.t 6) (.c (iv 1)), none⟩,
   ⟨some 8, .fa 2 (.t 1), none⟩,
   ⟨some 9, .load none (.t 8), none⟩,
   ⟨some 10, .bin .add false (.t 7) (.t 9), none⟩,
   ⟨some 2, .mov (.t 10), none⟩]) .ret)
def R.surdref08_D_Top : List VRes := [.tmp 2]
theorem K.surdref08_D_Top : resCode Tryz.prog Tryz.f81.ntmps (Tryz.f81.body.getD .skip) = C.surdref08_D_Top := by kernel_rfl
theorem Q.surdref08_D_Top : resResults Tryz.prog Tryz.f81.results.toList = some R.surdref08_D_Top := by kernel_rfl
theorem E.surdref08_D_Top : Tryz.prog.funcs[F.surdref08_D_Top]? = some Tryz.f81 := Tryz.func81
theorem B.surdref08_D_Top : Tryz.f81.body = some (Tryz.f81.body.getD .skip) := by kernel_rfl
theorem N.surdref08_D_Top : Tryz.f81.ntmps = 11 := Tryz.ntmps81

def C.surdref06_Cmp : VC :=
  .seq (.region false [⟨some 2, .box (.t 0), none⟩,
   ⟨some 3, .box (.t 1), none⟩,
   ⟨some 4, .mov (.c (iv 0)), none⟩]) (.seq (.seq (.region false [⟨some 6, .fa 0 (.t 2), none⟩,
   ⟨some 7, .load none (.t 6), none⟩,
   ⟨some 8, .fa 0 (.t 3), none⟩,
   ⟨some 9, .load none (.t 8), none⟩,
   ⟨some 10, .bin .neq true (.t 7) (.t 9), none⟩]) (.cond (.t 10) (.seq (.seq (.region false [⟨some 11, .fa 0 (.t 2), none⟩,
   ⟨some 12, .load none (.t 11), none⟩]) (.cond (.t 12) (.seq (.region false [⟨some 4, .mov (.c (iv (-1))), none⟩]) .ret) .skip)) (.seq (.region false [⟨some 4, .mov (.c (iv 1)), none⟩]) .ret)) .skip)) (.seq (.region false [⟨some 13, .fa 1 (.t 2), none⟩,
   ⟨some 14, .load none (.t 13), none⟩,
   ⟨some 15, .fa 1 (.t 3), none⟩,
   ⟨some 16, .load none (.t 15), none⟩,
   ⟨some 17, .call F.surdref01_Cmp [.t 14, .t 16], none⟩,
   ⟨some 5, .mov (.t 17), none⟩]) (.seq (.seq (.region false [⟨some 18, .fa 0 (.t 2), none⟩,
   ⟨some 19, .load none (.t 18), none⟩]) (.cond (.t 19) (.seq (.region false [⟨some 20, .mov (.t 5), none⟩,
   ⟨some 21, .un .neg (.t 20), none⟩,
   ⟨some 4, .mov (.t 21), none⟩]) .ret) .skip)) (.seq (.region false [⟨some 22, .mov (.t 5), none⟩,
   ⟨some 4, .mov (.t 22), none⟩]) .ret))))
def R.surdref06_Cmp : List VRes := [.tmp 4]
theorem K.surdref06_Cmp : resCode Tryz.prog Tryz.f82.ntmps (Tryz.f82.body.getD .skip) = C.surdref06_Cmp := by kernel_rfl
theorem Q.surdref06_Cmp : resResults Tryz.prog Tryz.f82.results.toList = some R.surdref06_Cmp := by kernel_rfl
theorem E.surdref06_Cmp : Tryz.prog.funcs[F.surdref06_Cmp]? = some Tryz.f82 := Tryz.func82
theorem B.surdref06_Cmp : Tryz.f82.body = some (Tryz.f82.body.getD .skip) := by kernel_rfl
theorem N.surdref06_Cmp : Tryz.f82.ntmps = 23 := Tryz.ntmps82

def C.surdref06_Shift : VC :=
  .seq (.region false [⟨some 2, .box (.t 0), none⟩,
   ⟨some 4, .alloc [.bool false, .slice none 0 0], none⟩]) (.seq (.seq (.region false [⟨some 7, .mov (.t 1), none⟩,
   ⟨some 8, .bin .geq false (.t 7) (.c (iv 0)), none⟩]) (.cond (.t 8) (.seq (.region true [⟨some 9, .fa 0 (.t 2), none⟩,
   ⟨some 10, .load none (.t 9), none⟩,
   ⟨some 11, .fa 1 (.t 2), none⟩,
   ⟨some 12, .load none (.t 11), none⟩,
   ⟨some 13, .mov (.t 1), none⟩,
   ⟨some 14, .call F.surdref01_Shl [.t 12, .t 13], none⟩,
   ⟨some 15, .call F.surdref06_make1 [.t 10, .t 14], none⟩,
   ⟨none, .store 2 (.t 4) (.t 15), none⟩]) .ret) .skip)) (.seq (.seq (.region false [⟨some 16, .mov (.t 1), none⟩,
   ⟨some 17, .fa 1 (.t 2), none⟩,
   ⟨some 18, .load none (.t 17), none⟩,
   ⟨some 19, .call F.surdref01_Num_Len [.t 18], none⟩,
   ⟨some 20, .un .neg (.t 19), none⟩,
   ⟨some 21, .bin .lss false (.t 16) (.t 20), none⟩]) (.cond (.t 21) (.seq (.seq (.region false [⟨some 22, .fa 0 (.t 2), none⟩,
   ⟨some 23, .load none (.t 22), none⟩]) (.cond (.t 23) (.seq (.region false [⟨some 24, .call F.surdref06_Int [.c (iv (-1))], none⟩,
   ⟨none, .store 2 (.t 4) (.t 24), none⟩]) .ret) .skip)) (.seq (.region false [⟨some 25, .build [.bool false, .slice none 0 0] [], none⟩,
   ⟨none, .store 2 (.t 4) (.t 25), none⟩]) .ret)) .skip)) (.seq (.region true [⟨some 27, .load (some 2) (.t 2), none⟩,
   ⟨some 28, .call F.surdref01_Int [.c (iv 1)], none⟩,
   ⟨some 29, .mov (.t 1), none⟩,
   ⟨some 30, .un .neg (.t 29), none⟩,
   ⟨some 31, .call F.surdref01_Shl [.t 28, .t 30], none⟩,
   ⟨some 32, .call F.surdref06_make1 [.c (bv false), .t 31], none⟩,
   ⟨some 33, .call F.surdref06_Floor [.t 27, .t 32], none⟩,
   ⟨some 26, .mov (.t 33), none⟩,
   ⟨some 34, .ext (.t 26) 0, none⟩,
   ⟨some 35, .ext (.t 26) 1, none⟩,
   ⟨some 5, .mov (.c .any), none⟩,
   ⟨some 6, .mov (.c .any), none⟩,
   ⟨some 5, .boxA 2 (.t 34), none⟩,
   ⟨some 6, .boxA 2 (.t 35), none⟩]) (.seq (.region false [⟨some 36, .load (some 2) (.t 5), none⟩,
   ⟨none, .store 2 (.t 4) (.t 36), none⟩]) .ret))))
def R.surdref06_Shift : List VRes := [.cell 4 (some 2)]
theorem K.surdref06_Shift : resCode Tryz.prog Tryz.f83.ntmps (Tryz.f83.body.getD .skip) = C.surdref06_Shift := by kernel_rfl
theorem Q.surdref06_Shift : resResults Tryz.prog Tryz.f83.results.toList = some R.surdref06_Shift := by kernel_rfl
theorem E.surdref06_Shift : Tryz.prog.funcs[F.surdref06_Shift]? = some Tryz.f83 := Tryz.func83
theorem B.surdref06_Shift : Tryz.f83.body = some (Tryz.f83.body.getD .skip) := by kernel_rfl
theorem N.surdref06_Shift : Tryz.f83.ntmps = 37 := Tryz.ntmps83

def C.dyadic_Round : VC :=
  .seq (.region false [⟨some 3, .box (.t 0), none⟩,
   ⟨some 6, .alloc [.bool false, .slice none 0 0, .int .i64 0], none⟩,
   ⟨some 7, .mov (.c (iv 0)), none⟩]) (.seq (.region false [⟨some 11, .load (some 3) (.t 3), none⟩,
   ⟨some 12, .call F.dyadic_read [.t 11], none⟩,
   ⟨some 10, .mov (.t 12), none⟩,
   ⟨some 13, .ext (.t 10) 0, none⟩,
   ⟨some 14, .ext (.t 10) 1, none⟩,
   ⟨some 8, .alloc [.bool false, .slice none 0 0, .int .i64 0], none⟩,
   ⟨none, .store 3 (.t 8) (.t 13), none⟩,
   ⟨some 9, .mov (.t 14), none⟩]) (.seq (.block 0 (.seq (.region false [⟨some 16, .mov (.t 9), none⟩,
   ⟨some 17, .bin .neq false (.t 16) (.c (iv 0)), none⟩,
   ⟨some 15, .mov (.t 17), none⟩]) (.cond (.t 15) (.seq (.region false [⟨some 18, .build [.bool false, .slice none 0 0, .int .i64 0] [], none⟩,
   ⟨some 19, .mov (.t 9), none⟩,
   ⟨none, .store 3 (.t 6) (.t 18), none⟩,
   ⟨some 7, .mov (.t 19), none⟩]) .ret) (.seq (.region false [⟨some 21, .mov (.t 1), none⟩,
   ⟨some 22, .call F.dyadic_within [.t 21], none⟩,
   ⟨some 23, .un .not (.t 22), none⟩,
   ⟨some 20, .mov (.t 23), none⟩]) (.cond (.t 20) (.seq (.region false [⟨some 24, .build [.bool false, .slice none 0 0, .int .i64 0] [], none⟩,
   ⟨none, .store 3 (.t 6) (.t 24), none⟩,
   ⟨some 7, .mov (.c (iv 1)), none⟩]) .ret) (.seq (.region false [⟨some 26, .mov (.t 2), none⟩,
   ⟨some 27, .call F.dyadic_direction [.t 26], none⟩,
   ⟨some 28, .un .not (.t 27), none⟩,
   ⟨some 25, .mov (.t 28), none⟩]) (.cond (.t 25) (.seq (.region false [⟨some 29, .build [.bool false, .slice none 0 0, .int .i64 0] [], none⟩,
   ⟨none, .store 3 (.t 6) (.t 29), none⟩,
   ⟨some 7, .mov (.c (iv 81)), none⟩]) .ret) .skip))))))) (.seq (.region false [⟨some 30, .load (some 3) (.t 8), none⟩,
   ⟨some 31, .mov (.t 1), none⟩,
   ⟨some 32, .mov (.t 2), none⟩,
   ⟨some 33, .call F.dyadic_rounded [.t 30, .t 31, .t 32], none⟩,
   ⟨some 34, .ext (.t 33) 0, none⟩,
   ⟨some 35, .ext (.t 33) 1, none⟩,
   ⟨none, .store 3 (.t 6) (.t 34), none⟩,
   ⟨some 7, .mov (.t 35), none⟩]) .ret)))
def R.dyadic_Round : List VRes := [.cell 6 (some 3), .tmp 7]
theorem K.dyadic_Round : resCode Tryz.prog Tryz.f86.ntmps (Tryz.f86.body.getD .skip) = C.dyadic_Round := by kernel_rfl
theorem Q.dyadic_Round : resResults Tryz.prog Tryz.f86.results.toList = some R.dyadic_Round := by kernel_rfl
theorem E.dyadic_Round : Tryz.prog.funcs[F.dyadic_Round]? = some Tryz.f86 := Tryz.func86
theorem B.dyadic_Round : Tryz.f86.body = some (Tryz.f86.body.getD .skip) := by kernel_rfl
theorem N.dyadic_Round : Tryz.f86.ntmps = 36 := Tryz.ntmps86

def C.span_worst : VC :=
  .seq (.region false [⟨some 4, .mov (.c (iv 0)), none⟩]) (.seq (.seq (.region false [⟨some 5, .mov (.t 0), none⟩,
   ⟨some 6, .bin .eql false (.t 5) (.c (iv 3)), none⟩,
   ⟨some 7, .mov (.t 6), none⟩,
   ⟨some 8, .mov (.t 1), some (7, false)⟩,
   ⟨some 9, .bin .eql false (.t 8) (.c (iv 3)), some (7, false)⟩,
   ⟨some 10, .pick (.t 7) (.c (bv true)) (.t 9), none⟩]) (.cond (.t 10) (.seq (.region false [⟨some 4, .mov (.c (iv 3)), none⟩]) .ret) .skip)) (.seq (.seq (.region false [⟨some 11, .mov (.t 0), none⟩,
   ⟨some 12, .bin .neq false (.t 11) (.c (iv 0)), none⟩]) (.cond (.t 12) (.seq (.region false [⟨some 13, .mov (.t 0), none⟩,
   ⟨some 4, .mov (.t 13), none⟩]) .ret) .skip)) (.seq (.region false [⟨some 14, .mov (.t 1), none⟩,
   ⟨some 4, .mov (.t 14), none⟩]) .ret)))
def R.span_worst : List VRes := [.tmp 4]
theorem K.span_worst : resCode Tryz.prog Tryz.f87.ntmps (Tryz.f87.body.getD .skip) = C.span_worst := by kernel_rfl
theorem Q.span_worst : resResults Tryz.prog Tryz.f87.results.toList = some R.span_worst := by kernel_rfl
theorem E.span_worst : Tryz.prog.funcs[F.span_worst]? = some Tryz.f87 := Tryz.func87
theorem B.span_worst : Tryz.f87.body = some (Tryz.f87.body.getD .skip) := by kernel_rfl
theorem N.span_worst : Tryz.f87.ntmps = 15 := Tryz.ntmps87

def C.surdref08_Told : VC :=
  .seq (.region false [⟨some 1, .box (.t 0), none⟩,
   ⟨some 2, .alloc [.bool false, .slice none 0 0, .int .i64 0], none⟩,
   ⟨some 3, .mov (.c (iv 0)), none⟩]) (.seq (.seq (.region false [⟨some 4, .fa 0 (.t 1), none⟩,
   ⟨some 5, .fa 1 (.t 4), none⟩,
   ⟨some 6, .load none (.t 5), none⟩,
   ⟨some 7, .call F.surdref01_Num_Len [.t 6], none⟩,
   ⟨some 8, .bin .gtr false (.t 7) (.c (iv 67108864)), none⟩]) (.cond (.t 8) (.seq (.region false [⟨some 9, .build [.bool false, .slice none 0 0, .int .i64 0] [], none⟩,
   ⟨none, .store 3 (.t 2) (.t 9), none⟩,
   ⟨some 3, .mov (.c (iv 3)), none⟩]) .ret) .skip)) (.seq (.seq (.region false [⟨some 10, .fa 2 (.t 1), none⟩,
   ⟨some 11, .load none (.t 10), none⟩,
   ⟨some 12, .call F.surdref08_Fits [.t 11], none⟩,
   ⟨some 13, .un .not (.t 12), none⟩]) (.cond (.t 13) (.seq (.region false [⟨some 14, .build [.bool false, .slice none 0 0, .int .i64 0] [], none⟩,
   ⟨none, .store 3 (.t 2) (.t 14), none⟩,
   ⟨some 3, .mov (.c (iv 80)), none⟩]) .ret) .skip)) (.seq (.region false [⟨some 15, .load (some 3) (.t 1), none⟩,
   ⟨none, .store 3 (.t 2) (.t 15), none⟩,
   ⟨some 3, .mov (.c (iv 0)), none⟩]) .ret)))
def R.surdref08_Told : List VRes := [.cell 2 (some 3), .tmp 3]
theorem K.surdref08_Told : resCode Tryz.prog Tryz.f88.ntmps (Tryz.f88.body.getD .skip) = C.surdref08_Told := by kernel_rfl
theorem Q.surdref08_Told : resResults Tryz.prog Tryz.f88.results.toList = some R.surdref08_Told := by kernel_rfl
theorem E.surdref08_Told : Tryz.prog.funcs[F.surdref08_Told]? = some Tryz.f88 := Tryz.func88
theorem B.surdref08_Told : Tryz.f88.body = some (Tryz.f88.body.getD .skip) := by kernel_rfl
theorem N.surdref08_Told : Tryz.f88.ntmps = 16 := Tryz.ntmps88

def C.surdref01_Num_Len : VC :=
  .seq (.region false [⟨some 2, .mov (.c (iv 0)), none⟩]) (.seq (.seq (.region false [⟨some 5, .mov (.t 0), none⟩,
   ⟨some 6, .len (.t 5), none⟩,
   ⟨some 7, .bin .eql false (.t 6) (.c (iv 0)), none⟩]) (.cond (.t 7) (.seq (.region false [⟨some 2, .mov (.c (iv 0)), none⟩]) .ret) .skip)) (.seq (.region false [⟨some 8, .mov (.t 0), none⟩,
   ⟨some 9, .len (.t 8), none⟩,
   ⟨some 10, .bin .sub false (.t 9) (.c (iv 1)), none⟩,
   ⟨some 11, .bin .mul false (.c (iv 32)) (.t 10), none⟩,
   ⟨some 3, .mov (.t 11), none⟩]) (.seq (.seq (.region false [⟨some 12, .mov (.t 0), none⟩,
   ⟨some 13, .mov (.t 0), none⟩,
   ⟨some 14, .len (.t 13), none⟩,
   ⟨some 15, .bin .sub false (.t 14) (.c (iv 1)), none⟩,
   ⟨some 16, .ixa 1 (.t 12) (.t 15), none⟩,
   ⟨some 17, .load none (.t 16), none⟩,
   ⟨some 4, .mov (.t 17), none⟩]) (.block 0 (.loop (.seq (.seq (.region false [⟨some 18, .mov (.t 4), none⟩,
   ⟨some 19, .bin .gtr false (.t 18) (.c (nv 0)), none⟩]) (.cond (.t 19) .skip (.exit 0))) (.seq (.block 1 (.region false [⟨some 22, .mov (.t 3), none⟩,
   ⟨some 23, .bin .add false (.t 22) (.c (iv 1)), none⟩,
   ⟨some 3, .mov (.t 23), none⟩])) (.region false [⟨some 20, .mov (.t 4), none⟩,
   ⟨some 21, .bin .quo false (.t 20) (.c (nv 2)), none⟩,
   ⟨some 4, .mov (.t 21), none⟩])))))) (.seq (.region false [⟨some 24, .mov (.t 3), none⟩,
   ⟨some 2, .mov (.t 24), none⟩]) .ret))))
def R.surdref01_Num_Len : List VRes := [.tmp 2]
theorem K.surdref01_Num_Len : resCode Tryz.prog Tryz.f91.ntmps (Tryz.f91.body.getD .skip) = C.surdref01_Num_Len := by kernel_rfl
theorem Q.surdref01_Num_Len : resResults Tryz.prog Tryz.f91.results.toList = some R.surdref01_Num_Len := by kernel_rfl
theorem E.surdref01_Num_Len : Tryz.prog.funcs[F.surdref01_Num_Len]? = some Tryz.f91 := Tryz.func91
theorem B.surdref01_Num_Len : Tryz.f91.body = some (Tryz.f91.body.getD .skip) := by kernel_rfl
theorem N.surdref01_Num_Len : Tryz.f91.ntmps = 25 := Tryz.ntmps91

def C.surdref01_Shl : VC :=
  .seq (.region false [⟨some 4, .mov (.c nil1), none⟩]) (.seq (.seq (.region false [⟨some 9, .mov (.t 0), none⟩,
   ⟨some 10, .len (.t 9), none⟩,
   ⟨some 11, .bin .eql false (.t 10) (.c (iv 0)), none⟩]) (.cond (.t 11) (.seq (.region false [⟨some 4, .mov (.c nil1), none⟩]) .ret) .skip)) (.seq (.region false [⟨some 12, .mov (.t 0), none⟩,
   ⟨some 13, .len (.t 12), none⟩,
   ⟨some 14, .mov (.t 1), none⟩,
   ⟨some 15, .bin .quo false (.t 14) (.c (iv 32)), none⟩,
   ⟨some 16, .bin .add false (.t 13) (.t 15), none⟩,
   ⟨some 17, .bin .add false (.t 16) (.c (iv 1)), none⟩,
   ⟨some 18, .mk [.int .u64 0] 8 (.t 17) (.t 17), none⟩,
   ⟨some 5, .mov (.t 18), none⟩]) (.seq (.region false [⟨some 19, .mov (.t 1), none⟩,
   ⟨some 20, .bin .rem false (.t 19) (.c (iv 32)), none⟩,
   ⟨some 6, .mov (.t 20), none⟩]) (.seq (.seq (.region false [⟨some 21, .mov (.t 0), none⟩,
   ⟨some 22, .len (.t 21), none⟩,
   ⟨some 23, .mov (.c (iv 0)), none⟩]) (.block 0 (.loop (.seq (.region false [⟨some 24, .bin .lss false (.t 23) (.t 22), none⟩]) (.seq (.cond (.t 24) .skip (.exit 0)) (.seq (.block 1 (.seq (.region false [⟨some 25, .mov (.t 23), none⟩,
   ⟨some 26, .ixa 1 (.t 21) (.t 23), none⟩,
   ⟨some 27, .load none (.t 26), none⟩,
   ⟨some 7, .mov (.t 25), none⟩,
   ⟨some 8, .mov (.t 27), none⟩]) (.seq (.region true [⟨some 28, .mov (.t 5), none⟩,
   ⟨some 29, .mov (.t 7), none⟩,
   ⟨some 30, .mov (.t 1), none⟩,
   ⟨some 31, .bin .quo false (.t 30) (.c (iv 32)), none⟩,
   ⟨some 32, .bin .add false (.t 29) (.t 31), none⟩,
   ⟨some 33, .ixa 1 (.t 28) (.t 32), none⟩,
   ⟨some 34, .load none (.t 33), none⟩,
   ⟨some 35, .mov (.t 8), none⟩,
   ⟨some 36, .mov (.t 6), none⟩,
   ⟨some 37, .bin .shl false (.t 35) (.t 36), none⟩,
   ⟨some 38, .bin .rem false (.t 37) (.c (nv 4294967296)), none⟩,
   ⟨some 39, .bin .add false (.t 34) (.t 38), none⟩,
   ⟨some 40, .ixa 1 (.t 28) (.t 32), none⟩,
   ⟨none, .store 1 (.t 40) (.t 39), none⟩]) (.region false [⟨some 41, .mov (.t 5), none⟩,
   ⟨some 42, .mov (.t 7), none⟩,
   ⟨some 43, .mov (.t 1), none⟩,
   ⟨some 44, .bin .quo false (.t 43) (.c (iv 32)), none⟩,
   ⟨some 45, .bin .add false (.t 42) (.t 44), none⟩,
   ⟨some 46, .bin .add false (.t 45) (.c (iv 1)), none⟩,
   ⟨some 47, .mov (.t 8), none⟩,
   ⟨some 48, .mov (.t 6), none⟩,
   ⟨some 49, .bin .shl false (.t 47) (.t 48), none⟩,
   ⟨some 50, .bin .quo false (.t 49) (.c (nv 4294967296)), none⟩,
   ⟨some 51, .ixa 1 (.t 41) (.t 46), none⟩,
   ⟨none, .store 1 (.t 51) (.t 50), none⟩])))) (.region false [⟨some 52, .bin .add false (.t 23) (.c (iv 1)), none⟩,
   ⟨some 23, .mov (.t 52), none⟩]))))))) (.seq (.region false [⟨some 53, .mov (.t 5), none⟩,
   ⟨some 54, .call F.surdref01_norm [.t 53], none⟩,
   ⟨some 4, .mov (.t 54), none⟩]) .ret)))))
def R.surdref01_Shl : List VRes := [.tmp 4]
theorem K.surdref01_Shl : resCode Tryz.prog Tryz.f92.ntmps (Tryz.f92.body.getD .skip) = C.surdref01_Shl := by kernel_rfl
theorem Q.surdref01_Shl : resResults Tryz.prog Tryz.f92.results.toList = some R.surdref01_Shl := by kernel_rfl
theorem E.surdref01_Shl : Tryz.prog.funcs[F.surdref01_Shl]? = some Tryz.f92 := Tryz.func92
theorem B.surdref01_Shl : Tryz.f92.body = some (Tryz.f92.body.getD .skip) := by kernel_rfl
theorem N.surdref01_Shl : Tryz.f92.ntmps = 55 := Tryz.ntmps92

def C.surdref01_Int : VC :=
  .seq (.region false [⟨some 2, .mov (.c nil1), none⟩]) (.seq (.region false [⟨some 3, .mov (.t 0), none⟩,
   ⟨some 4, .conv .u64 (.t 3), none⟩,
   ⟨some 5, .bsl true 1 1 [.int .u64 0] [(0, (1, .t 4))], none⟩,
   ⟨some 6, .call F.surdref01_Of [.t 5], none⟩,
   ⟨some 2, .mov (.t 6), none⟩]) .ret)
def R.surdref01_Int : List VRes := [.tmp 2]
theorem K.surdref01_Int : resCode Tryz.prog Tryz.f93.ntmps (Tryz.f93.body.getD .skip) = C.surdref01_Int := by kernel_rfl
theorem Q.surdref01_Int : resResults Tryz.prog Tryz.f93.results.toList = some R.surdref01_Int := by kernel_rfl
theorem E.surdref01_Int : Tryz.prog.funcs[F.surdref01_Int]? = some Tryz.f93 := Tryz.func93
theorem B.surdref01_Int : Tryz.f93.body = some (Tryz.f93.body.getD .skip) := by kernel_rfl
theorem N.surdref01_Int : Tryz.f93.ntmps = 7 := Tryz.ntmps93

def C.surdref10_worst : VC :=
  .seq (.region false [⟨some 4, .mov (.c (iv 0)), none⟩]) (.seq (.seq (.region false [⟨some 5, .mov (.t 0), none⟩,
   ⟨some 6, .bin .eql false (.t 5) (.c (iv 3)), none⟩,
   ⟨some 7, .mov (.t 6), none⟩,
   ⟨some 8, .mov (.t 1), some (7, false)⟩,
   ⟨some 9, .bin .eql false (.t 8) (.c (iv 3)), some (7, false)⟩,
   ⟨some 10, .pick (.t 7) (.c (bv true)) (.t 9), none⟩]) (.cond (.t 10) (.seq (.region false [⟨some 4, .mov (.c (iv 3)), none⟩]) .ret) .skip)) (.seq (.seq (.region false [⟨some 11, .mov (.t 0), none⟩,
   ⟨some 12, .bin .neq false (.t 11) (.c (iv 0)), none⟩]) (.cond (.t 12) (.seq (.region false [⟨some 13, .mov (.t 0), none⟩,
   ⟨some 4, .mov (.t 13), none⟩]) .ret) .skip)) (.seq (.region false [⟨some 14, .mov (.t 1), none⟩,
   ⟨some 4, .mov (.t 14), none⟩]) .ret)))
def R.surdref10_worst : List VRes := [.tmp 4]
theorem K.surdref10_worst : resCode Tryz.prog Tryz.f97.ntmps (Tryz.f97.body.getD .skip) = C.surdref10_worst := by kernel_rfl
theorem Q.surdref10_worst : resResults Tryz.prog Tryz.f97.results.toList = some R.surdref10_worst := by kernel_rfl
theorem E.surdref10_worst : Tryz.prog.funcs[F.surdref10_worst]? = some Tryz.f97 := Tryz.func97
theorem B.surdref10_worst : Tryz.f97.body = some (Tryz.f97.body.getD .skip) := by kernel_rfl
theorem N.surdref10_worst : Tryz.f97.ntmps = 15 := Tryz.ntmps97

def C.span_sums : VC :=
  .seq (.region false [⟨some 3, .box (.t 0), none⟩,
   ⟨some 4, .box (.t 1), none⟩,
   ⟨some 6, .alloc [.bool false, .slice none 0 0, .int .i64 0, .bool false, .slice none 0 0, .int .i64 0], none⟩,
   ⟨some 7, .mov (.c (iv 0)), none⟩]) (.seq (.region false [⟨some 14, .fa 0 (.t 3), none⟩,
   ⟨some 15, .load (some 3) (.t 14), none⟩,
   ⟨some 16, .fa 0 (.t 4), none⟩,
   ⟨some 17, .load (some 3) (.t 16), none⟩,
   ⟨some 18, .call F.dyadic_Add [.t 15, .t 17], none⟩,
   ⟨some 13, .mov (.t 18), none⟩,
   ⟨some 19, .ext (.t 13) 0, none⟩,
   ⟨some 20, .ext (.t 13) 1, none⟩,
   ⟨some 8, .alloc [.bool false, .slice none 0 0, .int .i64 0], none⟩,
   ⟨none, .store 3 (.t 8) (.t 19), none⟩,
   ⟨some 9, .mov (.t 20), none⟩]) (.seq (.region false [⟨some 22, .fa 3 (.t 3), none⟩,
   ⟨some 23, .load (some 3) (.t 22), none⟩,
   ⟨some 24, .fa 3 (.t 4), none⟩,
   ⟨some 25, .load (some 3) (.t 24), none⟩,
   ⟨some 26, .call F.dyadic_Add [.t 23, .t 25], none⟩,
   ⟨some 21, .mov (.t 26), none⟩,
   ⟨some 27, .ext (.t 21) 0, none⟩,
   ⟨some 28, .ext (.t 21) 1, none⟩,
   ⟨some 10, .alloc [.bool false, .slice none 0 0, .int .i64 0], none⟩,
   ⟨none, .store 3 (.t 10) (.t 27), none⟩,
   ⟨some 11, .mov (.t 28), none⟩]) (.seq (.seq (.region false [⟨some 29, .mov (.t 9), none⟩,
   ⟨some 30, .mov (.t 11), none⟩,
   ⟨some 31, .call F.span_worst [.t 29, .t 30], none⟩,
   ⟨some 12, .mov (.t 31), none⟩]) (.seq (.region false [⟨some 32, .mov (.t 12), none⟩,
   ⟨some 33, .bin .neq false (.t 32) (.c (iv 0)), none⟩]) (.cond (.t 33) (.seq (.region false [⟨some 34, .build [.bool false, .slice none 0 0, .int .i64 0, .bool false, .slice none 0 0, .int .i64 0] [], none⟩,
   ⟨some 35, .mov (.t 12), none⟩,
   ⟨none, .store 6 (.t 6) (.t 34), none⟩,
   ⟨some 7, .mov (.t 35), none⟩]) .ret) .skip))) (.seq (.region false [⟨some 36, .load (some 3) (.t 8), none⟩,
   ⟨some 37, .load (some 3) (.t 10), none⟩,
   ⟨some 38, .mov (.t 2), none⟩,
   ⟨some 39, .call F.span_outward [.t 36, .t 37, .t 38], none⟩,
   ⟨some 40, .ext (.t 39) 0, none⟩,
   ⟨some 41, .ext (.t 39) 1, none⟩,
   ⟨none, .store 6 (.t 6) (.t 40), none⟩,
   ⟨some 7, .mov (.t 41), none⟩]) .ret))))
def R.span_sums : List VRes := [.cell 6 (some 6), .tmp 7]
theorem K.span_sums : resCode Tryz.prog Tryz.f98.ntmps (Tryz.f98.body.getD .skip) = C.span_sums := by kernel_rfl
theorem Q.span_sums : resResults Tryz.prog Tryz.f98.results.toList = some R.span_sums := by kernel_rfl
theorem E.span_sums : Tryz.prog.funcs[F.span_sums]? = some Tryz.f98 := Tryz.func98
theorem B.span_sums : Tryz.f98.body = some (Tryz.f98.body.getD .skip) := by kernel_rfl
theorem N.span_sums : Tryz.f98.ntmps = 42 := Tryz.ntmps98

end Go.Proofs.YtacodmnlnlbahaaGreatDoor
set_option linter.unusedVariables false
namespace Go.Proofs.YtacodmnlnlbahaaGreatDoor
open Go.VM

def C.surdref01_Num_Zero : VC :=
  .seq (.region false [⟨some 2, .mov (.c (bv false)), none⟩]) (.seq (.region false [⟨some 3, .mov (.t 0), none⟩,
   ⟨some 4, .len (.t 3), none⟩,
   ⟨some 5, .bin .eql false (.t 4) (.c (iv 0)), none⟩,
   ⟨some 2, .mov (.t 5), none⟩]) .ret)
def R.surdref01_Num_Zero : List VRes := [.tmp 2]
theorem K.surdref01_Num_Zero : resCode Tryz.prog Tryz.f104.ntmps (Tryz.f104.body.getD .skip) = C.surdref01_Num_Zero := by kernel_rfl
theorem Q.surdref01_Num_Zero : resResults Tryz.prog Tryz.f104.results.toList = some R.surdref01_Num_Zero := by kernel_rfl
theorem E.surdref01_Num_Zero : Tryz.prog.funcs[F.surdref01_Num_Zero]? = some Tryz.f104 := Tryz.func104
theorem B.surdref01_Num_Zero : Tryz.f104.body = some (Tryz.f104.body.getD .skip) := by kernel_rfl
theorem N.surdref01_Num_Zero : Tryz.f104.ntmps = 6 := Tryz.ntmps104

def C.span_ends : VC :=
  .seq (.region false [⟨some 4, .box (.t 0), none⟩,
   ⟨some 6, .box (.t 2), none⟩,
   ⟨some 8, .alloc [.bool false, .slice none 0 0, .int .i64 0, .bool false, .slice none 0 0, .int .i64 0], none⟩,
   ⟨some 9, .mov (.c (iv 0)), none⟩]) (.seq (.seq (.region false [⟨some 11, .mov (.t 1), none⟩,
   ⟨some 12, .mov (.t 3), none⟩,
   ⟨some 13, .call F.span_worst [.t 11, .t 12], none⟩,
   ⟨some 10, .mov (.t 13), none⟩]) (.seq (.region false [⟨some 14, .mov (.t 10), none⟩,
   ⟨some 15, .bin .neq false (.t 14) (.c (iv 0)), none⟩]) (.cond (.t 15) (.seq (.region false [⟨some 16, .build [.bool false, .slice none 0 0, .int .i64 0, .bool false, .slice none 0 0, .int .i64 0] [], none⟩,
   ⟨some 17, .mov (.t 10), none⟩,
   ⟨none, .store 6 (.t 8) (.t 16), none⟩,
   ⟨some 9, .mov (.t 17), none⟩]) .ret) .skip))) (.seq (.region false [⟨some 18, .load (some 3) (.t 4), none⟩,
   ⟨some 19, .load (some 3) (.t 6), none⟩,
   ⟨some 20, .build [.bool false, .slice none 0 0, .int .i64 0, .bool false, .slice none 0 0, .int .i64 0] [(0, (3, .t 18)), (3, (3, .t 19))], none⟩,
   ⟨none, .store 6 (.t 8) (.t 20), none⟩,
   ⟨some 9, .mov (.c (iv 0)), none⟩]) .ret))
def R.span_ends : List VRes := [.cell 8 (some 6), .tmp 9]
theorem K.span_ends : resCode Tryz.prog Tryz.f110.ntmps (Tryz.f110.body.getD .skip) = C.span_ends := by kernel_rfl
theorem Q.span_ends : resResults Tryz.prog Tryz.f110.results.toList = some R.span_ends := by kernel_rfl
theorem E.span_ends : Tryz.prog.funcs[F.span_ends]? = some Tryz.f110 := Tryz.func110
theorem B.span_ends : Tryz.f110.body = some (Tryz.f110.body.getD .skip) := by kernel_rfl
theorem N.span_ends : Tryz.f110.ntmps = 21 := Tryz.ntmps110

def C.surdref01_Num_Tail : VC :=
  .seq (.region false [⟨some 2, .mov (.c (iv 0)), none⟩]) (.seq (.seq (.region false [⟨some 4, .mov (.t 0), none⟩,
   ⟨some 5, .len (.t 4), none⟩,
   ⟨some 6, .bin .eql false (.t 5) (.c (iv 0)), none⟩]) (.cond (.t 6) (.seq (.region false [⟨some 2, .mov (.c (iv 0)), none⟩]) .ret) .skip)) (.seq (.region false [⟨some 3, .mov (.c (iv 0)), none⟩]) (.seq (.block 0 (.loop (.seq (.seq (.region false [⟨some 7, .mov (.t 0), none⟩,
   ⟨some 8, .mov (.t 3), none⟩,
   ⟨some 9, .call F.surdref01_Num_Bit [.t 7, .t 8], none⟩,
   ⟨some 10, .bin .eql false (.t 9) (.c (iv 0)), none⟩]) (.cond (.t 10) .skip (.exit 0))) (.block 1 (.region false [⟨some 11, .mov (.t 3), none⟩,
   ⟨some 12, .bin .add false (.t 11) (.c (iv 1)), none⟩,
   ⟨some 3, .mov (.t 12), none⟩]))))) (.seq (.region false [⟨some 13, .mov (.t 3), none⟩,
   ⟨some 2, .mov (.t 13), none⟩]) .ret))))
def R.surdref01_Num_Tail : List VRes := [.tmp 2]
theorem K.surdref01_Num_Tail : resCode Tryz.prog Tryz.f111.ntmps (Tryz.f111.body.getD .skip) = C.surdref01_Num_Tail := by kernel_rfl
theorem Q.surdref01_Num_Tail : resResults Tryz.prog Tryz.f111.results.toList = some R.surdref01_Num_Tail := by kernel_rfl
theorem E.surdref01_Num_Tail : Tryz.prog.funcs[F.surdref01_Num_Tail]? = some Tryz.f111 := Tryz.func111
theorem B.surdref01_Num_Tail : Tryz.f111.body = some (Tryz.f111.body.getD .skip) := by kernel_rfl
theorem N.surdref01_Num_Tail : Tryz.f111.ntmps = 14 := Tryz.ntmps111

def C.surdref01_Shr : VC :=
  .seq (.region false [⟨some 4, .mov (.c nil1), none⟩]) (.seq (.seq (.region false [⟨some 9, .mov (.t 1), none⟩,
   ⟨some 10, .bin .quo false (.t 9) (.c (iv 32)), none⟩,
   ⟨some 11, .mov (.t 0), none⟩,
   ⟨some 12, .len (.t 11), none⟩,
   ⟨some 13, .bin .geq false (.t 10) (.t 12), none⟩]) (.cond (.t 13) (.seq (.region false [⟨some 4, .mov (.c nil1), none⟩]) .ret) .skip)) (.seq (.region false [⟨some 14, .mov (.t 0), none⟩,
   ⟨some 15, .len (.t 14), none⟩,
   ⟨some 16, .mov (.t 1), none⟩,
   ⟨some 17, .bin .quo false (.t 16) (.c (iv 32)), none⟩,
   ⟨some 18, .bin .sub false (.t 15) (.t 17), none⟩,
   ⟨some 19, .mk [.int .u64 0] 8 (.t 18) (.t 18), none⟩,
   ⟨some 5, .mov (.t 19), none⟩]) (.seq (.region false [⟨some 20, .mov (.t 1), none⟩,
   ⟨some 21, .bin .rem false (.t 20) (.c (iv 32)), none⟩,
   ⟨some 6, .mov (.t 21), none⟩]) (.seq (.seq (.region false [⟨some 22, .mov (.t 5), none⟩,
   ⟨some 23, .len (.t 22), none⟩,
   ⟨some 24, .mov (.c (iv 0)), none⟩]) (.block 0 (.loop (.seq (.region false [⟨some 25, .bin .lss false (.t 24) (.t 23), none⟩]) (.seq (.cond (.t 25) .skip (.exit 0)) (.seq (.block 1 (.seq (.region false [⟨some 26, .mov (.t 24), none⟩,
   ⟨some 7, .mov (.t 26), none⟩]) (.seq (.region true [⟨some 27, .mov (.t 0), none⟩,
   ⟨some 28, .mov (.t 7), none⟩,
   ⟨some 29, .mov (.t 1), none⟩,
   ⟨some 30, .bin .quo false (.t 29) (.c (iv 32)), none⟩,
   ⟨some 31, .bin .add false (.t 28) (.t 30), none⟩,
   ⟨some 32, .ixa 1 (.t 27) (.t 31), none⟩,
   ⟨some 33, .load none (.t 32), none⟩,
   ⟨some 34, .mov (.t 0), none⟩,
   ⟨some 35, .mov (.t 7), none⟩,
   ⟨some 36, .mov (.t 1), none⟩,
   ⟨some 37, .bin .quo false (.t 36) (.c (iv 32)), none⟩,
   ⟨some 38, .bin .add false (.t 35) (.t 37), none⟩,
   ⟨some 39, .bin .add false (.t 38) (.c (iv 1)), none⟩,
   ⟨some 40, .call F.surdref01_Num_at [.t 34, .t 39], none⟩,
   ⟨some 41, .bin .mul false (.t 40) (.c (nv 4294967296)), none⟩,
   ⟨some 42, .bin .add false (.t 33) (.t 41), none⟩,
   ⟨some 8, .mov (.t 42), none⟩]) (.region false [⟨some 43, .mov (.t 5), none⟩,
   ⟨some 44, .mov (.t 7), none⟩,
   ⟨some 45, .mov (.t 8), none⟩,
   ⟨some 46, .mov (.t 6), none⟩,
   ⟨some 47, .bin .shr false (.t 45) (.t 46), none⟩,
   ⟨some 48, .bin .rem false (.t 47) (.c (nv 4294967296)), none⟩,
   ⟨some 49, .ixa 1 (.t 43) (.t 44), none⟩,
   ⟨none, .store 1 (.t 49) (.t 48), none⟩])))) (.region false [⟨some 50, .bin .add false (.t 24) (.c (iv 1)), none⟩,
   ⟨some 24, .mov (.t 50), none⟩]))))))) (.seq (.region false [⟨some 51, .mov (.t 5), none⟩,
   ⟨some 52, .call F.surdref01_norm [.t 51], none⟩,
   ⟨some 4, .mov (.t 52), none⟩]) .ret)))))
def R.surdref01_Shr : List VRes := [.tmp 4]
theorem K.surdref01_Shr : resCode Tryz.prog Tryz.f112.ntmps (Tryz.f112.body.getD .skip) = C.surdref01_Shr := by kernel_rfl
theorem Q.surdref01_Shr : resResults Tryz.prog Tryz.f112.results.toList = some R.surdref01_Shr := by kernel_rfl
theorem E.surdref01_Shr : Tryz.prog.funcs[F.surdref01_Shr]? = some Tryz.f112 := Tryz.func112
theorem B.surdref01_Shr : Tryz.f112.body = some (Tryz.f112.body.getD .skip) := by kernel_rfl
theorem N.surdref01_Shr : Tryz.f112.ntmps = 53 := Tryz.ntmps112

def C.surdref06_make1 : VC :=
  .seq (.region false [⟨some 4, .alloc [.bool false, .slice none 0 0], none⟩]) (.seq (.region false [⟨some 5, .mov (.t 0), none⟩,
   ⟨some 6, .mov (.t 5), none⟩,
   ⟨some 7, .mov (.t 1), some (6, true)⟩,
   ⟨some 8, .call F.surdref01_Num_Zero [.t 7], some (6, true)⟩,
   ⟨some 9, .un .not (.t 8), some (6, true)⟩,
   ⟨some 10, .pick (.t 6) (.t 9) (.c (bv false)), none⟩,
   ⟨some 11, .mov (.t 1), none⟩,
   ⟨some 12, .build [.bool false, .slice none 0 0] [(0, (1, .t 10)), (1, (1, .t 11))], none⟩,
   ⟨none, .store 2 (.t 4) (.t 12), none⟩]) .ret)
def R.surdref06_make1 : List VRes := [.cell 4 (some 2)]
theorem K.surdref06_make1 : resCode Tryz.prog Tryz.f113.ntmps (Tryz.f113.body.getD .skip) = C.surdref06_make1 := by kernel_rfl
theorem Q.surdref06_make1 : resResults Tryz.prog Tryz.f113.results.toList = some R.surdref06_make1 := by kernel_rfl
theorem E.surdref06_make1 : Tryz.prog.funcs[F.surdref06_make1]? = some Tryz.f113 := Tryz.func113
theorem B.surdref06_make1 : Tryz.f113.body = some (Tryz.f113.body.getD .skip) := by kernel_rfl
theorem N.surdref06_make1 : Tryz.f113.ntmps = 13 := Tryz.ntmps113

def C.surdref01_Of : VC :=
  .seq (.region false [⟨some 2, .mov (.c nil1), none⟩]) (.seq (.region false [⟨some 6, .mov (.t 0), none⟩,
   ⟨some 7, .len (.t 6), none⟩,
   ⟨some 8, .bin .mul false (.c (iv 2)) (.t 7), none⟩,
   ⟨some 9, .mk [.int .u64 0] 8 (.c (iv 0)) (.t 8), none⟩,
   ⟨some 3, .mov (.t 9), none⟩]) (.seq (.seq (.region false [⟨some 10, .mov (.t 0), none⟩,
   ⟨some 11, .len (.t 10), none⟩,
   ⟨some 12, .mov (.c (iv 0)), none⟩]) (.block 0 (.loop (.seq (.region false [⟨some 13, .bin .lss false (.t 12) (.t 11), none⟩]) (.seq (.cond (.t 13) .skip (.exit 0)) (.seq (.block 1 (.seq (.region false [⟨some 14, .ixa 1 (.t 10) (.t 12), none⟩,
   ⟨some 15, .load none (.t 14), none⟩,
   ⟨some 5, .mov (.t 15), none⟩]) (.region false [⟨some 16, .mov (.t 3), none⟩,
   ⟨some 17, .mov (.t 5), none⟩,
   ⟨some 18, .bin .rem false (.t 17) (.c (nv 4294967296)), none⟩,
   ⟨some 19, .mov (.t 5), none⟩,
   ⟨some 20, .bin .quo false (.t 19) (.c (nv 4294967296)), none⟩,
   ⟨some 21, .bsl true 1 2 [.int .u64 0] [(0, (1, .t 18)), (1, (1, .t 20))], none⟩,
   ⟨some 22, .app 1 8 [.int .u64 0] (.t 16) (.t 21), none⟩,
   ⟨some 3, .mov (.t 22), none⟩]))) (.region false [⟨some 23, .bin .add false (.t 12) (.c (iv 1)), none⟩,
   ⟨some 12, .mov (.t 23), none⟩]))))))) (.seq (.region false [⟨some 24, .mov (.t 3), none⟩,
   ⟨some 25, .call F.surdref01_norm [.t 24], none⟩,
   ⟨some 2, .mov (.t 25), none⟩]) .ret)))
def R.surdref01_Of : List VRes := [.tmp 2]
theorem K.surdref01_Of : resCode Tryz.prog Tryz.f114.ntmps (Tryz.f114.body.getD .skip) = C.surdref01_Of := by kernel_rfl
theorem Q.surdref01_Of : resResults Tryz.prog Tryz.f114.results.toList = some R.surdref01_Of := by kernel_rfl
theorem E.surdref01_Of : Tryz.prog.funcs[F.surdref01_Of]? = some Tryz.f114 := Tryz.func114
theorem B.surdref01_Of : Tryz.f114.body = some (Tryz.f114.body.getD .skip) := by kernel_rfl
theorem N.surdref01_Of : Tryz.f114.ntmps = 26 := Tryz.ntmps114

def C.surdref06_Z_Is : VC :=
  .seq (.region false [⟨some 3, .box (.t 0), none⟩,
   ⟨some 6, .mov (.c (bv false)), none⟩]) (.seq (.region false [⟨some 7, .fa 0 (.t 3), none⟩,
   ⟨some 8, .load none (.t 7), none⟩,
   ⟨some 9, .mov (.t 1), none⟩,
   ⟨some 10, .bin .eql true (.t 8) (.t 9), none⟩,
   ⟨some 11, .mov (.t 10), none⟩,
   ⟨some 12, .fa 1 (.t 3), some (11, true)⟩,
   ⟨some 13, .load none (.t 12), some (11, true)⟩,
   ⟨some 14, .mov (.t 2), some (11, true)⟩,
   ⟨some 15, .call F.surdref01_Num_Is [.t 13, .t 14], some (11, true)⟩,
   ⟨some 16, .pick (.t 11) (.t 15) (.c (bv false)), none⟩,
   ⟨some 6, .mov (.t 16), none⟩]) .ret)
def R.surdref06_Z_Is : List VRes := [.tmp 6]
theorem K.surdref06_Z_Is : resCode Tryz.prog Tryz.f115.ntmps (Tryz.f115.body.getD .skip) = C.surdref06_Z_Is := by kernel_rfl
theorem Q.surdref06_Z_Is : resResults Tryz.prog Tryz.f115.results.toList = some R.surdref06_Z_Is := by kernel_rfl
theorem E.surdref06_Z_Is : Tryz.prog.funcs[F.surdref06_Z_Is]? = some Tryz.f115 := Tryz.func115
theorem B.surdref06_Z_Is : Tryz.f115.body = some (Tryz.f115.body.getD .skip) := by kernel_rfl
theorem N.surdref06_Z_Is : Tryz.f115.ntmps = 17 := Tryz.ntmps115

def C.surdref06_Int : VC :=
  .seq (.region false [⟨some 2, .alloc [.bool false, .slice none 0 0], none⟩]) (.seq (.seq (.region false [⟨some 3, .mov (.t 0), none⟩,
   ⟨some 4, .bin .lss false (.t 3) (.c (iv 0)), none⟩]) (.cond (.t 4) (.seq (.region false [⟨some 5, .mov (.t 0), none⟩,
   ⟨some 6, .bin .add false (.t 5) (.c (iv 1)), none⟩,
   ⟨some 7, .un .neg (.t 6), none⟩,
   ⟨some 8, .conv .u64 (.t 7), none⟩,
   ⟨some 9, .bin .add false (.t 8) (.c (nv 1)), none⟩,
   ⟨some 10, .bsl true 1 1 [.int .u64 0] [(0, (1, .t 9))], none⟩,
   ⟨some 11, .call F.surdref01_Of [.t 10], none⟩,
   ⟨some 12, .call F.surdref06_make1 [.c (bv true), .t 11], none⟩,
   ⟨none, .store 2 (.t 2) (.t 12), none⟩]) .ret) .skip)) (.seq (.region false [⟨some 13, .mov (.t 0), none⟩,
   ⟨some 14, .call F.surdref01_Int [.t 13], none⟩,
   ⟨some 15, .call F.surdref06_make1 [.c (bv false), .t 14], none⟩,
   ⟨none, .store 2 (.t 2) (.t 15), none⟩]) .ret))
def R.surdref06_Int : List VRes := [.cell 2 (some 2)]
theorem K.surdref06_Int : resCode Tryz.prog Tryz.f116.ntmps (Tryz.f116.body.getD .skip) = C.surdref06_Int := by kernel_rfl
theorem Q.surdref06_Int : resResults Tryz.prog Tryz.f116.results.toList = some R.surdref06_Int := by kernel_rfl
theorem E.surdref06_Int : Tryz.prog.funcs[F.surdref06_Int]? = some Tryz.f116 := Tryz.func116
theorem B.surdref06_Int : Tryz.f116.body = some (Tryz.f116.body.getD .skip) := by kernel_rfl
theorem N.surdref06_Int : Tryz.f116.ntmps = 16 := Tryz.ntmps116

def C.dyadic_pick : VC :=
  .seq (.region false [⟨some 3, .box (.t 0), none⟩,
   ⟨some 4, .box (.t 1), none⟩,
   ⟨some 6, .alloc [.bool false, .slice none 0 0, .int .i64 0], none⟩,
   ⟨some 7, .mov (.c (iv 0)), none⟩]) (.seq (.region false [⟨some 12, .load (some 3) (.t 3), none⟩,
   ⟨some 13, .load (some 3) (.t 4), none⟩,
   ⟨some 14, .call F.dyadic_two [.t 12, .t 13], none⟩,
   ⟨some 11, .mov (.t 14), none⟩,
   ⟨some 15, .ext (.t 11) 0, none⟩,
   ⟨some 16, .ext (.t 11) 1, none⟩,
   ⟨some 17, .ext (.t 11) 2, none⟩,
   ⟨some 8, .alloc [.bool false, .slice none 0 0, .int .i64 0], none⟩,
   ⟨some 9, .alloc [.bool false, .slice none 0 0, .int .i64 0], none⟩,
   ⟨none, .store 3 (.t 8) (.t 15), none⟩,
   ⟨none, .store 3 (.t 9) (.t 16), none⟩,
   ⟨some 10, .mov (.t 17), none⟩]) (.seq (.seq (.region false [⟨some 18, .mov (.t 10), none⟩,
   ⟨some 19, .bin .neq false (.t 18) (.c (iv 0)), none⟩]) (.cond (.t 19) (.seq (.region false [⟨some 20, .build [.bool false, .slice none 0 0, .int .i64 0] [], none⟩,
   ⟨some 21, .mov (.t 10), none⟩,
   ⟨none, .store 3 (.t 6) (.t 20), none⟩,
   ⟨some 7, .mov (.t 21), none⟩]) .ret) .skip)) (.seq (.seq (.region false [⟨some 22, .load (some 3) (.t 8), none⟩,
   ⟨some 23, .load (some 3) (.t 9), none⟩,
   ⟨some 24, .call F.dyadic_compare [.t 22, .t 23], none⟩,
   ⟨some 25, .mov (.t 2), none⟩,
   ⟨some 26, .bin .mul false (.t 24) (.t 25), none⟩,
   ⟨some 27, .bin .lss false (.t 26) (.c (iv 0)), none⟩]) (.cond (.t 27) (.region false [⟨some 28, .load (some 3) (.t 9), none⟩,
   ⟨none, .store 3 (.t 8) (.t 28), none⟩]) .skip)) (.seq (.region false [⟨some 29, .fa 0 (.t 8), none⟩,
   ⟨some 30, .fa 0 (.t 29), none⟩,
   ⟨some 31, .load (some 2) (.t 30), none⟩,
   ⟨some 32, .fa 2 (.t 8), none⟩,
   ⟨some 33, .load none (.t 32), none⟩,
   ⟨some 34, .call F.dyadic_told [.t 31, .t 33], none⟩,
   ⟨some 35, .ext (.t 34) 0, none⟩,
   ⟨some 36, .ext (.t 34) 1, none⟩,
   ⟨none, .store 3 (.t 6) (.t 35), none⟩,
   ⟨some 7, .mov (.t 36), none⟩]) .ret))))
def R.dyadic_pick : List VRes := [.cell 6 (some 3), .tmp 7]
theorem K.dyadic_pick : resCode Tryz.prog Tryz.f117.ntmps (Tryz.f117.body.getD .skip) = C.dyadic_pick := by kernel_rfl
theorem Q.dyadic_pick : resResults Tryz.prog Tryz.f117.results.toList = some R.dyadic_pick := by kernel_rfl
theorem E.dyadic_pick : Tryz.prog.funcs[F.dyadic_pick]? = some Tryz.f117 := Tryz.func117
theorem B.dyadic_pick : Tryz.f117.body = some (Tryz.f117.body.getD .skip) := by kernel_rfl
theorem N.dyadic_pick : Tryz.f117.ntmps = 37 := Tryz.ntmps117

def C.dyadic_two : VC :=
  .seq (.region false [⟨some 2, .box (.t 0), none⟩,
   ⟨some 3, .box (.t 1), none⟩,
   ⟨some 4, .alloc [.bool false, .slice none 0 0, .int .i64 0], none⟩,
   ⟨some 5, .alloc [.bool false, .slice none 0 0, .int .i64 0], none⟩,
   ⟨some 6, .mov (.c (iv 0)), none⟩]) (.seq (.region false [⟨some 11, .load (some 3) (.t 2), none⟩,
   ⟨some 12, .call F.dyadic_read [.t 11], none⟩,
   ⟨some 10, .mov (.t 12), none⟩,
   ⟨some 13, .ext (.t 10) 0, none⟩,
   ⟨some 14, .ext (.t 10) 1, none⟩,
   ⟨some 7, .alloc [.bool false, .slice none 0 0, .int .i64 0], none⟩,
   ⟨none, .store 3 (.t 7) (.t 13), none⟩,
   ⟨some 8, .mov (.t 14), none⟩]) (.seq (.seq (.region false [⟨some 15, .mov (.t 8), none⟩,
   ⟨some 16, .bin .neq false (.t 15) (.c (iv 0)), none⟩]) (.cond (.t 16) (.seq (.region true [⟨some 17, .load (some 3) (.t 7), none⟩,
   ⟨some 18, .load (some 3) (.t 7), none⟩,
   ⟨some 19, .mov (.t 8), none⟩,
   ⟨none, .storeA 3 (.t 4) (.t 17) [7], none⟩,
   ⟨none, .store 3 (.t 5) (.t 18), none⟩,
   ⟨some 6, .mov (.t 19), none⟩]) .ret) .skip)) (.seq (.region false [⟨some 21, .load (some 3) (.t 3), none⟩,
   ⟨some 22, .call F.dyadic_read [.t 21], none⟩,
   ⟨some 20, .mov (.t 22), none⟩,
   ⟨some 23, .ext (.t 20) 0, none⟩,
   ⟨some 24, .ext (.t 20) 1, none⟩,
   ⟨some 9, .alloc [.bool false, .slice none 0 0, .int .i64 0], none⟩,
   ⟨none, .store 3 (.t 9) (.t 23), none⟩,
   ⟨some 8, .mov (.t 24), none⟩]) (.seq (.region true [⟨some 25, .load (some 3) (.t 7), none⟩,
   ⟨some 26, .load (some 3) (.t 9), none⟩,
   ⟨some 27, .mov (.t 8), none⟩,
   ⟨none, .storeA 3 (.t 4) (.t 25) [9], none⟩,
   ⟨none, .store 3 (.t 5) (.t 26), none⟩,
   ⟨some 6, .mov (.t 27), none⟩]) .ret))))
def R.dyadic_two : List VRes := [.cell 4 (some 3), .cell 5 (some 3), .tmp 6]
theorem K.dyadic_two : resCode Tryz.prog Tryz.f118.ntmps (Tryz.f118.body.getD .skip) = C.dyadic_two := by kernel_rfl
theorem Q.dyadic_two : resResults Tryz.prog Tryz.f118.results.toList = some R.dyadic_two := by kernel_rfl
theorem E.dyadic_two : Tryz.prog.funcs[F.dyadic_two]? = some Tryz.f118 := Tryz.func118
theorem B.dyadic_two : Tryz.f118.body = some (Tryz.f118.body.getD .skip) := by kernel_rfl
theorem N.dyadic_two : Tryz.f118.ntmps = 28 := Tryz.ntmps118

def C.dyadic_compare : VC :=
  .seq (.region false [⟨some 2, .box (.t 0), none⟩,
   ⟨some 3, .box (.t 1), none⟩,
   ⟨some 4, .mov (.c (iv 0)), none⟩]) (.seq (.region true [⟨some 9, .fa 0 (.t 2), none⟩,
   ⟨some 10, .load (some 2) (.t 9), none⟩,
   ⟨some 11, .call F.dyadic_part_sign [.t 10], none⟩,
   ⟨some 12, .fa 0 (.t 3), none⟩,
   ⟨some 13, .load (some 2) (.t 12), none⟩,
   ⟨some 14, .call F.dyadic_part_sign [.t 13], none⟩,
   ⟨some 5, .mov (.t 11), none⟩,
   ⟨some 6, .mov (.t 14), none⟩]) (.seq (.block 0 (.seq (.region false [⟨some 16, .mov (.t 5), none⟩,
   ⟨some 17, .mov (.t 6), none⟩,
   ⟨some 18, .bin .lss false (.t 16) (.t 17), none⟩,
   ⟨some 15, .mov (.t 18), none⟩]) (.cond (.t 15) (.seq (.region false [⟨some 4, .mov (.c (iv (-1))), none⟩]) .ret) (.seq (.region false [⟨some 20, .mov (.t 5), none⟩,
   ⟨some 21, .mov (.t 6), none⟩,
   ⟨some 22, .bin .gtr false (.t 20) (.t 21), none⟩,
   ⟨some 19, .mov (.t 22), none⟩]) (.cond (.t 19) (.seq (.region false [⟨some 4, .mov (.c (iv 1)), none⟩]) .ret) (.seq (.region false [⟨some 24, .mov (.t 5), none⟩,
   ⟨some 25, .bin .eql false (.t 24) (.c (iv 0)), none⟩,
   ⟨some 23, .mov (.t 25), none⟩]) (.cond (.t 23) (.seq (.region false [⟨some 4, .mov (.c (iv 0)), none⟩]) .ret) .skip))))))) (.seq (.seq (.region true [⟨some 26, .load (some 3) (.t 2), none⟩,
   ⟨some 27, .call F.dyadic_number_top [.t 26], none⟩,
   ⟨some 28, .load (some 3) (.t 3), none⟩,
   ⟨some 29, .call F.dyadic_number_top [.t 28], none⟩,
   ⟨some 30, .bin .neq false (.t 27) (.t 29), none⟩]) (.cond (.t 30) (.seq (.seq (.region true [⟨some 31, .load (some 3) (.t 2), none⟩,
   ⟨some 32, .call F.dyadic_number_top [.t 31], none⟩,
   ⟨some 33, .load (some 3) (.t 3), none⟩,
   ⟨some 34, .call F.dyadic_number_top [.t 33], none⟩,
   ⟨some 35, .bin .lss false (.t 32) (.t 34), none⟩]) (.cond (.t 35) (.seq (.region false [⟨some 36, .mov (.t 5), none⟩,
   ⟨some 37, .un .neg (.t 36), none⟩,
   ⟨some 4, .mov (.t 37), none⟩]) .ret) .skip)) (.seq (.region false [⟨some 38, .mov (.t 5), none⟩,
   ⟨some 4, .mov (.t 38), none⟩]) .ret)) .skip)) (.seq (.region true [⟨some 39, .fa 0 (.t 2), none⟩,
   ⟨some 40, .fa 0 (.t 39), none⟩,
   ⟨some 41, .fa 1 (.t 40), none⟩,
   ⟨some 42, .load none (.t 41), none⟩,
   ⟨some 43, .fa 0 (.t 3), none⟩,
   ⟨some 44, .fa 0 (.t 43), none⟩,
   ⟨some 45, .fa 1 (.t 44), none⟩,
   ⟨some 46, .load none (.t 45), none⟩,
   ⟨some 7, .mov (.t 42), none⟩,
   ⟨some 8, .mov (.t 46), none⟩]) (.seq (.seq (.region false [⟨some 47, .fa 2 (.t 2), none⟩,
   ⟨some 48, .load none (.t 47), none⟩,
   ⟨some 49, .fa 2 (.t 3), none⟩,
   ⟨some 50, .load none (.t 49), none⟩,
   ⟨some 51, .bin .gtr false (.t 48) (.t 50), none⟩]) (.cond (.t 51) (.region false [⟨some 52, .mov (.t 7), none⟩,
   ⟨some 53, .fa 2 (.t 2), none⟩,
   ⟨some 54, .load none (.t 53), none⟩,
   ⟨some 55, .fa 2 (.t 3), none⟩,
   ⟨some 56, .load none (.t 55), none⟩,
   ⟨some 57, .bin .sub false (.t 54) (.t 56), none⟩,
   ⟨some 58, .call F.dyadic_left [.t 52, .t 57], none⟩,
   ⟨some 7, .mov (.t 58), none⟩]) (.region false [⟨some 59, .mov (.t 8), none⟩,
   ⟨some 60, .fa 2 (.t 3), none⟩,
   ⟨some 61, .load none (.t 60), none⟩,
   ⟨some 62, .fa 2 (.t 2), none⟩,
   ⟨some 63, .load none (.t 62), none⟩,
   ⟨some 64, .bin .sub false (.t 61) (.t 63), none⟩,
   ⟨some 65, .call F.dyadic_left [.t 59, .t 64], none⟩,
   ⟨some 8, .mov (.t 65), none⟩]))) (.seq (.region false [⟨some 66, .mov (.t 5), none⟩,
   ⟨some 67, .mov (.t 7), none⟩,
   ⟨some 68, .mov (.t 8), none⟩,
   ⟨some 69, .call F.nat_Compare [.t 67, .t 68], none⟩,
   ⟨some 70, .bin .mul false (.t 66) (.t 69), none⟩,
   ⟨some 4, .mov (.t 70), none⟩]) .ret))))))
def R.dyadic_compare : List VRes := [.tmp 4]
theorem K.dyadic_compare : resCode Tryz.prog Tryz.f119.ntmps (Tryz.f119.body.getD .skip) = C.dyadic_compare := by kernel_rfl
theorem Q.dyadic_compare : resResults Tryz.prog Tryz.f119.results.toList = some R.dyadic_compare := by kernel_rfl
theorem E.dyadic_compare : Tryz.prog.funcs[F.dyadic_compare]? = some Tryz.f119 := Tryz.func119
theorem B.dyadic_compare : Tryz.f119.body = some (Tryz.f119.body.getD .skip) := by kernel_rfl
theorem N.dyadic_compare : Tryz.f119.ntmps = 71 := Tryz.ntmps119

def C.whole_Sign : VC :=
  .seq (.region false [⟨some 1, .box (.t 0), none⟩,
   ⟨some 2, .mov (.c (iv 0)), none⟩]) (.seq (.block 0 (.seq (.region false [⟨some 4, .fa 1 (.t 1), none⟩,
   ⟨some 5, .load none (.t 4), none⟩,
   ⟨some 6, .call F.nat_Length [.t 5], none⟩,
   ⟨some 7, .bin .eql false (.t 6) (.c (iv 0)), none⟩,
   ⟨some 3, .mov (.t 7), none⟩]) (.cond (.t 3) (.seq (.region false [⟨some 2, .mov (.c (iv 0)), none⟩]) .ret) (.seq (.region false [⟨some 9, .fa 0 (.t 1), none⟩,
   ⟨some 10, .load none (.t 9), none⟩,
   ⟨some 8, .mov (.t 10), none⟩]) (.cond (.t 8) (.seq (.region false [⟨some 2, .mov (.c (iv (-1))), none⟩]) .ret) .skip))))) (.seq (.region false [⟨some 2, .mov (.c (iv 1)), none⟩]) .ret))
def R.whole_Sign : List VRes := [.tmp 2]
theorem K.whole_Sign : resCode Tryz.prog Tryz.f120.ntmps (Tryz.f120.body.getD .skip) = C.whole_Sign := by kernel_rfl
theorem Q.whole_Sign : resResults Tryz.prog Tryz.f120.results.toList = some R.whole_Sign := by kernel_rfl
theorem E.whole_Sign : Tryz.prog.funcs[F.whole_Sign]? = some Tryz.f120 := Tryz.func120
theorem B.whole_Sign : Tryz.f120.body = some (Tryz.f120.body.getD .skip) := by kernel_rfl
theorem N.whole_Sign : Tryz.f120.ntmps = 11 := Tryz.ntmps120

def C.surdref01_Cmp : VC :=
  .seq (.region false [⟨some 4, .mov (.c (iv 0)), none⟩]) (.seq (.seq (.region false [⟨some 6, .mov (.t 0), none⟩,
   ⟨some 7, .len (.t 6), none⟩,
   ⟨some 8, .mov (.t 1), none⟩,
   ⟨some 9, .len (.t 8), none⟩,
   ⟨some 10, .bin .neq false (.t 7) (.t 9), none⟩]) (.cond (.t 10) (.seq (.seq (.region false [⟨some 11, .mov (.t 0), none⟩,
   ⟨some 12, .len (.t 11), none⟩,
   ⟨some 13, .mov (.t 1), none⟩,
   ⟨some 14, .len (.t 13), none⟩,
   ⟨some 15, .bin .lss false (.t 12) (.t 14), none⟩]) (.cond (.t 15) (.seq (.region false [⟨some 4, .mov (.c (iv (-1))), none⟩]) .ret) .skip)) (.seq (.region false [⟨some 4, .mov (.c (iv 1)), none⟩]) .ret)) .skip)) (.seq (.seq (.region false [⟨some 16, .mov (.t 0), none⟩,
   ⟨some 17, .len (.t 16), none⟩,
   ⟨some 18, .bin .sub false (.t 17) (.c (iv 1)), none⟩,
   ⟨some 5, .mov (.t 18), none⟩]) (.block 0 (.loop (.seq (.seq (.region false [⟨some 19, .mov (.t 5), none⟩,
   ⟨some 20, .bin .geq false (.t 19) (.c (iv 0)), none⟩]) (.cond (.t 20) .skip (.exit 0))) (.seq (.block 1 (.seq (.seq (.region true [⟨some 23, .mov (.t 0), none⟩,
   ⟨some 24, .mov (.t 5), none⟩,
   ⟨some 25, .ixa 1 (.t 23) (.t 24), none⟩,
   ⟨some 26, .load none (.t 25), none⟩,
   ⟨some 27, .mov (.t 1), none⟩,
   ⟨some 28, .mov (.t 5), none⟩,
   ⟨some 29, .ixa 1 (.t 27) (.t 28), none⟩,
   ⟨some 30, .load none (.t 29), none⟩,
   ⟨some 31, .bin .lss false (.t 26) (.t 30), none⟩]) (.cond (.t 31) (.seq (.region false [⟨some 4, .mov (.c (iv (-1))), none⟩]) .ret) .skip)) (.seq (.region true [⟨some 32, .mov (.t 0), none⟩,
   ⟨some 33, .mov (.t 5), none⟩,
   ⟨some 34, .ixa 1 (.t 32) (.t 33), none⟩,
   ⟨some 35, .load none (.t 34), none⟩,
   ⟨some 36, .mov (.t 1), none⟩,
   ⟨some 37, .mov (.t 5), none⟩,
   ⟨some 38, .ixa 1 (.t 36) (.t 37), none⟩,
   ⟨some 39, .load none (.t 38), none⟩,
   ⟨some 40, .bin .gtr false (.t 35) (.t 39), none⟩]) (.cond (.t 40) (.seq (.region false [⟨some 4, .mov (.c (iv 1)), none⟩]) .ret) .skip)))) (.region false [⟨some 21, .mov (.t 5), none⟩,
   ⟨some 22, .bin .sub false (.t 21) (.c (iv 1)), none⟩,
   ⟨some 5, .mov (.t 22), none⟩])))))) (.seq (.region false [⟨some 4, .mov (.c (iv 0)), none⟩]) .ret)))
def R.surdref01_Cmp : List VRes := [.tmp 4]
theorem K.surdref01_Cmp : resCode Tryz.prog Tryz.f121.ntmps (Tryz.f121.body.getD .skip) = C.surdref01_Cmp := by kernel_rfl
theorem Q.surdref01_Cmp : resResults Tryz.prog Tryz.f121.results.toList = some R.surdref01_Cmp := by kernel_rfl
theorem E.surdref01_Cmp : Tryz.prog.funcs[F.surdref01_Cmp]? = some Tryz.f121 := Tryz.func121
theorem B.surdref01_Cmp : Tryz.f121.body = some (Tryz.f121.body.getD .skip) := by kernel_rfl
theorem N.surdref01_Cmp : Tryz.f121.ntmps = 41 := Tryz.ntmps121

def C.dyadic_sum : VC :=
  .seq (.region false [⟨some 2, .box (.t 0), none⟩,
   ⟨some 3, .box (.t 1), none⟩,
   ⟨some 4, .alloc [.bool false, .slice none 0 0, .int .i64 0], none⟩,
   ⟨some 5, .mov (.c (iv 0)), none⟩]) (.seq (.seq (.region false [⟨some 10, .fa 0 (.t 2), none⟩,
   ⟨some 11, .load (some 2) (.t 10), none⟩,
   ⟨some 12, .call F.dyadic_part_sign [.t 11], none⟩,
   ⟨some 13, .bin .eql false (.t 12) (.c (iv 0)), none⟩]) (.cond (.t 13) (.region false [⟨some 14, .load (some 3) (.t 3), none⟩,
   ⟨some 15, .load (some 3) (.t 2), none⟩,
   ⟨none, .store 3 (.t 2) (.t 14), none⟩,
   ⟨none, .store 3 (.t 3) (.t 15), none⟩]) .skip)) (.seq (.seq (.region false [⟨some 16, .fa 0 (.t 3), none⟩,
   ⟨some 17, .load (some 2) (.t 16), none⟩,
   ⟨some 18, .call F.dyadic_part_sign [.t 17], none⟩,
   ⟨some 19, .bin .eql false (.t 18) (.c (iv 0)), none⟩]) (.cond (.t 19) (.seq (.region false [⟨some 20, .fa 0 (.t 2), none⟩,
   ⟨some 21, .fa 0 (.t 20), none⟩,
   ⟨some 22, .load (some 2) (.t 21), none⟩,
   ⟨some 23, .fa 2 (.t 2), none⟩,
   ⟨some 24, .load none (.t 23), none⟩,
   ⟨some 25, .call F.dyadic_told [.t 22, .t 24], none⟩,
   ⟨some 26, .ext (.t 25) 0, none⟩,
   ⟨some 27, .ext (.t 25) 1, none⟩,
   ⟨none, .store 3 (.t 4) (.t 26), none⟩,
   ⟨some 5, .mov (.t 27), none⟩]) .ret) .skip)) (.seq (.seq (.region false [⟨some 28, .fa 2 (.t 2), none⟩,
   ⟨some 29, .load none (.t 28), none⟩,
   ⟨some 30, .fa 2 (.t 3), none⟩,
   ⟨some 31, .load none (.t 30), none⟩,
   ⟨some 32, .bin .lss false (.t 29) (.t 31), none⟩]) (.cond (.t 32) (.region false [⟨some 33, .load (some 3) (.t 3), none⟩,
   ⟨some 34, .load (some 3) (.t 2), none⟩,
   ⟨none, .store 3 (.t 2) (.t 33), none⟩,
   ⟨none, .store 3 (.t 3) (.t 34), none⟩]) .skip)) (.seq (.region false [⟨some 35, .fa 2 (.t 2), none⟩,
   ⟨some 36, .load none (.t 35), none⟩,
   ⟨some 37, .fa 2 (.t 3), none⟩,
   ⟨some 38, .load none (.t 37), none⟩,
   ⟨some 39, .bin .sub false (.t 36) (.t 38), none⟩,
   ⟨some 6, .mov (.t 39), none⟩]) (.seq (.seq (.region true [⟨some 40, .mov (.t 6), none⟩,
   ⟨some 41, .bin .gtr false (.t 40) (.c (iv 0)), none⟩,
   ⟨some 42, .mov (.t 41), none⟩,
   ⟨some 43, .load (some 3) (.t 2), some (42, true)⟩,
   ⟨some 44, .call F.dyadic_number_top [.t 43], some (42, true)⟩,
   ⟨some 45, .load (some 3) (.t 3), some (42, true)⟩,
   ⟨some 46, .call F.dyadic_number_top [.t 45], some (42, true)⟩,
   ⟨some 47, .bin .add false (.t 46) (.c (iv 1)), some (42, true)⟩,
   ⟨some 48, .mm true (.t 44) (.t 47), some (42, true)⟩,
   ⟨some 49, .fa 2 (.t 3), some (42, true)⟩,
   ⟨some 50, .load none (.t 49), some (42, true)⟩,
   ⟨some 51, .bin .sub false (.t 48) (.t 50), some (42, true)⟩,
   ⟨some 52, .bin .gtr false (.t 51) (.c (iv 67108866)), some (42, true)⟩,
   ⟨some 53, .pick (.t 42) (.t 52) (.c (bv false)), none⟩]) (.cond (.t 53) (.seq (.region false [⟨some 54, .build [.bool false, .slice none 0 0, .int .i64 0] [], none⟩,
   ⟨none, .store 3 (.t 4) (.t 54), none⟩,
   ⟨some 5, .mov (.c (iv 3)), none⟩]) .ret) .skip)) (.seq (.region true [⟨some 56, .fa 0 (.t 2), none⟩,
   ⟨some 57, .fa 0 (.t 56), none⟩,
   ⟨some 58, .fa 0 (.t 57), none⟩,
   ⟨some 59, .load none (.t 58), none⟩,
   ⟨some 60, .fa 0 (.t 2), none⟩,
   ⟨some 61, .fa 0 (.t 60), none⟩,
   ⟨some 62, .fa 1 (.t 61), none⟩,
   ⟨some 63, .load none (.t 62), none⟩,
   ⟨some 64, .mov (.t 6), none⟩,
   ⟨some 65, .call F.dyadic_left [.t 63, .t 64], none⟩,
   ⟨some 66, .call F.whole_Make [.t 59, .t 65], none⟩,
   ⟨some 55, .mov (.t 66), none⟩,
   ⟨some 67, .ext (.t 55) 0, none⟩,
   ⟨some 68, .ext (.t 55) 1, none⟩,
   ⟨some 7, .mov (.c .any), none⟩,
   ⟨some 7, .boxA 2 (.t 67), none⟩,
   ⟨some 8, .mov (.t 68), none⟩]) (.seq (.seq (.region false [⟨some 69, .mov (.t 8), none⟩,
   ⟨some 70, .bin .neq false (.t 69) (.c (iv 0)), none⟩]) (.cond (.t 70) (.seq (.region false [⟨some 71, .load (some 3) (.t 2), none⟩,
   ⟨some 72, .load (some 3) (.t 3), none⟩,
   ⟨some 73, .call F.dyadic_long [.t 71, .t 72], none⟩,
   ⟨some 74, .ext (.t 73) 0, none⟩,
   ⟨some 75, .ext (.t 73) 1, none⟩,
   ⟨none, .store 3 (.t 4) (.t 74), none⟩,
   ⟨some 5, .mov (.t 75), none⟩]) .ret) .skip)) (.seq (.region false [⟨some 77, .load (some 2) (.t 7), none⟩,
   ⟨some 78, .fa 0 (.t 3), none⟩,
   ⟨some 79, .fa 0 (.t 78), none⟩,
   ⟨some 80, .load (some 2) (.t 79), none⟩,
   ⟨some 81, .call F.whole_Add [.t 77, .t 80], none⟩,
   ⟨some 76, .mov (.t 81), none⟩,
   ⟨some 82, .ext (.t 76) 0, none⟩,
   ⟨some 83, .ext (.t 76) 1, none⟩,
   ⟨some 9, .alloc [.bool false, .slice none 0 0], none⟩,
   ⟨none, .store 2 (.t 9) (.t 82), none⟩,
   ⟨some 8, .mov (.t 83), none⟩]) (.seq (.seq (.region false [⟨some 84, .mov (.t 8), none⟩,
   ⟨some 85, .bin .neq false (.t 84) (.c (iv 0)), none⟩]) (.cond (.t 85) (.seq (.region false [⟨some 86, .load (some 3) (.t 2), none⟩,
   ⟨some 87, .load (some 3) (.t 3), none⟩,
   ⟨some 88, .call F.dyadic_long [.t 86, .t 87], none⟩,
   ⟨some 89, .ext (.t 88) 0, none⟩,
   ⟨some 90, .ext (.t 88) 1, none⟩,
   ⟨none, .store 3 (.t 4) (.t 89), none⟩,
   ⟨some 5, .mov (.t 90), none⟩]) .ret) .skip)) (.seq (.region false [⟨some 91, .load (some 2) (.t 9), none⟩,
   ⟨some 92, .fa 2 (.t 3), none⟩,
   ⟨some 93, .load none (.t 92), none⟩,
   ⟨some 94, .call F.dyadic_told [.t 91, .t 93], none⟩,
   ⟨some 95, .ext (.t 94) 0, none⟩,
   ⟨some 96, .ext (.t 94) 1, none⟩,
   ⟨none, .store 3 (.t 4) (.t 95), none⟩,
   ⟨some 5, .mov (.t 96), none⟩]) .ret))))))))))
def R.dyadic_sum : List VRes := [.cell 4 (some 3), .tmp 5]
theorem K.dyadic_sum : resCode Tryz.prog Tryz.f122.ntmps (Tryz.f122.body.getD .skip) = C.dyadic_sum := by kernel_rfl
theorem Q.dyadic_sum : resResults Tryz.prog Tryz.f122.results.toList = some R.dyadic_sum := by kernel_rfl
theorem E.dyadic_sum : Tryz.prog.funcs[F.dyadic_sum]? = some Tryz.f122 := Tryz.func122
theorem B.dyadic_sum : Tryz.f122.body = some (Tryz.f122.body.getD .skip) := by kernel_rfl
theorem N.dyadic_sum : Tryz.f122.ntmps = 97 := Tryz.ntmps122

def C.dyadic_part_sign : VC :=
  .seq (.region false [⟨some 1, .box (.t 0), none⟩,
   ⟨some 2, .mov (.c (iv 0)), none⟩]) (.seq (.region false [⟨some 3, .fa 0 (.t 1), none⟩,
   ⟨some 4, .load (some 2) (.t 3), none⟩,
   ⟨some 5, .call F.whole_Sign [.t 4], none⟩,
   ⟨some 2, .mov (.t 5), none⟩]) .ret)
def R.dyadic_part_sign : List VRes := [.tmp 2]
theorem K.dyadic_part_sign : resCode Tryz.prog Tryz.f123.ntmps (Tryz.f123.body.getD .skip) = C.dyadic_part_sign := by kernel_rfl
theorem Q.dyadic_part_sign : resResults Tryz.prog Tryz.f123.results.toList = some R.dyadic_part_sign := by kernel_rfl
theorem E.dyadic_part_sign : Tryz.prog.funcs[F.dyadic_part_sign]? = some Tryz.f123 := Tryz.func123
theorem B.dyadic_part_sign : Tryz.f123.body = some (Tryz.f123.body.getD .skip) := by kernel_rfl
theorem N.dyadic_part_sign : Tryz.f123.ntmps = 6 := Tryz.ntmps123

def C.dyadic_read : VC :=
  .seq (.region false [⟨some 1, .box (.t 0), none⟩,
   ⟨some 2, .alloc [.bool false, .slice none 0 0, .int .i64 0], none⟩,
   ⟨some 3, .mov (.c (iv 0)), none⟩]) (.seq (.seq (.region false [⟨some 4, .fa 2 (.t 1), none⟩,
   ⟨some 5, .load none (.t 4), none⟩,
   ⟨some 6, .call F.dyadic_within [.t 5], none⟩,
   ⟨some 7, .un .not (.t 6), none⟩]) (.cond (.t 7) (.seq (.region false [⟨some 8, .build [.bool false, .slice none 0 0, .int .i64 0] [], none⟩,
   ⟨none, .store 3 (.t 2) (.t 8), none⟩,
   ⟨some 3, .mov (.c (iv 80)), none⟩]) .ret) .skip)) (.seq (.region false [⟨some 9, .fa 0 (.t 1), none⟩,
   ⟨some 10, .load (some 2) (.t 9), none⟩,
   ⟨some 11, .fa 2 (.t 1), none⟩,
   ⟨some 12, .load none (.t 11), none⟩,
   ⟨some 13, .call F.dyadic_odd [.t 10, .t 12], none⟩,
   ⟨none, .store 3 (.t 2) (.t 13), none⟩,
   ⟨some 3, .mov (.c (iv 0)), none⟩]) .ret))
def R.dyadic_read : List VRes := [.cell 2 (some 3), .tmp 3]
theorem K.dyadic_read : resCode Tryz.prog Tryz.f124.ntmps (Tryz.f124.body.getD .skip) = C.dyadic_read := by kernel_rfl
theorem Q.dyadic_read : resResults Tryz.prog Tryz.f124.results.toList = some R.dyadic_read := by kernel_rfl
theorem E.dyadic_read : Tryz.prog.funcs[F.dyadic_read]? = some Tryz.f124 := Tryz.func124
theorem B.dyadic_read : Tryz.f124.body = some (Tryz.f124.body.getD .skip) := by kernel_rfl
theorem N.dyadic_read : Tryz.f124.ntmps = 14 := Tryz.ntmps124

def C.dyadic_within : VC :=
  .seq (.region false [⟨some 2, .mov (.c (bv false)), none⟩]) (.seq (.region false [⟨some 3, .mov (.t 0), none⟩,
   ⟨some 4, .bin .geq false (.t 3) (.c (iv (-1099511627776))), none⟩,
   ⟨some 5, .mov (.t 4), none⟩,
   ⟨some 6, .mov (.t 0), some (5, true)⟩,
   ⟨some 7, .bin .leq false (.t 6) (.c (iv 1099511627776)), some (5, true)⟩,
   ⟨some 8, .pick (.t 5) (.t 7) (.c (bv false)), none⟩,
   ⟨some 2, .mov (.t 8), none⟩]) .ret)
def R.dyadic_within : List VRes := [.tmp 2]
theorem K.dyadic_within : resCode Tryz.prog Tryz.f125.ntmps (Tryz.f125.body.getD .skip) = C.dyadic_within := by kernel_rfl
theorem Q.dyadic_within : resResults Tryz.prog Tryz.f125.results.toList = some R.dyadic_within := by kernel_rfl
theorem E.dyadic_within : Tryz.prog.funcs[F.dyadic_within]? = some Tryz.f125 := Tryz.func125
theorem B.dyadic_within : Tryz.f125.body = some (Tryz.f125.body.getD .skip) := by kernel_rfl
theorem N.dyadic_within : Tryz.f125.ntmps = 9 := Tryz.ntmps125

def C.dyadic_direction : VC :=
  .seq (.region false [⟨some 2, .mov (.c (bv false)), none⟩]) (.seq (.region false [⟨some 3, .mov (.t 0), none⟩,
   ⟨some 4, .bin .eql false (.t 3) (.c (iv 0)), none⟩,
   ⟨some 5, .mov (.t 4), none⟩,
   ⟨some 6, .mov (.t 0), some (5, false)⟩,
   ⟨some 7, .bin .eql false (.t 6) (.c (iv 1)), some (5, false)⟩,
   ⟨some 8, .pick (.t 5) (.c (bv true)) (.t 7), none⟩,
   ⟨some 9, .mov (.t 8), none⟩,
   ⟨some 10, .mov (.t 0), some (9, false)⟩,
   ⟨some 11, .bin .eql false (.t 10) (.c (iv 2)), some (9, false)⟩,
   ⟨some 12, .pick (.t 9) (.c (bv true)) (.t 11), none⟩,
   ⟨some 2, .mov (.t 12), none⟩]) .ret)
def R.dyadic_direction : List VRes := [.tmp 2]
theorem K.dyadic_direction : resCode Tryz.prog Tryz.f126.ntmps (Tryz.f126.body.getD .skip) = C.dyadic_direction := by kernel_rfl
theorem Q.dyadic_direction : resResults Tryz.prog Tryz.f126.results.toList = some R.dyadic_direction := by kernel_rfl
theorem E.dyadic_direction : Tryz.prog.funcs[F.dyadic_direction]? = some Tryz.f126 := Tryz.func126
theorem B.dyadic_direction : Tryz.f126.body = some (Tryz.f126.body.getD .skip) := by kernel_rfl
theorem N.dyadic_direction : Tryz.f126.ntmps = 13 := Tryz.ntmps126

def C.dyadic_rounded : VC :=
  .seq (.region false [⟨some 3, .box (.t 0), none⟩,
   ⟨some 6, .alloc [.bool false, .slice none 0 0, .int .i64 0], none⟩,
   ⟨some 7, .mov (.c (iv 0)), none⟩]) (.seq (.seq (.region false [⟨some 8, .fa 0 (.t 3), none⟩,
   ⟨some 9, .load (some 2) (.t 8), none⟩,
   ⟨some 10, .call F.dyadic_part_sign [.t 9], none⟩,
   ⟨some 11, .bin .eql false (.t 10) (.c (iv 0)), none⟩,
   ⟨some 12, .mov (.t 11), none⟩,
   ⟨some 13, .fa 2 (.t 3), some (12, false)⟩,
   ⟨some 14, .load none (.t 13), some (12, false)⟩,
   ⟨some 15, .mov (.t 1), some (12, false)⟩,
   ⟨some 16, .bin .geq false (.t 14) (.t 15), some (12, false)⟩,
   ⟨some 17, .pick (.t 12) (.c (bv true)) (.t 16), none⟩]) (.cond (.t 17) (.seq (.region false [⟨some 18, .fa 0 (.t 3), none⟩,
   ⟨some 19, .fa 0 (.t 18), none⟩,
   ⟨some 20, .load (some 2) (.t 19), none⟩,
   ⟨some 21, .fa 2 (.t 3), none⟩,
   ⟨some 22, .load none (.t 21), none⟩,
   ⟨some 23, .call F.dyadic_told [.t 20, .t 22], none⟩,
   ⟨some 24, .ext (.t 23) 0, none⟩,
   ⟨some 25, .ext (.t 23) 1, none⟩,
   ⟨none, .store 3 (.t 6) (.t 24), none⟩,
   ⟨some 7, .mov (.t 25), none⟩]) .ret) .skip)) (.seq (.region false [⟨some 26, .load (some 3) (.t 3), none⟩,
   ⟨some 27, .mov (.t 1), none⟩,
   ⟨some 28, .mov (.t 2), none⟩,
   ⟨some 29, .call F.dyadic_steps [.t 26, .t 27, .t 28], none⟩,
   ⟨some 30, .mov (.t 1), none⟩,
   ⟨some 31, .call F.dyadic_told [.t 29, .t 30], none⟩,
   ⟨some 32, .ext (.t 31) 0, none⟩,
   ⟨some 33, .ext (.t 31) 1, none⟩,
   ⟨none, .store 3 (.t 6) (.t 32), none⟩,
   ⟨some 7, .mov (.t 33), none⟩]) .ret))
def R.dyadic_rounded : List VRes := [.cell 6 (some 3), .tmp 7]
theorem K.dyadic_rounded : resCode Tryz.prog Tryz.f127.ntmps (Tryz.f127.body.getD .skip) = C.dyadic_rounded := by kernel_rfl
theorem Q.dyadic_rounded : resResults Tryz.prog Tryz.f127.results.toList = some R.dyadic_rounded := by kernel_rfl
theorem E.dyadic_rounded : Tryz.prog.funcs[F.dyadic_rounded]? = some Tryz.f127 := Tryz.func127
theorem B.dyadic_rounded : Tryz.f127.body = some (Tryz.f127.body.getD .skip) := by kernel_rfl
theorem N.dyadic_rounded : Tryz.f127.ntmps = 34 := Tryz.ntmps127

def C.surdref01_norm : VC :=
  .seq (.region false [⟨some 2, .mov (.c nil1), none⟩]) (.seq (.region false [⟨some 4, .mov (.t 0), none⟩,
   ⟨some 5, .len (.t 4), none⟩,
   ⟨some 3, .mov (.t 5), none⟩]) (.seq (.block 0 (.loop (.seq (.seq (.region false [⟨some 6, .mov (.t 3), none⟩,
   ⟨some 7, .bin .gtr false (.t 6) (.c (iv 0)), none⟩,
   ⟨some 8, .mov (.t 7), none⟩,
   ⟨some 9, .mov (.t 0), some (8, true)⟩,
   ⟨some 10, .mov (.t 3), some (8, true)⟩,
   ⟨some 11, .bin .sub false (.t 10) (.c (iv 1)), some (8, true)⟩,
   ⟨some 12, .ixa 1 (.t 9) (.t 11), some (8, true)⟩,
   ⟨some 13, .load none (.t 12), some (8, true)⟩,
   ⟨some 14, .bin .eql false (.t 13) (.c (nv 0)), some (8, true)⟩,
   ⟨some 15, .pick (.t 8) (.t 14) (.c (bv false)), none⟩]) (.cond (.t 15) .skip (.exit 0))) (.block 1 (.region false [⟨some 16, .mov (.t 3), none⟩,
   ⟨some 17, .bin .sub false (.t 16) (.c (iv 1)), none⟩,
   ⟨some 3, .mov (.t 17), none⟩]))))) (.seq (.region false [⟨some 18, .mov (.t 0), none⟩,
   ⟨some 19, .mov (.t 3), none⟩,
   ⟨some 20, .mov (.t 3), none⟩,
   ⟨some 21, .slc 1 (.t 18) none (some (.t 19)) (some (.t 20)), none⟩,
   ⟨some 2, .mov (.t 21), none⟩]) .ret)))
def R.surdref01_norm : List VRes := [.tmp 2]
theorem K.surdref01_norm : resCode Tryz.prog Tryz.f128.ntmps (Tryz.f128.body.getD .skip) = C.surdref01_norm := by kernel_rfl
theorem Q.surdref01_norm : resResults Tryz.prog Tryz.f128.results.toList = some R.surdref01_norm := by kernel_rfl
theorem E.surdref01_norm : Tryz.prog.funcs[F.surdref01_norm]? = some Tryz.f128 := Tryz.func128
theorem B.surdref01_norm : Tryz.f128.body = some (Tryz.f128.body.getD .skip) := by kernel_rfl
theorem N.surdref01_norm : Tryz.f128.ntmps = 22 := Tryz.ntmps128

def C.surdref01_Num_Bit : VC :=
  .seq (.region false [⟨some 4, .mov (.c (iv 0)), none⟩]) (.seq (.seq (.region false [⟨some 5, .mov (.t 1), none⟩,
   ⟨some 6, .bin .lss false (.t 5) (.c (iv 0)), none⟩,
   ⟨some 7, .mov (.t 6), none⟩,
   ⟨some 8, .mov (.t 1), some (7, false)⟩,
   ⟨some 9, .bin .quo false (.t 8) (.c (iv 32)), some (7, false)⟩,
   ⟨some 10, .mov (.t 0), some (7, false)⟩,
   ⟨some 11, .len (.t 10), some (7, false)⟩,
   ⟨some 12, .bin .geq false (.t 9) (.t 11), some (7, false)⟩,
   ⟨some 13, .pick (.t 7) (.c (bv true)) (.t 12), none⟩]) (.cond (.t 13) (.seq (.region false [⟨some 4, .mov (.c (iv 0)), none⟩]) .ret) .skip)) (.seq (.region false [⟨some 14, .mov (.t 0), none⟩,
   ⟨some 15, .mov (.t 1), none⟩,
   ⟨some 16, .bin .quo false (.t 15) (.c (iv 32)), none⟩,
   ⟨some 17, .ixa 1 (.t 14) (.t 16), none⟩,
   ⟨some 18, .load none (.t 17), none⟩,
   ⟨some 19, .mov (.t 1), none⟩,
   ⟨some 20, .bin .rem false (.t 19) (.c (iv 32)), none⟩,
   ⟨some 21, .bin .shr false (.t 18) (.t 20), none⟩,
   ⟨some 22, .bin .and false (.t 21) (.c (nv 1)), none⟩,
   ⟨some 23, .conv .i64 (.t 22), none⟩,
   ⟨some 4, .mov (.t 23), none⟩]) .ret))
def R.surdref01_Num_Bit : List VRes := [.tmp 4]
theorem K.surdref01_Num_Bit : resCode Tryz.prog Tryz.f131.ntmps (Tryz.f131.body.getD .skip) = C.surdref01_Num_Bit := by kernel_rfl
theorem Q.surdref01_Num_Bit : resResults Tryz.prog Tryz.f131.results.toList = some R.surdref01_Num_Bit := by kernel_rfl
theorem E.surdref01_Num_Bit : Tryz.prog.funcs[F.surdref01_Num_Bit]? = some Tryz.f131 := Tryz.func131
theorem B.surdref01_Num_Bit : Tryz.f131.body = some (Tryz.f131.body.getD .skip) := by kernel_rfl
theorem N.surdref01_Num_Bit : Tryz.f131.ntmps = 24 := Tryz.ntmps131

def C.dyadic_Add : VC :=
  .seq (.region false [⟨some 2, .box (.t 0), none⟩,
   ⟨some 3, .box (.t 1), none⟩,
   ⟨some 4, .alloc [.bool false, .slice none 0 0, .int .i64 0], none⟩,
   ⟨some 5, .mov (.c (iv 0)), none⟩]) (.seq (.region false [⟨some 10, .load (some 3) (.t 2), none⟩,
   ⟨some 11, .load (some 3) (.t 3), none⟩,
   ⟨some 12, .call F.dyadic_two [.t 10, .t 11], none⟩,
   ⟨some 9, .mov (.t 12), none⟩,
   ⟨some 13, .ext (.t 9) 0, none⟩,
   ⟨some 14, .ext (.t 9) 1, none⟩,
   ⟨some 15, .ext (.t 9) 2, none⟩,
   ⟨some 6, .alloc [.bool false, .slice none 0 0, .int .i64 0], none⟩,
   ⟨some 7, .alloc [.bool false, .slice none 0 0, .int .i64 0], none⟩,
   ⟨none, .store 3 (.t 6) (.t 13), none⟩,
   ⟨none, .store 3 (.t 7) (.t 14), none⟩,
   ⟨some 8, .mov (.t 15), none⟩]) (.seq (.seq (.region false [⟨some 16, .mov (.t 8), none⟩,
   ⟨some 17, .bin .neq false (.t 16) (.c (iv 0)), none⟩]) (.cond (.t 17) (.seq (.region false [⟨some 18, .build [.bool false, .slice none 0 0, .int .i64 0] [], none⟩,
   ⟨some 19, .mov (.t 8), none⟩,
   ⟨none, .store 3 (.t 4) (.t 18), none⟩,
   ⟨some 5, .mov (.t 19), none⟩]) .ret) .skip)) (.seq (.region false [⟨some 20, .load (some 3) (.t 6), none⟩,
   ⟨some 21, .load (some 3) (.t 7), none⟩,
   ⟨some 22, .call F.dyadic_sum [.t 20, .t 21], none⟩,
   ⟨some 23, .ext (.t 22) 0, none⟩,
   ⟨some 24, .ext (.t 22) 1, none⟩,
   ⟨none, .store 3 (.t 4) (.t 23), none⟩,
   ⟨some 5, .mov (.t 24), none⟩]) .ret)))
def R.dyadic_Add : List VRes := [.cell 4 (some 3), .tmp 5]
theorem K.dyadic_Add : resCode Tryz.prog Tryz.f132.ntmps (Tryz.f132.body.getD .skip) = C.dyadic_Add := by kernel_rfl
theorem Q.dyadic_Add : resResults Tryz.prog Tryz.f132.results.toList = some R.dyadic_Add := by kernel_rfl
theorem E.dyadic_Add : Tryz.prog.funcs[F.dyadic_Add]? = some Tryz.f132 := Tryz.func132
theorem B.dyadic_Add : Tryz.f132.body = some (Tryz.f132.body.getD .skip) := by kernel_rfl
theorem N.dyadic_Add : Tryz.f132.ntmps = 25 := Tryz.ntmps132

def C.span_outward : VC :=
  .seq (.region false [⟨some 3, .box (.t 0), none⟩,
   ⟨some 4, .box (.t 1), none⟩,
   ⟨some 6, .alloc [.bool false, .slice none 0 0, .int .i64 0, .bool false, .slice none 0 0, .int .i64 0], none⟩,
   ⟨some 7, .mov (.c (iv 0)), none⟩]) (.seq (.region false [⟨some 13, .load (some 3) (.t 3), none⟩,
   ⟨some 14, .mov (.t 2), none⟩,
   ⟨some 15, .call F.dyadic_Round [.t 13, .t 14, .c (iv 0)], none⟩,
   ⟨some 12, .mov (.t 15), none⟩,
   ⟨some 16, .ext (.t 12) 0, none⟩,
   ⟨some 17, .ext (.t 12) 1, none⟩,
   ⟨some 8, .alloc [.bool false, .slice none 0 0, .int .i64 0], none⟩,
   ⟨none, .store 3 (.t 8) (.t 16), none⟩,
   ⟨some 9, .mov (.t 17), none⟩]) (.seq (.region false [⟨some 19, .load (some 3) (.t 4), none⟩,
   ⟨some 20, .mov (.t 2), none⟩,
   ⟨some 21, .call F.dyadic_Round [.t 19, .t 20, .c (iv 1)], none⟩,
   ⟨some 18, .mov (.t 21), none⟩,
   ⟨some 22, .ext (.t 18) 0, none⟩,
   ⟨some 23, .ext (.t 18) 1, none⟩,
   ⟨some 10, .alloc [.bool false, .slice none 0 0, .int .i64 0], none⟩,
   ⟨none, .store 3 (.t 10) (.t 22), none⟩,
   ⟨some 11, .mov (.t 23), none⟩]) (.seq (.region false [⟨some 24, .load (some 3) (.t 8), none⟩,
   ⟨some 25, .mov (.t 9), none⟩,
   ⟨some 26, .load (some 3) (.t 10), none⟩,
   ⟨some 27, .mov (.t 11), none⟩,
   ⟨some 28, .call F.span_ends [.t 24, .t 25, .t 26, .t 27], none⟩,
   ⟨some 29, .ext (.t 28) 0, none⟩,
   ⟨some 30, .ext (.t 28) 1, none⟩,
   ⟨none, .store 6 (.t 6) (.t 29), none⟩,
   ⟨some 7, .mov (.t 30), none⟩]) .ret)))
def R.span_outward : List VRes := [.cell 6 (some 6), .tmp 7]
theorem K.span_outward : resCode Tryz.prog Tryz.f133.ntmps (Tryz.f133.body.getD .skip) = C.span_outward := by kernel_rfl
theorem Q.span_outward : resResults Tryz.prog Tryz.f133.results.toList = some R.span_outward := by kernel_rfl
theorem E.span_outward : Tryz.prog.funcs[F.span_outward]? = some Tryz.f133 := Tryz.func133
theorem B.span_outward : Tryz.f133.body = some (Tryz.f133.body.getD .skip) := by kernel_rfl
theorem N.span_outward : Tryz.f133.ntmps = 31 := Tryz.ntmps133

def C.dyadic_told : VC :=
  .seq (.region false [⟨some 2, .box (.t 0), none⟩,
   ⟨some 4, .alloc [.bool false, .slice none 0 0, .int .i64 0], none⟩,
   ⟨some 5, .mov (.c (iv 0)), none⟩]) (.seq (.region false [⟨some 7, .load (some 2) (.t 2), none⟩,
   ⟨some 8, .mov (.t 1), none⟩,
   ⟨some 9, .call F.dyadic_odd [.t 7, .t 8], none⟩,
   ⟨some 6, .alloc [.bool false, .slice none 0 0, .int .i64 0], none⟩,
   ⟨none, .store 3 (.t 6) (.t 9), none⟩]) (.seq (.block 0 (.seq (.region false [⟨some 11, .fa 0 (.t 6), none⟩,
   ⟨some 12, .load (some 2) (.t 11), none⟩,
   ⟨some 13, .call F.dyadic_part_sign [.t 12], none⟩,
   ⟨some 14, .bin .eql false (.t 13) (.c (iv 0)), none⟩,
   ⟨some 10, .mov (.t 14), none⟩]) (.cond (.t 10) (.seq (.region false [⟨some 15, .build [.bool false, .slice none 0 0, .int .i64 0] [], none⟩,
   ⟨none, .store 3 (.t 4) (.t 15), none⟩,
   ⟨some 5, .mov (.c (iv 0)), none⟩]) .ret) (.seq (.region false [⟨some 17, .fa 0 (.t 6), none⟩,
   ⟨some 18, .load (some 2) (.t 17), none⟩,
   ⟨some 19, .call F.dyadic_part_length [.t 18], none⟩,
   ⟨some 20, .bin .gtr false (.t 19) (.c (iv 67108864)), none⟩,
   ⟨some 16, .mov (.t 20), none⟩]) (.cond (.t 16) (.seq (.region false [⟨some 21, .build [.bool false, .slice none 0 0, .int .i64 0] [], none⟩,
   ⟨none, .store 3 (.t 4) (.t 21), none⟩,
   ⟨some 5, .mov (.c (iv 3)), none⟩]) .ret) (.seq (.region false [⟨some 23, .fa 2 (.t 6), none⟩,
   ⟨some 24, .load none (.t 23), none⟩,
   ⟨some 25, .call F.dyadic_within [.t 24], none⟩,
   ⟨some 26, .un .not (.t 25), none⟩,
   ⟨some 22, .mov (.t 26), none⟩]) (.cond (.t 22) (.seq (.region false [⟨some 27, .build [.bool false, .slice none 0 0, .int .i64 0] [], none⟩,
   ⟨none, .store 3 (.t 4) (.t 27), none⟩,
   ⟨some 5, .mov (.c (iv 80)), none⟩]) .ret) .skip))))))) (.seq (.region false [⟨some 28, .fa 0 (.t 6), none⟩,
   ⟨some 29, .fa 0 (.t 28), none⟩,
   ⟨some 30, .load (some 2) (.t 29), none⟩,
   ⟨some 31, .fa 2 (.t 6), none⟩,
   ⟨some 32, .load none (.t 31), none⟩,
   ⟨some 33, .build [.bool false, .slice none 0 0, .int .i64 0] [(0, (2, .t 30)), (2, (1, .t 32))], none⟩,
   ⟨none, .store 3 (.t 4) (.t 33), none⟩,
   ⟨some 5, .mov (.c (iv 0)), none⟩]) .ret)))
def R.dyadic_told : List VRes := [.cell 4 (some 3), .tmp 5]
theorem K.dyadic_told : resCode Tryz.prog Tryz.f135.ntmps (Tryz.f135.body.getD .skip) = C.dyadic_told := by kernel_rfl
theorem Q.dyadic_told : resResults Tryz.prog Tryz.f135.results.toList = some R.dyadic_told := by kernel_rfl
theorem E.dyadic_told : Tryz.prog.funcs[F.dyadic_told]? = some Tryz.f135 := Tryz.func135
theorem B.dyadic_told : Tryz.f135.body = some (Tryz.f135.body.getD .skip) := by kernel_rfl
theorem N.dyadic_told : Tryz.f135.ntmps = 34 := Tryz.ntmps135

def C.surdref01_Num_at : VC :=
  .seq (.region false [⟨some 4, .mov (.c (nv 0)), none⟩]) (.seq (.seq (.region false [⟨some 5, .mov (.t 1), none⟩,
   ⟨some 6, .mov (.t 0), none⟩,
   ⟨some 7, .len (.t 6), none⟩,
   ⟨some 8, .bin .lss false (.t 5) (.t 7), none⟩]) (.cond (.t 8) (.seq (.region false [⟨some 9, .mov (.t 0), none⟩,
   ⟨some 10, .mov (.t 1), none⟩,
   ⟨some 11, .ixa 1 (.t 9) (.t 10), none⟩,
   ⟨some 12, .load none (.t 11), none⟩,
   ⟨some 4, .mov (.t 12), none⟩]) .ret) .skip)) (.seq (.region false [⟨some 4, .mov (.c (nv 0)), none⟩]) .ret))
def R.surdref01_Num_at : List VRes := [.tmp 4]
theorem K.surdref01_Num_at : resCode Tryz.prog Tryz.f142.ntmps (Tryz.f142.body.getD .skip) = C.surdref01_Num_at := by kernel_rfl
theorem Q.surdref01_Num_at : resResults Tryz.prog Tryz.f142.results.toList = some R.surdref01_Num_at := by kernel_rfl
theorem E.surdref01_Num_at : Tryz.prog.funcs[F.surdref01_Num_at]? = some Tryz.f142 := Tryz.func142
theorem B.surdref01_Num_at : Tryz.f142.body = some (Tryz.f142.body.getD .skip) := by kernel_rfl
theorem N.surdref01_Num_at : Tryz.f142.ntmps = 13 := Tryz.ntmps142

def C.surdref01_Num_Is : VC :=
  .seq (.region false [⟨some 4, .mov (.c (bv false)), none⟩]) (.seq (.region false [⟨some 7, .mov (.t 0), none⟩,
   ⟨some 8, .call F.surdref01_Num_Limbs [.t 7], none⟩,
   ⟨some 5, .mov (.t 8), none⟩]) (.seq (.seq (.region false [⟨some 9, .mov (.t 5), none⟩,
   ⟨some 10, .len (.t 9), none⟩,
   ⟨some 11, .mov (.t 1), none⟩,
   ⟨some 12, .len (.t 11), none⟩,
   ⟨some 13, .bin .neq false (.t 10) (.t 12), none⟩]) (.cond (.t 13) (.seq (.region false [⟨some 4, .mov (.c (bv false)), none⟩]) .ret) .skip)) (.seq (.seq (.region false [⟨some 14, .mov (.t 5), none⟩,
   ⟨some 15, .len (.t 14), none⟩,
   ⟨some 16, .mov (.c (iv 0)), none⟩]) (.block 0 (.loop (.seq (.region false [⟨some 17, .bin .lss false (.t 16) (.t 15), none⟩]) (.seq (.cond (.t 17) .skip (.exit 0)) (.seq (.block 1 (.seq (.region false [⟨some 18, .mov (.t 16), none⟩,
   ⟨some 6, .mov (.t 18), none⟩]) (.seq (.region true [⟨some 19, .mov (.t 5), none⟩,
   ⟨some 20, .mov (.t 6), none⟩,
   ⟨some 21, .ixa 1 (.t 19) (.t 20), none⟩,
   ⟨some 22, .load none (.t 21), none⟩,
   ⟨some 23, .mov (.t 1), none⟩,
   ⟨some 24, .mov (.t 6), none⟩,
   ⟨some 25, .ixa 1 (.t 23) (.t 24), none⟩,
   ⟨some 26, .load none (.t 25), none⟩,
   ⟨some 27, .bin .neq false (.t 22) (.t 26), none⟩]) (.cond (.t 27) (.seq (.region false [⟨some 4, .mov (.c (bv false)), none⟩]) .ret) .skip)))) (.region false [⟨some 28, .bin .add false (.t 16) (.c (iv 1)), none⟩,
   ⟨some 16, .mov (.t 28), none⟩]))))))) (.seq (.region false [⟨some 4, .mov (.c (bv true)), none⟩]) .ret))))
def R.surdref01_Num_Is : List VRes := [.tmp 4]
theorem K.surdref01_Num_Is : resCode Tryz.prog Tryz.f143.ntmps (Tryz.f143.body.getD .skip) = C.surdref01_Num_Is := by kernel_rfl
theorem Q.surdref01_Num_Is : resResults Tryz.prog Tryz.f143.results.toList = some R.surdref01_Num_Is := by kernel_rfl
theorem E.surdref01_Num_Is : Tryz.prog.funcs[F.surdref01_Num_Is]? = some Tryz.f143 := Tryz.func143
theorem B.surdref01_Num_Is : Tryz.f143.body = some (Tryz.f143.body.getD .skip) := by kernel_rfl
theorem N.surdref01_Num_Is : Tryz.f143.ntmps = 29 := Tryz.ntmps143

def C.dyadic_number_top : VC :=
  .seq (.region false [⟨some 1, .box (.t 0), none⟩,
   ⟨some 2, .mov (.c (iv 0)), none⟩]) (.seq (.region true [⟨some 3, .fa 2 (.t 1), none⟩,
   ⟨some 4, .load none (.t 3), none⟩,
   ⟨some 5, .fa 0 (.t 1), none⟩,
   ⟨some 6, .load (some 2) (.t 5), none⟩,
   ⟨some 7, .call F.dyadic_part_length [.t 6], none⟩,
   ⟨some 8, .bin .add false (.t 4) (.t 7), none⟩,
   ⟨some 9, .bin .sub false (.t 8) (.c (iv 1)), none⟩,
   ⟨some 2, .mov (.t 9), none⟩]) .ret)
def R.dyadic_number_top : List VRes := [.tmp 2]
theorem K.dyadic_number_top : resCode Tryz.prog Tryz.f144.ntmps (Tryz.f144.body.getD .skip) = C.dyadic_number_top := by kernel_rfl
theorem Q.dyadic_number_top : resResults Tryz.prog Tryz.f144.results.toList = some R.dyadic_number_top := by kernel_rfl
theorem E.dyadic_number_top : Tryz.prog.funcs[F.dyadic_number_top]? = some Tryz.f144 := Tryz.func144
theorem B.dyadic_number_top : Tryz.f144.body = some (Tryz.f144.body.getD .skip) := by kernel_rfl
theorem N.dyadic_number_top : Tryz.f144.ntmps = 10 := Tryz.ntmps144

def C.dyadic_left : VC :=
  .seq (.region false [⟨some 4, .mov (.c nil1), none⟩]) (.seq (.region false [⟨some 13, .mov (.t 0), none⟩,
   ⟨some 14, .mov (.t 1), none⟩,
   ⟨some 15, .call F.nat_Left [.t 13, .t 14], none⟩,
   ⟨some 12, .mov (.t 15), none⟩,
   ⟨some 16, .ext (.t 12) 0, none⟩,
   ⟨some 17, .ext (.t 12) 1, none⟩,
   ⟨some 5, .mov (.t 16), none⟩,
   ⟨some 6, .mov (.t 17), none⟩]) (.seq (.seq (.region false [⟨some 18, .mov (.t 6), none⟩,
   ⟨some 19, .bin .eql false (.t 18) (.c (iv 0)), none⟩]) (.cond (.t 19) (.seq (.region false [⟨some 20, .mov (.t 5), none⟩,
   ⟨some 4, .mov (.t 20), none⟩]) .ret) .skip)) (.seq (.region false [⟨some 21, .mov (.t 1), none⟩,
   ⟨some 22, .bin .quo false (.t 21) (.c (iv 64)), none⟩,
   ⟨some 23, .mov (.t 1), none⟩,
   ⟨some 24, .bin .rem false (.t 23) (.c (iv 64)), none⟩,
   ⟨some 25, .conv .u64 (.t 24), none⟩,
   ⟨some 7, .mov (.t 22), none⟩,
   ⟨some 8, .mov (.t 25), none⟩]) (.seq (.region false [⟨some 26, .mov (.t 0), none⟩,
   ⟨some 27, .len (.t 26), none⟩,
   ⟨some 28, .mov (.t 7), none⟩,
   ⟨some 29, .bin .add false (.t 27) (.t 28), none⟩,
   ⟨some 30, .bin .add false (.t 29) (.c (iv 1)), none⟩,
   ⟨some 31, .mk [.int .u64 0] 8 (.t 30) (.t 30), none⟩,
   ⟨some 9, .mov (.t 31), none⟩]) (.seq (.seq (.region false [⟨some 32, .mov (.t 0), none⟩,
   ⟨some 33, .len (.t 32), none⟩,
   ⟨some 34, .mov (.c (iv 0)), none⟩]) (.block 0 (.loop (.seq (.region false [⟨some 35, .bin .lss false (.t 34) (.t 33), none⟩]) (.seq (.cond (.t 35) .skip (.exit 0)) (.seq (.block 1 (.seq (.region false [⟨some 36, .mov (.t 34), none⟩,
   ⟨some 37, .ixa 1 (.t 32) (.t 34), none⟩,
   ⟨some 38, .load none (.t 37), none⟩,
   ⟨some 10, .mov (.t 36), none⟩,
   ⟨some 11, .mov (.t 38), none⟩]) (.seq (.region false [⟨some 39, .mov (.t 9), none⟩,
   ⟨some 40, .mov (.t 10), none⟩,
   ⟨some 41, .mov (.t 7), none⟩,
   ⟨some 42, .bin .add false (.t 40) (.t 41), none⟩,
   ⟨some 43, .ixa 1 (.t 39) (.t 42), none⟩,
   ⟨some 44, .load none (.t 43), none⟩,
   ⟨some 45, .mov (.t 11), none⟩,
   ⟨some 46, .mov (.t 8), none⟩,
   ⟨some 47, .bin .shl false (.t 45) (.t 46), none⟩,
   ⟨some 48, .bin .or false (.t 44) (.t 47), none⟩,
   ⟨some 49, .ixa 1 (.t 39) (.t 42), none⟩,
   ⟨none, .store 1 (.t 49) (.t 48), none⟩]) (.seq (.region false [⟨some 50, .mov (.t 8), none⟩,
   ⟨some 51, .bin .gtr false (.t 50) (.c (nv 0)), none⟩]) (.cond (.t 51) (.region false [⟨some 52, .mov (.t 9), none⟩,
   ⟨some 53, .mov (.t 10), none⟩,
   ⟨some 54, .mov (.t 7), none⟩,
   ⟨some 55, .bin .add false (.t 53) (.t 54), none⟩,
   ⟨some 56, .bin .add false (.t 55) (.c (iv 1)), none⟩,
   ⟨some 57, .mov (.t 11), none⟩,
   ⟨some 58, .mov (.t 8), none⟩,
   ⟨some 59, .bin .sub false (.c (nv 64)) (.t 58), none⟩,
   ⟨some 60, .bin .shr false (.t 57) (.t 59), none⟩,
   ⟨some 61, .ixa 1 (.t 52) (.t 56), none⟩,
   ⟨none, .store 1 (.t 61) (.t 60), none⟩]) .skip))))) (.region false [⟨some 62, .bin .add false (.t 34) (.c (iv 1)), none⟩,
   ⟨some 34, .mov (.t 62), none⟩]))))))) (.seq (.region false [⟨some 63, .mov (.t 9), none⟩,
   ⟨some 64, .call F.nat_Norm [.t 63], none⟩,
   ⟨some 4, .mov (.t 64), none⟩]) .ret))))))
def R.dyadic_left : List VRes := [.tmp 4]
theorem K.dyadic_left : resCode Tryz.prog Tryz.f145.ntmps (Tryz.f145.body.getD .skip) = C.dyadic_left := by kernel_rfl
theorem Q.dyadic_left : resResults Tryz.prog Tryz.f145.results.toList = some R.dyadic_left := by kernel_rfl
theorem E.dyadic_left : Tryz.prog.funcs[F.dyadic_left]? = some Tryz.f145 := Tryz.func145
theorem B.dyadic_left : Tryz.f145.body = some (Tryz.f145.body.getD .skip) := by kernel_rfl
theorem N.dyadic_left : Tryz.f145.ntmps = 65 := Tryz.ntmps145

def C.nat_Compare : VC :=
  .seq (.region false [⟨some 4, .mov (.c (iv 0)), none⟩]) (.seq (.region false [⟨some 6, .mov (.t 0), none⟩,
   ⟨some 7, .call F.nat_trim [.t 6], none⟩,
   ⟨some 8, .mov (.t 1), none⟩,
   ⟨some 9, .call F.nat_trim [.t 8], none⟩,
   ⟨some 0, .mov (.t 7), none⟩,
   ⟨some 1, .mov (.t 9), none⟩]) (.seq (.seq (.region false [⟨some 10, .mov (.t 0), none⟩,
   ⟨some 11, .len (.t 10), none⟩,
   ⟨some 12, .mov (.t 1), none⟩,
   ⟨some 13, .len (.t 12), none⟩,
   ⟨some 14, .bin .neq false (.t 11) (.t 13), none⟩]) (.cond (.t 14) (.seq (.seq (.region false [⟨some 15, .mov (.t 0), none⟩,
   ⟨some 16, .len (.t 15), none⟩,
   ⟨some 17, .mov (.t 1), none⟩,
   ⟨some 18, .len (.t 17), none⟩,
   ⟨some 19, .bin .lss false (.t 16) (.t 18), none⟩]) (.cond (.t 19) (.seq (.region false [⟨some 4, .mov (.c (iv (-1))), none⟩]) .ret) .skip)) (.seq (.region false [⟨some 4, .mov (.c (iv 1)), none⟩]) .ret)) .skip)) (.seq (.seq (.region false [⟨some 20, .mov (.t 0), none⟩,
   ⟨some 21, .len (.t 20), none⟩,
   ⟨some 22, .bin .sub false (.t 21) (.c (iv 1)), none⟩,
   ⟨some 5, .mov (.t 22), none⟩]) (.block 0 (.loop (.seq (.seq (.region false [⟨some 23, .mov (.t 5), none⟩,
   ⟨some 24, .bin .geq false (.t 23) (.c (iv 0)), none⟩]) (.cond (.t 24) .skip (.exit 0))) (.seq (.block 1 (.seq (.seq (.region true [⟨some 27, .mov (.t 0), none⟩,
   ⟨some 28, .mov (.t 5), none⟩,
   ⟨some 29, .ixa 1 (.t 27) (.t 28), none⟩,
   ⟨some 30, .load none (.t 29), none⟩,
   ⟨some 31, .mov (.t 1), none⟩,
   ⟨some 32, .mov (.t 5), none⟩,
   ⟨some 33, .ixa 1 (.t 31) (.t 32), none⟩,
   ⟨some 34, .load none (.t 33), none⟩,
   ⟨some 35, .bin .lss false (.t 30) (.t 34), none⟩]) (.cond (.t 35) (.seq (.region false [⟨some 4, .mov (.c (iv (-1))), none⟩]) .ret) .skip)) (.seq (.region true [⟨some 36, .mov (.t 0), none⟩,
   ⟨some 37, .mov (.t 5), none⟩,
   ⟨some 38, .ixa 1 (.t 36) (.t 37), none⟩,
   ⟨some 39, .load none (.t 38), none⟩,
   ⟨some 40, .mov (.t 1), none⟩,
   ⟨some 41, .mov (.t 5), none⟩,
   ⟨some 42, .ixa 1 (.t 40) (.t 41), none⟩,
   ⟨some 43, .load none (.t 42), none⟩,
   ⟨some 44, .bin .gtr false (.t 39) (.t 43), none⟩]) (.cond (.t 44) (.seq (.region false [⟨some 4, .mov (.c (iv 1)), none⟩]) .ret) .skip)))) (.region false [⟨some 25, .mov (.t 5), none⟩,
   ⟨some 26, .bin .sub false (.t 25) (.c (iv 1)), none⟩,
   ⟨some 5, .mov (.t 26), none⟩])))))) (.seq (.region false [⟨some 4, .mov (.c (iv 0)), none⟩]) .ret))))
def R.nat_Compare : List VRes := [.tmp 4]
theorem K.nat_Compare : resCode Tryz.prog Tryz.f146.ntmps (Tryz.f146.body.getD .skip) = C.nat_Compare := by kernel_rfl
theorem Q.nat_Compare : resResults Tryz.prog Tryz.f146.results.toList = some R.nat_Compare := by kernel_rfl
theorem E.nat_Compare : Tryz.prog.funcs[F.nat_Compare]? = some Tryz.f146 := Tryz.func146
theorem B.nat_Compare : Tryz.f146.body = some (Tryz.f146.body.getD .skip) := by kernel_rfl
theorem N.nat_Compare : Tryz.f146.ntmps = 45 := Tryz.ntmps146

def C.nat_Length : VC :=
  .seq (.region false [⟨some 2, .mov (.c (iv 0)), none⟩]) (.seq (.region false [⟨some 3, .mov (.t 0), none⟩,
   ⟨some 4, .call F.nat_trim [.t 3], none⟩,
   ⟨some 0, .mov (.t 4), none⟩]) (.seq (.seq (.region false [⟨some 5, .mov (.t 0), none⟩,
   ⟨some 6, .len (.t 5), none⟩,
   ⟨some 7, .bin .eql false (.t 6) (.c (iv 0)), none⟩]) (.cond (.t 7) (.seq (.region false [⟨some 2, .mov (.c (iv 0)), none⟩]) .ret) .skip)) (.seq (.region false [⟨some 8, .mov (.t 0), none⟩,
   ⟨some 9, .len (.t 8), none⟩,
   ⟨some 10, .bin .sub false (.t 9) (.c (iv 1)), none⟩,
   ⟨some 11, .bin .mul false (.c (iv 64)) (.t 10), none⟩,
   ⟨some 12, .mov (.t 0), none⟩,
   ⟨some 13, .mov (.t 0), none⟩,
   ⟨some 14, .len (.t 13), none⟩,
   ⟨some 15, .bin .sub false (.t 14) (.c (iv 1)), none⟩,
   ⟨some 16, .ixa 1 (.t 12) (.t 15), none⟩,
   ⟨some 17, .load none (.t 16), none⟩,
   ⟨some 18, .call F.bits_Len64 [.t 17], none⟩,
   ⟨some 19, .bin .add false (.t 11) (.t 18), none⟩,
   ⟨some 2, .mov (.t 19), none⟩]) .ret)))
def R.nat_Length : List VRes := [.tmp 2]
theorem K.nat_Length : resCode Tryz.prog Tryz.f147.ntmps (Tryz.f147.body.getD .skip) = C.nat_Length := by kernel_rfl
theorem Q.nat_Length : resResults Tryz.prog Tryz.f147.results.toList = some R.nat_Length := by kernel_rfl
theorem E.nat_Length : Tryz.prog.funcs[F.nat_Length]? = some Tryz.f147 := Tryz.func147
theorem B.nat_Length : Tryz.f147.body = some (Tryz.f147.body.getD .skip) := by kernel_rfl
theorem N.nat_Length : Tryz.f147.ntmps = 20 := Tryz.ntmps147

def C.whole_Make : VC :=
  .seq (.region false [⟨some 4, .alloc [.bool false, .slice none 0 0], none⟩,
   ⟨some 5, .mov (.c (iv 0)), none⟩]) (.seq (.region false [⟨some 6, .mov (.t 0), none⟩,
   ⟨some 7, .mov (.t 1), none⟩,
   ⟨some 8, .build [.bool false, .slice none 0 0] [(0, (1, .t 6)), (1, (1, .t 7))], none⟩,
   ⟨some 9, .call F.whole_fits [.t 8], none⟩,
   ⟨some 10, .ext (.t 9) 0, none⟩,
   ⟨some 11, .ext (.t 9) 1, none⟩,
   ⟨none, .store 2 (.t 4) (.t 10), none⟩,
   ⟨some 5, .mov (.t 11), none⟩]) .ret)
def R.whole_Make : List VRes := [.cell 4 (some 2), .tmp 5]
theorem K.whole_Make : resCode Tryz.prog Tryz.f148.ntmps (Tryz.f148.body.getD .skip) = C.whole_Make := by kernel_rfl
theorem Q.whole_Make : resResults Tryz.prog Tryz.f148.results.toList = some R.whole_Make := by kernel_rfl
theorem E.whole_Make : Tryz.prog.funcs[F.whole_Make]? = some Tryz.f148 := Tryz.func148
theorem B.whole_Make : Tryz.f148.body = some (Tryz.f148.body.getD .skip) := by kernel_rfl
theorem N.whole_Make : Tryz.f148.ntmps = 12 := Tryz.ntmps148

def C.dyadic_long : VC :=
  .seq (.region false [⟨some 2, .box (.t 0), none⟩,
   ⟨some 3, .box (.t 1), none⟩,
   ⟨some 4, .alloc [.bool false, .slice none 0 0, .int .i64 0], none⟩,
   ⟨some 5, .mov (.c (iv 0)), none⟩]) (.seq (.region true [⟨some 9, .fa 0 (.t 2), none⟩,
   ⟨some 10, .fa 0 (.t 9), none⟩,
   ⟨some 11, .fa 1 (.t 10), none⟩,
   ⟨some 12, .load none (.t 11), none⟩,
   ⟨some 13, .fa 2 (.t 2), none⟩,
   ⟨some 14, .load none (.t 13), none⟩,
   ⟨some 15, .fa 2 (.t 3), none⟩,
   ⟨some 16, .load none (.t 15), none⟩,
   ⟨some 17, .bin .sub false (.t 14) (.t 16), none⟩,
   ⟨some 18, .call F.dyadic_left [.t 12, .t 17], none⟩,
   ⟨some 19, .fa 0 (.t 3), none⟩,
   ⟨some 20, .fa 0 (.t 19), none⟩,
   ⟨some 21, .fa 1 (.t 20), none⟩,
   ⟨some 22, .load none (.t 21), none⟩,
   ⟨some 6, .mov (.t 18), none⟩,
   ⟨some 7, .mov (.t 22), none⟩]) (.seq (.region false [⟨some 23, .fa 0 (.t 2), none⟩,
   ⟨some 24, .fa 0 (.t 23), none⟩,
   ⟨some 25, .fa 0 (.t 24), none⟩,
   ⟨some 26, .load none (.t 25), none⟩,
   ⟨some 8, .mov (.t 26), none⟩]) (.seq (.seq (.region false [⟨some 27, .fa 0 (.t 2), none⟩,
   ⟨some 28, .fa 0 (.t 27), none⟩,
   ⟨some 29, .fa 0 (.t 28), none⟩,
   ⟨some 30, .load none (.t 29), none⟩,
   ⟨some 31, .fa 0 (.t 3), none⟩,
   ⟨some 32, .fa 0 (.t 31), none⟩,
   ⟨some 33, .fa 0 (.t 32), none⟩,
   ⟨some 34, .load none (.t 33), none⟩,
   ⟨some 35, .bin .neq true (.t 30) (.t 34), none⟩]) (.cond (.t 35) (.seq (.seq (.region false [⟨some 36, .mov (.t 6), none⟩,
   ⟨some 37, .mov (.t 7), none⟩,
   ⟨some 38, .call F.nat_Compare [.t 36, .t 37], none⟩,
   ⟨some 39, .bin .lss false (.t 38) (.c (iv 0)), none⟩]) (.cond (.t 39) (.region false [⟨some 40, .mov (.t 7), none⟩,
   ⟨some 41, .mov (.t 6), none⟩,
   ⟨some 42, .mov (.t 8), none⟩,
   ⟨some 43, .un .not (.t 42), none⟩,
   ⟨some 6, .mov (.t 40), none⟩,
   ⟨some 7, .mov (.t 41), none⟩,
   ⟨some 8, .mov (.t 43), none⟩]) .skip)) (.seq (.region true [⟨some 44, .mov (.t 8), none⟩,
   ⟨some 45, .mov (.t 6), none⟩,
   ⟨some 46, .mov (.t 7), none⟩,
   ⟨some 47, .call F.dyadic_minus [.t 45, .t 46], none⟩,
   ⟨some 48, .build [.bool false, .slice none 0 0] [(0, (1, .t 44)), (1, (1, .t 47))], none⟩,
   ⟨some 49, .fa 2 (.t 3), none⟩,
   ⟨some 50, .load none (.t 49), none⟩,
   ⟨some 51, .call F.dyadic_told [.t 48, .t 50], none⟩,
   ⟨some 52, .ext (.t 51) 0, none⟩,
   ⟨some 53, .ext (.t 51) 1, none⟩,
   ⟨none, .store 3 (.t 4) (.t 52), none⟩,
   ⟨some 5, .mov (.t 53), none⟩]) .ret)) .skip)) (.seq (.region true [⟨some 54, .mov (.t 8), none⟩,
   ⟨some 55, .mov (.t 6), none⟩,
   ⟨some 56, .mov (.t 7), none⟩,
   ⟨some 57, .call F.dyadic_plus [.t 55, .t 56], none⟩,
   ⟨some 58, .build [.bool false, .slice none 0 0] [(0, (1, .t 54)), (1, (1, .t 57))], none⟩,
   ⟨some 59, .fa 2 (.t 3), none⟩,
   ⟨some 60, .load none (.t 59), none⟩,
   ⟨some 61, .call F.dyadic_told [.t 58, .t 60], none⟩,
   ⟨some 62, .ext (.t 61) 0, none⟩,
   ⟨some 63, .ext (.t 61) 1, none⟩,
   ⟨none, .store 3 (.t 4) (.t 62), none⟩,
   ⟨some 5, .mov (.t 63), none⟩]) .ret))))
def R.dyadic_long : List VRes := [.cell 4 (some 3), .tmp 5]
theorem K.dyadic_long : resCode Tryz.prog Tryz.f149.ntmps (Tryz.f149.body.getD .skip) = C.dyadic_long := by kernel_rfl
theorem Q.dyadic_long : resResults Tryz.prog Tryz.f149.results.toList = some R.dyadic_long := by kernel_rfl
theorem E.dyadic_long : Tryz.prog.funcs[F.dyadic_long]? = some Tryz.f149 := Tryz.func149
theorem B.dyadic_long : Tryz.f149.body = some (Tryz.f149.body.getD .skip) := by kernel_rfl
theorem N.dyadic_long : Tryz.f149.ntmps = 64 := Tryz.ntmps149

def C.whole_Add : VC :=
  .seq (.region false [⟨some 2, .box (.t 0), none⟩,
   ⟨some 3, .box (.t 1), none⟩,
   ⟨some 4, .alloc [.bool false, .slice none 0 0], none⟩,
   ⟨some 5, .mov (.c (iv 0)), none⟩]) (.seq (.region true [⟨some 10, .load (some 2) (.t 2), none⟩,
   ⟨some 11, .call F.whole_norm [.t 10], none⟩,
   ⟨some 12, .load (some 2) (.t 3), none⟩,
   ⟨some 13, .call F.whole_norm [.t 12], none⟩,
   ⟨none, .store 2 (.t 2) (.t 11), none⟩,
   ⟨none, .store 2 (.t 3) (.t 13), none⟩]) (.seq (.seq (.region false [⟨some 14, .fa 0 (.t 2), none⟩,
   ⟨some 15, .load none (.t 14), none⟩,
   ⟨some 16, .fa 0 (.t 3), none⟩,
   ⟨some 17, .load none (.t 16), none⟩,
   ⟨some 18, .bin .eql true (.t 15) (.t 17), none⟩]) (.cond (.t 18) (.seq (.region false [⟨some 20, .fa 1 (.t 2), none⟩,
   ⟨some 21, .load none (.t 20), none⟩,
   ⟨some 22, .fa 1 (.t 3), none⟩,
   ⟨some 23, .load none (.t 22), none⟩,
   ⟨some 24, .call F.nat_Add [.t 21, .t 23], none⟩,
   ⟨some 19, .mov (.t 24), none⟩,
   ⟨some 25, .ext (.t 19) 0, none⟩,
   ⟨some 26, .ext (.t 19) 1, none⟩,
   ⟨some 6, .mov (.t 25), none⟩,
   ⟨some 7, .mov (.t 26), none⟩]) (.seq (.region false [⟨some 27, .fa 0 (.t 2), none⟩,
   ⟨some 28, .load none (.t 27), none⟩,
   ⟨some 29, .mov (.t 6), none⟩,
   ⟨some 30, .mov (.t 7), none⟩,
   ⟨some 31, .call F.whole_result [.t 28, .t 29, .t 30], none⟩,
   ⟨some 32, .ext (.t 31) 0, none⟩,
   ⟨some 33, .ext (.t 31) 1, none⟩,
   ⟨none, .store 2 (.t 4) (.t 32), none⟩,
   ⟨some 5, .mov (.t 33), none⟩]) .ret)) .skip)) (.seq (.seq (.region false [⟨some 34, .fa 1 (.t 2), none⟩,
   ⟨some 35, .load none (.t 34), none⟩,
   ⟨some 36, .fa 1 (.t 3), none⟩,
   ⟨some 37, .load none (.t 36), none⟩,
   ⟨some 38, .call F.nat_Compare [.t 35, .t 37], none⟩,
   ⟨some 39, .bin .lss false (.t 38) (.c (iv 0)), none⟩]) (.cond (.t 39) (.region false [⟨some 40, .load (some 2) (.t 3), none⟩,
   ⟨some 41, .load (some 2) (.t 2), none⟩,
   ⟨none, .store 2 (.t 2) (.t 40), none⟩,
   ⟨none, .store 2 (.t 3) (.t 41), none⟩]) .skip)) (.seq (.region false [⟨some 43, .fa 1 (.t 2), none⟩,
   ⟨some 44, .load none (.t 43), none⟩,
   ⟨some 45, .fa 1 (.t 3), none⟩,
   ⟨some 46, .load none (.t 45), none⟩,
   ⟨some 47, .call F.nat_Sub [.t 44, .t 46], none⟩,
   ⟨some 42, .mov (.t 47), none⟩,
   ⟨some 48, .ext (.t 42) 0, none⟩,
   ⟨some 49, .ext (.t 42) 1, none⟩,
   ⟨some 8, .mov (.t 48), none⟩,
   ⟨some 9, .mov (.t 49), none⟩]) (.seq (.region false [⟨some 50, .fa 0 (.t 2), none⟩,
   ⟨some 51, .load none (.t 50), none⟩,
   ⟨some 52, .mov (.t 8), none⟩,
   ⟨some 53, .mov (.t 9), none⟩,
   ⟨some 54, .call F.whole_result [.t 51, .t 52, .t 53], none⟩,
   ⟨some 55, .ext (.t 54) 0, none⟩,
   ⟨some 56, .ext (.t 54) 1, none⟩,
   ⟨none, .store 2 (.t 4) (.t 55), none⟩,
   ⟨some 5, .mov (.t 56), none⟩]) .ret)))))
def R.whole_Add : List VRes := [.cell 4 (some 2), .tmp 5]
theorem K.whole_Add : resCode Tryz.prog Tryz.f150.ntmps (Tryz.f150.body.getD .skip) = C.whole_Add := by kernel_rfl
theorem Q.whole_Add : resResults Tryz.prog Tryz.f150.results.toList = some R.whole_Add := by kernel_rfl
theorem E.whole_Add : Tryz.prog.funcs[F.whole_Add]? = some Tryz.f150 := Tryz.func150
theorem B.whole_Add : Tryz.f150.body = some (Tryz.f150.body.getD .skip) := by kernel_rfl
theorem N.whole_Add : Tryz.f150.ntmps = 57 := Tryz.ntmps150

def C.dyadic_odd : VC :=
  .seq (.region false [⟨some 2, .box (.t 0), none⟩,
   ⟨some 4, .alloc [.bool false, .slice none 0 0, .int .i64 0], none⟩]) (.seq (.seq (.region false [⟨some 6, .load (some 2) (.t 2), none⟩,
   ⟨some 7, .call F.whole_Sign [.t 6], none⟩,
   ⟨some 8, .bin .eql false (.t 7) (.c (iv 0)), none⟩]) (.cond (.t 8) (.seq (.region false [⟨some 9, .build [.bool false, .slice none 0 0, .int .i64 0] [], none⟩,
   ⟨none, .store 3 (.t 4) (.t 9), none⟩]) .ret) .skip)) (.seq (.region false [⟨some 10, .fa 1 (.t 2), none⟩,
   ⟨some 11, .load none (.t 10), none⟩,
   ⟨some 12, .call F.nat_Norm [.t 11], none⟩,
   ⟨some 13, .fa 1 (.t 2), none⟩,
   ⟨none, .store 1 (.t 13) (.t 12), none⟩]) (.seq (.region false [⟨some 14, .fa 1 (.t 2), none⟩,
   ⟨some 15, .load none (.t 14), none⟩,
   ⟨some 16, .call F.nat_Tail [.t 15], none⟩,
   ⟨some 5, .mov (.t 16), none⟩]) (.seq (.seq (.region false [⟨some 17, .mov (.t 5), none⟩,
   ⟨some 18, .bin .gtr false (.t 17) (.c (iv 0)), none⟩]) (.cond (.t 18) (.region false [⟨some 19, .fa 1 (.t 2), none⟩,
   ⟨some 20, .load none (.t 19), none⟩,
   ⟨some 21, .mov (.t 5), none⟩,
   ⟨some 22, .call F.dyadic_shifted [.t 20, .t 21], none⟩,
   ⟨some 23, .fa 1 (.t 2), none⟩,
   ⟨none, .store 1 (.t 23) (.t 22), none⟩]) .skip)) (.seq (.region false [⟨some 24, .load (some 2) (.t 2), none⟩,
   ⟨some 25, .build [.bool false, .slice none 0 0] [(0, (2, .t 24))], none⟩,
   ⟨some 26, .mov (.t 1), none⟩,
   ⟨some 27, .mov (.t 5), none⟩,
   ⟨some 28, .bin .add false (.t 26) (.t 27), none⟩,
   ⟨some 29, .build [.bool false, .slice none 0 0, .int .i64 0] [(0, (2, .t 25)), (2, (1, .t 28))], none⟩,
   ⟨none, .store 3 (.t 4) (.t 29), none⟩]) .ret)))))
def R.dyadic_odd : List VRes := [.cell 4 (some 3)]
theorem K.dyadic_odd : resCode Tryz.prog Tryz.f151.ntmps (Tryz.f151.body.getD .skip) = C.dyadic_odd := by kernel_rfl
theorem Q.dyadic_odd : resResults Tryz.prog Tryz.f151.results.toList = some R.dyadic_odd := by kernel_rfl
theorem E.dyadic_odd : Tryz.prog.funcs[F.dyadic_odd]? = some Tryz.f151 := Tryz.func151
theorem B.dyadic_odd : Tryz.f151.body = some (Tryz.f151.body.getD .skip) := by kernel_rfl
theorem N.dyadic_odd : Tryz.f151.ntmps = 30 := Tryz.ntmps151

def C.dyadic_steps : VC :=
  .seq (.region false [⟨some 3, .box (.t 0), none⟩,
   ⟨some 6, .alloc [.bool false, .slice none 0 0], none⟩]) (.seq (.seq (.region false [⟨some 10, .fa 0 (.t 3), none⟩,
   ⟨some 11, .load (some 2) (.t 10), none⟩,
   ⟨some 12, .call F.dyadic_part_sign [.t 11], none⟩,
   ⟨some 13, .bin .eql false (.t 12) (.c (iv 0)), none⟩,
   ⟨some 14, .mov (.t 13), none⟩,
   ⟨some 15, .fa 2 (.t 3), some (14, false)⟩,
   ⟨some 16, .load none (.t 15), some (14, false)⟩,
   ⟨some 17, .mov (.t 1), some (14, false)⟩,
   ⟨some 18, .bin .geq false (.t 16) (.t 17), some (14, false)⟩,
   ⟨some 19, .pick (.t 14) (.c (bv true)) (.t 18), none⟩]) (.cond (.t 19) (.seq (.region true [⟨some 20, .fa 0 (.t 3), none⟩,
   ⟨some 21, .fa 0 (.t 20), none⟩,
   ⟨some 22, .fa 0 (.t 21), none⟩,
   ⟨some 23, .load none (.t 22), none⟩,
   ⟨some 24, .fa 0 (.t 3), none⟩,
   ⟨some 25, .fa 0 (.t 24), none⟩,
   ⟨some 26, .fa 1 (.t 25), none⟩,
   ⟨some 27, .load none (.t 26), none⟩,
   ⟨some 28, .fa 2 (.t 3), none⟩,
   ⟨some 29, .load none (.t 28), none⟩,
   ⟨some 30, .mov (.t 1), none⟩,
   ⟨some 31, .bin .sub false (.t 29) (.t 30), none⟩,
   ⟨some 32, .mm true (.t 31) (.c (iv 0)), none⟩,
   ⟨some 33, .call F.dyadic_left [.t 27, .t 32], none⟩,
   ⟨some 34, .build [.bool false, .slice none 0 0] [(0, (1, .t 23)), (1, (1, .t 33))], none⟩,
   ⟨none, .store 2 (.t 6) (.t 34), none⟩]) .ret) .skip)) (.seq (.region false [⟨some 35, .mov (.t 1), none⟩,
   ⟨some 36, .fa 2 (.t 3), none⟩,
   ⟨some 37, .load none (.t 36), none⟩,
   ⟨some 38, .bin .sub false (.t 35) (.t 37), none⟩,
   ⟨some 7, .mov (.t 38), none⟩]) (.seq (.region false [⟨some 8, .mov (.c nil1), none⟩]) (.seq (.seq (.region false [⟨some 39, .mov (.t 7), none⟩,
   ⟨some 40, .fa 0 (.t 3), none⟩,
   ⟨some 41, .load (some 2) (.t 40), none⟩,
   ⟨some 42, .call F.dyadic_part_length [.t 41], none⟩,
   ⟨some 43, .bin .lss false (.t 39) (.t 42), none⟩]) (.cond (.t 43) (.region false [⟨some 44, .fa 0 (.t 3), none⟩,
   ⟨some 45, .fa 0 (.t 44), none⟩,
   ⟨some 46, .fa 1 (.t 45), none⟩,
   ⟨some 47, .load none (.t 46), none⟩,
   ⟨some 48, .mov (.t 7), none⟩,
   ⟨some 49, .call F.dyadic_shifted [.t 47, .t 48], none⟩,
   ⟨some 8, .mov (.t 49), none⟩]) .skip)) (.seq (.region false [⟨some 9, .mov (.c (bv false)), none⟩]) (.seq (.seq (.region false [⟨some 50, .mov (.t 2), none⟩]) (.block 0 (.seq (.region false [⟨some 57, .bin .eql false (.t 50) (.c (iv 2)), none⟩,
   ⟨some 56, .mov (.t 57), none⟩]) (.cond (.t 56) (.seq (.seq (.region false [⟨some 58, .fa 0 (.t 3), none⟩,
   ⟨some 59, .fa 0 (.t 58), none⟩,
   ⟨some 60, .fa 1 (.t 59), none⟩,
   ⟨some 61, .load none (.t 60), none⟩,
   ⟨some 62, .mov (.t 7), none⟩,
   ⟨some 63, .bin .sub false (.t 62) (.c (iv 1)), none⟩,
   ⟨some 64, .call F.nat_Bit [.t 61, .t 63], none⟩,
   ⟨some 65, .bin .eql false (.t 64) (.c (iv 1)), none⟩,
   ⟨some 66, .mov (.t 65), none⟩,
   ⟨some 67, .fa 0 (.t 3), some (66, true)⟩,
   ⟨some 68, .fa 0 (.t 67), some (66, true)⟩,
   ⟨some 69, .fa 1 (.t 68), some (66, true)⟩,
   ⟨some 70, .load none (.t 69), some (66, true)⟩,
   ⟨some 71, .call F.nat_Tail [.t 70], some (66, true)⟩,
   ⟨some 72, .mov (.t 7), some (66, true)⟩,
   ⟨some 73, .bin .sub false (.t 72) (.c (iv 1)), some (66, true)⟩,
   ⟨some 74, .bin .lss false (.t 71) (.t 73), some (66, true)⟩,
   ⟨some 75, .mov (.t 74), some (66, true)⟩,
   ⟨some 76, .mov (.t 8), some (75, false)⟩,
   ⟨some 77, .call F.nat_Bit [.t 76, .c (iv 0)], some (75, false)⟩,
   ⟨some 78, .bin .eql false (.t 77) (.c (iv 1)), some (75, false)⟩,
   ⟨some 79, .pick (.t 75) (.c (bv true)) (.t 78), some (66, true)⟩,
   ⟨some 80, .pick (.t 66) (.t 79) (.c (bv false)), none⟩,
   ⟨some 81, .un .not (.t 80), none⟩]) (.cond (.t 81) (.exit 0) .skip)) (.region false [⟨some 9, .mov (.c (bv true)), none⟩])) (.seq (.region false [⟨some 83, .bin .eql false (.t 50) (.c (iv 0)), none⟩,
   ⟨some 82, .mov (.t 83), none⟩]) (.cond (.t 82) (.region false [⟨some 84, .fa 0 (.t 3), none⟩,
   ⟨some 85, .fa 0 (.t 84), none⟩,
   ⟨some 86, .fa 0 (.t 85), none⟩,
   ⟨some 87, .load none (.t 86), none⟩,
   ⟨some 9, .mov (.t 87), none⟩]) (.region false [⟨some 51, .fa 0 (.t 3), none⟩,
   ⟨some 52, .fa 0 (.t 51), none⟩,
   ⟨some 53, .fa 0 (.t 52), none⟩,
   ⟨some 54, .load none (.t 53), none⟩,
   ⟨some 55, .un .not (.t 54), none⟩,
   ⟨some 9, .mov (.t 55), none⟩]))))))) (.seq (.seq (.region false [⟨some 88, .mov (.t 9), none⟩]) (.cond (.t 88) (.region false [⟨some 89, .mov (.t 8), none⟩,
   ⟨some 90, .call F.nat_From [.c (nv 1)], none⟩,
   ⟨some 91, .call F.dyadic_plus [.t 89, .t 90], none⟩,
   ⟨some 8, .mov (.t 91), none⟩]) .skip)) (.seq (.region false [⟨some 92, .fa 0 (.t 3), none⟩,
   ⟨some 93, .fa 0 (.t 92), none⟩,
   ⟨some 94, .fa 0 (.t 93), none⟩,
   ⟨some 95, .load none (.t 94), none⟩,
   ⟨some 96, .mov (.t 8), none⟩,
   ⟨some 97, .build [.bool false, .slice none 0 0] [(0, (1, .t 95)), (1, (1, .t 96))], none⟩,
   ⟨none, .store 2 (.t 6) (.t 97), none⟩]) .ret))))))))
def R.dyadic_steps : List VRes := [.cell 6 (some 2)]
theorem K.dyadic_steps : resCode Tryz.prog Tryz.f152.ntmps (Tryz.f152.body.getD .skip) = C.dyadic_steps := by kernel_rfl
theorem Q.dyadic_steps : resResults Tryz.prog Tryz.f152.results.toList = some R.dyadic_steps := by kernel_rfl
theorem E.dyadic_steps : Tryz.prog.funcs[F.dyadic_steps]? = some Tryz.f152 := Tryz.func152
theorem B.dyadic_steps : Tryz.f152.body = some (Tryz.f152.body.getD .skip) := by kernel_rfl
theorem N.dyadic_steps : Tryz.f152.ntmps = 98 := Tryz.ntmps152

def C.whole_result : VC :=
  .seq (.region false [⟨some 6, .alloc [.bool false, .slice none 0 0], none⟩,
   ⟨some 7, .mov (.c (iv 0)), none⟩]) (.seq (.seq (.region false [⟨some 8, .mov (.t 2), none⟩,
   ⟨some 9, .bin .neq false (.t 8) (.c (iv 0)), none⟩]) (.cond (.t 9) (.seq (.region false [⟨some 10, .build [.bool false, .slice none 0 0] [], none⟩,
   ⟨some 11, .mov (.t 2), none⟩,
   ⟨none, .store 2 (.t 6) (.t 10), none⟩,
   ⟨some 7, .mov (.t 11), none⟩]) .ret) .skip)) (.seq (.region false [⟨some 12, .mov (.t 0), none⟩,
   ⟨some 13, .mov (.t 1), none⟩,
   ⟨some 14, .build [.bool false, .slice none 0 0] [(0, (1, .t 12)), (1, (1, .t 13))], none⟩,
   ⟨some 15, .call F.whole_fits [.t 14], none⟩,
   ⟨some 16, .ext (.t 15) 0, none⟩,
   ⟨some 17, .ext (.t 15) 1, none⟩,
   ⟨none, .store 2 (.t 6) (.t 16), none⟩,
   ⟨some 7, .mov (.t 17), none⟩]) .ret))
def R.whole_result : List VRes := [.cell 6 (some 2), .tmp 7]
theorem K.whole_result : resCode Tryz.prog Tryz.f154.ntmps (Tryz.f154.body.getD .skip) = C.whole_result := by kernel_rfl
theorem Q.whole_result : resResults Tryz.prog Tryz.f154.results.toList = some R.whole_result := by kernel_rfl
theorem E.whole_result : Tryz.prog.funcs[F.whole_result]? = some Tryz.f154 := Tryz.func154
theorem B.whole_result : Tryz.f154.body = some (Tryz.f154.body.getD .skip) := by kernel_rfl
theorem N.whole_result : Tryz.f154.ntmps = 18 := Tryz.ntmps154

def C.dyadic_part_length : VC :=
  .seq (.region false [⟨some 1, .box (.t 0), none⟩,
   ⟨some 2, .mov (.c (iv 0)), none⟩]) (.seq (.region false [⟨some 3, .fa 0 (.t 1), none⟩,
   ⟨some 4, .fa 1 (.t 3), none⟩,
   ⟨some 5, .load none (.t 4), none⟩,
   ⟨some 6, .call F.nat_Length [.t 5], none⟩,
   ⟨some 2, .mov (.t 6), none⟩]) .ret)
def R.dyadic_part_length : List VRes := [.tmp 2]
theorem K.dyadic_part_length : resCode Tryz.prog Tryz.f155.ntmps (Tryz.f155.body.getD .skip) = C.dyadic_part_length := by kernel_rfl
theorem Q.dyadic_part_length : resResults Tryz.prog Tryz.f155.results.toList = some R.dyadic_part_length := by kernel_rfl
theorem E.dyadic_part_length : Tryz.prog.funcs[F.dyadic_part_length]? = some Tryz.f155 := Tryz.func155
theorem B.dyadic_part_length : Tryz.f155.body = some (Tryz.f155.body.getD .skip) := by kernel_rfl
theorem N.dyadic_part_length : Tryz.f155.ntmps = 7 := Tryz.ntmps155

def C.surdref01_Num_Limbs : VC :=
  .seq (.region false [⟨some 2, .mov (.c nil1), none⟩]) (.seq (.region false [⟨some 3, .mov (.c nil1), none⟩]) (.seq (.seq (.region false [⟨some 4, .mov (.c (iv 0)), none⟩]) (.block 0 (.loop (.seq (.seq (.region false [⟨some 6, .mov (.t 4), none⟩,
   ⟨some 7, .mov (.t 0), none⟩,
   ⟨some 8, .len (.t 7), none⟩,
   ⟨some 9, .bin .lss false (.t 6) (.t 8), none⟩]) (.cond (.t 9) .skip (.exit 0))) (.seq (.block 1 (.seq (.region false [⟨some 12, .mov (.t 0), none⟩,
   ⟨some 13, .mov (.t 4), none⟩,
   ⟨some 14, .ixa 1 (.t 12) (.t 13), none⟩,
   ⟨some 15, .load none (.t 14), none⟩,
   ⟨some 5, .mov (.t 15), none⟩]) (.seq (.seq (.region false [⟨some 16, .mov (.t 4), none⟩,
   ⟨some 17, .bin .add false (.t 16) (.c (iv 1)), none⟩,
   ⟨some 18, .mov (.t 0), none⟩,
   ⟨some 19, .len (.t 18), none⟩,
   ⟨some 20, .bin .lss false (.t 17) (.t 19), none⟩]) (.cond (.t 20) (.region false [⟨some 21, .mov (.t 5), none⟩,
   ⟨some 22, .mov (.t 0), none⟩,
   ⟨some 23, .mov (.t 4), none⟩,
   ⟨some 24, .bin .add false (.t 23) (.c (iv 1)), none⟩,
   ⟨some 25, .ixa 1 (.t 22) (.t 24), none⟩,
   ⟨some 26, .load none (.t 25), none⟩,
   ⟨some 27, .bin .mul false (.t 26) (.c (nv 4294967296)), none⟩,
   ⟨some 28, .bin .add false (.t 21) (.t 27), none⟩,
   ⟨some 5, .mov (.t 28), none⟩]) .skip)) (.region false [⟨some 29, .mov (.t 3), none⟩,
   ⟨some 30, .mov (.t 5), none⟩,
   ⟨some 31, .bsl true 1 1 [.int .u64 0] [(0, (1, .t 30))], none⟩,
   ⟨some 32, .app 1 8 [.int .u64 0] (.t 29) (.t 31), none⟩,
   ⟨some 3, .mov (.t 32), none⟩])))) (.region false [⟨some 10, .mov (.t 4), none⟩,
   ⟨some 11, .bin .add false (.t 10) (.c (iv 2)), none⟩,
   ⟨some 4, .mov (.t 11), none⟩])))))) (.seq (.region false [⟨some 33, .mov (.t 3), none⟩,
   ⟨some 2, .mov (.t 33), none⟩]) .ret)))
def R.surdref01_Num_Limbs : List VRes := [.tmp 2]
theorem K.surdref01_Num_Limbs : resCode Tryz.prog Tryz.f159.ntmps (Tryz.f159.body.getD .skip) = C.surdref01_Num_Limbs := by kernel_rfl
theorem Q.surdref01_Num_Limbs : resResults Tryz.prog Tryz.f159.results.toList = some R.surdref01_Num_Limbs := by kernel_rfl
theorem E.surdref01_Num_Limbs : Tryz.prog.funcs[F.surdref01_Num_Limbs]? = some Tryz.f159 := Tryz.func159
theorem B.surdref01_Num_Limbs : Tryz.f159.body = some (Tryz.f159.body.getD .skip) := by kernel_rfl
theorem N.surdref01_Num_Limbs : Tryz.f159.ntmps = 34 := Tryz.ntmps159

def C.nat_Left : VC :=
  .seq (.region false [⟨some 4, .mov (.c nil1), none⟩,
   ⟨some 5, .mov (.c (iv 0)), none⟩]) (.seq (.seq (.region false [⟨some 11, .mov (.t 1), none⟩,
   ⟨some 12, .bin .lss false (.t 11) (.c (iv 0)), none⟩,
   ⟨some 13, .mov (.t 12), none⟩,
   ⟨some 14, .mov (.t 1), some (13, false)⟩,
   ⟨some 15, .bin .gtr false (.t 14) (.c (iv 1099511627776)), some (13, false)⟩,
   ⟨some 16, .pick (.t 13) (.c (bv true)) (.t 15), none⟩]) (.cond (.t 16) (.seq (.region false [⟨some 4, .mov (.c nil1), none⟩,
   ⟨some 5, .mov (.c (iv 1)), none⟩]) .ret) .skip)) (.seq (.region false [⟨some 17, .mov (.t 0), none⟩,
   ⟨some 18, .call F.nat_trim [.t 17], none⟩,
   ⟨some 0, .mov (.t 18), none⟩]) (.seq (.seq (.region false [⟨some 19, .mov (.t 0), none⟩,
   ⟨some 20, .len (.t 19), none⟩,
   ⟨some 21, .bin .eql false (.t 20) (.c (iv 0)), none⟩]) (.cond (.t 21) (.seq (.region false [⟨some 4, .mov (.c nil1), none⟩,
   ⟨some 5, .mov (.c (iv 0)), none⟩]) .ret) .skip)) (.seq (.seq (.region false [⟨some 22, .mov (.t 0), none⟩,
   ⟨some 23, .call F.nat_Length [.t 22], none⟩,
   ⟨some 24, .mov (.t 1), none⟩,
   ⟨some 25, .bin .add false (.t 23) (.t 24), none⟩,
   ⟨some 26, .bin .gtr false (.t 25) (.c (iv 67108864)), none⟩]) (.cond (.t 26) (.seq (.region false [⟨some 4, .mov (.c nil1), none⟩,
   ⟨some 5, .mov (.c (iv 3)), none⟩]) .ret) .skip)) (.seq (.region false [⟨some 27, .mov (.t 1), none⟩,
   ⟨some 28, .bin .quo false (.t 27) (.c (iv 64)), none⟩,
   ⟨some 29, .mov (.t 1), none⟩,
   ⟨some 30, .bin .rem false (.t 29) (.c (iv 64)), none⟩,
   ⟨some 31, .conv .u64 (.t 30), none⟩,
   ⟨some 6, .mov (.t 28), none⟩,
   ⟨some 7, .mov (.t 31), none⟩]) (.seq (.region false [⟨some 32, .mov (.t 6), none⟩,
   ⟨some 33, .mov (.t 0), none⟩,
   ⟨some 34, .len (.t 33), none⟩,
   ⟨some 35, .bin .add false (.t 32) (.t 34), none⟩,
   ⟨some 36, .bin .add false (.t 35) (.c (iv 1)), none⟩,
   ⟨some 37, .mk [.int .u64 0] 8 (.t 36) (.t 36), none⟩,
   ⟨some 8, .mov (.t 37), none⟩]) (.seq (.seq (.region false [⟨some 38, .mov (.t 0), none⟩,
   ⟨some 39, .len (.t 38), none⟩,
   ⟨some 40, .mov (.c (iv 0)), none⟩]) (.block 0 (.loop (.seq (.region false [⟨some 41, .bin .lss false (.t 40) (.t 39), none⟩]) (.seq (.cond (.t 41) .skip (.exit 0)) (.seq (.block 1 (.seq (.region false [⟨some 42, .mov (.t 40), none⟩,
   ⟨some 43, .ixa 1 (.t 38) (.t 40), none⟩,
   ⟨some 44, .load none (.t 43), none⟩,
   ⟨some 9, .mov (.t 42), none⟩,
   ⟨some 10, .mov (.t 44), none⟩]) (.seq (.region false [⟨some 45, .mov (.t 8), none⟩,
   ⟨some 46, .mov (.t 6), none⟩,
   ⟨some 47, .mov (.t 9), none⟩,
   ⟨some 48, .bin .add false (.t 46) (.t 47), none⟩,
   ⟨some 49, .ixa 1 (.t 45) (.t 48), none⟩,
   ⟨some 50, .load none (.t 49), none⟩,
   ⟨some 51, .mov (.t 10), none⟩,
   ⟨some 52, .mov (.t 7), none⟩,
   ⟨some 53, .bin .shl false (.t 51) (.t 52), none⟩,
   ⟨some 54, .bin .or false (.t 50) (.t 53), none⟩,
   ⟨some 55, .ixa 1 (.t 45) (.t 48), none⟩,
   ⟨none, .store 1 (.t 55) (.t 54), none⟩]) (.region false [⟨some 56, .mov (.t 8), none⟩,
   ⟨some 57, .mov (.t 6), none⟩,
   ⟨some 58, .mov (.t 9), none⟩,
   ⟨some 59, .bin .add false (.t 57) (.t 58), none⟩,
   ⟨some 60, .bin .add false (.t 59) (.c (iv 1)), none⟩,
   ⟨some 61, .ixa 1 (.t 56) (.t 60), none⟩,
   ⟨some 62, .load none (.t 61), none⟩,
   ⟨some 63, .mov (.t 10), none⟩,
   ⟨some 64, .bin .shr false (.t 63) (.c (nv 1)), none⟩,
   ⟨some 65, .mov (.t 7), none⟩,
   ⟨some 66, .bin .sub false (.c (nv 63)) (.t 65), none⟩,
   ⟨some 67, .bin .shr false (.t 64) (.t 66), none⟩,
   ⟨some 68, .bin .or false (.t 62) (.t 67), none⟩,
   ⟨some 69, .ixa 1 (.t 56) (.t 60), none⟩,
   ⟨none, .store 1 (.t 69) (.t 68), none⟩])))) (.region false [⟨some 70, .bin .add false (.t 40) (.c (iv 1)), none⟩,
   ⟨some 40, .mov (.t 70), none⟩]))))))) (.seq (.region false [⟨some 71, .mov (.t 8), none⟩,
   ⟨some 72, .call F.nat_trim [.t 71], none⟩,
   ⟨some 4, .mov (.t 72), none⟩,
   ⟨some 5, .mov (.c (iv 0)), none⟩]) .ret))))))))
def R.nat_Left : List VRes := [.tmp 4, .tmp 5]
theorem K.nat_Left : resCode Tryz.prog Tryz.f160.ntmps (Tryz.f160.body.getD .skip) = C.nat_Left := by kernel_rfl
theorem Q.nat_Left : resResults Tryz.prog Tryz.f160.results.toList = some R.nat_Left := by kernel_rfl
theorem E.nat_Left : Tryz.prog.funcs[F.nat_Left]? = some Tryz.f160 := Tryz.func160
theorem B.nat_Left : Tryz.f160.body = some (Tryz.f160.body.getD .skip) := by kernel_rfl
theorem N.nat_Left : Tryz.f160.ntmps = 73 := Tryz.ntmps160

def C.nat_Norm : VC :=
  .seq (.region false [⟨some 2, .mov (.c nil1), none⟩]) (.seq (.region false [⟨some 3, .mov (.t 0), none⟩,
   ⟨some 4, .call F.nat_trim [.t 3], none⟩,
   ⟨some 5, .app 1 8 [.int .u64 0] (.c nil1) (.t 4), none⟩,
   ⟨some 2, .mov (.t 5), none⟩]) .ret)
def R.nat_Norm : List VRes := [.tmp 2]
theorem K.nat_Norm : resCode Tryz.prog Tryz.f161.ntmps (Tryz.f161.body.getD .skip) = C.nat_Norm := by kernel_rfl
theorem Q.nat_Norm : resResults Tryz.prog Tryz.f161.results.toList = some R.nat_Norm := by kernel_rfl
theorem E.nat_Norm : Tryz.prog.funcs[F.nat_Norm]? = some Tryz.f161 := Tryz.func161
theorem B.nat_Norm : Tryz.f161.body = some (Tryz.f161.body.getD .skip) := by kernel_rfl
theorem N.nat_Norm : Tryz.f161.ntmps = 6 := Tryz.ntmps161

def C.nat_trim : VC :=
  .seq (.region false [⟨some 2, .mov (.c nil1), none⟩]) (.seq (.block 0 (.loop (.seq (.seq (.region false [⟨some 3, .mov (.t 0), none⟩,
   ⟨some 4, .len (.t 3), none⟩,
   ⟨some 5, .bin .gtr false (.t 4) (.c (iv 0)), none⟩,
   ⟨some 6, .mov (.t 5), none⟩,
   ⟨some 7, .mov (.t 0), some (6, true)⟩,
   ⟨some 8, .mov (.t 0), some (6, true)⟩,
   ⟨some 9, .len (.t 8), some (6, true)⟩,
   ⟨some 10, .bin .sub false (.t 9) (.c (iv 1)), some (6, true)⟩,
   ⟨some 11, .ixa 1 (.t 7) (.t 10), some (6, true)⟩,
   ⟨some 12, .load none (.t 11), some (6, true)⟩,
   ⟨some 13, .bin .eql false (.t 12) (.c (nv 0)), some (6, true)⟩,
   ⟨some 14, .pick (.t 6) (.t 13) (.c (bv false)), none⟩]) (.cond (.t 14) .skip (.exit 0))) (.block 1 (.region false [⟨some 15, .mov (.t 0), none⟩,
   ⟨some 16, .mov (.t 0), none⟩,
   ⟨some 17, .len (.t 16), none⟩,
   ⟨some 18, .bin .sub false (.t 17) (.c (iv 1)), none⟩,
   ⟨some 19, .slc 1 (.t 15) none (some (.t 18)) none, none⟩,
   ⟨some 0, .mov (.t 19), none⟩]))))) (.seq (.region false [⟨some 20, .mov (.t 0), none⟩,
   ⟨some 2, .mov (.t 20), none⟩]) .ret))
def R.nat_trim : List VRes := [.tmp 2]
theorem K.nat_trim : resCode Tryz.prog Tryz.f162.ntmps (Tryz.f162.body.getD .skip) = C.nat_trim := by kernel_rfl
theorem Q.nat_trim : resResults Tryz.prog Tryz.f162.results.toList = some R.nat_trim := by kernel_rfl
theorem E.nat_trim : Tryz.prog.funcs[F.nat_trim]? = some Tryz.f162 := Tryz.func162
theorem B.nat_trim : Tryz.f162.body = some (Tryz.f162.body.getD .skip) := by kernel_rfl
theorem N.nat_trim : Tryz.f162.ntmps = 21 := Tryz.ntmps162

def C.bits_Len64 : VC :=
  .seq (.region false [⟨some 2, .mov (.c (iv 0)), none⟩]) (.seq (.seq (.region false [⟨some 3, .mov (.t 0), none⟩,
   ⟨some 4, .bin .geq false (.t 3) (.c (nv 4294967296)), none⟩]) (.cond (.t 4) (.seq (.region false [⟨some 5, .mov (.t 0), none⟩,
   ⟨some 6, .bin .shr false (.t 5) (.c (nv 32)), none⟩,
   ⟨some 0, .mov (.t 6), none⟩]) (.region false [⟨some 2, .mov (.c (iv 32)), none⟩])) .skip)) (.seq (.seq (.region false [⟨some 7, .mov (.t 0), none⟩,
   ⟨some 8, .bin .geq false (.t 7) (.c (nv 65536)), none⟩]) (.cond (.t 8) (.seq (.region false [⟨some 9, .mov (.t 0), none⟩,
   ⟨some 10, .bin .shr false (.t 9) (.c (nv 16)), none⟩,
   ⟨some 0, .mov (.t 10), none⟩]) (.region false [⟨some 11, .mov (.t 2), none⟩,
   ⟨some 12, .bin .add false (.t 11) (.c (iv 16)), none⟩,
   ⟨some 2, .mov (.t 12), none⟩])) .skip)) (.seq (.seq (.region false [⟨some 13, .mov (.t 0), none⟩,
   ⟨some 14, .bin .geq false (.t 13) (.c (nv 256)), none⟩]) (.cond (.t 14) (.seq (.region false [⟨some 15, .mov (.t 0), none⟩,
   ⟨some 16, .bin .shr false (.t 15) (.c (nv 8)), none⟩,
   ⟨some 0, .mov (.t 16), none⟩]) (.region false [⟨some 17, .mov (.t 2), none⟩,
   ⟨some 18, .bin .add false (.t 17) (.c (iv 8)), none⟩,
   ⟨some 2, .mov (.t 18), none⟩])) .skip)) (.seq (.region false [⟨some 19, .mov (.t 2), none⟩,
   ⟨some 20, .mov (.t 0), none⟩,
   ⟨some 21, .conv .u8 (.t 20), none⟩,
   ⟨some 22, .six (.c (.lit (.string ⟨#[0, 1, 2, 2, 3, 3, 3, 3, 4, 4, 4, 4, 4, 4, 4, 4, 5, 5, 5, 5, 5, 5, 5, 5, 5, 5, 5, 5, 5, 5, 5, 5, 6, 6, 6, 6, 6, 6, 6, 6, 6, 6, 6, 6, 6, 6, 6, 6, 6, 6, 6, 6, 6, 6, 6, 6, 6, 6, 6, 6, 6, 6, 6, 6, 7, 7, 7, 7, 7, 7, 7, 7, 7, 7, 7, 7, 7, 7, 7, 7, 7, 7, 7, 7, 7, 7, 7, 7, 7, 7, 7, 7, 7, 7, 7, 7, 7, 7, 7, 7, 7, 7, 7, 7, 7, 7, 7, 7, 7, 7, 7, 7, 7, 7, 7, 7, 7, 7, 7, 7, 7, 7, 7, 7, 7, 7, 7, 7, 8, 8, 8, 8, 8, 8, 8, 8, 8, 8, 8, 8, 8, 8, 8, 8, 8, 8, 8, 8, 8, 8, 8, 8, 8, 8, 8, 8, 8, 8, 8, 8, 8, 8, 8, 8, 8, 8, 8, 8, 8, 8, 8, 8, 8, 8, 8, 8, 8, 8, 8, 8, 8, 8, 8, 8, 8, 8, 8, 8, 8, 8, 8, 8, 8, 8, 8, 8, 8, 8, 8, 8, 8, 8, 8, 8, 8, 8, 8, 8, 8, 8, 8, 8, 8, 8, 8, 8, 8, 8, 8, 8, 8, 8, 8, 8, 8, 8, 8, 8, 8, 8, 8, 8, 8, 8, 8, 8, 8, 8, 8, 8, 8, 8, 8, 8, 8, 8, 8, 8, 8, 8, 8, 8, 8, 8, 8, 8]⟩))) (.t 21), none⟩,
   ⟨some 23, .conv .i64 (.t 22), none⟩,
   ⟨some 24, .bin .add false (.t 19) (.t 23), none⟩,
   ⟨some 2, .mov (.t 24), none⟩]) .ret))))
def R.bits_Len64 : List VRes := [.tmp 2]
theorem K.bits_Len64 : resCode Tryz.prog Tryz.f163.ntmps (Tryz.f163.body.getD .skip) = C.bits_Len64 := by kernel_rfl
theorem Q.bits_Len64 : resResults Tryz.prog Tryz.f163.results.toList = some R.bits_Len64 := by kernel_rfl
theorem E.bits_Len64 : Tryz.prog.funcs[F.bits_Len64]? = some Tryz.f163 := Tryz.func163
theorem B.bits_Len64 : Tryz.f163.body = some (Tryz.f163.body.getD .skip) := by kernel_rfl
theorem N.bits_Len64 : Tryz.f163.ntmps = 25 := Tryz.ntmps163

def C.whole_fits : VC :=
  .seq (.region false [⟨some 1, .box (.t 0), none⟩,
   ⟨some 2, .alloc [.bool false, .slice none 0 0], none⟩,
   ⟨some 3, .mov (.c (iv 0)), none⟩]) (.seq (.seq (.region false [⟨some 4, .fa 1 (.t 1), none⟩,
   ⟨some 5, .load none (.t 4), none⟩,
   ⟨some 6, .call F.nat_Length [.t 5], none⟩,
   ⟨some 7, .bin .gtr false (.t 6) (.c (iv 67108864)), none⟩]) (.cond (.t 7) (.seq (.region false [⟨some 8, .build [.bool false, .slice none 0 0] [], none⟩,
   ⟨none, .store 2 (.t 2) (.t 8), none⟩,
   ⟨some 3, .mov (.c (iv 3)), none⟩]) .ret) .skip)) (.seq (.region false [⟨some 9, .load (some 2) (.t 1), none⟩,
   ⟨some 10, .call F.whole_norm [.t 9], none⟩,
   ⟨none, .store 2 (.t 2) (.t 10), none⟩,
   ⟨some 3, .mov (.c (iv 0)), none⟩]) .ret))
def R.whole_fits : List VRes := [.cell 2 (some 2), .tmp 3]
theorem K.whole_fits : resCode Tryz.prog Tryz.f164.ntmps (Tryz.f164.body.getD .skip) = C.whole_fits := by kernel_rfl
theorem Q.whole_fits : resResults Tryz.prog Tryz.f164.results.toList = some R.whole_fits := by kernel_rfl
theorem E.whole_fits : Tryz.prog.funcs[F.whole_fits]? = some Tryz.f164 := Tryz.func164
theorem B.whole_fits : Tryz.f164.body = some (Tryz.f164.body.getD .skip) := by kernel_rfl
theorem N.whole_fits : Tryz.f164.ntmps = 11 := Tryz.ntmps164

def C.dyadic_minus : VC :=
  .seq (.region false [⟨some 4, .mov (.c nil1), none⟩]) (.seq (.region false [⟨some 11, .mov (.t 0), none⟩,
   ⟨some 12, .len (.t 11), none⟩,
   ⟨some 13, .mk [.int .u64 0] 8 (.t 12) (.t 12), none⟩,
   ⟨some 5, .mov (.t 13), none⟩]) (.seq (.region false [⟨some 6, .mov (.c (nv 0)), none⟩]) (.seq (.seq (.region false [⟨some 14, .mov (.t 5), none⟩,
   ⟨some 15, .len (.t 14), none⟩,
   ⟨some 16, .mov (.c (iv 0)), none⟩]) (.block 0 (.loop (.seq (.region false [⟨some 17, .bin .lss false (.t 16) (.t 15), none⟩]) (.seq (.cond (.t 17) .skip (.exit 0)) (.seq (.block 1 (.seq (.region false [⟨some 18, .mov (.t 16), none⟩,
   ⟨some 7, .mov (.t 18), none⟩]) (.seq (.region false [⟨some 19, .mov (.t 0), none⟩,
   ⟨some 20, .mov (.t 7), none⟩,
   ⟨some 21, .call F.dyadic_limb [.t 19, .t 20], none⟩,
   ⟨some 22, .mov (.t 1), none⟩,
   ⟨some 23, .mov (.t 7), none⟩,
   ⟨some 24, .call F.dyadic_limb [.t 22, .t 23], none⟩,
   ⟨some 8, .mov (.t 21), none⟩,
   ⟨some 9, .mov (.t 24), none⟩]) (.seq (.region false [⟨some 25, .mov (.t 8), none⟩,
   ⟨some 26, .mov (.t 9), none⟩,
   ⟨some 27, .bin .sub false (.t 25) (.t 26), none⟩,
   ⟨some 28, .mov (.t 6), none⟩,
   ⟨some 29, .bin .sub false (.t 27) (.t 28), none⟩,
   ⟨some 10, .mov (.t 29), none⟩]) (.seq (.seq (.region false [⟨some 30, .mov (.t 8), none⟩,
   ⟨some 31, .mov (.t 9), none⟩,
   ⟨some 32, .bin .lss false (.t 30) (.t 31), none⟩,
   ⟨some 33, .mov (.t 32), none⟩,
   ⟨some 34, .mov (.t 8), some (33, false)⟩,
   ⟨some 35, .mov (.t 9), some (33, false)⟩,
   ⟨some 36, .bin .eql false (.t 34) (.t 35), some (33, false)⟩,
   ⟨some 37, .mov (.t 36), some (33, false)⟩,
   ⟨some 38, .mov (.t 6), some (37, true)⟩,
   ⟨some 39, .bin .eql false (.t 38) (.c (nv 1)), some (37, true)⟩,
   ⟨some 40, .pick (.t 37) (.t 39) (.c (bv false)), some (33, false)⟩,
   ⟨some 41, .pick (.t 33) (.c (bv true)) (.t 40), none⟩]) (.cond (.t 41) (.region false [⟨some 6, .mov (.c (nv 1)), none⟩]) (.region false [⟨some 6, .mov (.c (nv 0)), none⟩]))) (.region false [⟨some 42, .mov (.t 5), none⟩,
   ⟨some 43, .mov (.t 7), none⟩,
   ⟨some 44, .mov (.t 10), none⟩,
   ⟨some 45, .ixa 1 (.t 42) (.t 43), none⟩,
   ⟨none, .store 1 (.t 45) (.t 44), none⟩])))))) (.region false [⟨some 46, .bin .add false (.t 16) (.c (iv 1)), none⟩,
   ⟨some 16, .mov (.t 46), none⟩]))))))) (.seq (.region false [⟨some 47, .mov (.t 5), none⟩,
   ⟨some 48, .call F.nat_Norm [.t 47], none⟩,
   ⟨some 4, .mov (.t 48), none⟩]) .ret))))
def R.dyadic_minus : List VRes := [.tmp 4]
theorem K.dyadic_minus : resCode Tryz.prog Tryz.f165.ntmps (Tryz.f165.body.getD .skip) = C.dyadic_minus := by kernel_rfl
theorem Q.dyadic_minus : resResults Tryz.prog Tryz.f165.results.toList = some R.dyadic_minus := by kernel_rfl
theorem E.dyadic_minus : Tryz.prog.funcs[F.dyadic_minus]? = some Tryz.f165 := Tryz.func165
theorem B.dyadic_minus : Tryz.f165.body = some (Tryz.f165.body.getD .skip) := by kernel_rfl
theorem N.dyadic_minus : Tryz.f165.ntmps = 49 := Tryz.ntmps165

def C.dyadic_plus : VC :=
  .seq (.region false [⟨some 4, .mov (.c nil1), none⟩]) (.seq (.region false [⟨some 12, .mov (.t 0), none⟩,
   ⟨some 13, .len (.t 12), none⟩,
   ⟨some 14, .mov (.t 1), none⟩,
   ⟨some 15, .len (.t 14), none⟩,
   ⟨some 16, .mm true (.t 13) (.t 15), none⟩,
   ⟨some 17, .bin .add false (.t 16) (.c (iv 1)), none⟩,
   ⟨some 18, .mk [.int .u64 0] 8 (.t 17) (.t 17), none⟩,
   ⟨some 5, .mov (.t 18), none⟩]) (.seq (.region false [⟨some 6, .mov (.c (nv 0)), none⟩]) (.seq (.seq (.region false [⟨some 19, .mov (.t 5), none⟩,
   ⟨some 20, .len (.t 19), none⟩,
   ⟨some 21, .mov (.c (iv 0)), none⟩]) (.block 0 (.loop (.seq (.region false [⟨some 22, .bin .lss false (.t 21) (.t 20), none⟩]) (.seq (.cond (.t 22) .skip (.exit 0)) (.seq (.block 1 (.seq (.region false [⟨some 23, .mov (.t 21), none⟩,
   ⟨some 7, .mov (.t 23), none⟩]) (.seq (.region false [⟨some 24, .mov (.t 0), none⟩,
   ⟨some 25, .mov (.t 7), none⟩,
   ⟨some 26, .call F.dyadic_limb [.t 24, .t 25], none⟩,
   ⟨some 27, .mov (.t 1), none⟩,
   ⟨some 28, .mov (.t 7), none⟩,
   ⟨some 29, .call F.dyadic_limb [.t 27, .t 28], none⟩,
   ⟨some 8, .mov (.t 26), none⟩,
   ⟨some 9, .mov (.t 29), none⟩]) (.seq (.region false [⟨some 30, .mov (.t 8), none⟩,
   ⟨some 31, .mov (.t 9), none⟩,
   ⟨some 32, .bin .add false (.t 30) (.t 31), none⟩,
   ⟨some 10, .mov (.t 32), none⟩]) (.seq (.region false [⟨some 33, .mov (.t 10), none⟩,
   ⟨some 34, .mov (.t 6), none⟩,
   ⟨some 35, .bin .add false (.t 33) (.t 34), none⟩,
   ⟨some 11, .mov (.t 35), none⟩]) (.seq (.region false [⟨some 6, .mov (.c (nv 0)), none⟩]) (.seq (.seq (.region false [⟨some 36, .mov (.t 10), none⟩,
   ⟨some 37, .mov (.t 8), none⟩,
   ⟨some 38, .bin .lss false (.t 36) (.t 37), none⟩,
   ⟨some 39, .mov (.t 38), none⟩,
   ⟨some 40, .mov (.t 11), some (39, false)⟩,
   ⟨some 41, .mov (.t 10), some (39, false)⟩,
   ⟨some 42, .bin .lss false (.t 40) (.t 41), some (39, false)⟩,
   ⟨some 43, .pick (.t 39) (.c (bv true)) (.t 42), none⟩]) (.cond (.t 43) (.region false [⟨some 6, .mov (.c (nv 1)), none⟩]) .skip)) (.region false [⟨some 44, .mov (.t 5), none⟩,
   ⟨some 45, .mov (.t 7), none⟩,
   ⟨some 46, .mov (.t 11), none⟩,
   ⟨some 47, .ixa 1 (.t 44) (.t 45), none⟩,
   ⟨none, .store 1 (.t 47) (.t 46), none⟩])))))))) (.region false [⟨some 48, .bin .add false (.t 21) (.c (iv 1)), none⟩,
   ⟨some 21, .mov (.t 48), none⟩]))))))) (.seq (.region false [⟨some 49, .mov (.t 5), none⟩,
   ⟨some 50, .call F.nat_Norm [.t 49], none⟩,
   ⟨some 4, .mov (.t 50), none⟩]) .ret))))
def R.dyadic_plus : List VRes := [.tmp 4]
theorem K.dyadic_plus : resCode Tryz.prog Tryz.f166.ntmps (Tryz.f166.body.getD .skip) = C.dyadic_plus := by kernel_rfl
theorem Q.dyadic_plus : resResults Tryz.prog Tryz.f166.results.toList = some R.dyadic_plus := by kernel_rfl
theorem E.dyadic_plus : Tryz.prog.funcs[F.dyadic_plus]? = some Tryz.f166 := Tryz.func166
theorem B.dyadic_plus : Tryz.f166.body = some (Tryz.f166.body.getD .skip) := by kernel_rfl
theorem N.dyadic_plus : Tryz.f166.ntmps = 51 := Tryz.ntmps166

def C.whole_norm : VC :=
  .seq (.region false [⟨some 1, .box (.t 0), none⟩,
   ⟨some 2, .alloc [.bool false, .slice none 0 0], none⟩]) (.seq (.region false [⟨some 4, .fa 1 (.t 1), none⟩,
   ⟨some 5, .load none (.t 4), none⟩,
   ⟨some 6, .call F.nat_Norm [.t 5], none⟩,
   ⟨some 3, .mov (.t 6), none⟩]) (.seq (.region false [⟨some 7, .fa 0 (.t 1), none⟩,
   ⟨some 8, .load none (.t 7), none⟩,
   ⟨some 9, .mov (.t 8), none⟩,
   ⟨some 10, .mov (.t 3), some (9, true)⟩,
   ⟨some 11, .len (.t 10), some (9, true)⟩,
   ⟨some 12, .bin .gtr false (.t 11) (.c (iv 0)), some (9, true)⟩,
   ⟨some 13, .pick (.t 9) (.t 12) (.c (bv false)), none⟩,
   ⟨some 14, .mov (.t 3), none⟩,
   ⟨some 15, .build [.bool false, .slice none 0 0] [(0, (1, .t 13)), (1, (1, .t 14))], none⟩,
   ⟨none, .store 2 (.t 2) (.t 15), none⟩]) .ret))
def R.whole_norm : List VRes := [.cell 2 (some 2)]
theorem K.whole_norm : resCode Tryz.prog Tryz.f167.ntmps (Tryz.f167.body.getD .skip) = C.whole_norm := by kernel_rfl
theorem Q.whole_norm : resResults Tryz.prog Tryz.f167.results.toList = some R.whole_norm := by kernel_rfl
theorem E.whole_norm : Tryz.prog.funcs[F.whole_norm]? = some Tryz.f167 := Tryz.func167
theorem B.whole_norm : Tryz.f167.body = some (Tryz.f167.body.getD .skip) := by kernel_rfl
theorem N.whole_norm : Tryz.f167.ntmps = 16 := Tryz.ntmps167

def C.nat_Add : VC :=
  .seq (.region false [⟨some 4, .mov (.c nil1), none⟩,
   ⟨some 5, .mov (.c (iv 0)), none⟩]) (.seq (.region false [⟨some 10, .mov (.t 0), none⟩,
   ⟨some 11, .call F.nat_trim [.t 10], none⟩,
   ⟨some 12, .mov (.t 1), none⟩,
   ⟨some 13, .call F.nat_trim [.t 12], none⟩,
   ⟨some 0, .mov (.t 11), none⟩,
   ⟨some 1, .mov (.t 13), none⟩]) (.seq (.seq (.region false [⟨some 14, .mov (.t 0), none⟩,
   ⟨some 15, .len (.t 14), none⟩,
   ⟨some 16, .mov (.t 1), none⟩,
   ⟨some 17, .len (.t 16), none⟩,
   ⟨some 18, .bin .lss false (.t 15) (.t 17), none⟩]) (.cond (.t 18) (.region false [⟨some 19, .mov (.t 1), none⟩,
   ⟨some 20, .mov (.t 0), none⟩,
   ⟨some 0, .mov (.t 19), none⟩,
   ⟨some 1, .mov (.t 20), none⟩]) .skip)) (.seq (.region false [⟨some 21, .mov (.t 0), none⟩,
   ⟨some 22, .len (.t 21), none⟩,
   ⟨some 23, .bin .add false (.t 22) (.c (iv 1)), none⟩,
   ⟨some 24, .mk [.int .u64 0] 8 (.t 23) (.t 23), none⟩,
   ⟨some 6, .mov (.t 24), none⟩]) (.seq (.region false [⟨some 7, .mov (.c (nv 0)), none⟩]) (.seq (.seq (.region false [⟨some 25, .mov (.t 0), none⟩,
   ⟨some 26, .len (.t 25), none⟩,
   ⟨some 27, .mov (.c (iv 0)), none⟩]) (.block 0 (.loop (.seq (.region false [⟨some 28, .bin .lss false (.t 27) (.t 26), none⟩]) (.seq (.cond (.t 28) .skip (.exit 0)) (.seq (.block 1 (.seq (.region false [⟨some 29, .mov (.t 27), none⟩,
   ⟨some 8, .mov (.t 29), none⟩]) (.seq (.region false [⟨some 9, .mov (.c (nv 0)), none⟩]) (.seq (.seq (.region false [⟨some 30, .mov (.t 8), none⟩,
   ⟨some 31, .mov (.t 1), none⟩,
   ⟨some 32, .len (.t 31), none⟩,
   ⟨some 33, .bin .lss false (.t 30) (.t 32), none⟩]) (.cond (.t 33) (.region false [⟨some 34, .mov (.t 1), none⟩,
   ⟨some 35, .mov (.t 8), none⟩,
   ⟨some 36, .ixa 1 (.t 34) (.t 35), none⟩,
   ⟨some 37, .load none (.t 36), none⟩,
   ⟨some 9, .mov (.t 37), none⟩]) .skip)) (.region false [⟨some 39, .mov (.t 6), none⟩,
   ⟨some 40, .mov (.t 8), none⟩,
   ⟨some 41, .mov (.t 0), none⟩,
   ⟨some 42, .mov (.t 8), none⟩,
   ⟨some 43, .ixa 1 (.t 41) (.t 42), none⟩,
   ⟨some 44, .load none (.t 43), none⟩,
   ⟨some 45, .mov (.t 9), none⟩,
   ⟨some 46, .mov (.t 7), none⟩,
   ⟨some 47, .ext64 false (.t 44) (.t 45) (.t 46), none⟩,
   ⟨some 38, .mov (.t 47), none⟩,
   ⟨some 48, .ext (.t 38) 0, none⟩,
   ⟨some 49, .ext (.t 38) 1, none⟩,
   ⟨some 50, .ixa 1 (.t 39) (.t 40), none⟩,
   ⟨none, .store 1 (.t 50) (.t 48), none⟩,
   ⟨some 7, .mov (.t 49), none⟩]))))) (.region false [⟨some 51, .bin .add false (.t 27) (.c (iv 1)), none⟩,
   ⟨some 27, .mov (.t 51), none⟩]))))))) (.seq (.region false [⟨some 52, .mov (.t 6), none⟩,
   ⟨some 53, .mov (.t 0), none⟩,
   ⟨some 54, .len (.t 53), none⟩,
   ⟨some 55, .mov (.t 7), none⟩,
   ⟨some 56, .ixa 1 (.t 52) (.t 54), none⟩,
   ⟨none, .store 1 (.t 56) (.t 55), none⟩]) (.seq (.region false [⟨some 57, .mov (.t 6), none⟩,
   ⟨some 58, .call F.nat_told [.t 57], none⟩,
   ⟨some 59, .ext (.t 58) 0, none⟩,
   ⟨some 60, .ext (.t 58) 1, none⟩,
   ⟨some 4, .mov (.t 59), none⟩,
   ⟨some 5, .mov (.t 60), none⟩]) .ret)))))))
def R.nat_Add : List VRes := [.tmp 4, .tmp 5]
theorem K.nat_Add : resCode Tryz.prog Tryz.f168.ntmps (Tryz.f168.body.getD .skip) = C.nat_Add := by kernel_rfl
theorem Q.nat_Add : resResults Tryz.prog Tryz.f168.results.toList = some R.nat_Add := by kernel_rfl
theorem E.nat_Add : Tryz.prog.funcs[F.nat_Add]? = some Tryz.f168 := Tryz.func168
theorem B.nat_Add : Tryz.f168.body = some (Tryz.f168.body.getD .skip) := by kernel_rfl
theorem N.nat_Add : Tryz.f168.ntmps = 61 := Tryz.ntmps168

def C.nat_Sub : VC :=
  .seq (.region false [⟨some 4, .mov (.c nil1), none⟩,
   ⟨some 5, .mov (.c (iv 0)), none⟩]) (.seq (.seq (.region false [⟨some 10, .mov (.t 0), none⟩,
   ⟨some 11, .mov (.t 1), none⟩,
   ⟨some 12, .call F.nat_Compare [.t 10, .t 11], none⟩,
   ⟨some 13, .bin .lss false (.t 12) (.c (iv 0)), none⟩]) (.cond (.t 13) (.seq (.region false [⟨some 4, .mov (.c nil1), none⟩,
   ⟨some 5, .mov (.c (iv 10)), none⟩]) .ret) .skip)) (.seq (.region false [⟨some 14, .mov (.t 0), none⟩,
   ⟨some 15, .call F.nat_trim [.t 14], none⟩,
   ⟨some 16, .mov (.t 1), none⟩,
   ⟨some 17, .call F.nat_trim [.t 16], none⟩,
   ⟨some 0, .mov (.t 15), none⟩,
   ⟨some 1, .mov (.t 17), none⟩]) (.seq (.region false [⟨some 18, .mov (.t 0), none⟩,
   ⟨some 19, .len (.t 18), none⟩,
   ⟨some 20, .mk [.int .u64 0] 8 (.t 19) (.t 19), none⟩,
   ⟨some 6, .mov (.t 20), none⟩]) (.seq (.region false [⟨some 7, .mov (.c (nv 0)), none⟩]) (.seq (.seq (.region false [⟨some 21, .mov (.t 0), none⟩,
   ⟨some 22, .len (.t 21), none⟩,
   ⟨some 23, .mov (.c (iv 0)), none⟩]) (.block 0 (.loop (.seq (.region false [⟨some 24, .bin .lss false (.t 23) (.t 22), none⟩]) (.seq (.cond (.t 24) .skip (.exit 0)) (.seq (.block 1 (.seq (.region false [⟨some 25, .mov (.t 23), none⟩,
   ⟨some 8, .mov (.t 25), none⟩]) (.seq (.region false [⟨some 9, .mov (.c (nv 0)), none⟩]) (.seq (.seq (.region false [⟨some 26, .mov (.t 8), none⟩,
   ⟨some 27, .mov (.t 1), none⟩,
   ⟨some 28, .len (.t 27), none⟩,
   ⟨some 29, .bin .lss false (.t 26) (.t 28), none⟩]) (.cond (.t 29) (.region false [⟨some 30, .mov (.t 1), none⟩,
   ⟨some 31, .mov (.t 8), none⟩,
   ⟨some 32, .ixa 1 (.t 30) (.t 31), none⟩,
   ⟨some 33, .load none (.t 32), none⟩,
   ⟨some 9, .mov (.t 33), none⟩]) .skip)) (.region false [⟨some 35, .mov (.t 6), none⟩,
   ⟨some 36, .mov (.t 8), none⟩,
   ⟨some 37, .mov (.t 0), none⟩,
   ⟨some 38, .mov (.t 8), none⟩,
   ⟨some 39, .ixa 1 (.t 37) (.t 38), none⟩,
   ⟨some 40, .load none (.t 39), none⟩,
   ⟨some 41, .mov (.t 9), none⟩,
   ⟨some 42, .mov (.t 7), none⟩,
   ⟨some 43, .ext64 true (.t 40) (.t 41) (.t 42), none⟩,
   ⟨some 34, .mov (.t 43), none⟩,
   ⟨some 44, .ext (.t 34) 0, none⟩,
   ⟨some 45, .ext (.t 34) 1, none⟩,
   ⟨some 46, .ixa 1 (.t 35) (.t 36), none⟩,
   ⟨none, .store 1 (.t 46) (.t 44), none⟩,
   ⟨some 7, .mov (.t 45), none⟩]))))) (.region false [⟨some 47, .bin .add false (.t 23) (.c (iv 1)), none⟩,
   ⟨some 23, .mov (.t 47), none⟩]))))))) (.seq (.region false [⟨some 48, .mov (.t 6), none⟩,
   ⟨some 49, .call F.nat_told [.t 48], none⟩,
   ⟨some 50, .ext (.t 49) 0, none⟩,
   ⟨some 51, .ext (.t 49) 1, none⟩,
   ⟨some 4, .mov (.t 50), none⟩,
   ⟨some 5, .mov (.t 51), none⟩]) .ret))))))
def R.nat_Sub : List VRes := [.tmp 4, .tmp 5]
theorem K.nat_Sub : resCode Tryz.prog Tryz.f169.ntmps (Tryz.f169.body.getD .skip) = C.nat_Sub := by kernel_rfl
theorem Q.nat_Sub : resResults Tryz.prog Tryz.f169.results.toList = some R.nat_Sub := by kernel_rfl
theorem E.nat_Sub : Tryz.prog.funcs[F.nat_Sub]? = some Tryz.f169 := Tryz.func169
theorem B.nat_Sub : Tryz.f169.body = some (Tryz.f169.body.getD .skip) := by kernel_rfl
theorem N.nat_Sub : Tryz.f169.ntmps = 52 := Tryz.ntmps169

def C.nat_Tail : VC :=
  .seq (.region false [⟨some 2, .mov (.c (iv 0)), none⟩]) (.seq (.seq (.region false [⟨some 5, .mov (.t 0), none⟩,
   ⟨some 6, .len (.t 5), none⟩,
   ⟨some 7, .mov (.c (iv 0)), none⟩]) (.block 0 (.loop (.seq (.region false [⟨some 8, .bin .lss false (.t 7) (.t 6), none⟩]) (.seq (.cond (.t 8) .skip (.exit 0)) (.seq (.block 1 (.seq (.region false [⟨some 9, .mov (.t 7), none⟩,
   ⟨some 10, .ixa 1 (.t 5) (.t 7), none⟩,
   ⟨some 11, .load none (.t 10), none⟩,
   ⟨some 3, .mov (.t 9), none⟩,
   ⟨some 4, .mov (.t 11), none⟩]) (.seq (.region false [⟨some 12, .mov (.t 4), none⟩,
   ⟨some 13, .bin .neq false (.t 12) (.c (nv 0)), none⟩]) (.cond (.t 13) (.seq (.region false [⟨some 14, .mov (.t 3), none⟩,
   ⟨some 15, .bin .mul false (.c (iv 64)) (.t 14), none⟩,
   ⟨some 16, .mov (.t 4), none⟩,
   ⟨some 17, .call F.bits_TrailingZeros64 [.t 16], none⟩,
   ⟨some 18, .bin .add false (.t 15) (.t 17), none⟩,
   ⟨some 2, .mov (.t 18), none⟩]) .ret) .skip)))) (.region false [⟨some 19, .bin .add false (.t 7) (.c (iv 1)), none⟩,
   ⟨some 7, .mov (.t 19), none⟩]))))))) (.seq (.region false [⟨some 2, .mov (.c (iv 0)), none⟩]) .ret))
def R.nat_Tail : List VRes := [.tmp 2]
theorem K.nat_Tail : resCode Tryz.prog Tryz.f170.ntmps (Tryz.f170.body.getD .skip) = C.nat_Tail := by kernel_rfl
theorem Q.nat_Tail : resResults Tryz.prog Tryz.f170.results.toList = some R.nat_Tail := by kernel_rfl
theorem E.nat_Tail : Tryz.prog.funcs[F.nat_Tail]? = some Tryz.f170 := Tryz.func170
theorem B.nat_Tail : Tryz.f170.body = some (Tryz.f170.body.getD .skip) := by kernel_rfl
theorem N.nat_Tail : Tryz.f170.ntmps = 20 := Tryz.ntmps170

def C.dyadic_shifted : VC :=
  .seq (.region false [⟨some 4, .mov (.c nil1), none⟩]) (.seq (.region false [⟨some 12, .mov (.t 0), none⟩,
   ⟨some 13, .mov (.t 1), none⟩,
   ⟨some 14, .call F.nat_Right [.t 12, .t 13], none⟩,
   ⟨some 11, .mov (.t 14), none⟩,
   ⟨some 15, .ext (.t 11) 0, none⟩,
   ⟨some 16, .ext (.t 11) 1, none⟩,
   ⟨some 5, .mov (.t 15), none⟩,
   ⟨some 6, .mov (.t 16), none⟩]) (.seq (.seq (.region false [⟨some 17, .mov (.t 6), none⟩,
   ⟨some 18, .bin .eql false (.t 17) (.c (iv 0)), none⟩]) (.cond (.t 18) (.seq (.region false [⟨some 19, .mov (.t 5), none⟩,
   ⟨some 4, .mov (.t 19), none⟩]) .ret) .skip)) (.seq (.region false [⟨some 20, .mov (.t 1), none⟩,
   ⟨some 21, .bin .quo false (.t 20) (.c (iv 64)), none⟩,
   ⟨some 22, .mov (.t 1), none⟩,
   ⟨some 23, .bin .rem false (.t 22) (.c (iv 64)), none⟩,
   ⟨some 24, .conv .u64 (.t 23), none⟩,
   ⟨some 7, .mov (.t 21), none⟩,
   ⟨some 8, .mov (.t 24), none⟩]) (.seq (.region false [⟨some 25, .mov (.t 0), none⟩,
   ⟨some 26, .len (.t 25), none⟩,
   ⟨some 27, .mov (.t 7), none⟩,
   ⟨some 28, .bin .sub false (.t 26) (.t 27), none⟩,
   ⟨some 29, .mk [.int .u64 0] 8 (.t 28) (.t 28), none⟩,
   ⟨some 9, .mov (.t 29), none⟩]) (.seq (.seq (.region false [⟨some 30, .mov (.t 9), none⟩,
   ⟨some 31, .len (.t 30), none⟩,
   ⟨some 32, .mov (.c (iv 0)), none⟩]) (.block 0 (.loop (.seq (.region false [⟨some 33, .bin .lss false (.t 32) (.t 31), none⟩]) (.seq (.cond (.t 33) .skip (.exit 0)) (.seq (.block 1 (.seq (.region false [⟨some 34, .mov (.t 32), none⟩,
   ⟨some 10, .mov (.t 34), none⟩]) (.seq (.region false [⟨some 35, .mov (.t 9), none⟩,
   ⟨some 36, .mov (.t 10), none⟩,
   ⟨some 37, .mov (.t 0), none⟩,
   ⟨some 38, .mov (.t 10), none⟩,
   ⟨some 39, .mov (.t 7), none⟩,
   ⟨some 40, .bin .add false (.t 38) (.t 39), none⟩,
   ⟨some 41, .ixa 1 (.t 37) (.t 40), none⟩,
   ⟨some 42, .load none (.t 41), none⟩,
   ⟨some 43, .mov (.t 8), none⟩,
   ⟨some 44, .bin .shr false (.t 42) (.t 43), none⟩,
   ⟨some 45, .ixa 1 (.t 35) (.t 36), none⟩,
   ⟨none, .store 1 (.t 45) (.t 44), none⟩]) (.seq (.region false [⟨some 46, .mov (.t 8), none⟩,
   ⟨some 47, .bin .gtr false (.t 46) (.c (nv 0)), none⟩,
   ⟨some 48, .mov (.t 47), none⟩,
   ⟨some 49, .mov (.t 10), some (48, true)⟩,
   ⟨some 50, .mov (.t 7), some (48, true)⟩,
   ⟨some 51, .bin .add false (.t 49) (.t 50), some (48, true)⟩,
   ⟨some 52, .bin .add false (.t 51) (.c (iv 1)), some (48, true)⟩,
   ⟨some 53, .mov (.t 0), some (48, true)⟩,
   ⟨some 54, .len (.t 53), some (48, true)⟩,
   ⟨some 55, .bin .lss false (.t 52) (.t 54), some (48, true)⟩,
   ⟨some 56, .pick (.t 48) (.t 55) (.c (bv false)), none⟩]) (.cond (.t 56) (.region true [⟨some 57, .mov (.t 9), none⟩,
   ⟨some 58, .mov (.t 10), none⟩,
   ⟨some 59, .ixa 1 (.t 57) (.t 58), none⟩,
   ⟨some 60, .load none (.t 59), none⟩,
   ⟨some 61, .mov (.t 0), none⟩,
   ⟨some 62, .mov (.t 10), none⟩,
   ⟨some 63, .mov (.t 7), none⟩,
   ⟨some 64, .bin .add false (.t 62) (.t 63), none⟩,
   ⟨some 65, .bin .add false (.t 64) (.c (iv 1)), none⟩,
   ⟨some 66, .ixa 1 (.t 61) (.t 65), none⟩,
   ⟨some 67, .load none (.t 66), none⟩,
   ⟨some 68, .mov (.t 8), none⟩,
   ⟨some 69, .bin .sub false (.c (nv 64)) (.t 68), none⟩,
   ⟨some 70, .bin .shl false (.t 67) (.t 69), none⟩,
   ⟨some 71, .bin .or false (.t 60) (.t 70), none⟩,
   ⟨some 72, .ixa 1 (.t 57) (.t 58), none⟩,
   ⟨none, .store 1 (.t 72) (.t 71), none⟩]) .skip))))) (.region false [⟨some 73, .bin .add false (.t 32) (.c (iv 1)), none⟩,
   ⟨some 32, .mov (.t 73), none⟩]))))))) (.seq (.region false [⟨some 74, .mov (.t 9), none⟩,
   ⟨some 75, .call F.nat_Norm [.t 74], none⟩,
   ⟨some 4, .mov (.t 75), none⟩]) .ret))))))
def R.dyadic_shifted : List VRes := [.tmp 4]
theorem K.dyadic_shifted : resCode Tryz.prog Tryz.f171.ntmps (Tryz.f171.body.getD .skip) = C.dyadic_shifted := by kernel_rfl
theorem Q.dyadic_shifted : resResults Tryz.prog Tryz.f171.results.toList = some R.dyadic_shifted := by kernel_rfl
theorem E.dyadic_shifted : Tryz.prog.funcs[F.dyadic_shifted]? = some Tryz.f171 := Tryz.func171
theorem B.dyadic_shifted : Tryz.f171.body = some (Tryz.f171.body.getD .skip) := by kernel_rfl
theorem N.dyadic_shifted : Tryz.f171.ntmps = 76 := Tryz.ntmps171

def C.nat_Bit : VC :=
  .seq (.region false [⟨some 4, .mov (.c (iv 0)), none⟩]) (.seq (.seq (.region false [⟨some 5, .mov (.t 1), none⟩,
   ⟨some 6, .bin .lss false (.t 5) (.c (iv 0)), none⟩,
   ⟨some 7, .mov (.t 6), none⟩,
   ⟨some 8, .mov (.t 1), some (7, false)⟩,
   ⟨some 9, .bin .quo false (.t 8) (.c (iv 64)), some (7, false)⟩,
   ⟨some 10, .mov (.t 0), some (7, false)⟩,
   ⟨some 11, .len (.t 10), some (7, false)⟩,
   ⟨some 12, .bin .geq false (.t 9) (.t 11), some (7, false)⟩,
   ⟨some 13, .pick (.t 7) (.c (bv true)) (.t 12), none⟩]) (.cond (.t 13) (.seq (.region false [⟨some 4, .mov (.c (iv 0)), none⟩]) .ret) .skip)) (.seq (.region false [⟨some 14, .mov (.t 0), none⟩,
   ⟨some 15, .mov (.t 1), none⟩,
   ⟨some 16, .bin .quo false (.t 15) (.c (iv 64)), none⟩,
   ⟨some 17, .ixa 1 (.t 14) (.t 16), none⟩,
   ⟨some 18, .load none (.t 17), none⟩,
   ⟨some 19, .mov (.t 1), none⟩,
   ⟨some 20, .bin .rem false (.t 19) (.c (iv 64)), none⟩,
   ⟨some 21, .conv .u64 (.t 20), none⟩,
   ⟨some 22, .bin .shr false (.t 18) (.t 21), none⟩,
   ⟨some 23, .bin .and false (.t 22) (.c (nv 1)), none⟩,
   ⟨some 24, .conv .i64 (.t 23), none⟩,
   ⟨some 4, .mov (.t 24), none⟩]) .ret))
def R.nat_Bit : List VRes := [.tmp 4]
theorem K.nat_Bit : resCode Tryz.prog Tryz.f172.ntmps (Tryz.f172.body.getD .skip) = C.nat_Bit := by kernel_rfl
theorem Q.nat_Bit : resResults Tryz.prog Tryz.f172.results.toList = some R.nat_Bit := by kernel_rfl
theorem E.nat_Bit : Tryz.prog.funcs[F.nat_Bit]? = some Tryz.f172 := Tryz.func172
theorem B.nat_Bit : Tryz.f172.body = some (Tryz.f172.body.getD .skip) := by kernel_rfl
theorem N.nat_Bit : Tryz.f172.ntmps = 25 := Tryz.ntmps172

def C.nat_From : VC :=
  .seq (.region false [⟨some 2, .mov (.c nil1), none⟩]) (.seq (.seq (.region false [⟨some 3, .mov (.t 0), none⟩,
   ⟨some 4, .bin .eql false (.t 3) (.c (nv 0)), none⟩]) (.cond (.t 4) (.seq (.region false [⟨some 2, .mov (.c nil1), none⟩]) .ret) .skip)) (.seq (.region false [⟨some 5, .mov (.t 0), none⟩,
   ⟨some 6, .bsl true 1 1 [.int .u64 0] [(0, (1, .t 5))], none⟩,
   ⟨some 2, .mov (.t 6), none⟩]) .ret))
def R.nat_From : List VRes := [.tmp 2]
theorem K.nat_From : resCode Tryz.prog Tryz.f173.ntmps (Tryz.f173.body.getD .skip) = C.nat_From := by kernel_rfl
theorem Q.nat_From : resResults Tryz.prog Tryz.f173.results.toList = some R.nat_From := by kernel_rfl
theorem E.nat_From : Tryz.prog.funcs[F.nat_From]? = some Tryz.f173 := Tryz.func173
theorem B.nat_From : Tryz.f173.body = some (Tryz.f173.body.getD .skip) := by kernel_rfl
theorem N.nat_From : Tryz.f173.ntmps = 7 := Tryz.ntmps173

def C.dyadic_limb : VC :=
  .seq (.region false [⟨some 4, .mov (.c (nv 0)), none⟩]) (.seq (.seq (.region false [⟨some 5, .mov (.t 1), none⟩,
   ⟨some 6, .mov (.t 0), none⟩,
   ⟨some 7, .len (.t 6), none⟩,
   ⟨some 8, .bin .lss false (.t 5) (.t 7), none⟩]) (.cond (.t 8) (.seq (.region false [⟨some 9, .mov (.t 0), none⟩,
   ⟨some 10, .mov (.t 1), none⟩,
   ⟨some 11, .ixa 1 (.t 9) (.t 10), none⟩,
   ⟨some 12, .load none (.t 11), none⟩,
   ⟨some 4, .mov (.t 12), none⟩]) .ret) .skip)) (.seq (.region false [⟨some 4, .mov (.c (nv 0)), none⟩]) .ret))
def R.dyadic_limb : List VRes := [.tmp 4]
theorem K.dyadic_limb : resCode Tryz.prog Tryz.f178.ntmps (Tryz.f178.body.getD .skip) = C.dyadic_limb := by kernel_rfl
theorem Q.dyadic_limb : resResults Tryz.prog Tryz.f178.results.toList = some R.dyadic_limb := by kernel_rfl
theorem E.dyadic_limb : Tryz.prog.funcs[F.dyadic_limb]? = some Tryz.f178 := Tryz.func178
theorem B.dyadic_limb : Tryz.f178.body = some (Tryz.f178.body.getD .skip) := by kernel_rfl
theorem N.dyadic_limb : Tryz.f178.ntmps = 13 := Tryz.ntmps178

def C.nat_told : VC :=
  .seq (.region false [⟨some 2, .mov (.c nil1), none⟩,
   ⟨some 3, .mov (.c (iv 0)), none⟩]) (.seq (.region false [⟨some 4, .mov (.t 0), none⟩,
   ⟨some 5, .call F.nat_trim [.t 4], none⟩,
   ⟨some 0, .mov (.t 5), none⟩]) (.seq (.seq (.region false [⟨some 6, .mov (.t 0), none⟩,
   ⟨some 7, .call F.nat_Length [.t 6], none⟩,
   ⟨some 8, .bin .gtr false (.t 7) (.c (iv 67108864)), none⟩]) (.cond (.t 8) (.seq (.region false [⟨some 2, .mov (.c nil1), none⟩,
   ⟨some 3, .mov (.c (iv 3)), none⟩]) .ret) .skip)) (.seq (.region false [⟨some 9, .mov (.t 0), none⟩,
   ⟨some 2, .mov (.t 9), none⟩,
   ⟨some 3, .mov (.c (iv 0)), none⟩]) .ret)))
def R.nat_told : List VRes := [.tmp 2, .tmp 3]
theorem K.nat_told : resCode Tryz.prog Tryz.f180.ntmps (Tryz.f180.body.getD .skip) = C.nat_told := by kernel_rfl
theorem Q.nat_told : resResults Tryz.prog Tryz.f180.results.toList = some R.nat_told := by kernel_rfl
theorem E.nat_told : Tryz.prog.funcs[F.nat_told]? = some Tryz.f180 := Tryz.func180
theorem B.nat_told : Tryz.f180.body = some (Tryz.f180.body.getD .skip) := by kernel_rfl
theorem N.nat_told : Tryz.f180.ntmps = 10 := Tryz.ntmps180

def C.bits_TrailingZeros64 : VC :=
  .seq (.region false [⟨some 2, .mov (.c (iv 0)), none⟩]) (.seq (.seq (.region false [⟨some 3, .mov (.t 0), none⟩,
   ⟨some 4, .bin .eql false (.t 3) (.c (nv 0)), none⟩]) (.cond (.t 4) (.seq (.region false [⟨some 2, .mov (.c (iv 64)), none⟩]) .ret) .skip)) (.seq (.region false [⟨some 5, .mov (.t 0), none⟩,
   ⟨some 6, .mov (.t 0), none⟩,
   ⟨some 7, .un .neg (.t 6), none⟩,
   ⟨some 8, .bin .and false (.t 5) (.t 7), none⟩,
   ⟨some 9, .bin .mul false (.t 8) (.c (nv 285870213051353865)), none⟩,
   ⟨some 10, .bin .shr false (.t 9) (.c (nv 58)), none⟩,
   ⟨some 11, .axa 64 1 (.c (.gptr 0 0)) (.t 10), none⟩,
   ⟨some 12, .load none (.t 11), none⟩,
   ⟨some 13, .conv .i64 (.t 12), none⟩,
   ⟨some 2, .mov (.t 13), none⟩]) .ret))
def R.bits_TrailingZeros64 : List VRes := [.tmp 2]
theorem K.bits_TrailingZeros64 : resCode Tryz.prog Tryz.f182.ntmps (Tryz.f182.body.getD .skip) = C.bits_TrailingZeros64 := by kernel_rfl
theorem Q.bits_TrailingZeros64 : resResults Tryz.prog Tryz.f182.results.toList = some R.bits_TrailingZeros64 := by kernel_rfl
theorem E.bits_TrailingZeros64 : Tryz.prog.funcs[F.bits_TrailingZeros64]? = some Tryz.f182 := Tryz.func182
theorem B.bits_TrailingZeros64 : Tryz.f182.body = some (Tryz.f182.body.getD .skip) := by kernel_rfl
theorem N.bits_TrailingZeros64 : Tryz.f182.ntmps = 14 := Tryz.ntmps182

def C.nat_Right : VC :=
  .seq (.region false [⟨some 4, .mov (.c nil1), none⟩,
   ⟨some 5, .mov (.c (iv 0)), none⟩]) (.seq (.seq (.region false [⟨some 10, .mov (.t 1), none⟩,
   ⟨some 11, .bin .lss false (.t 10) (.c (iv 0)), none⟩,
   ⟨some 12, .mov (.t 11), none⟩,
   ⟨some 13, .mov (.t 1), some (12, false)⟩,
   ⟨some 14, .bin .gtr false (.t 13) (.c (iv 1099511627776)), some (12, false)⟩,
   ⟨some 15, .pick (.t 12) (.c (bv true)) (.t 14), none⟩]) (.cond (.t 15) (.seq (.region false [⟨some 4, .mov (.c nil1), none⟩,
   ⟨some 5, .mov (.c (iv 1)), none⟩]) .ret) .skip)) (.seq (.region false [⟨some 16, .mov (.t 0), none⟩,
   ⟨some 17, .call F.nat_trim [.t 16], none⟩,
   ⟨some 0, .mov (.t 17), none⟩]) (.seq (.region false [⟨some 18, .mov (.t 1), none⟩,
   ⟨some 19, .bin .quo false (.t 18) (.c (iv 64)), none⟩,
   ⟨some 20, .mov (.t 1), none⟩,
   ⟨some 21, .bin .rem false (.t 20) (.c (iv 64)), none⟩,
   ⟨some 22, .conv .u64 (.t 21), none⟩,
   ⟨some 6, .mov (.t 19), none⟩,
   ⟨some 7, .mov (.t 22), none⟩]) (.seq (.seq (.region false [⟨some 23, .mov (.t 6), none⟩,
   ⟨some 24, .mov (.t 0), none⟩,
   ⟨some 25, .len (.t 24), none⟩,
   ⟨some 26, .bin .geq false (.t 23) (.t 25), none⟩]) (.cond (.t 26) (.seq (.region false [⟨some 4, .mov (.c nil1), none⟩,
   ⟨some 5, .mov (.c (iv 0)), none⟩]) .ret) .skip)) (.seq (.region false [⟨some 27, .mov (.t 0), none⟩,
   ⟨some 28, .len (.t 27), none⟩,
   ⟨some 29, .mov (.t 6), none⟩,
   ⟨some 30, .bin .sub false (.t 28) (.t 29), none⟩,
   ⟨some 31, .mk [.int .u64 0] 8 (.t 30) (.t 30), none⟩,
   ⟨some 8, .mov (.t 31), none⟩]) (.seq (.seq (.region false [⟨some 32, .mov (.t 8), none⟩,
   ⟨some 33, .len (.t 32), none⟩,
   ⟨some 34, .mov (.c (iv 0)), none⟩]) (.block 0 (.loop (.seq (.region false [⟨some 35, .bin .lss false (.t 34) (.t 33), none⟩]) (.seq (.cond (.t 35) .skip (.exit 0)) (.seq (.block 1 (.seq (.region false [⟨some 36, .mov (.t 34), none⟩,
   ⟨some 9, .mov (.t 36), none⟩]) (.seq (.region false [⟨some 37, .mov (.t 8), none⟩,
   ⟨some 38, .mov (.t 9), none⟩,
   ⟨some 39, .mov (.t 0), none⟩,
   ⟨some 40, .mov (.t 6), none⟩,
   ⟨some 41, .mov (.t 9), none⟩,
   ⟨some 42, .bin .add false (.t 40) (.t 41), none⟩,
   ⟨some 43, .ixa 1 (.t 39) (.t 42), none⟩,
   ⟨some 44, .load none (.t 43), none⟩,
   ⟨some 45, .mov (.t 7), none⟩,
   ⟨some 46, .bin .shr false (.t 44) (.t 45), none⟩,
   ⟨some 47, .ixa 1 (.t 37) (.t 38), none⟩,
   ⟨none, .store 1 (.t 47) (.t 46), none⟩]) (.seq (.region false [⟨some 48, .mov (.t 6), none⟩,
   ⟨some 49, .mov (.t 9), none⟩,
   ⟨some 50, .bin .add false (.t 48) (.t 49), none⟩,
   ⟨some 51, .bin .add false (.t 50) (.c (iv 1)), none⟩,
   ⟨some 52, .mov (.t 0), none⟩,
   ⟨some 53, .len (.t 52), none⟩,
   ⟨some 54, .bin .lss false (.t 51) (.t 53), none⟩]) (.cond (.t 54) (.region true [⟨some 55, .mov (.t 8), none⟩,
   ⟨some 56, .mov (.t 9), none⟩,
   ⟨some 57, .ixa 1 (.t 55) (.t 56), none⟩,
   ⟨some 58, .load none (.t 57), none⟩,
   ⟨some 59, .mov (.t 0), none⟩,
   ⟨some 60, .mov (.t 6), none⟩,
   ⟨some 61, .mov (.t 9), none⟩,
   ⟨some 62, .bin .add false (.t 60) (.t 61), none⟩,
   ⟨some 63, .bin .add false (.t 62) (.c (iv 1)), none⟩,
   ⟨some 64, .ixa 1 (.t 59) (.t 63), none⟩,
   ⟨some 65, .load none (.t 64), none⟩,
   ⟨some 66, .bin .shl false (.t 65) (.c (nv 1)), none⟩,
   ⟨some 67, .mov (.t 7), none⟩,
   ⟨some 68, .bin .sub false (.c (nv 63)) (.t 67), none⟩,
   ⟨some 69, .bin .shl false (.t 66) (.t 68), none⟩,
   ⟨some 70, .bin .or false (.t 58) (.t 69), none⟩,
   ⟨some 71, .ixa 1 (.t 55) (.t 56), none⟩,
   ⟨none, .store 1 (.t 71) (.t 70), none⟩]) .skip))))) (.region false [⟨some 72, .bin .add false (.t 34) (.c (iv 1)), none⟩,
   ⟨some 34, .mov (.t 72), none⟩]))))))) (.seq (.region false [⟨some 73, .mov (.t 8), none⟩,
   ⟨some 74, .call F.nat_told [.t 73], none⟩,
   ⟨some 75, .ext (.t 74) 0, none⟩,
   ⟨some 76, .ext (.t 74) 1, none⟩,
   ⟨some 4, .mov (.t 75), none⟩,
   ⟨some 5, .mov (.t 76), none⟩]) .ret)))))))
def R.nat_Right : List VRes := [.tmp 4, .tmp 5]
theorem K.nat_Right : resCode Tryz.prog Tryz.f183.ntmps (Tryz.f183.body.getD .skip) = C.nat_Right := by kernel_rfl
theorem Q.nat_Right : resResults Tryz.prog Tryz.f183.results.toList = some R.nat_Right := by kernel_rfl
theorem E.nat_Right : Tryz.prog.funcs[F.nat_Right]? = some Tryz.f183 := Tryz.func183
theorem B.nat_Right : Tryz.f183.body = some (Tryz.f183.body.getD .skip) := by kernel_rfl
theorem N.nat_Right : Tryz.f183.ntmps = 77 := Tryz.ntmps183

end Go.Proofs.YtacodmnlnlbahaaGreatDoor
set_option linter.unusedSimpArgs false
set_option linter.unusedVariables false
set_option maxRecDepth 100000
set_option maxHeartbeats 4000000
namespace Go.Proofs.YtacodmnlnlbahaaGreatDoor
open Go.VM
theorem hm : Tryz.prog.follows .mixedOrders = true := Tryz.checked.mixed
theorem two64 : 2 ≤ 18446744073709551616 := by decide

theorem getD_snoc (m : List Nat) (x : Nat) : (m ++ [x]).getD m.length 0 = x := by simp
theorem take_snoc' (m : List Nat) (x : Nat) : (m ++ [x]).take m.length = m := by simp

theorem trim_spec (t : Tok) (l : List Nat) (c : Nat) (hl : Lim 18446744073709551616 l) (hn : l.length ≤ 4398046511104) : VSpec Tryz.prog F.nat_trim c [nats t l] (fun r _ => r = nats t (digs 18446744073709551616 (val 18446744073709551616 l))) := by
  rw [← trim_digs two64 hl]
  refine spec_mk hm E.nat_trim B.nat_trim K.nat_trim Q.nat_trim (by rw [N.nat_trim]; simp) ?_
  unfold C.nat_trim R.nat_trim
  refine v_reg ?_
  simp only [vm, ite_true, ite_false, eq_self, reduceIte, Nat.reduceEqDiff, Option.map]
  refine vwp_seq (vwp_block (vwp_loop (fun n S => ∃ l', S.ρ 0 = nats t l' ∧ trimL l' = trimL l ∧ l'.length = n ∧ n ≤ l.length ∧ S.σ = noBlk ∧ S.c = c) l.length ⟨l, rfl, rfl, rfl, Nat.le_refl _, rfl, rfl⟩ ?_))
  rintro n ⟨ρ, σ, k⟩ ⟨l', h0, h1, h2, h3, rfl, rfl⟩
  dsimp only at h0
  refine vwp_seq (v_reg ?_)
  rcases snoc_cases l' with rfl | ⟨m, x, rfl⟩
  · have e : ¬ (0 : Int) < ([] : List Nat).length := by simp
    simp only [vm, ite_true, ite_false, eq_self, reduceIte, Nat.reduceEqDiff, Option.map, h0, e]
    refine v_cond ?_
    simp only [vm, ite_true, ite_false, eq_self, reduceIte, Nat.reduceEqDiff, Option.map]
    refine vwp_exit ?_
    simp only [vm, ite_true, ite_false, eq_self, reduceIte, Nat.reduceEqDiff, Option.map]
    refine v_reg ?_
    simp only [vm, ite_true, ite_false, eq_self, reduceIte, Nat.reduceEqDiff, Option.map, h0]
    refine vwp_ret ?_
    simp only [vm, ite_true, ite_false, eq_self, reduceIte, Nat.reduceEqDiff, Option.map]
    exact ⟨Nat.le_refl _, by rw [← h1]; rfl⟩
  · have e : (0 : Int) < (m ++ [x]).length := by simp
    have e1 : ((m ++ [x]).length - 1 : Int).toNat = m.length := by simp
    have e2 : (m ++ [x]).length = m.length + 1 := by simp
    simp only [vm, ite_true, ite_false, eq_self, reduceIte, Nat.reduceEqDiff, Option.map, h0, e, e1, getD_snoc]
    refine ⟨⟨by omega, by omega⟩, ⟨by omega, by omega⟩, by omega, v_cond ?_⟩
    simp only [vm, ite_true, ite_false, eq_self, reduceIte, Nat.reduceEqDiff, Option.map]
    refine ⟨fun g => vwp_skip ?_, fun g => vwp_exit ?_⟩
    · simp only [vm, ite_true, ite_false, eq_self, reduceIte, Nat.reduceEqDiff, Option.map]
      refine vwp_block (v_last ?_)
      simp only [vm, ite_true, ite_false, eq_self, reduceIte, Nat.reduceEqDiff, Option.map, h0, e1, take_snoc']
      refine ⟨by omega, by omega, m.length, by omega, m, rfl, ?_, rfl, by omega⟩
      rw [← h1, g, trimL_zero]
    · simp only [vm, ite_true, ite_false, eq_self, reduceIte, Nat.reduceEqDiff, Option.map]
      refine v_reg ?_
      simp only [vm, ite_true, ite_false, eq_self, reduceIte, Nat.reduceEqDiff, Option.map, h0]
      refine vwp_ret ?_
      simp only [vm, ite_true, ite_false, eq_self, reduceIte, Nat.reduceEqDiff, Option.map]
      exact ⟨Nat.le_refl _, by rw [← h1, trimL_pos _ _ g]⟩

def Tk (c c' : Nat) (t : Tok) : Prop := t = .nil ∨ ∃ i, t = .id i ∧ c ≤ i ∧ i < c'
theorem Tk.mono {c c' d d' : Nat} {t : Tok} (h : Tk c c' t) (h1 : d ≤ c) (h2 : c' ≤ d') : Tk d d' t := by
  rcases h with rfl | ⟨i, rfl, h3, h4⟩
  · exact .inl rfl
  · exact .inr ⟨i, rfl, by omega, by omega⟩
def NatR (c c' n : Nat) (v : V) : Prop := ∃ t, v = nats t (digs 18446744073709551616 n) ∧ Tk c c' t

theorem norm_spec (t : Tok) (l : List Nat) (c : Nat) (hl : Lim 18446744073709551616 l) (hn : l.length ≤ 4398046511104) : VSpec Tryz.prog F.nat_Norm c [nats t l] (fun r c' => NatR c c' (val 18446744073709551616 l) r) := by
  refine spec_mk hm E.nat_Norm B.nat_Norm K.nat_Norm Q.nat_Norm (by rw [N.nat_Norm]; simp) ?_
  unfold C.nat_Norm R.nat_Norm
  refine v_reg ?_
  simp only [vm, ite_true, ite_false, eq_self, reduceIte, Nat.reduceEqDiff, Option.map]
  refine v_reg ?_
  simp only [vm, ite_true, ite_false, eq_self, reduceIte, Nat.reduceEqDiff, Option.map]
  refine s_call (trim_spec t l c hl hn) (by simp only [vm, ite_true, ite_false, eq_self, reduceIte, Nat.reduceEqDiff, Option.map, List.map]) ?_
  rintro v c' hc rfl
  have hlen := digs_len_le two64 hl
  refine s_app0 (t := t) (l := digs 18446744073709551616 (val 18446744073709551616 l)) (by simp only [vm, ite_true, ite_false, eq_self, reduceIte, Nat.reduceEqDiff, Option.map]) (by simp only [vm, ite_true, ite_false, eq_self, reduceIte, Nat.reduceEqDiff, Option.map]) (by omega) (fun e => ?_) (fun e => ?_)
  · simp only [vm, ite_true, ite_false, eq_self, reduceIte, Nat.reduceEqDiff, Option.map]
    refine vwp_ret ?_
    simp only [vm, ite_true, ite_false, eq_self, reduceIte, Nat.reduceEqDiff, Option.map]
    exact ⟨hc, .nil, by rw [e]; rfl, .inl rfl⟩
  · simp only [vm, ite_true, ite_false, eq_self, reduceIte, Nat.reduceEqDiff, Option.map]
    refine v_freeze 2 (l := digs 18446744073709551616 (val 18446744073709551616 l)) rfl (by simp only [vm, ite_true, ite_false, eq_self, reduceIte, Nat.reduceEqDiff, Option.map]) hc (by omega) ?_
    refine vwp_ret ?_
    simp only [vm, ite_true, ite_false, eq_self, reduceIte, Nat.reduceEqDiff, Option.map, List.drop_zero, List.take_length]
    exact ⟨by omega, .id c', rfl, .inr ⟨c', rfl, hc, by omega⟩⟩

end Go.Proofs.YtacodmnlnlbahaaGreatDoor
