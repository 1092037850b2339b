/- Texts of a claim, merged: what they prove is told at the last one's head. -/
import Derived.Test.YtplofcianjnkmaaGreatDoorOwM2
import Derived.Test.YtplofcianjnkmaaGreatDoorProg
set_option linter.unusedVariables false
namespace Go.Proofs.YtplofcianjnkmaaGreatDoor
open Go.VM

abbrev F.surdlaw10_SpanOwn : FuncId := 8
abbrev F.span_Make : FuncId := 11
abbrev F.surdlaw10_of : FuncId := 13
abbrev F.surdref08_Fits : FuncId := 14
abbrev F.surdlaw10_dyad : FuncId := 15
abbrev F.surdlaw10_alike : FuncId := 16
abbrev F.surdlaw10_own : FuncId := 17
abbrev F.surdlaw10_awake : FuncId := 19
abbrev F.surdlaw10_num : FuncId := 34
abbrev F.surdref08_Cmp : FuncId := 38
abbrev F.surdref08_Round : FuncId := 47
abbrev F.surdref10_Bad : FuncId := 48
abbrev F.surdref01_Own : FuncId := 49
abbrev F.span_Add : FuncId := 50
abbrev F.span_Mul : FuncId := 52
abbrev F.surdref10_Mul : FuncId := 55
abbrev F.surdref01_Copy : FuncId := 56
abbrev F.surdlaw10_in : FuncId := 57
abbrev F.surdref06_Z_Sign : FuncId := 58
abbrev F.surdref08_Mul : FuncId := 63
abbrev F.span_check : FuncId := 64
abbrev F.span_normal : FuncId := 65
abbrev F.surdref08_Of : FuncId := 66
abbrev F.surdref06_Of : FuncId := 67
abbrev F.surdref10_Told : FuncId := 68
abbrev F.surdref08_D_Is : FuncId := 69
abbrev F.surdlaw10_small : FuncId := 70
abbrev F.surdref08_Int : FuncId := 71
abbrev F.span_checks : FuncId := 75
abbrev F.dyadic_Compare : FuncId := 76
abbrev F.surdref10_more : FuncId := 77
abbrev F.surdref10_less : FuncId := 78
abbrev F.surdref08_D_Top : FuncId := 81
abbrev F.surdref06_Cmp : FuncId := 82
abbrev F.surdref06_Shift : FuncId := 83
abbrev F.dyadic_Round : FuncId := 86
abbrev F.span_worst : FuncId := 87
abbrev F.surdref08_Told : FuncId := 88
abbrev F.surdref06_Neg : FuncId := 89
abbrev F.surdref01_Num_Len : FuncId := 91
abbrev F.surdref01_Shl : FuncId := 92
abbrev F.surdref01_Int : FuncId := 93
abbrev F.surdref06_Floor : FuncId := 94
abbrev F.surdref06_Ceil : FuncId := 95
abbrev F.surdref06_Near : FuncId := 96
abbrev F.surdref10_worst : FuncId := 97
abbrev F.span_sums : FuncId := 98
abbrev F.dyadic_Mul : FuncId := 100
abbrev F.span_hull : FuncId := 101
abbrev F.surdref10_Outward : FuncId := 102
abbrev F.surdlaw10_dy : FuncId := 103
abbrev F.surdref01_Num_Zero : FuncId := 104
abbrev F.surdref06_Add : FuncId := 106
abbrev F.surdref06_Mul : FuncId := 108
abbrev F.span_norm : FuncId := 109
abbrev F.span_ends : FuncId := 110
abbrev F.surdref01_Num_Tail : FuncId := 111
abbrev F.surdref01_Shr : FuncId := 112
abbrev F.surdref06_make1 : FuncId := 113
abbrev F.surdref01_Of : FuncId := 114
abbrev F.surdref06_Z_Is : FuncId := 115
abbrev F.surdref06_Int : FuncId := 116
abbrev F.dyadic_two : FuncId := 118
abbrev F.dyadic_compare : FuncId := 119
abbrev F.whole_Sign : FuncId := 120
abbrev F.surdref01_Cmp : FuncId := 121
abbrev F.dyadic_sum : FuncId := 122
abbrev F.dyadic_part_sign : FuncId := 123
abbrev F.dyadic_read : FuncId := 124
abbrev F.dyadic_within : FuncId := 125
abbrev F.dyadic_direction : FuncId := 126
abbrev F.dyadic_rounded : FuncId := 127
abbrev F.surdref01_norm : FuncId := 128
abbrev F.surdref01_Div : FuncId := 129
abbrev F.surdref06_Sub : FuncId := 130
abbrev F.surdref01_Num_Bit : FuncId := 131
abbrev F.dyadic_Add : FuncId := 132
abbrev F.span_outward : FuncId := 133
abbrev F.whole_Mul : FuncId := 134
abbrev F.dyadic_told : FuncId := 135
abbrev F.surdref01_Add : FuncId := 138
abbrev F.surdref01_Sub : FuncId := 139
abbrev F.surdref01_Mul : FuncId := 140
abbrev F.dyadic_Scale : FuncId := 141
abbrev F.surdref01_Num_at : FuncId := 142
abbrev F.surdref01_Num_Is : FuncId := 143
abbrev F.dyadic_number_top : FuncId := 144
abbrev F.dyadic_left : FuncId := 145
abbrev F.nat_Compare : FuncId := 146
abbrev F.nat_Length : FuncId := 147
abbrev F.whole_Make : FuncId := 148
abbrev F.dyadic_long : FuncId := 149
abbrev F.whole_Add : FuncId := 150
abbrev F.dyadic_odd : FuncId := 151
abbrev F.dyadic_steps : FuncId := 152
abbrev F.mul_Mul : FuncId := 153
abbrev F.whole_result : FuncId := 154
abbrev F.dyadic_part_length : FuncId := 155
abbrev F.surdref01_Num_Limbs : FuncId := 159
abbrev F.nat_Left : FuncId := 160
abbrev F.nat_Norm : FuncId := 161
abbrev F.nat_trim : FuncId := 162
abbrev F.bits_Len64 : FuncId := 163
abbrev F.whole_fits : FuncId := 164
abbrev F.dyadic_minus : FuncId := 165
abbrev F.dyadic_plus : FuncId := 166
abbrev F.whole_norm : FuncId := 167
abbrev F.nat_Add : FuncId := 168
abbrev F.nat_Sub : FuncId := 169
abbrev F.nat_Tail : FuncId := 170
abbrev F.dyadic_shifted : FuncId := 171
abbrev F.nat_Bit : FuncId := 172
abbrev F.nat_From : FuncId := 173
abbrev F.mul_product : FuncId := 174
abbrev F.mul_Mul_1 : FuncId := 175
abbrev F.mul_halved : FuncId := 176
abbrev F.dyadic_limb : FuncId := 178
abbrev F.nat_told : FuncId := 180
abbrev F.bits_TrailingZeros64 : FuncId := 182
abbrev F.nat_Right : FuncId := 183
abbrev F.mul_great : FuncId := 184
abbrev F.mul_fits : FuncId := 185
abbrev F.mul_school : FuncId := 186
abbrev F.mul_addAt : FuncId := 187
abbrev F.mul_part : FuncId := 188
abbrev F.mul_less : FuncId := 189
abbrev F.mul_sum : FuncId := 190
abbrev F.bits_Mul64 : FuncId := 192
def C.surdlaw10_SpanOwn : VC :=
  .seq (.region false [⟨some 3, .box (.t 0), none⟩,
   ⟨some 4, .box (.t 1), none⟩,
   ⟨some 6, .mov (.c (bv false)), none⟩]) (.seq (.region false [⟨some 31, .load (some 6) (.t 3), none⟩,
   ⟨some 32, .call F.surdlaw10_of [.t 31], none⟩,
   ⟨some 30, .mov (.t 32), none⟩,
   ⟨some 33, .ext (.t 30) 0, none⟩,
   ⟨some 34, .ext (.t 30) 1, none⟩,
   ⟨some 7, .alloc [.bool false, .slice none 0 0, .int .i64 0, .bool false, .slice none 0 0, .int .i64 0], none⟩,
   ⟨none, .store 6 (.t 7) (.t 33), none⟩,
   ⟨some 8, .mov (.t 34), none⟩]) (.seq (.region false [⟨some 36, .load (some 6) (.t 4), none⟩,
   ⟨some 37, .call F.surdlaw10_of [.t 36], none⟩,
   ⟨some 35, .mov (.t 37), none⟩,
   ⟨some 38, .ext (.t 35) 0, none⟩,
   ⟨some 39, .ext (.t 35) 1, none⟩,
   ⟨some 9, .alloc [.bool false, .slice none 0 0, .int .i64 0, .bool false, .slice none 0 0, .int .i64 0], none⟩,
   ⟨none, .store 6 (.t 9) (.t 38), none⟩,
   ⟨some 10, .mov (.t 39), none⟩]) (.seq (.seq (.region false [⟨some 40, .mov (.t 8), none⟩,
   ⟨some 41, .bin .neq false (.t 40) (.c (iv 0)), none⟩,
   ⟨some 42, .mov (.t 41), none⟩,
   ⟨some 43, .mov (.t 10), some (42, false)⟩,
   ⟨some 44, .bin .neq false (.t 43) (.c (iv 0)), some (42, false)⟩,
   ⟨some 45, .pick (.t 42) (.c (bv true)) (.t 44), none⟩,
   ⟨some 46, .mov (.t 45), none⟩,
   ⟨some 47, .mov (.t 2), some (46, false)⟩,
   ⟨some 48, .call F.surdref08_Fits [.t 47], some (46, false)⟩,
   ⟨some 49, .un .not (.t 48), some (46, false)⟩,
   ⟨some 50, .pick (.t 46) (.c (bv true)) (.t 49), none⟩]) (.cond (.t 50) (.seq (.region false [⟨some 51, .call F.surdlaw10_awake [], none⟩,
   ⟨some 6, .mov (.t 51), none⟩]) .ret) .skip)) (.seq (.region false [⟨some 52, .fa 3 (.t 3), none⟩,
   ⟨some 53, .fa 1 (.t 52), none⟩,
   ⟨some 54, .load none (.t 53), none⟩,
   ⟨some 55, .call F.surdref01_Copy [.t 54], none⟩,
   ⟨some 11, .mov (.t 55), none⟩]) (.seq (.region false [⟨some 56, .load (some 6) (.t 3), none⟩,
   ⟨some 57, .call F.surdlaw10_in [.t 56], none⟩,
   ⟨some 12, .alloc [.bool false, .slice none 0 0, .int .i64 0, .bool false, .slice none 0 0, .int .i64 0], none⟩,
   ⟨none, .store 6 (.t 12) (.t 57), none⟩]) (.seq (.region false [⟨some 58, .mov (.t 11), none⟩,
   ⟨some 59, .fa 3 (.t 12), none⟩,
   ⟨some 60, .fa 0 (.t 59), none⟩,
   ⟨some 61, .fa 1 (.t 60), none⟩,
   ⟨none, .store 1 (.t 61) (.t 58), none⟩]) (.seq (.region true [⟨some 63, .load (some 6) (.t 12), none⟩,
   ⟨some 64, .load (some 6) (.t 4), none⟩,
   ⟨some 65, .call F.surdlaw10_in [.t 64], none⟩,
   ⟨some 66, .mov (.t 2), none⟩,
   ⟨some 67, .call F.span_Mul [.t 63, .t 65, .t 66], none⟩,
   ⟨some 62, .mov (.t 67), none⟩,
   ⟨some 68, .ext (.t 62) 0, none⟩,
   ⟨some 69, .ext (.t 62) 1, none⟩,
   ⟨some 13, .mov (.c .any), none⟩,
   ⟨some 13, .boxA 6 (.t 68), none⟩,
   ⟨some 14, .mov (.t 69), none⟩]) (.seq (.region true [⟨some 71, .load (some 6) (.t 12), none⟩,
   ⟨some 72, .load (some 6) (.t 4), none⟩,
   ⟨some 73, .call F.surdlaw10_in [.t 72], none⟩,
   ⟨some 74, .mov (.t 2), none⟩,
   ⟨some 75, .call F.span_Mul [.t 71, .t 73, .t 74], none⟩,
   ⟨some 70, .mov (.t 75), none⟩,
   ⟨some 76, .ext (.t 70) 0, none⟩,
   ⟨some 77, .ext (.t 70) 1, none⟩,
   ⟨some 15, .mov (.c .any), none⟩,
   ⟨some 15, .boxA 6 (.t 76), none⟩,
   ⟨some 16, .mov (.t 77), none⟩]) (.seq (.region false [⟨some 79, .fa 0 (.t 12), none⟩,
   ⟨some 80, .load (some 3) (.t 79), none⟩,
   ⟨some 81, .fa 3 (.t 12), none⟩,
   ⟨some 82, .load (some 3) (.t 81), none⟩,
   ⟨some 83, .call F.span_Make [.t 80, .t 82], none⟩,
   ⟨some 78, .mov (.t 83), none⟩,
   ⟨some 84, .ext (.t 78) 0, none⟩,
   ⟨some 85, .ext (.t 78) 1, none⟩,
   ⟨some 17, .alloc [.bool false, .slice none 0 0, .int .i64 0, .bool false, .slice none 0 0, .int .i64 0], none⟩,
   ⟨none, .store 6 (.t 17) (.t 84), none⟩,
   ⟨some 18, .mov (.t 85), none⟩]) (.seq (.seq (.region false [⟨some 86, .mov (.t 11), none⟩,
   ⟨some 87, .len (.t 86), none⟩,
   ⟨some 88, .mov (.c (iv 0)), none⟩]) (.block 0 (.loop (.seq (.region false [⟨some 89, .bin .lss false (.t 88) (.t 87), none⟩]) (.seq (.cond (.t 89) .skip (.exit 0)) (.seq (.block 1 (.seq (.region false [⟨some 90, .mov (.t 88), none⟩,
   ⟨some 19, .mov (.t 90), none⟩]) (.region false [⟨some 91, .mov (.t 11), none⟩,
   ⟨some 92, .mov (.t 19), none⟩,
   ⟨some 93, .ixa 1 (.t 91) (.t 92), none⟩,
   ⟨none, .store 1 (.t 93) (.c (nv 0)), none⟩]))) (.region false [⟨some 94, .bin .add false (.t 88) (.c (iv 1)), none⟩,
   ⟨some 88, .mov (.t 94), none⟩]))))))) (.seq (.region true [⟨some 96, .load (some 6) (.t 12), none⟩,
   ⟨some 97, .load (some 6) (.t 4), none⟩,
   ⟨some 98, .call F.surdlaw10_in [.t 97], none⟩,
   ⟨some 99, .mov (.t 2), none⟩,
   ⟨some 100, .call F.span_Mul [.t 96, .t 98, .t 99], none⟩,
   ⟨some 95, .mov (.t 100), none⟩,
   ⟨some 101, .ext (.t 95) 0, none⟩,
   ⟨some 102, .ext (.t 95) 1, none⟩,
   ⟨some 20, .mov (.c .any), none⟩,
   ⟨some 20, .boxA 6 (.t 101), none⟩,
   ⟨some 21, .mov (.t 102), none⟩]) (.seq (.region false [⟨some 104, .fa 0 (.t 12), none⟩,
   ⟨some 105, .load (some 3) (.t 104), none⟩,
   ⟨some 106, .fa 3 (.t 12), none⟩,
   ⟨some 107, .load (some 3) (.t 106), none⟩,
   ⟨some 108, .call F.span_Make [.t 105, .t 107], none⟩,
   ⟨some 103, .mov (.t 108), none⟩,
   ⟨some 109, .ext (.t 103) 0, none⟩,
   ⟨some 110, .ext (.t 103) 1, none⟩,
   ⟨some 22, .alloc [.bool false, .slice none 0 0, .int .i64 0, .bool false, .slice none 0 0, .int .i64 0], none⟩,
   ⟨none, .store 6 (.t 22) (.t 109), none⟩,
   ⟨some 23, .mov (.t 110), none⟩]) (.seq (.region false [⟨some 112, .load (some 6) (.t 7), none⟩,
   ⟨some 113, .load (some 6) (.t 9), none⟩,
   ⟨some 114, .mov (.t 2), none⟩,
   ⟨some 115, .call F.surdref10_Mul [.t 112, .t 113, .t 114], none⟩,
   ⟨some 111, .mov (.t 115), none⟩,
   ⟨some 116, .ext (.t 111) 0, none⟩,
   ⟨some 117, .ext (.t 111) 1, none⟩,
   ⟨some 24, .alloc [.bool false, .slice none 0 0, .int .i64 0, .bool false, .slice none 0 0, .int .i64 0], none⟩,
   ⟨none, .store 6 (.t 24) (.t 116), none⟩,
   ⟨some 25, .mov (.t 117), none⟩]) (.seq (.seq (.region false [⟨some 118, .load (some 6) (.t 13), none⟩,
   ⟨some 119, .mov (.t 14), none⟩,
   ⟨some 120, .load (some 6) (.t 24), none⟩,
   ⟨some 121, .mov (.t 25), none⟩,
   ⟨some 122, .call F.surdlaw10_alike [.t 118, .t 119, .t 120, .t 121], none⟩,
   ⟨some 123, .un .not (.t 122), none⟩,
   ⟨some 124, .mov (.t 123), none⟩,
   ⟨some 125, .load (some 6) (.t 15), some (124, false)⟩,
   ⟨some 126, .mov (.t 16), some (124, false)⟩,
   ⟨some 127, .load (some 6) (.t 24), some (124, false)⟩,
   ⟨some 128, .mov (.t 25), some (124, false)⟩,
   ⟨some 129, .call F.surdlaw10_alike [.t 125, .t 126, .t 127, .t 128], some (124, false)⟩,
   ⟨some 130, .un .not (.t 129), some (124, false)⟩,
   ⟨some 131, .pick (.t 124) (.c (bv true)) (.t 130), none⟩,
   ⟨some 132, .mov (.t 131), none⟩,
   ⟨some 133, .load (some 6) (.t 17), some (132, false)⟩,
   ⟨some 134, .mov (.t 18), some (132, false)⟩,
   ⟨some 135, .load (some 6) (.t 7), some (132, false)⟩,
   ⟨some 136, .call F.surdlaw10_alike [.t 133, .t 134, .t 135, .c (iv 0)], some (132, false)⟩,
   ⟨some 137, .un .not (.t 136), some (132, false)⟩,
   ⟨some 138, .pick (.t 132) (.c (bv true)) (.t 137), none⟩]) (.cond (.t 138) (.seq (.region false [⟨some 6, .mov (.c (bv false)), none⟩]) .ret) .skip)) (.seq (.region false [⟨some 139, .fa 0 (.t 7), none⟩,
   ⟨some 140, .load (some 3) (.t 139), none⟩,
   ⟨some 141, .build [.bool false, .slice none 0 0, .int .i64 0, .bool false, .slice none 0 0, .int .i64 0] [(0, (3, .t 140))], none⟩,
   ⟨some 26, .alloc [.bool false, .slice none 0 0, .int .i64 0, .bool false, .slice none 0 0, .int .i64 0], none⟩,
   ⟨none, .store 6 (.t 26) (.t 141), none⟩,
   ⟨some 27, .mov (.c (iv 0)), none⟩]) (.seq (.seq (.region false [⟨some 142, .fa 0 (.t 7), none⟩,
   ⟨some 143, .fa 0 (.t 142), none⟩,
   ⟨some 144, .load (some 2) (.t 143), none⟩,
   ⟨some 145, .call F.surdref06_Z_Sign [.t 144], none⟩,
   ⟨some 146, .bin .gtr false (.t 145) (.c (iv 0)), none⟩]) (.cond (.t 146) (.region false [⟨some 147, .build [.bool false, .slice none 0 0, .int .i64 0, .bool false, .slice none 0 0, .int .i64 0] [], none⟩,
   ⟨none, .store 6 (.t 26) (.t 147), none⟩,
   ⟨some 27, .mov (.c (iv 100)), none⟩]) .skip)) (.seq (.region false [⟨some 149, .load (some 6) (.t 26), none⟩,
   ⟨some 150, .load (some 6) (.t 9), none⟩,
   ⟨some 151, .mov (.t 2), none⟩,
   ⟨some 152, .call F.surdref10_Mul [.t 149, .t 150, .t 151], none⟩,
   ⟨some 148, .mov (.t 152), none⟩,
   ⟨some 153, .ext (.t 148) 0, none⟩,
   ⟨some 154, .ext (.t 148) 1, none⟩,
   ⟨some 28, .alloc [.bool false, .slice none 0 0, .int .i64 0, .bool false, .slice none 0 0, .int .i64 0], none⟩,
   ⟨none, .store 6 (.t 28) (.t 153), none⟩,
   ⟨some 29, .mov (.t 154), none⟩]) (.seq (.seq (.region false [⟨some 155, .mov (.t 27), none⟩,
   ⟨some 156, .bin .neq false (.t 155) (.c (iv 0)), none⟩]) (.cond (.t 156) (.region false [⟨some 157, .mov (.t 27), none⟩,
   ⟨some 29, .mov (.t 157), none⟩]) .skip)) (.seq (.region false [⟨some 158, .load (some 6) (.t 22), none⟩,
   ⟨some 159, .mov (.t 23), none⟩,
   ⟨some 160, .load (some 6) (.t 26), none⟩,
   ⟨some 161, .mov (.t 27), none⟩,
   ⟨some 162, .call F.surdlaw10_alike [.t 158, .t 159, .t 160, .t 161], none⟩,
   ⟨some 163, .mov (.t 162), none⟩,
   ⟨some 164, .load (some 6) (.t 20), some (163, true)⟩,
   ⟨some 165, .mov (.t 21), some (163, true)⟩,
   ⟨some 166, .load (some 6) (.t 28), some (163, true)⟩,
   ⟨some 167, .mov (.t 29), some (163, true)⟩,
   ⟨some 168, .call F.surdlaw10_alike [.t 164, .t 165, .t 166, .t 167], some (163, true)⟩,
   ⟨some 169, .pick (.t 163) (.t 168) (.c (bv false)), none⟩,
   ⟨some 170, .mov (.t 169), none⟩,
   ⟨some 171, .load (some 6) (.t 13), some (170, true)⟩,
   ⟨some 172, .load (some 6) (.t 15), some (170, true)⟩,
   ⟨some 173, .load (some 6) (.t 20), some (170, true)⟩,
   ⟨some 174, .load (some 6) (.t 17), some (170, true)⟩,
   ⟨some 175, .load (some 6) (.t 22), some (170, true)⟩,
   ⟨some 176, .bsl true 6 5 [.bool false, .slice none 0 0, .int .i64 0, .bool false, .slice none 0 0, .int .i64 0] [(0, (6, .t 171)), (6, (6, .t 172)), (12, (6, .t 173)), (18, (6, .t 174)), (24, (6, .t 175))], some (170, true)⟩,
   ⟨some 177, .call F.surdlaw10_own [.t 176], some (170, true)⟩,
   ⟨some 178, .pick (.t 170) (.t 177) (.c (bv false)), none⟩,
   ⟨some 179, .mov (.t 178), none⟩,
   ⟨some 180, .call F.surdlaw10_awake [], some (179, true)⟩,
   ⟨some 181, .pick (.t 179) (.t 180) (.c (bv false)), none⟩,
   ⟨some 6, .mov (.t 181), none⟩]) .ret)))))))))))))))))))
def R.surdlaw10_SpanOwn : List VRes := [.tmp 6]
theorem K.surdlaw10_SpanOwn : resCode Tryz.prog Tryz.f8.ntmps (Tryz.f8.body.getD .skip) = C.surdlaw10_SpanOwn := by kernel_rfl
theorem Q.surdlaw10_SpanOwn : resResults Tryz.prog Tryz.f8.results.toList = some R.surdlaw10_SpanOwn := by kernel_rfl
theorem E.surdlaw10_SpanOwn : Tryz.prog.funcs[F.surdlaw10_SpanOwn]? = some Tryz.f8 := Tryz.func8
theorem B.surdlaw10_SpanOwn : Tryz.f8.body = some (Tryz.f8.body.getD .skip) := by kernel_rfl
theorem N.surdlaw10_SpanOwn : Tryz.f8.ntmps = 182 := Tryz.ntmps8

def C.span_Make : VC :=
  .seq (.region false [⟨some 2, .box (.t 0), none⟩,
   ⟨some 3, .box (.t 1), none⟩,
   ⟨some 4, .alloc [.bool false, .slice none 0 0, .int .i64 0, .bool false, .slice none 0 0, .int .i64 0], none⟩,
   ⟨some 5, .mov (.c (iv 0)), none⟩]) (.seq (.seq (.region false [⟨some 7, .load (some 3) (.t 2), none⟩,
   ⟨some 8, .load (some 3) (.t 3), none⟩,
   ⟨some 9, .build [.bool false, .slice none 0 0, .int .i64 0, .bool false, .slice none 0 0, .int .i64 0] [(0, (3, .t 7)), (3, (3, .t 8))], none⟩,
   ⟨some 10, .call F.span_check [.t 9], none⟩,
   ⟨some 6, .mov (.t 10), none⟩]) (.seq (.region false [⟨some 11, .mov (.t 6), none⟩,
   ⟨some 12, .bin .neq false (.t 11) (.c (iv 0)), none⟩]) (.cond (.t 12) (.seq (.region false [⟨some 13, .build [.bool false, .slice none 0 0, .int .i64 0, .bool false, .slice none 0 0, .int .i64 0] [], none⟩,
   ⟨some 14, .mov (.t 6), none⟩,
   ⟨none, .store 6 (.t 4) (.t 13), none⟩,
   ⟨some 5, .mov (.t 14), none⟩]) .ret) .skip))) (.seq (.region false [⟨some 15, .load (some 3) (.t 2), none⟩,
   ⟨some 16, .load (some 3) (.t 3), none⟩,
   ⟨some 17, .call F.span_normal [.t 15, .t 16], none⟩,
   ⟨some 18, .ext (.t 17) 0, none⟩,
   ⟨some 19, .ext (.t 17) 1, none⟩,
   ⟨none, .store 6 (.t 4) (.t 18), none⟩,
   ⟨some 5, .mov (.t 19), none⟩]) .ret))
def R.span_Make : List VRes := [.cell 4 (some 6), .tmp 5]
theorem K.span_Make : resCode Tryz.prog Tryz.f11.ntmps (Tryz.f11.body.getD .skip) = C.span_Make := by kernel_rfl
theorem Q.span_Make : resResults Tryz.prog Tryz.f11.results.toList = some R.span_Make := by kernel_rfl
theorem E.span_Make : Tryz.prog.funcs[F.span_Make]? = some Tryz.f11 := Tryz.func11
theorem B.span_Make : Tryz.f11.body = some (Tryz.f11.body.getD .skip) := by kernel_rfl
theorem N.span_Make : Tryz.f11.ntmps = 20 := Tryz.ntmps11

def C.surdlaw10_of : VC :=
  .seq (.region false [⟨some 1, .box (.t 0), none⟩,
   ⟨some 2, .alloc [.bool false, .slice none 0 0, .int .i64 0, .bool false, .slice none 0 0, .int .i64 0], none⟩,
   ⟨some 3, .mov (.c (iv 0)), none⟩]) (.seq (.seq (.region false [⟨some 5, .fa 0 (.t 1), none⟩,
   ⟨some 6, .fa 2 (.t 5), none⟩,
   ⟨some 7, .load none (.t 6), none⟩,
   ⟨some 8, .call F.surdref08_Fits [.t 7], none⟩,
   ⟨some 9, .un .not (.t 8), none⟩,
   ⟨some 10, .mov (.t 9), none⟩,
   ⟨some 11, .fa 3 (.t 1), some (10, false)⟩,
   ⟨some 12, .fa 2 (.t 11), some (10, false)⟩,
   ⟨some 13, .load none (.t 12), some (10, false)⟩,
   ⟨some 14, .call F.surdref08_Fits [.t 13], some (10, false)⟩,
   ⟨some 15, .un .not (.t 14), some (10, false)⟩,
   ⟨some 16, .pick (.t 10) (.c (bv true)) (.t 15), none⟩]) (.cond (.t 16) (.seq (.region false [⟨some 17, .build [.bool false, .slice none 0 0, .int .i64 0, .bool false, .slice none 0 0, .int .i64 0] [], none⟩,
   ⟨none, .store 6 (.t 2) (.t 17), none⟩,
   ⟨some 3, .mov (.c (iv 80)), none⟩]) .ret) .skip)) (.seq (.region true [⟨some 18, .fa 0 (.t 1), none⟩,
   ⟨some 19, .load (some 3) (.t 18), none⟩,
   ⟨some 20, .call F.surdlaw10_dyad [.t 19], none⟩,
   ⟨some 21, .fa 3 (.t 1), none⟩,
   ⟨some 22, .load (some 3) (.t 21), none⟩,
   ⟨some 23, .call F.surdlaw10_dyad [.t 22], none⟩,
   ⟨some 24, .build [.bool false, .slice none 0 0, .int .i64 0, .bool false, .slice none 0 0, .int .i64 0] [(0, (3, .t 20)), (3, (3, .t 23))], none⟩,
   ⟨some 4, .mov (.c .any), none⟩,
   ⟨some 4, .boxA 6 (.t 24), none⟩]) (.seq (.seq (.region false [⟨some 25, .fa 0 (.t 4), none⟩,
   ⟨some 26, .load (some 3) (.t 25), none⟩,
   ⟨some 27, .fa 3 (.t 4), none⟩,
   ⟨some 28, .load (some 3) (.t 27), none⟩,
   ⟨some 29, .call F.surdref08_Cmp [.t 26, .t 28], none⟩,
   ⟨some 30, .bin .gtr false (.t 29) (.c (iv 0)), none⟩]) (.cond (.t 30) (.seq (.region false [⟨some 31, .build [.bool false, .slice none 0 0, .int .i64 0, .bool false, .slice none 0 0, .int .i64 0] [], none⟩,
   ⟨none, .store 6 (.t 2) (.t 31), none⟩,
   ⟨some 3, .mov (.c (iv 100)), none⟩]) .ret) .skip)) (.seq (.region false [⟨some 32, .load (some 6) (.t 4), none⟩,
   ⟨none, .store 6 (.t 2) (.t 32), none⟩,
   ⟨some 3, .mov (.c (iv 0)), none⟩]) .ret))))
def R.surdlaw10_of : List VRes := [.cell 2 (some 6), .tmp 3]
theorem K.surdlaw10_of : resCode Tryz.prog Tryz.f13.ntmps (Tryz.f13.body.getD .skip) = C.surdlaw10_of := by kernel_rfl
theorem Q.surdlaw10_of : resResults Tryz.prog Tryz.f13.results.toList = some R.surdlaw10_of := by kernel_rfl
theorem E.surdlaw10_of : Tryz.prog.funcs[F.surdlaw10_of]? = some Tryz.f13 := Tryz.func13
theorem B.surdlaw10_of : Tryz.f13.body = some (Tryz.f13.body.getD .skip) := by kernel_rfl
theorem N.surdlaw10_of : Tryz.f13.ntmps = 33 := Tryz.ntmps13

def C.surdref08_Fits : VC :=
  .seq (.region false [⟨some 2, .mov (.c (bv false)), none⟩]) (.seq (.region false [⟨some 3, .mov (.t 0), none⟩,
   ⟨some 4, .bin .geq false (.t 3) (.c (iv (-1099511627776))), none⟩,
   ⟨some 5, .mov (.t 4), none⟩,
   ⟨some 6, .mov (.t 0), some (5, true)⟩,
   ⟨some 7, .bin .leq false (.t 6) (.c (iv 1099511627776)), some (5, true)⟩,
   ⟨some 8, .pick (.t 5) (.t 7) (.c (bv false)), none⟩,
   ⟨some 2, .mov (.t 8), none⟩]) .ret)
def R.surdref08_Fits : List VRes := [.tmp 2]
theorem K.surdref08_Fits : resCode Tryz.prog Tryz.f14.ntmps (Tryz.f14.body.getD .skip) = C.surdref08_Fits := by kernel_rfl
theorem Q.surdref08_Fits : resResults Tryz.prog Tryz.f14.results.toList = some R.surdref08_Fits := by kernel_rfl
theorem E.surdref08_Fits : Tryz.prog.funcs[F.surdref08_Fits]? = some Tryz.f14 := Tryz.func14
theorem B.surdref08_Fits : Tryz.f14.body = some (Tryz.f14.body.getD .skip) := by kernel_rfl
theorem N.surdref08_Fits : Tryz.f14.ntmps = 9 := Tryz.ntmps14

def C.surdlaw10_dyad : VC :=
  .seq (.region false [⟨some 1, .box (.t 0), none⟩,
   ⟨some 2, .alloc [.bool false, .slice none 0 0, .int .i64 0], none⟩]) (.seq (.region true [⟨some 3, .fa 0 (.t 1), none⟩,
   ⟨some 4, .load none (.t 3), none⟩,
   ⟨some 5, .fa 1 (.t 1), none⟩,
   ⟨some 6, .load none (.t 5), none⟩,
   ⟨some 7, .call F.surdref06_Of [.t 4, .t 6], none⟩,
   ⟨some 8, .fa 2 (.t 1), none⟩,
   ⟨some 9, .load none (.t 8), none⟩,
   ⟨some 10, .call F.surdref08_Of [.t 7, .t 9], none⟩,
   ⟨none, .store 3 (.t 2) (.t 10), none⟩]) .ret)
def R.surdlaw10_dyad : List VRes := [.cell 2 (some 3)]
theorem K.surdlaw10_dyad : resCode Tryz.prog Tryz.f15.ntmps (Tryz.f15.body.getD .skip) = C.surdlaw10_dyad := by kernel_rfl
theorem Q.surdlaw10_dyad : resResults Tryz.prog Tryz.f15.results.toList = some R.surdlaw10_dyad := by kernel_rfl
theorem E.surdlaw10_dyad : Tryz.prog.funcs[F.surdlaw10_dyad]? = some Tryz.f15 := Tryz.func15
theorem B.surdlaw10_dyad : Tryz.f15.body = some (Tryz.f15.body.getD .skip) := by kernel_rfl
theorem N.surdlaw10_dyad : Tryz.f15.ntmps = 11 := Tryz.ntmps15

def C.surdlaw10_alike : VC :=
  .seq (.region false [⟨some 4, .box (.t 0), none⟩,
   ⟨some 6, .box (.t 2), none⟩,
   ⟨some 8, .mov (.c (bv false)), none⟩]) (.seq (.seq (.region false [⟨some 9, .mov (.t 3), none⟩,
   ⟨some 10, .bin .eql false (.t 9) (.c (iv 0)), none⟩]) (.cond (.t 10) (.region false [⟨some 12, .load (some 6) (.t 6), none⟩,
   ⟨some 13, .call F.surdref10_Told [.t 12], none⟩,
   ⟨some 11, .mov (.t 13), none⟩,
   ⟨some 14, .ext (.t 11) 0, none⟩,
   ⟨some 15, .ext (.t 11) 1, none⟩,
   ⟨none, .store 6 (.t 6) (.t 14), none⟩,
   ⟨some 3, .mov (.t 15), none⟩]) .skip)) (.seq (.seq (.region false [⟨some 16, .mov (.t 3), none⟩,
   ⟨some 17, .bin .neq false (.t 16) (.c (iv 0)), none⟩]) (.cond (.t 17) (.seq (.region false [⟨some 18, .mov (.t 1), none⟩,
   ⟨some 19, .call F.surdlaw10_num [.t 18], none⟩,
   ⟨some 20, .mov (.t 3), none⟩,
   ⟨some 21, .bin .eql false (.t 19) (.t 20), none⟩,
   ⟨some 22, .mov (.t 21), none⟩,
   ⟨some 23, .fa 0 (.t 4), some (22, true)⟩,
   ⟨some 24, .fa 0 (.t 23), some (22, true)⟩,
   ⟨some 25, .fa 1 (.t 24), some (22, true)⟩,
   ⟨some 26, .load none (.t 25), some (22, true)⟩,
   ⟨some 27, .len (.t 26), some (22, true)⟩,
   ⟨some 28, .bin .eql false (.t 27) (.c (iv 0)), some (22, true)⟩,
   ⟨some 29, .pick (.t 22) (.t 28) (.c (bv false)), none⟩,
   ⟨some 30, .mov (.t 29), none⟩,
   ⟨some 31, .fa 3 (.t 4), some (30, true)⟩,
   ⟨some 32, .fa 0 (.t 31), some (30, true)⟩,
   ⟨some 33, .fa 1 (.t 32), some (30, true)⟩,
   ⟨some 34, .load none (.t 33), some (30, true)⟩,
   ⟨some 35, .len (.t 34), some (30, true)⟩,
   ⟨some 36, .bin .eql false (.t 35) (.c (iv 0)), some (30, true)⟩,
   ⟨some 37, .pick (.t 30) (.t 36) (.c (bv false)), none⟩,
   ⟨some 38, .mov (.t 37), none⟩,
   ⟨some 39, .fa 0 (.t 4), some (38, true)⟩,
   ⟨some 40, .fa 2 (.t 39), some (38, true)⟩,
   ⟨some 41, .load none (.t 40), some (38, true)⟩,
   ⟨some 42, .bin .eql false (.t 41) (.c (iv 0)), some (38, true)⟩,
   ⟨some 43, .pick (.t 38) (.t 42) (.c (bv false)), none⟩,
   ⟨some 44, .mov (.t 43), none⟩,
   ⟨some 45, .fa 3 (.t 4), some (44, true)⟩,
   ⟨some 46, .fa 2 (.t 45), some (44, true)⟩,
   ⟨some 47, .load none (.t 46), some (44, true)⟩,
   ⟨some 48, .bin .eql false (.t 47) (.c (iv 0)), some (44, true)⟩,
   ⟨some 49, .pick (.t 44) (.t 48) (.c (bv false)), none⟩,
   ⟨some 50, .mov (.t 49), none⟩,
   ⟨some 51, .fa 0 (.t 4), some (50, true)⟩,
   ⟨some 52, .fa 0 (.t 51), some (50, true)⟩,
   ⟨some 53, .fa 0 (.t 52), some (50, true)⟩,
   ⟨some 54, .load none (.t 53), some (50, true)⟩,
   ⟨some 55, .un .not (.t 54), some (50, true)⟩,
   ⟨some 56, .pick (.t 50) (.t 55) (.c (bv false)), none⟩,
   ⟨some 57, .mov (.t 56), none⟩,
   ⟨some 58, .fa 3 (.t 4), some (57, true)⟩,
   ⟨some 59, .fa 0 (.t 58), some (57, true)⟩,
   ⟨some 60, .fa 0 (.t 59), some (57, true)⟩,
   ⟨some 61, .load none (.t 60), some (57, true)⟩,
   ⟨some 62, .un .not (.t 61), some (57, true)⟩,
   ⟨some 63, .pick (.t 57) (.t 62) (.c (bv false)), none⟩,
   ⟨some 8, .mov (.t 63), none⟩]) .ret) .skip)) (.seq (.region false [⟨some 64, .mov (.t 1), none⟩,
   ⟨some 65, .call F.surdlaw10_num [.t 64], none⟩,
   ⟨some 66, .bin .eql false (.t 65) (.c (iv 0)), none⟩,
   ⟨some 67, .mov (.t 66), none⟩,
   ⟨some 68, .fa 0 (.t 6), some (67, true)⟩,
   ⟨some 69, .load (some 3) (.t 68), some (67, true)⟩,
   ⟨some 70, .fa 0 (.t 4), some (67, true)⟩,
   ⟨some 71, .fa 0 (.t 70), some (67, true)⟩,
   ⟨some 72, .fa 0 (.t 71), some (67, true)⟩,
   ⟨some 73, .load none (.t 72), some (67, true)⟩,
   ⟨some 74, .fa 0 (.t 4), some (67, true)⟩,
   ⟨some 75, .fa 0 (.t 74), some (67, true)⟩,
   ⟨some 76, .fa 1 (.t 75), some (67, true)⟩,
   ⟨some 77, .load none (.t 76), some (67, true)⟩,
   ⟨some 78, .fa 0 (.t 4), some (67, true)⟩,
   ⟨some 79, .fa 2 (.t 78), some (67, true)⟩,
   ⟨some 80, .load none (.t 79), some (67, true)⟩,
   ⟨some 81, .call F.surdref08_D_Is [.t 69, .t 73, .t 77, .t 80], some (67, true)⟩,
   ⟨some 82, .pick (.t 67) (.t 81) (.c (bv false)), none⟩,
   ⟨some 83, .mov (.t 82), none⟩,
   ⟨some 84, .fa 3 (.t 6), some (83, true)⟩,
   ⟨some 85, .load (some 3) (.t 84), some (83, true)⟩,
   ⟨some 86, .fa 3 (.t 4), some (83, true)⟩,
   ⟨some 87, .fa 0 (.t 86), some (83, true)⟩,
   ⟨some 88, .fa 0 (.t 87), some (83, true)⟩,
   ⟨some 89, .load none (.t 88), some (83, true)⟩,
   ⟨some 90, .fa 3 (.t 4), some (83, true)⟩,
   ⟨some 91, .fa 0 (.t 90), some (83, true)⟩,
   ⟨some 92, .fa 1 (.t 91), some (83, true)⟩,
   ⟨some 93, .load none (.t 92), some (83, true)⟩,
   ⟨some 94, .fa 3 (.t 4), some (83, true)⟩,
   ⟨some 95, .fa 2 (.t 94), some (83, true)⟩,
   ⟨some 96, .load none (.t 95), some (83, true)⟩,
   ⟨some 97, .call F.surdref08_D_Is [.t 85, .t 89, .t 93, .t 96], some (83, true)⟩,
   ⟨some 98, .pick (.t 83) (.t 97) (.c (bv false)), none⟩,
   ⟨some 8, .mov (.t 98), none⟩]) .ret)))
def R.surdlaw10_alike : List VRes := [.tmp 8]
theorem K.surdlaw10_alike : resCode Tryz.prog Tryz.f16.ntmps (Tryz.f16.body.getD .skip) = C.surdlaw10_alike := by kernel_rfl
theorem Q.surdlaw10_alike : resResults Tryz.prog Tryz.f16.results.toList = some R.surdlaw10_alike := by kernel_rfl
theorem E.surdlaw10_alike : Tryz.prog.funcs[F.surdlaw10_alike]? = some Tryz.f16 := Tryz.func16
theorem B.surdlaw10_alike : Tryz.f16.body = some (Tryz.f16.body.getD .skip) := by kernel_rfl
theorem N.surdlaw10_alike : Tryz.f16.ntmps = 99 := Tryz.ntmps16

def C.surdlaw10_own : VC :=
  .seq (.region false [⟨some 2, .mov (.c (bv false)), none⟩]) (.seq (.region false [⟨some 3, .mov (.c nil1), none⟩]) (.seq (.seq (.region false [⟨some 6, .mov (.t 0), none⟩,
   ⟨some 7, .len (.t 6), none⟩,
   ⟨some 8, .mov (.c (iv 0)), none⟩]) (.block 0 (.loop (.seq (.region false [⟨some 9, .bin .lss false (.t 8) (.t 7), none⟩]) (.seq (.cond (.t 9) .skip (.exit 0)) (.seq (.block 1 (.seq (.region false [⟨some 10, .ixa 6 (.t 6) (.t 8), none⟩,
   ⟨some 11, .load (some 6) (.t 10), none⟩,
   ⟨some 5, .alloc [.bool false, .slice none 0 0, .int .i64 0, .bool false, .slice none 0 0, .int .i64 0], none⟩,
   ⟨none, .store 6 (.t 5) (.t 11), none⟩]) (.region false [⟨some 12, .mov (.t 3), none⟩,
   ⟨some 13, .fa 0 (.t 5), none⟩,
   ⟨some 14, .fa 0 (.t 13), none⟩,
   ⟨some 15, .fa 1 (.t 14), none⟩,
   ⟨some 16, .load none (.t 15), none⟩,
   ⟨some 17, .fa 3 (.t 5), none⟩,
   ⟨some 18, .fa 0 (.t 17), none⟩,
   ⟨some 19, .fa 1 (.t 18), none⟩,
   ⟨some 20, .load none (.t 19), none⟩,
   ⟨some 21, .bsl true 1 2 [.slice none 0 0] [(0, (1, .t 16)), (1, (1, .t 20))], none⟩,
   ⟨some 22, .app 1 24 [.slice none 0 0] (.t 12) (.t 21), none⟩,
   ⟨some 3, .mov (.t 22), none⟩]))) (.region false [⟨some 23, .bin .add false (.t 8) (.c (iv 1)), none⟩,
   ⟨some 8, .mov (.t 23), none⟩]))))))) (.seq (.region false [⟨some 24, .mov (.t 3), none⟩,
   ⟨some 25, .call F.surdref01_Own [.t 24], none⟩,
   ⟨some 2, .mov (.t 25), none⟩]) .ret)))
def R.surdlaw10_own : List VRes := [.tmp 2]
theorem K.surdlaw10_own : resCode Tryz.prog Tryz.f17.ntmps (Tryz.f17.body.getD .skip) = C.surdlaw10_own := by kernel_rfl
theorem Q.surdlaw10_own : resResults Tryz.prog Tryz.f17.results.toList = some R.surdlaw10_own := by kernel_rfl
theorem E.surdlaw10_own : Tryz.prog.funcs[F.surdlaw10_own]? = some Tryz.f17 := Tryz.func17
theorem B.surdlaw10_own : Tryz.f17.body = some (Tryz.f17.body.getD .skip) := by kernel_rfl
theorem N.surdlaw10_own : Tryz.f17.ntmps = 26 := Tryz.ntmps17

def C.surdlaw10_awake : VC :=
  .seq (.region false [⟨some 0, .mov (.c (bv false)), none⟩]) (.seq (.region false [⟨some 4, .call F.surdlaw10_small [.c (iv 1)], none⟩,
   ⟨some 5, .call F.surdlaw10_small [.c (iv 2)], none⟩,
   ⟨some 6, .build [.bool false, .slice none 0 0, .int .i64 0, .bool false, .slice none 0 0, .int .i64 0] [(0, (3, .t 4)), (3, (3, .t 5))], none⟩,
   ⟨some 7, .call F.surdlaw10_small [.c (iv 3)], none⟩,
   ⟨some 8, .call F.surdlaw10_small [.c (iv 5)], none⟩,
   ⟨some 9, .build [.bool false, .slice none 0 0, .int .i64 0, .bool false, .slice none 0 0, .int .i64 0] [(0, (3, .t 7)), (3, (3, .t 8))], none⟩,
   ⟨some 10, .call F.span_Add [.t 6, .t 9, .c (iv 0)], none⟩,
   ⟨some 3, .mov (.t 10), none⟩,
   ⟨some 11, .ext (.t 3) 0, none⟩,
   ⟨some 12, .ext (.t 3) 1, none⟩,
   ⟨some 1, .alloc [.bool false, .slice none 0 0, .int .i64 0, .bool false, .slice none 0 0, .int .i64 0], none⟩,
   ⟨none, .store 6 (.t 1) (.t 11), none⟩,
   ⟨some 2, .mov (.t 12), none⟩]) (.seq (.region true [⟨some 13, .mov (.t 2), none⟩,
   ⟨some 14, .call F.surdlaw10_num [.t 13], none⟩,
   ⟨some 15, .bin .eql false (.t 14) (.c (iv 0)), none⟩,
   ⟨some 16, .mov (.t 15), none⟩,
   ⟨some 17, .call F.surdref08_Int [.c (iv 4), .c (iv 0)], some (16, true)⟩,
   ⟨some 18, .fa 0 (.t 1), some (16, true)⟩,
   ⟨some 19, .fa 0 (.t 18), some (16, true)⟩,
   ⟨some 20, .fa 0 (.t 19), some (16, true)⟩,
   ⟨some 21, .load none (.t 20), some (16, true)⟩,
   ⟨some 22, .fa 0 (.t 1), some (16, true)⟩,
   ⟨some 23, .fa 0 (.t 22), some (16, true)⟩,
   ⟨some 24, .fa 1 (.t 23), some (16, true)⟩,
   ⟨some 25, .load none (.t 24), some (16, true)⟩,
   ⟨some 26, .fa 0 (.t 1), some (16, true)⟩,
   ⟨some 27, .fa 2 (.t 26), some (16, true)⟩,
   ⟨some 28, .load none (.t 27), some (16, true)⟩,
   ⟨some 29, .call F.surdref08_D_Is [.t 17, .t 21, .t 25, .t 28], some (16, true)⟩,
   ⟨some 30, .pick (.t 16) (.t 29) (.c (bv false)), none⟩,
   ⟨some 31, .mov (.t 30), none⟩,
   ⟨some 32, .call F.surdref08_Int [.c (iv 7), .c (iv 0)], some (31, true)⟩,
   ⟨some 33, .fa 3 (.t 1), some (31, true)⟩,
   ⟨some 34, .fa 0 (.t 33), some (31, true)⟩,
   ⟨some 35, .fa 0 (.t 34), some (31, true)⟩,
   ⟨some 36, .load none (.t 35), some (31, true)⟩,
   ⟨some 37, .fa 3 (.t 1), some (31, true)⟩,
   ⟨some 38, .fa 0 (.t 37), some (31, true)⟩,
   ⟨some 39, .fa 1 (.t 38), some (31, true)⟩,
   ⟨some 40, .load none (.t 39), some (31, true)⟩,
   ⟨some 41, .fa 3 (.t 1), some (31, true)⟩,
   ⟨some 42, .fa 2 (.t 41), some (31, true)⟩,
   ⟨some 43, .load none (.t 42), some (31, true)⟩,
   ⟨some 44, .call F.surdref08_D_Is [.t 32, .t 36, .t 40, .t 43], some (31, true)⟩,
   ⟨some 45, .pick (.t 31) (.t 44) (.c (bv false)), none⟩,
   ⟨some 0, .mov (.t 45), none⟩]) .ret))
def R.surdlaw10_awake : List VRes := [.tmp 0]
theorem K.surdlaw10_awake : resCode Tryz.prog Tryz.f19.ntmps (Tryz.f19.body.getD .skip) = C.surdlaw10_awake := by kernel_rfl
theorem Q.surdlaw10_awake : resResults Tryz.prog Tryz.f19.results.toList = some R.surdlaw10_awake := by kernel_rfl
theorem E.surdlaw10_awake : Tryz.prog.funcs[F.surdlaw10_awake]? = some Tryz.f19 := Tryz.func19
theorem B.surdlaw10_awake : Tryz.f19.body = some (Tryz.f19.body.getD .skip) := by kernel_rfl
theorem N.surdlaw10_awake : Tryz.f19.ntmps = 46 := Tryz.ntmps19

def C.surdlaw10_num : VC :=
  .seq (.region false [⟨some 2, .mov (.c (iv 0)), none⟩]) (.seq (.region false [⟨some 3, .mov (.t 0), none⟩,
   ⟨some 2, .mov (.t 3), none⟩]) .ret)
def R.surdlaw10_num : List VRes := [.tmp 2]
theorem K.surdlaw10_num : resCode Tryz.prog Tryz.f34.ntmps (Tryz.f34.body.getD .skip) = C.surdlaw10_num := by kernel_rfl
theorem Q.surdlaw10_num : resResults Tryz.prog Tryz.f34.results.toList = some R.surdlaw10_num := by kernel_rfl
theorem E.surdlaw10_num : Tryz.prog.funcs[F.surdlaw10_num]? = some Tryz.f34 := Tryz.func34
theorem B.surdlaw10_num : Tryz.f34.body = some (Tryz.f34.body.getD .skip) := by kernel_rfl
theorem N.surdlaw10_num : Tryz.f34.ntmps = 4 := Tryz.ntmps34

def C.surdref08_Cmp : VC :=
  .seq (.region false [⟨some 2, .box (.t 0), none⟩,
   ⟨some 3, .box (.t 1), none⟩,
   ⟨some 4, .mov (.c (iv 0)), none⟩]) (.seq (.region true [⟨some 7, .fa 0 (.t 2), none⟩,
   ⟨some 8, .load (some 2) (.t 7), none⟩,
   ⟨some 9, .call F.surdref06_Z_Sign [.t 8], none⟩,
   ⟨some 10, .fa 0 (.t 3), none⟩,
   ⟨some 11, .load (some 2) (.t 10), none⟩,
   ⟨some 12, .call F.surdref06_Z_Sign [.t 11], none⟩,
   ⟨some 5, .mov (.t 9), none⟩,
   ⟨some 6, .mov (.t 12), none⟩]) (.seq (.seq (.region false [⟨some 13, .mov (.t 5), none⟩,
   ⟨some 14, .mov (.t 6), none⟩,
   ⟨some 15, .bin .neq false (.t 13) (.t 14), none⟩]) (.cond (.t 15) (.seq (.seq (.region false [⟨some 16, .mov (.t 5), none⟩,
   ⟨some 17, .mov (.t 6), none⟩,
   ⟨some 18, .bin .lss false (.t 16) (.t 17), none⟩]) (.cond (.t 18) (.seq (.region false [⟨some 4, .mov (.c (iv (-1))), none⟩]) .ret) .skip)) (.seq (.region false [⟨some 4, .mov (.c (iv 1)), none⟩]) .ret)) .skip)) (.seq (.seq (.region false [⟨some 19, .mov (.t 5), none⟩,
   ⟨some 20, .bin .eql false (.t 19) (.c (iv 0)), none⟩]) (.cond (.t 20) (.seq (.region false [⟨some 4, .mov (.c (iv 0)), none⟩]) .ret) .skip)) (.seq (.seq (.region true [⟨some 21, .load (some 3) (.t 2), none⟩,
   ⟨some 22, .call F.surdref08_D_Top [.t 21], none⟩,
   ⟨some 23, .load (some 3) (.t 3), none⟩,
   ⟨some 24, .call F.surdref08_D_Top [.t 23], none⟩,
   ⟨some 25, .bin .neq false (.t 22) (.t 24), none⟩]) (.cond (.t 25) (.seq (.seq (.region true [⟨some 26, .load (some 3) (.t 2), none⟩,
   ⟨some 27, .call F.surdref08_D_Top [.t 26], none⟩,
   ⟨some 28, .load (some 3) (.t 3), none⟩,
   ⟨some 29, .call F.surdref08_D_Top [.t 28], none⟩,
   ⟨some 30, .bin .lss false (.t 27) (.t 29), none⟩]) (.cond (.t 30) (.seq (.region false [⟨some 31, .mov (.t 5), none⟩,
   ⟨some 32, .un .neg (.t 31), none⟩,
   ⟨some 4, .mov (.t 32), none⟩]) .ret) .skip)) (.seq (.region false [⟨some 33, .mov (.t 5), none⟩,
   ⟨some 4, .mov (.t 33), none⟩]) .ret)) .skip)) (.seq (.seq (.region false [⟨some 34, .fa 2 (.t 2), none⟩,
   ⟨some 35, .load none (.t 34), none⟩,
   ⟨some 36, .fa 2 (.t 3), none⟩,
   ⟨some 37, .load none (.t 36), none⟩,
   ⟨some 38, .bin .leq false (.t 35) (.t 37), none⟩]) (.cond (.t 38) (.seq (.region true [⟨some 39, .fa 0 (.t 2), none⟩,
   ⟨some 40, .load (some 2) (.t 39), none⟩,
   ⟨some 41, .fa 0 (.t 3), none⟩,
   ⟨some 42, .load (some 2) (.t 41), none⟩,
   ⟨some 43, .fa 2 (.t 3), none⟩,
   ⟨some 44, .load none (.t 43), none⟩,
   ⟨some 45, .fa 2 (.t 2), none⟩,
   ⟨some 46, .load none (.t 45), none⟩,
   ⟨some 47, .bin .sub false (.t 44) (.t 46), none⟩,
   ⟨some 48, .call F.surdref06_Shift [.t 42, .t 47], none⟩,
   ⟨some 49, .call F.surdref06_Cmp [.t 40, .t 48], none⟩,
   ⟨some 4, .mov (.t 49), none⟩]) .ret) .skip)) (.seq (.region true [⟨some 50, .fa 0 (.t 2), none⟩,
   ⟨some 51, .load (some 2) (.t 50), none⟩,
   ⟨some 52, .fa 2 (.t 2), none⟩,
   ⟨some 53, .load none (.t 52), none⟩,
   ⟨some 54, .fa 2 (.t 3), none⟩,
   ⟨some 55, .load none (.t 54), none⟩,
   ⟨some 56, .bin .sub false (.t 53) (.t 55), none⟩,
   ⟨some 57, .call F.surdref06_Shift [.t 51, .t 56], none⟩,
   ⟨some 58, .fa 0 (.t 3), none⟩,
   ⟨some 59, .load (some 2) (.t 58), none⟩,
   ⟨some 60, .call F.surdref06_Cmp [.t 57, .t 59], none⟩,
   ⟨some 4, .mov (.t 60), none⟩]) .ret))))))
def R.surdref08_Cmp : List VRes := [.tmp 4]
theorem K.surdref08_Cmp : resCode Tryz.prog Tryz.f38.ntmps (Tryz.f38.body.getD .skip) = C.surdref08_Cmp := by kernel_rfl
theorem Q.surdref08_Cmp : resResults Tryz.prog Tryz.f38.results.toList = some R.surdref08_Cmp := by kernel_rfl
theorem E.surdref08_Cmp : Tryz.prog.funcs[F.surdref08_Cmp]? = some Tryz.f38 := Tryz.func38
theorem B.surdref08_Cmp : Tryz.f38.body = some (Tryz.f38.body.getD .skip) := by kernel_rfl
theorem N.surdref08_Cmp : Tryz.f38.ntmps = 61 := Tryz.ntmps38

def C.surdref08_Round : VC :=
  .seq (.region false [⟨some 3, .box (.t 0), none⟩,
   ⟨some 6, .alloc [.bool false, .slice none 0 0, .int .i64 0], none⟩]) (.seq (.seq (.region false [⟨some 10, .fa 0 (.t 3), none⟩,
   ⟨some 11, .load (some 2) (.t 10), none⟩,
   ⟨some 12, .call F.surdref06_Z_Sign [.t 11], none⟩,
   ⟨some 13, .bin .eql false (.t 12) (.c (iv 0)), none⟩,
   ⟨some 14, .mov (.t 13), none⟩,
   ⟨some 15, .mov (.t 1), some (14, false)⟩,
   ⟨some 16, .fa 2 (.t 3), some (14, false)⟩,
   ⟨some 17, .load none (.t 16), some (14, false)⟩,
   ⟨some 18, .bin .leq false (.t 15) (.t 17), some (14, false)⟩,
   ⟨some 19, .pick (.t 14) (.c (bv true)) (.t 18), none⟩]) (.cond (.t 19) (.seq (.region false [⟨some 20, .load (some 3) (.t 3), none⟩,
   ⟨none, .store 3 (.t 6) (.t 20), none⟩]) .ret) .skip)) (.seq (.region false [⟨some 21, .mov (.t 1), none⟩,
   ⟨some 22, .fa 2 (.t 3), none⟩,
   ⟨some 23, .load none (.t 22), none⟩,
   ⟨some 24, .bin .sub false (.t 21) (.t 23), none⟩,
   ⟨some 7, .mov (.t 24), none⟩]) (.seq (.seq (.region false [⟨some 25, .mov (.t 7), none⟩,
   ⟨some 26, .fa 0 (.t 3), none⟩,
   ⟨some 27, .fa 1 (.t 26), none⟩,
   ⟨some 28, .load none (.t 27), none⟩,
   ⟨some 29, .call F.surdref01_Num_Len [.t 28], none⟩,
   ⟨some 30, .bin .add false (.t 29) (.c (iv 2)), none⟩,
   ⟨some 31, .bin .gtr false (.t 25) (.t 30), none⟩]) (.cond (.t 31) (.seq (.seq (.region false [⟨some 32, .mov (.t 2), none⟩,
   ⟨some 33, .bin .eql false (.t 32) (.c (iv 0)), none⟩,
   ⟨some 34, .mov (.t 33), none⟩,
   ⟨some 35, .fa 0 (.t 3), some (34, true)⟩,
   ⟨some 36, .fa 0 (.t 35), some (34, true)⟩,
   ⟨some 37, .load none (.t 36), some (34, true)⟩,
   ⟨some 38, .pick (.t 34) (.t 37) (.c (bv false)), none⟩]) (.cond (.t 38) (.seq (.region false [⟨some 39, .mov (.t 1), none⟩,
   ⟨some 40, .call F.surdref08_Int [.c (iv (-1)), .t 39], none⟩,
   ⟨none, .store 3 (.t 6) (.t 40), none⟩]) .ret) .skip)) (.seq (.seq (.region false [⟨some 41, .mov (.t 2), none⟩,
   ⟨some 42, .bin .eql false (.t 41) (.c (iv 1)), none⟩,
   ⟨some 43, .mov (.t 42), none⟩,
   ⟨some 44, .fa 0 (.t 3), some (43, true)⟩,
   ⟨some 45, .fa 0 (.t 44), some (43, true)⟩,
   ⟨some 46, .load none (.t 45), some (43, true)⟩,
   ⟨some 47, .un .not (.t 46), some (43, true)⟩,
   ⟨some 48, .pick (.t 43) (.t 47) (.c (bv false)), none⟩]) (.cond (.t 48) (.seq (.region false [⟨some 49, .mov (.t 1), none⟩,
   ⟨some 50, .call F.surdref08_Int [.c (iv 1), .t 49], none⟩,
   ⟨none, .store 3 (.t 6) (.t 50), none⟩]) .ret) .skip)) (.seq (.region false [⟨some 51, .build [.bool false, .slice none 0 0, .int .i64 0] [], none⟩,
   ⟨none, .store 3 (.t 6) (.t 51), none⟩]) .ret))) .skip)) (.seq (.region false [⟨some 52, .call F.surdref01_Int [.c (iv 1)], none⟩,
   ⟨some 53, .mov (.t 7), none⟩,
   ⟨some 54, .call F.surdref01_Shl [.t 52, .t 53], none⟩,
   ⟨some 55, .build [.bool false, .slice none 0 0] [(1, (1, .t 54))], none⟩,
   ⟨some 8, .alloc [.bool false, .slice none 0 0], none⟩,
   ⟨none, .store 2 (.t 8) (.t 55), none⟩]) (.seq (.region false [⟨some 56, .build [.bool false, .slice none 0 0] [], none⟩,
   ⟨some 9, .alloc [.bool false, .slice none 0 0], none⟩,
   ⟨none, .store 2 (.t 9) (.t 56), none⟩]) (.seq (.seq (.region false [⟨some 57, .mov (.t 2), none⟩]) (.block 0 (.seq (.region false [⟨some 66, .bin .eql false (.t 57) (.c (iv 0)), none⟩,
   ⟨some 65, .mov (.t 66), none⟩]) (.cond (.t 65) (.region false [⟨some 68, .fa 0 (.t 3), none⟩,
   ⟨some 69, .load (some 2) (.t 68), none⟩,
   ⟨some 70, .load (some 2) (.t 8), none⟩,
   ⟨some 71, .call F.surdref06_Floor [.t 69, .t 70], none⟩,
   ⟨some 67, .mov (.t 71), none⟩,
   ⟨some 72, .ext (.t 67) 0, none⟩,
   ⟨some 73, .ext (.t 67) 1, none⟩,
   ⟨none, .store 2 (.t 9) (.t 72), none⟩]) (.seq (.region false [⟨some 75, .bin .eql false (.t 57) (.c (iv 1)), none⟩,
   ⟨some 74, .mov (.t 75), none⟩]) (.cond (.t 74) (.region false [⟨some 77, .fa 0 (.t 3), none⟩,
   ⟨some 78, .load (some 2) (.t 77), none⟩,
   ⟨some 79, .load (some 2) (.t 8), none⟩,
   ⟨some 80, .call F.surdref06_Ceil [.t 78, .t 79], none⟩,
   ⟨some 76, .mov (.t 80), none⟩,
   ⟨some 81, .ext (.t 76) 0, none⟩,
   ⟨some 82, .ext (.t 76) 1, none⟩,
   ⟨none, .store 2 (.t 9) (.t 81), none⟩]) (.region false [⟨some 59, .fa 0 (.t 3), none⟩,
   ⟨some 60, .load (some 2) (.t 59), none⟩,
   ⟨some 61, .load (some 2) (.t 8), none⟩,
   ⟨some 62, .call F.surdref06_Near [.t 60, .t 61], none⟩,
   ⟨some 58, .mov (.t 62), none⟩,
   ⟨some 63, .ext (.t 58) 0, none⟩,
   ⟨some 64, .ext (.t 58) 1, none⟩,
   ⟨none, .store 2 (.t 9) (.t 63), none⟩]))))))) (.seq (.region false [⟨some 83, .load (some 2) (.t 9), none⟩,
   ⟨some 84, .mov (.t 1), none⟩,
   ⟨some 85, .call F.surdref08_Of [.t 83, .t 84], none⟩,
   ⟨none, .store 3 (.t 6) (.t 85), none⟩]) .ret)))))))
def R.surdref08_Round : List VRes := [.cell 6 (some 3)]
theorem K.surdref08_Round : resCode Tryz.prog Tryz.f47.ntmps (Tryz.f47.body.getD .skip) = C.surdref08_Round := by kernel_rfl
theorem Q.surdref08_Round : resResults Tryz.prog Tryz.f47.results.toList = some R.surdref08_Round := by kernel_rfl
theorem E.surdref08_Round : Tryz.prog.funcs[F.surdref08_Round]? = some Tryz.f47 := Tryz.func47
theorem B.surdref08_Round : Tryz.f47.body = some (Tryz.f47.body.getD .skip) := by kernel_rfl
theorem N.surdref08_Round : Tryz.f47.ntmps = 86 := Tryz.ntmps47

def C.surdref10_Bad : VC :=
  .seq (.region false [⟨some 2, .mov (.c (iv 0)), none⟩]) (.seq (.region false [⟨some 3, .mov (.c (iv 0)), none⟩]) (.seq (.seq (.region false [⟨some 8, .mov (.t 0), none⟩,
   ⟨some 9, .len (.t 8), none⟩,
   ⟨some 10, .mov (.c (iv 0)), none⟩]) (.block 0 (.loop (.seq (.region false [⟨some 11, .bin .lss false (.t 10) (.t 9), none⟩]) (.seq (.cond (.t 11) .skip (.exit 0)) (.seq (.block 1 (.seq (.region false [⟨some 12, .ixa 3 (.t 8) (.t 10), none⟩,
   ⟨some 13, .load (some 3) (.t 12), none⟩,
   ⟨some 5, .alloc [.bool false, .slice none 0 0, .int .i64 0], none⟩,
   ⟨none, .store 3 (.t 5) (.t 13), none⟩]) (.seq (.region false [⟨some 15, .load (some 3) (.t 5), none⟩,
   ⟨some 16, .call F.surdref08_Told [.t 15], none⟩,
   ⟨some 14, .mov (.t 16), none⟩,
   ⟨some 17, .ext (.t 14) 0, none⟩,
   ⟨some 18, .ext (.t 14) 1, none⟩,
   ⟨some 6, .alloc [.bool false, .slice none 0 0, .int .i64 0], none⟩,
   ⟨none, .store 3 (.t 6) (.t 17), none⟩,
   ⟨some 7, .mov (.t 18), none⟩]) (.region false [⟨some 19, .mov (.t 3), none⟩,
   ⟨some 20, .mov (.t 7), none⟩,
   ⟨some 21, .call F.surdref10_worst [.t 19, .t 20], none⟩,
   ⟨some 3, .mov (.t 21), none⟩])))) (.region false [⟨some 22, .bin .add false (.t 10) (.c (iv 1)), none⟩,
   ⟨some 10, .mov (.t 22), none⟩]))))))) (.seq (.region false [⟨some 23, .mov (.t 3), none⟩,
   ⟨some 2, .mov (.t 23), none⟩]) .ret)))
def R.surdref10_Bad : List VRes := [.tmp 2]
theorem K.surdref10_Bad : resCode Tryz.prog Tryz.f48.ntmps (Tryz.f48.body.getD .skip) = C.surdref10_Bad := by kernel_rfl
theorem Q.surdref10_Bad : resResults Tryz.prog Tryz.f48.results.toList = some R.surdref10_Bad := by kernel_rfl
theorem E.surdref10_Bad : Tryz.prog.funcs[F.surdref10_Bad]? = some Tryz.f48 := Tryz.func48
theorem B.surdref10_Bad : Tryz.f48.body = some (Tryz.f48.body.getD .skip) := by kernel_rfl
theorem N.surdref10_Bad : Tryz.f48.ntmps = 24 := Tryz.ntmps48

def C.surdref01_Own : VC :=
  .seq (.region false [⟨some 2, .mov (.c (bv false)), none⟩]) (.seq (.seq (.region false [⟨some 13, .mov (.t 0), none⟩,
   ⟨some 14, .len (.t 13), none⟩,
   ⟨some 15, .mov (.c (iv 0)), none⟩]) (.block 0 (.loop (.seq (.region false [⟨some 16, .bin .lss false (.t 15) (.t 14), none⟩]) (.seq (.cond (.t 16) .skip (.exit 0)) (.seq (.block 1 (.seq (.region false [⟨some 17, .mov (.t 15), none⟩,
   ⟨some 18, .ixa 1 (.t 13) (.t 15), none⟩,
   ⟨some 19, .load none (.t 18), none⟩,
   ⟨some 3, .mov (.t 17), none⟩,
   ⟨some 4, .mov (.t 19), none⟩]) (.seq (.region false [⟨some 20, .mov (.t 4), none⟩,
   ⟨some 21, .len (.t 20), none⟩,
   ⟨some 22, .mov (.c (iv 0)), none⟩]) (.block 2 (.loop (.seq (.region false [⟨some 23, .bin .lss false (.t 22) (.t 21), none⟩]) (.seq (.cond (.t 23) .skip (.exit 2)) (.seq (.block 3 (.seq (.region false [⟨some 24, .mov (.t 22), none⟩,
   ⟨some 5, .mov (.t 24), none⟩]) (.region false [⟨some 25, .mov (.t 4), none⟩,
   ⟨some 26, .mov (.t 5), none⟩,
   ⟨some 27, .mov (.t 3), none⟩,
   ⟨some 28, .bin .rem false (.t 27) (.c (iv 251)), none⟩,
   ⟨some 29, .bin .add false (.t 28) (.c (iv 1)), none⟩,
   ⟨some 30, .conv .u64 (.t 29), none⟩,
   ⟨some 31, .ixa 1 (.t 25) (.t 26), none⟩,
   ⟨none, .store 1 (.t 31) (.t 30), none⟩]))) (.region false [⟨some 32, .bin .add false (.t 22) (.c (iv 1)), none⟩,
   ⟨some 22, .mov (.t 32), none⟩]))))))))) (.region false [⟨some 33, .bin .add false (.t 15) (.c (iv 1)), none⟩,
   ⟨some 15, .mov (.t 33), none⟩]))))))) (.seq (.seq (.region false [⟨some 34, .mov (.t 0), none⟩,
   ⟨some 35, .len (.t 34), none⟩,
   ⟨some 36, .mov (.c (iv 0)), none⟩]) (.block 4 (.loop (.seq (.region false [⟨some 37, .bin .lss false (.t 36) (.t 35), none⟩]) (.seq (.cond (.t 37) .skip (.exit 4)) (.seq (.block 5 (.seq (.region false [⟨some 38, .mov (.t 36), none⟩,
   ⟨some 39, .ixa 1 (.t 34) (.t 36), none⟩,
   ⟨some 40, .load none (.t 39), none⟩,
   ⟨some 6, .mov (.t 38), none⟩,
   ⟨some 7, .mov (.t 40), none⟩]) (.seq (.region false [⟨some 41, .mov (.t 6), none⟩,
   ⟨some 42, .bin .mul false (.c (iv 5)) (.t 41), none⟩,
   ⟨some 43, .bin .add false (.c (iv 300)) (.t 42), none⟩,
   ⟨some 44, .conv .u64 (.t 43), none⟩,
   ⟨some 8, .mov (.t 44), none⟩]) (.seq (.region false [⟨some 45, .mov (.t 7), none⟩,
   ⟨some 46, .mov (.t 8), none⟩,
   ⟨some 47, .mov (.t 8), none⟩,
   ⟨some 48, .bin .add false (.t 47) (.c (nv 1)), none⟩,
   ⟨some 49, .mov (.t 8), none⟩,
   ⟨some 50, .bin .add false (.t 49) (.c (nv 2)), none⟩,
   ⟨some 51, .mov (.t 8), none⟩,
   ⟨some 52, .bin .add false (.t 51) (.c (nv 3)), none⟩,
   ⟨some 53, .mov (.t 8), none⟩,
   ⟨some 54, .bin .add false (.t 53) (.c (nv 4)), none⟩,
   ⟨some 55, .bsl true 1 5 [.int .u64 0] [(0, (1, .t 46)), (1, (1, .t 48)), (2, (1, .t 50)), (3, (1, .t 52)), (4, (1, .t 54))], none⟩,
   ⟨some 56, .app 1 8 [.int .u64 0] (.t 45) (.t 55), none⟩,
   ⟨some 7, .mov (.t 56), none⟩]) (.region false [⟨some 57, .mov (.t 0), none⟩,
   ⟨some 58, .mov (.t 6), none⟩,
   ⟨some 59, .mov (.t 7), none⟩,
   ⟨some 60, .ixa 1 (.t 57) (.t 58), none⟩,
   ⟨none, .store 1 (.t 60) (.t 59), none⟩]))))) (.region false [⟨some 61, .bin .add false (.t 36) (.c (iv 1)), none⟩,
   ⟨some 36, .mov (.t 61), none⟩]))))))) (.seq (.seq (.region false [⟨some 62, .mov (.t 0), none⟩,
   ⟨some 63, .len (.t 62), none⟩,
   ⟨some 64, .mov (.c (iv 0)), none⟩]) (.block 6 (.loop (.seq (.region false [⟨some 65, .bin .lss false (.t 64) (.t 63), none⟩]) (.seq (.cond (.t 65) .skip (.exit 6)) (.seq (.block 7 (.seq (.region false [⟨some 66, .mov (.t 64), none⟩,
   ⟨some 67, .ixa 1 (.t 62) (.t 64), none⟩,
   ⟨some 68, .load none (.t 67), none⟩,
   ⟨some 9, .mov (.t 66), none⟩,
   ⟨some 10, .mov (.t 68), none⟩]) (.seq (.region false [⟨some 69, .mov (.t 10), none⟩,
   ⟨some 70, .len (.t 69), none⟩,
   ⟨some 71, .mov (.c (iv 0)), none⟩]) (.block 8 (.loop (.seq (.region false [⟨some 72, .bin .lss false (.t 71) (.t 70), none⟩]) (.seq (.cond (.t 72) .skip (.exit 8)) (.seq (.block 9 (.seq (.region false [⟨some 73, .mov (.t 71), none⟩,
   ⟨some 74, .ixa 1 (.t 69) (.t 71), none⟩,
   ⟨some 75, .load none (.t 74), none⟩,
   ⟨some 11, .mov (.t 73), none⟩,
   ⟨some 12, .mov (.t 75), none⟩]) (.seq (.region false [⟨some 76, .mov (.t 11), none⟩,
   ⟨some 77, .mov (.t 10), none⟩,
   ⟨some 78, .len (.t 77), none⟩,
   ⟨some 79, .bin .sub false (.t 78) (.c (iv 5)), none⟩,
   ⟨some 80, .bin .lss false (.t 76) (.t 79), none⟩,
   ⟨some 81, .mov (.t 80), none⟩,
   ⟨some 82, .mov (.t 12), some (81, true)⟩,
   ⟨some 83, .mov (.t 9), some (81, true)⟩,
   ⟨some 84, .bin .rem false (.t 83) (.c (iv 251)), some (81, true)⟩,
   ⟨some 85, .bin .add false (.t 84) (.c (iv 1)), some (81, true)⟩,
   ⟨some 86, .conv .u64 (.t 85), some (81, true)⟩,
   ⟨some 87, .bin .neq false (.t 82) (.t 86), some (81, true)⟩,
   ⟨some 88, .pick (.t 81) (.t 87) (.c (bv false)), none⟩,
   ⟨some 89, .mov (.t 88), none⟩,
   ⟨some 90, .mov (.t 11), some (89, false)⟩,
   ⟨some 91, .mov (.t 10), some (89, false)⟩,
   ⟨some 92, .len (.t 91), some (89, false)⟩,
   ⟨some 93, .bin .sub false (.t 92) (.c (iv 5)), some (89, false)⟩,
   ⟨some 94, .bin .geq false (.t 90) (.t 93), some (89, false)⟩,
   ⟨some 95, .mov (.t 94), some (89, false)⟩,
   ⟨some 96, .mov (.t 12), some (95, true)⟩,
   ⟨some 97, .mov (.t 9), some (95, true)⟩,
   ⟨some 98, .bin .mul false (.c (iv 5)) (.t 97), some (95, true)⟩,
   ⟨some 99, .bin .add false (.c (iv 300)) (.t 98), some (95, true)⟩,
   ⟨some 100, .mov (.t 11), some (95, true)⟩,
   ⟨some 101, .bin .add false (.t 99) (.t 100), some (95, true)⟩,
   ⟨some 102, .mov (.t 10), some (95, true)⟩,
   ⟨some 103, .len (.t 102), some (95, true)⟩,
   ⟨some 104, .bin .sub false (.t 101) (.t 103), some (95, true)⟩,
   ⟨some 105, .bin .add false (.t 104) (.c (iv 5)), some (95, true)⟩,
   ⟨some 106, .conv .u64 (.t 105), some (95, true)⟩,
   ⟨some 107, .bin .neq false (.t 96) (.t 106), some (95, true)⟩,
   ⟨some 108, .pick (.t 95) (.t 107) (.c (bv false)), some (89, false)⟩,
   ⟨some 109, .pick (.t 89) (.c (bv true)) (.t 108), none⟩]) (.cond (.t 109) (.seq (.region false [⟨some 2, .mov (.c (bv false)), none⟩]) .ret) .skip)))) (.region false [⟨some 110, .bin .add false (.t 71) (.c (iv 1)), none⟩,
   ⟨some 71, .mov (.t 110), none⟩]))))))))) (.region false [⟨some 111, .bin .add false (.t 64) (.c (iv 1)), none⟩,
   ⟨some 64, .mov (.t 111), none⟩]))))))) (.seq (.region false [⟨some 2, .mov (.c (bv true)), none⟩]) .ret))))
def R.surdref01_Own : List VRes := [.tmp 2]
theorem K.surdref01_Own : resCode Tryz.prog Tryz.f49.ntmps (Tryz.f49.body.getD .skip) = C.surdref01_Own := by kernel_rfl
theorem Q.surdref01_Own : resResults Tryz.prog Tryz.f49.results.toList = some R.surdref01_Own := by kernel_rfl
theorem E.surdref01_Own : Tryz.prog.funcs[F.surdref01_Own]? = some Tryz.f49 := Tryz.func49
theorem B.surdref01_Own : Tryz.f49.body = some (Tryz.f49.body.getD .skip) := by kernel_rfl
theorem N.surdref01_Own : Tryz.f49.ntmps = 112 := Tryz.ntmps49

def C.span_Add : VC :=
  .seq (.region false [⟨some 3, .box (.t 0), none⟩,
   ⟨some 4, .box (.t 1), none⟩,
   ⟨some 6, .alloc [.bool false, .slice none 0 0, .int .i64 0, .bool false, .slice none 0 0, .int .i64 0], none⟩,
   ⟨some 7, .mov (.c (iv 0)), none⟩]) (.seq (.seq (.region false [⟨some 9, .mov (.t 2), none⟩,
   ⟨some 10, .load (some 6) (.t 3), none⟩,
   ⟨some 11, .load (some 6) (.t 4), none⟩,
   ⟨some 12, .bsl true 6 2 [.bool false, .slice none 0 0, .int .i64 0, .bool false, .slice none 0 0, .int .i64 0] [(0, (6, .t 10)), (6, (6, .t 11))], none⟩,
   ⟨some 13, .call F.span_checks [.t 9, .t 12], none⟩,
   ⟨some 8, .mov (.t 13), none⟩]) (.seq (.region false [⟨some 14, .mov (.t 8), none⟩,
   ⟨some 15, .bin .neq false (.t 14) (.c (iv 0)), none⟩]) (.cond (.t 15) (.seq (.region false [⟨some 16, .build [.bool false, .slice none 0 0, .int .i64 0, .bool false, .slice none 0 0, .int .i64 0] [], none⟩,
   ⟨some 17, .mov (.t 8), none⟩,
   ⟨none, .store 6 (.t 6) (.t 16), none⟩,
   ⟨some 7, .mov (.t 17), none⟩]) .ret) .skip))) (.seq (.region false [⟨some 18, .load (some 6) (.t 3), none⟩,
   ⟨some 19, .load (some 6) (.t 4), none⟩,
   ⟨some 20, .mov (.t 2), none⟩,
   ⟨some 21, .call F.span_sums [.t 18, .t 19, .t 20], none⟩,
   ⟨some 22, .ext (.t 21) 0, none⟩,
   ⟨some 23, .ext (.t 21) 1, none⟩,
   ⟨none, .store 6 (.t 6) (.t 22), none⟩,
   ⟨some 7, .mov (.t 23), none⟩]) .ret))
def R.span_Add : List VRes := [.cell 6 (some 6), .tmp 7]
theorem K.span_Add : resCode Tryz.prog Tryz.f50.ntmps (Tryz.f50.body.getD .skip) = C.span_Add := by kernel_rfl
theorem Q.span_Add : resResults Tryz.prog Tryz.f50.results.toList = some R.span_Add := by kernel_rfl
theorem E.span_Add : Tryz.prog.funcs[F.span_Add]? = some Tryz.f50 := Tryz.func50
theorem B.span_Add : Tryz.f50.body = some (Tryz.f50.body.getD .skip) := by kernel_rfl
theorem N.span_Add : Tryz.f50.ntmps = 24 := Tryz.ntmps50

def C.span_Mul : VC :=
  .seq (.region false [⟨some 3, .box (.t 0), none⟩,
   ⟨some 4, .box (.t 1), none⟩,
   ⟨some 6, .alloc [.bool false, .slice none 0 0, .int .i64 0, .bool false, .slice none 0 0, .int .i64 0], none⟩,
   ⟨some 7, .mov (.c (iv 0)), none⟩]) (.seq (.seq (.region false [⟨some 15, .mov (.t 2), none⟩,
   ⟨some 16, .load (some 6) (.t 3), none⟩,
   ⟨some 17, .load (some 6) (.t 4), none⟩,
   ⟨some 18, .bsl true 6 2 [.bool false, .slice none 0 0, .int .i64 0, .bool false, .slice none 0 0, .int .i64 0] [(0, (6, .t 16)), (6, (6, .t 17))], none⟩,
   ⟨some 19, .call F.span_checks [.t 15, .t 18], none⟩,
   ⟨some 8, .mov (.t 19), none⟩]) (.seq (.region false [⟨some 20, .mov (.t 8), none⟩,
   ⟨some 21, .bin .neq false (.t 20) (.c (iv 0)), none⟩]) (.cond (.t 21) (.seq (.region false [⟨some 22, .build [.bool false, .slice none 0 0, .int .i64 0, .bool false, .slice none 0 0, .int .i64 0] [], none⟩,
   ⟨some 23, .mov (.t 8), none⟩,
   ⟨none, .store 6 (.t 6) (.t 22), none⟩,
   ⟨some 7, .mov (.t 23), none⟩]) .ret) .skip))) (.seq (.region false [⟨some 9, .mov (.c nil1), none⟩]) (.seq (.region false [⟨some 10, .mov (.c (iv 0)), none⟩]) (.seq (.seq (.region false [⟨some 24, .fa 0 (.t 3), none⟩,
   ⟨some 25, .load (some 3) (.t 24), none⟩,
   ⟨some 26, .fa 0 (.t 4), none⟩,
   ⟨some 27, .load (some 3) (.t 26), none⟩,
   ⟨some 28, .build [.bool false, .slice none 0 0, .int .i64 0, .bool false, .slice none 0 0, .int .i64 0] [(0, (3, .t 25)), (3, (3, .t 27))], none⟩,
   ⟨some 29, .fa 0 (.t 3), none⟩,
   ⟨some 30, .load (some 3) (.t 29), none⟩,
   ⟨some 31, .fa 3 (.t 4), none⟩,
   ⟨some 32, .load (some 3) (.t 31), none⟩,
   ⟨some 33, .build [.bool false, .slice none 0 0, .int .i64 0, .bool false, .slice none 0 0, .int .i64 0] [(0, (3, .t 30)), (3, (3, .t 32))], none⟩,
   ⟨some 34, .fa 3 (.t 3), none⟩,
   ⟨some 35, .load (some 3) (.t 34), none⟩,
   ⟨some 36, .fa 0 (.t 4), none⟩,
   ⟨some 37, .load (some 3) (.t 36), none⟩,
   ⟨some 38, .build [.bool false, .slice none 0 0, .int .i64 0, .bool false, .slice none 0 0, .int .i64 0] [(0, (3, .t 35)), (3, (3, .t 37))], none⟩,
   ⟨some 39, .fa 3 (.t 3), none⟩,
   ⟨some 40, .load (some 3) (.t 39), none⟩,
   ⟨some 41, .fa 3 (.t 4), none⟩,
   ⟨some 42, .load (some 3) (.t 41), none⟩,
   ⟨some 43, .build [.bool false, .slice none 0 0, .int .i64 0, .bool false, .slice none 0 0, .int .i64 0] [(0, (3, .t 40)), (3, (3, .t 42))], none⟩,
   ⟨some 44, .build [.bool false, .slice none 0 0, .int .i64 0, .bool false, .slice none 0 0, .int .i64 0, .bool false, .slice none 0 0, .int .i64 0, .bool false, .slice none 0 0, .int .i64 0, .bool false, .slice none 0 0, .int .i64 0, .bool false, .slice none 0 0, .int .i64 0, .bool false, .slice none 0 0, .int .i64 0, .bool false, .slice none 0 0, .int .i64 0] [(0, (6, .t 28)), (6, (6, .t 33)), (12, (6, .t 38)), (18, (6, .t 43))], none⟩,
   ⟨some 45, .mov (.c (iv 0)), none⟩]) (.block 0 (.loop (.seq (.region false [⟨some 46, .bin .lss false (.t 45) (.c (iv 4)), none⟩]) (.seq (.cond (.t 46) .skip (.exit 0)) (.seq (.block 1 (.seq (.region false [⟨some 47, .aix 4 6 (some 6) (.t 44) (.t 45), none⟩,
   ⟨some 12, .alloc [.bool false, .slice none 0 0, .int .i64 0, .bool false, .slice none 0 0, .int .i64 0], none⟩,
   ⟨none, .store 6 (.t 12) (.t 47), none⟩]) (.seq (.region false [⟨some 49, .axa 2 3 (.t 12) (.c (iv 0)), none⟩,
   ⟨some 50, .load (some 3) (.t 49), none⟩,
   ⟨some 51, .axa 2 3 (.t 12) (.c (iv 1)), none⟩,
   ⟨some 52, .load (some 3) (.t 51), none⟩,
   ⟨some 53, .call F.dyadic_Mul [.t 50, .t 52], none⟩,
   ⟨some 48, .mov (.t 53), none⟩,
   ⟨some 54, .ext (.t 48) 0, none⟩,
   ⟨some 55, .ext (.t 48) 1, none⟩,
   ⟨some 13, .alloc [.bool false, .slice none 0 0, .int .i64 0], none⟩,
   ⟨none, .store 3 (.t 13) (.t 54), none⟩,
   ⟨some 14, .mov (.t 55), none⟩]) (.seq (.region false [⟨some 56, .mov (.t 10), none⟩,
   ⟨some 57, .mov (.t 14), none⟩,
   ⟨some 58, .call F.span_worst [.t 56, .t 57], none⟩,
   ⟨some 10, .mov (.t 58), none⟩]) (.region false [⟨some 59, .mov (.t 9), none⟩,
   ⟨some 60, .load (some 3) (.t 13), none⟩,
   ⟨some 61, .bsl true 3 1 [.bool false, .slice none 0 0, .int .i64 0] [(0, (3, .t 60))], none⟩,
   ⟨some 62, .app 3 40 [.bool false, .slice none 0 0, .int .i64 0] (.t 59) (.t 61), none⟩,
   ⟨some 9, .mov (.t 62), none⟩]))))) (.region false [⟨some 63, .bin .add false (.t 45) (.c (iv 1)), none⟩,
   ⟨some 45, .mov (.t 63), none⟩]))))))) (.seq (.seq (.region false [⟨some 64, .mov (.t 10), none⟩,
   ⟨some 65, .bin .neq false (.t 64) (.c (iv 0)), none⟩]) (.cond (.t 65) (.seq (.region false [⟨some 66, .build [.bool false, .slice none 0 0, .int .i64 0, .bool false, .slice none 0 0, .int .i64 0] [], none⟩,
   ⟨some 67, .mov (.t 10), none⟩,
   ⟨none, .store 6 (.t 6) (.t 66), none⟩,
   ⟨some 7, .mov (.t 67), none⟩]) .ret) .skip)) (.seq (.region false [⟨some 68, .mov (.t 2), none⟩,
   ⟨some 69, .mov (.t 9), none⟩,
   ⟨some 70, .call F.span_hull [.t 68, .t 69], none⟩,
   ⟨some 71, .ext (.t 70) 0, none⟩,
   ⟨some 72, .ext (.t 70) 1, none⟩,
   ⟨none, .store 6 (.t 6) (.t 71), none⟩,
   ⟨some 7, .mov (.t 72), none⟩]) .ret))))))
def R.span_Mul : List VRes := [.cell 6 (some 6), .tmp 7]
theorem K.span_Mul : resCode Tryz.prog Tryz.f52.ntmps (Tryz.f52.body.getD .skip) = C.span_Mul := by kernel_rfl
theorem Q.span_Mul : resResults Tryz.prog Tryz.f52.results.toList = some R.span_Mul := by kernel_rfl
theorem E.span_Mul : Tryz.prog.funcs[F.span_Mul]? = some Tryz.f52 := Tryz.func52
theorem B.span_Mul : Tryz.f52.body = some (Tryz.f52.body.getD .skip) := by kernel_rfl
theorem N.span_Mul : Tryz.f52.ntmps = 73 := Tryz.ntmps52

def C.surdref10_Mul : VC :=
  .seq (.region false [⟨some 3, .box (.t 0), none⟩,
   ⟨some 4, .box (.t 1), none⟩,
   ⟨some 6, .alloc [.bool false, .slice none 0 0, .int .i64 0, .bool false, .slice none 0 0, .int .i64 0], none⟩,
   ⟨some 7, .mov (.c (iv 0)), none⟩]) (.seq (.region true [⟨some 14, .fa 0 (.t 3), none⟩,
   ⟨some 15, .load (some 3) (.t 14), none⟩,
   ⟨some 16, .fa 0 (.t 4), none⟩,
   ⟨some 17, .load (some 3) (.t 16), none⟩,
   ⟨some 18, .call F.surdref08_Mul [.t 15, .t 17], none⟩,
   ⟨some 19, .fa 0 (.t 3), none⟩,
   ⟨some 20, .load (some 3) (.t 19), none⟩,
   ⟨some 21, .fa 3 (.t 4), none⟩,
   ⟨some 22, .load (some 3) (.t 21), none⟩,
   ⟨some 23, .call F.surdref08_Mul [.t 20, .t 22], none⟩,
   ⟨some 24, .fa 3 (.t 3), none⟩,
   ⟨some 25, .load (some 3) (.t 24), none⟩,
   ⟨some 26, .fa 0 (.t 4), none⟩,
   ⟨some 27, .load (some 3) (.t 26), none⟩,
   ⟨some 28, .call F.surdref08_Mul [.t 25, .t 27], none⟩,
   ⟨some 29, .fa 3 (.t 3), none⟩,
   ⟨some 30, .load (some 3) (.t 29), none⟩,
   ⟨some 31, .fa 3 (.t 4), none⟩,
   ⟨some 32, .load (some 3) (.t 31), none⟩,
   ⟨some 33, .call F.surdref08_Mul [.t 30, .t 32], none⟩,
   ⟨some 34, .build [.bool false, .slice none 0 0, .int .i64 0, .bool false, .slice none 0 0, .int .i64 0, .bool false, .slice none 0 0, .int .i64 0, .bool false, .slice none 0 0, .int .i64 0] [(0, (3, .t 18)), (3, (3, .t 23)), (6, (3, .t 28)), (9, (3, .t 33))], none⟩,
   ⟨some 8, .mov (.c .any), none⟩,
   ⟨some 8, .boxA 12 (.t 34), none⟩]) (.seq (.region false [⟨some 35, .axa 4 3 (.t 8) (.c (iv 0)), none⟩,
   ⟨some 36, .load (some 3) (.t 35), none⟩,
   ⟨some 37, .axa 4 3 (.t 8) (.c (iv 1)), none⟩,
   ⟨some 38, .load (some 3) (.t 37), none⟩,
   ⟨some 39, .axa 4 3 (.t 8) (.c (iv 2)), none⟩,
   ⟨some 40, .load (some 3) (.t 39), none⟩,
   ⟨some 41, .axa 4 3 (.t 8) (.c (iv 3)), none⟩,
   ⟨some 42, .load (some 3) (.t 41), none⟩,
   ⟨some 43, .bsl true 3 4 [.bool false, .slice none 0 0, .int .i64 0] [(0, (3, .t 36)), (3, (3, .t 38)), (6, (3, .t 40)), (9, (3, .t 42))], none⟩,
   ⟨some 44, .call F.surdref10_Bad [.t 43], none⟩,
   ⟨some 9, .mov (.t 44), none⟩]) (.seq (.seq (.region false [⟨some 45, .mov (.t 9), none⟩,
   ⟨some 46, .bin .neq false (.t 45) (.c (iv 0)), none⟩]) (.cond (.t 46) (.seq (.region false [⟨some 47, .build [.bool false, .slice none 0 0, .int .i64 0, .bool false, .slice none 0 0, .int .i64 0] [], none⟩,
   ⟨some 48, .mov (.t 9), none⟩,
   ⟨none, .store 6 (.t 6) (.t 47), none⟩,
   ⟨some 7, .mov (.t 48), none⟩]) .ret) .skip)) (.seq (.region true [⟨some 49, .axa 4 3 (.t 8) (.c (iv 0)), none⟩,
   ⟨some 50, .load (some 3) (.t 49), none⟩,
   ⟨some 51, .axa 4 3 (.t 8) (.c (iv 0)), none⟩,
   ⟨some 52, .load (some 3) (.t 51), none⟩,
   ⟨some 10, .mov (.c .any), none⟩,
   ⟨some 11, .mov (.c .any), none⟩,
   ⟨some 10, .boxA 3 (.t 50), none⟩,
   ⟨some 11, .boxA 3 (.t 52), none⟩]) (.seq (.seq (.region false [⟨some 53, .load (some 12) (.t 8), none⟩,
   ⟨some 54, .mov (.c (iv 0)), none⟩]) (.block 0 (.loop (.seq (.region false [⟨some 55, .bin .lss false (.t 54) (.c (iv 4)), none⟩]) (.seq (.cond (.t 55) .skip (.exit 0)) (.seq (.block 1 (.seq (.region false [⟨some 56, .aix 4 3 (some 3) (.t 53) (.t 54), none⟩,
   ⟨some 13, .alloc [.bool false, .slice none 0 0, .int .i64 0], none⟩,
   ⟨none, .store 3 (.t 13) (.t 56), none⟩]) (.region true [⟨some 57, .load (some 3) (.t 10), none⟩,
   ⟨some 58, .load (some 3) (.t 13), none⟩,
   ⟨some 59, .call F.surdref10_less [.t 57, .t 58], none⟩,
   ⟨some 60, .load (some 3) (.t 11), none⟩,
   ⟨some 61, .load (some 3) (.t 13), none⟩,
   ⟨some 62, .call F.surdref10_more [.t 60, .t 61], none⟩,
   ⟨none, .store 3 (.t 10) (.t 59), none⟩,
   ⟨none, .store 3 (.t 11) (.t 62), none⟩]))) (.region false [⟨some 63, .bin .add false (.t 54) (.c (iv 1)), none⟩,
   ⟨some 54, .mov (.t 63), none⟩]))))))) (.seq (.region false [⟨some 64, .load (some 3) (.t 10), none⟩,
   ⟨some 65, .load (some 3) (.t 11), none⟩,
   ⟨some 66, .mov (.t 2), none⟩,
   ⟨some 67, .call F.surdref10_Outward [.t 64, .t 65, .t 66], none⟩,
   ⟨some 68, .call F.surdref10_Told [.t 67], none⟩,
   ⟨some 69, .ext (.t 68) 0, none⟩,
   ⟨some 70, .ext (.t 68) 1, none⟩,
   ⟨none, .store 6 (.t 6) (.t 69), none⟩,
   ⟨some 7, .mov (.t 70), none⟩]) .ret))))))
def R.surdref10_Mul : List VRes := [.cell 6 (some 6), .tmp 7]
theorem K.surdref10_Mul : resCode Tryz.prog Tryz.f55.ntmps (Tryz.f55.body.getD .skip) = C.surdref10_Mul := by kernel_rfl
theorem Q.surdref10_Mul : resResults Tryz.prog Tryz.f55.results.toList = some R.surdref10_Mul := by kernel_rfl
theorem E.surdref10_Mul : Tryz.prog.funcs[F.surdref10_Mul]? = some Tryz.f55 := Tryz.func55
theorem B.surdref10_Mul : Tryz.f55.body = some (Tryz.f55.body.getD .skip) := by kernel_rfl
theorem N.surdref10_Mul : Tryz.f55.ntmps = 71 := Tryz.ntmps55

def C.surdref01_Copy : VC :=
  .seq (.region false [⟨some 2, .mov (.c nil1), none⟩]) (.seq (.region false [⟨some 6, .mov (.t 0), none⟩,
   ⟨some 7, .len (.t 6), none⟩,
   ⟨some 8, .mk [.int .u64 0] 8 (.t 7) (.t 7), none⟩,
   ⟨some 3, .mov (.t 8), none⟩]) (.seq (.seq (.region false [⟨some 9, .mov (.t 0), none⟩,
   ⟨some 10, .len (.t 9), none⟩,
   ⟨some 11, .mov (.c (iv 0)), none⟩]) (.block 0 (.loop (.seq (.region false [⟨some 12, .bin .lss false (.t 11) (.t 10), none⟩]) (.seq (.cond (.t 12) .skip (.exit 0)) (.seq (.block 1 (.seq (.region false [⟨some 13, .mov (.t 11), none⟩,
   ⟨some 14, .ixa 1 (.t 9) (.t 11), none⟩,
   ⟨some 15, .load none (.t 14), none⟩,
   ⟨some 4, .mov (.t 13), none⟩,
   ⟨some 5, .mov (.t 15), none⟩]) (.region false [⟨some 16, .mov (.t 3), none⟩,
   ⟨some 17, .mov (.t 4), none⟩,
   ⟨some 18, .mov (.t 5), none⟩,
   ⟨some 19, .ixa 1 (.t 16) (.t 17), none⟩,
   ⟨none, .store 1 (.t 19) (.t 18), none⟩]))) (.region false [⟨some 20, .bin .add false (.t 11) (.c (iv 1)), none⟩,
   ⟨some 11, .mov (.t 20), none⟩]))))))) (.seq (.region false [⟨some 21, .mov (.t 3), none⟩,
   ⟨some 2, .mov (.t 21), none⟩]) .ret)))
def R.surdref01_Copy : List VRes := [.tmp 2]
theorem K.surdref01_Copy : resCode Tryz.prog Tryz.f56.ntmps (Tryz.f56.body.getD .skip) = C.surdref01_Copy := by kernel_rfl
theorem Q.surdref01_Copy : resResults Tryz.prog Tryz.f56.results.toList = some R.surdref01_Copy := by kernel_rfl
theorem E.surdref01_Copy : Tryz.prog.funcs[F.surdref01_Copy]? = some Tryz.f56 := Tryz.func56
theorem B.surdref01_Copy : Tryz.f56.body = some (Tryz.f56.body.getD .skip) := by kernel_rfl
theorem N.surdref01_Copy : Tryz.f56.ntmps = 22 := Tryz.ntmps56

def C.surdlaw10_in : VC :=
  .seq (.region false [⟨some 1, .box (.t 0), none⟩,
   ⟨some 2, .alloc [.bool false, .slice none 0 0, .int .i64 0, .bool false, .slice none 0 0, .int .i64 0], none⟩]) (.seq (.region true [⟨some 3, .fa 0 (.t 1), none⟩,
   ⟨some 4, .load (some 3) (.t 3), none⟩,
   ⟨some 5, .call F.surdlaw10_dy [.t 4], none⟩,
   ⟨some 6, .fa 3 (.t 1), none⟩,
   ⟨some 7, .load (some 3) (.t 6), none⟩,
   ⟨some 8, .call F.surdlaw10_dy [.t 7], none⟩,
   ⟨some 9, .build [.bool false, .slice none 0 0, .int .i64 0, .bool false, .slice none 0 0, .int .i64 0] [(0, (3, .t 5)), (3, (3, .t 8))], none⟩,
   ⟨none, .store 6 (.t 2) (.t 9), none⟩]) .ret)
def R.surdlaw10_in : List VRes := [.cell 2 (some 6)]
theorem K.surdlaw10_in : resCode Tryz.prog Tryz.f57.ntmps (Tryz.f57.body.getD .skip) = C.surdlaw10_in := by kernel_rfl
theorem Q.surdlaw10_in : resResults Tryz.prog Tryz.f57.results.toList = some R.surdlaw10_in := by kernel_rfl
theorem E.surdlaw10_in : Tryz.prog.funcs[F.surdlaw10_in]? = some Tryz.f57 := Tryz.func57
theorem B.surdlaw10_in : Tryz.f57.body = some (Tryz.f57.body.getD .skip) := by kernel_rfl
theorem N.surdlaw10_in : Tryz.f57.ntmps = 10 := Tryz.ntmps57

def C.surdref06_Z_Sign : VC :=
  .seq (.region false [⟨some 1, .box (.t 0), none⟩,
   ⟨some 2, .mov (.c (iv 0)), none⟩]) (.seq (.seq (.region false [⟨some 3, .fa 0 (.t 1), none⟩,
   ⟨some 4, .load none (.t 3), none⟩]) (.cond (.t 4) (.seq (.region false [⟨some 2, .mov (.c (iv (-1))), none⟩]) .ret) .skip)) (.seq (.seq (.region false [⟨some 5, .fa 1 (.t 1), none⟩,
   ⟨some 6, .load none (.t 5), none⟩,
   ⟨some 7, .call F.surdref01_Num_Zero [.t 6], none⟩]) (.cond (.t 7) (.seq (.region false [⟨some 2, .mov (.c (iv 0)), none⟩]) .ret) .skip)) (.seq (.region false [⟨some 2, .mov (.c (iv 1)), none⟩]) .ret)))
def R.surdref06_Z_Sign : List VRes := [.tmp 2]
theorem K.surdref06_Z_Sign : resCode Tryz.prog Tryz.f58.ntmps (Tryz.f58.body.getD .skip) = C.surdref06_Z_Sign := by kernel_rfl
theorem Q.surdref06_Z_Sign : resResults Tryz.prog Tryz.f58.results.toList = some R.surdref06_Z_Sign := by kernel_rfl
theorem E.surdref06_Z_Sign : Tryz.prog.funcs[F.surdref06_Z_Sign]? = some Tryz.f58 := Tryz.func58
theorem B.surdref06_Z_Sign : Tryz.f58.body = some (Tryz.f58.body.getD .skip) := by kernel_rfl
theorem N.surdref06_Z_Sign : Tryz.f58.ntmps = 8 := Tryz.ntmps58

def C.surdref08_Mul : VC :=
  .seq (.region false [⟨some 2, .box (.t 0), none⟩,
   ⟨some 3, .box (.t 1), none⟩,
   ⟨some 4, .alloc [.bool false, .slice none 0 0, .int .i64 0], none⟩]) (.seq (.region true [⟨some 5, .fa 0 (.t 2), none⟩,
   ⟨some 6, .load (some 2) (.t 5), none⟩,
   ⟨some 7, .fa 0 (.t 3), none⟩,
   ⟨some 8, .load (some 2) (.t 7), none⟩,
   ⟨some 9, .call F.surdref06_Mul [.t 6, .t 8], none⟩,
   ⟨some 10, .fa 2 (.t 2), none⟩,
   ⟨some 11, .load none (.t 10), none⟩,
   ⟨some 12, .fa 2 (.t 3), none⟩,
   ⟨some 13, .load none (.t 12), none⟩,
   ⟨some 14, .bin .add false (.t 11) (.t 13), none⟩,
   ⟨some 15, .call F.surdref08_Of [.t 9, .t 14], none⟩,
   ⟨none, .store 3 (.t 4) (.t 15), none⟩]) .ret)
def R.surdref08_Mul : List VRes := [.cell 4 (some 3)]
theorem K.surdref08_Mul : resCode Tryz.prog Tryz.f63.ntmps (Tryz.f63.body.getD .skip) = C.surdref08_Mul := by kernel_rfl
theorem Q.surdref08_Mul : resResults Tryz.prog Tryz.f63.results.toList = some R.surdref08_Mul := by kernel_rfl
theorem E.surdref08_Mul : Tryz.prog.funcs[F.surdref08_Mul]? = some Tryz.f63 := Tryz.func63
theorem B.surdref08_Mul : Tryz.f63.body = some (Tryz.f63.body.getD .skip) := by kernel_rfl
theorem N.surdref08_Mul : Tryz.f63.ntmps = 16 := Tryz.ntmps63

def C.span_check : VC :=
  .seq (.region false [⟨some 1, .box (.t 0), none⟩,
   ⟨some 2, .mov (.c (iv 0)), none⟩]) (.seq (.region false [⟨some 6, .fa 0 (.t 1), none⟩,
   ⟨some 7, .load (some 3) (.t 6), none⟩,
   ⟨some 8, .fa 3 (.t 1), none⟩,
   ⟨some 9, .load (some 3) (.t 8), none⟩,
   ⟨some 10, .call F.dyadic_Compare [.t 7, .t 9], none⟩,
   ⟨some 5, .mov (.t 10), none⟩,
   ⟨some 11, .ext (.t 5) 0, none⟩,
   ⟨some 12, .ext (.t 5) 1, none⟩,
   ⟨some 3, .mov (.t 11), none⟩,
   ⟨some 4, .mov (.t 12), none⟩]) (.seq (.seq (.region false [⟨some 13, .mov (.t 4), none⟩,
   ⟨some 14, .bin .eql false (.t 13) (.c (iv 0)), none⟩,
   ⟨some 15, .mov (.t 14), none⟩,
   ⟨some 16, .mov (.t 3), some (15, true)⟩,
   ⟨some 17, .bin .gtr false (.t 16) (.c (iv 0)), some (15, true)⟩,
   ⟨some 18, .pick (.t 15) (.t 17) (.c (bv false)), none⟩]) (.cond (.t 18) (.seq (.region false [⟨some 2, .mov (.c (iv 100)), none⟩]) .ret) .skip)) (.seq (.region false [⟨some 19, .mov (.t 4), none⟩,
   ⟨some 2, .mov (.t 19), none⟩]) .ret)))
def R.span_check : List VRes := [.tmp 2]
theorem K.span_check : resCode Tryz.prog Tryz.f64.ntmps (Tryz.f64.body.getD .skip) = C.span_check := by kernel_rfl
theorem Q.span_check : resResults Tryz.prog Tryz.f64.results.toList = some R.span_check := by kernel_rfl
theorem E.span_check : Tryz.prog.funcs[F.span_check]? = some Tryz.f64 := Tryz.func64
theorem B.span_check : Tryz.f64.body = some (Tryz.f64.body.getD .skip) := by kernel_rfl
theorem N.span_check : Tryz.f64.ntmps = 20 := Tryz.ntmps64

def C.span_normal : VC :=
  .seq (.region false [⟨some 2, .box (.t 0), none⟩,
   ⟨some 3, .box (.t 1), none⟩,
   ⟨some 4, .alloc [.bool false, .slice none 0 0, .int .i64 0, .bool false, .slice none 0 0, .int .i64 0], none⟩,
   ⟨some 5, .mov (.c (iv 0)), none⟩]) (.seq (.region false [⟨some 11, .load (some 3) (.t 2), none⟩,
   ⟨some 12, .call F.span_norm [.t 11], none⟩,
   ⟨some 10, .mov (.t 12), none⟩,
   ⟨some 13, .ext (.t 10) 0, none⟩,
   ⟨some 14, .ext (.t 10) 1, none⟩,
   ⟨some 6, .alloc [.bool false, .slice none 0 0, .int .i64 0], none⟩,
   ⟨none, .store 3 (.t 6) (.t 13), none⟩,
   ⟨some 7, .mov (.t 14), none⟩]) (.seq (.region false [⟨some 16, .load (some 3) (.t 3), none⟩,
   ⟨some 17, .call F.span_norm [.t 16], none⟩,
   ⟨some 15, .mov (.t 17), none⟩,
   ⟨some 18, .ext (.t 15) 0, none⟩,
   ⟨some 19, .ext (.t 15) 1, none⟩,
   ⟨some 8, .alloc [.bool false, .slice none 0 0, .int .i64 0], none⟩,
   ⟨none, .store 3 (.t 8) (.t 18), none⟩,
   ⟨some 9, .mov (.t 19), none⟩]) (.seq (.region false [⟨some 20, .load (some 3) (.t 6), none⟩,
   ⟨some 21, .mov (.t 7), none⟩,
   ⟨some 22, .load (some 3) (.t 8), none⟩,
   ⟨some 23, .mov (.t 9), none⟩,
   ⟨some 24, .call F.span_ends [.t 20, .t 21, .t 22, .t 23], none⟩,
   ⟨some 25, .ext (.t 24) 0, none⟩,
   ⟨some 26, .ext (.t 24) 1, none⟩,
   ⟨none, .store 6 (.t 4) (.t 25), none⟩,
   ⟨some 5, .mov (.t 26), none⟩]) .ret)))
def R.span_normal : List VRes := [.cell 4 (some 6), .tmp 5]
theorem K.span_normal : resCode Tryz.prog Tryz.f65.ntmps (Tryz.f65.body.getD .skip) = C.span_normal := by kernel_rfl
theorem Q.span_normal : resResults Tryz.prog Tryz.f65.results.toList = some R.span_normal := by kernel_rfl
theorem E.span_normal : Tryz.prog.funcs[F.span_normal]? = some Tryz.f65 := Tryz.func65
theorem B.span_normal : Tryz.f65.body = some (Tryz.f65.body.getD .skip) := by kernel_rfl
theorem N.span_normal : Tryz.f65.ntmps = 27 := Tryz.ntmps65

def C.surdref08_Of : VC :=
  .seq (.region false [⟨some 2, .box (.t 0), none⟩,
   ⟨some 4, .alloc [.bool false, .slice none 0 0, .int .i64 0], none⟩]) (.seq (.seq (.region false [⟨some 6, .load (some 2) (.t 2), none⟩,
   ⟨some 7, .call F.surdref06_Z_Sign [.t 6], none⟩,
   ⟨some 8, .bin .eql false (.t 7) (.c (iv 0)), none⟩]) (.cond (.t 8) (.seq (.region false [⟨some 9, .build [.bool false, .slice none 0 0, .int .i64 0] [], none⟩,
   ⟨none, .store 3 (.t 4) (.t 9), none⟩]) .ret) .skip)) (.seq (.region false [⟨some 10, .fa 1 (.t 2), none⟩,
   ⟨some 11, .load none (.t 10), none⟩,
   ⟨some 12, .call F.surdref01_Num_Tail [.t 11], none⟩,
   ⟨some 5, .mov (.t 12), none⟩]) (.seq (.region true [⟨some 13, .fa 0 (.t 2), none⟩,
   ⟨some 14, .load none (.t 13), none⟩,
   ⟨some 15, .fa 1 (.t 2), none⟩,
   ⟨some 16, .load none (.t 15), none⟩,
   ⟨some 17, .mov (.t 5), none⟩,
   ⟨some 18, .call F.surdref01_Shr [.t 16, .t 17], none⟩,
   ⟨some 19, .build [.bool false, .slice none 0 0] [(0, (1, .t 14)), (1, (1, .t 18))], none⟩,
   ⟨some 20, .mov (.t 1), none⟩,
   ⟨some 21, .mov (.t 5), none⟩,
   ⟨some 22, .bin .add false (.t 20) (.t 21), none⟩,
   ⟨some 23, .build [.bool false, .slice none 0 0, .int .i64 0] [(0, (2, .t 19)), (2, (1, .t 22))], none⟩,
   ⟨none, .store 3 (.t 4) (.t 23), none⟩]) .ret)))
def R.surdref08_Of : List VRes := [.cell 4 (some 3)]
theorem K.surdref08_Of : resCode Tryz.prog Tryz.f66.ntmps (Tryz.f66.body.getD .skip) = C.surdref08_Of := by kernel_rfl
theorem Q.surdref08_Of : resResults Tryz.prog Tryz.f66.results.toList = some R.surdref08_Of := by kernel_rfl
theorem E.surdref08_Of : Tryz.prog.funcs[F.surdref08_Of]? = some Tryz.f66 := Tryz.func66
theorem B.surdref08_Of : Tryz.f66.body = some (Tryz.f66.body.getD .skip) := by kernel_rfl
theorem N.surdref08_Of : Tryz.f66.ntmps = 24 := Tryz.ntmps66

def C.surdref06_Of : VC :=
  .seq (.region false [⟨some 4, .alloc [.bool false, .slice none 0 0], none⟩]) (.seq (.region false [⟨some 5, .mov (.t 0), none⟩,
   ⟨some 6, .mov (.t 1), none⟩,
   ⟨some 7, .call F.surdref01_Of [.t 6], none⟩,
   ⟨some 8, .call F.surdref06_make1 [.t 5, .t 7], none⟩,
   ⟨none, .store 2 (.t 4) (.t 8), none⟩]) .ret)
def R.surdref06_Of : List VRes := [.cell 4 (some 2)]
theorem K.surdref06_Of : resCode Tryz.prog Tryz.f67.ntmps (Tryz.f67.body.getD .skip) = C.surdref06_Of := by kernel_rfl
theorem Q.surdref06_Of : resResults Tryz.prog Tryz.f67.results.toList = some R.surdref06_Of := by kernel_rfl
theorem E.surdref06_Of : Tryz.prog.funcs[F.surdref06_Of]? = some Tryz.f67 := Tryz.func67
theorem B.surdref06_Of : Tryz.f67.body = some (Tryz.f67.body.getD .skip) := by kernel_rfl
theorem N.surdref06_Of : Tryz.f67.ntmps = 9 := Tryz.ntmps67

def C.surdref10_Told : VC :=
  .seq (.region false [⟨some 1, .box (.t 0), none⟩,
   ⟨some 2, .alloc [.bool false, .slice none 0 0, .int .i64 0, .bool false, .slice none 0 0, .int .i64 0], none⟩,
   ⟨some 3, .mov (.c (iv 0)), none⟩]) (.seq (.region false [⟨some 9, .fa 0 (.t 1), none⟩,
   ⟨some 10, .load (some 3) (.t 9), none⟩,
   ⟨some 11, .call F.surdref08_Told [.t 10], none⟩,
   ⟨some 8, .mov (.t 11), none⟩,
   ⟨some 12, .ext (.t 8) 0, none⟩,
   ⟨some 13, .ext (.t 8) 1, none⟩,
   ⟨some 4, .alloc [.bool false, .slice none 0 0, .int .i64 0], none⟩,
   ⟨none, .store 3 (.t 4) (.t 12), none⟩,
   ⟨some 5, .mov (.t 13), none⟩]) (.seq (.region false [⟨some 15, .fa 3 (.t 1), none⟩,
   ⟨some 16, .load (some 3) (.t 15), none⟩,
   ⟨some 17, .call F.surdref08_Told [.t 16], none⟩,
   ⟨some 14, .mov (.t 17), none⟩,
   ⟨some 18, .ext (.t 14) 0, none⟩,
   ⟨some 19, .ext (.t 14) 1, none⟩,
   ⟨some 6, .alloc [.bool false, .slice none 0 0, .int .i64 0], none⟩,
   ⟨none, .store 3 (.t 6) (.t 18), none⟩,
   ⟨some 7, .mov (.t 19), none⟩]) (.seq (.seq (.region false [⟨some 20, .mov (.t 5), none⟩,
   ⟨some 21, .mov (.t 7), none⟩,
   ⟨some 22, .call F.surdref10_worst [.t 20, .t 21], none⟩,
   ⟨some 23, .bin .neq false (.t 22) (.c (iv 0)), none⟩]) (.cond (.t 23) (.seq (.region false [⟨some 24, .build [.bool false, .slice none 0 0, .int .i64 0, .bool false, .slice none 0 0, .int .i64 0] [], none⟩,
   ⟨some 25, .mov (.t 5), none⟩,
   ⟨some 26, .mov (.t 7), none⟩,
   ⟨some 27, .call F.surdref10_worst [.t 25, .t 26], none⟩,
   ⟨none, .store 6 (.t 2) (.t 24), none⟩,
   ⟨some 3, .mov (.t 27), none⟩]) .ret) .skip)) (.seq (.region false [⟨some 28, .load (some 6) (.t 1), none⟩,
   ⟨none, .store 6 (.t 2) (.t 28), none⟩,
   ⟨some 3, .mov (.c (iv 0)), none⟩]) .ret))))
def R.surdref10_Told : List VRes := [.cell 2 (some 6), .tmp 3]
theorem K.surdref10_Told : resCode Tryz.prog Tryz.f68.ntmps (Tryz.f68.body.getD .skip) = C.surdref10_Told := by kernel_rfl
theorem Q.surdref10_Told : resResults Tryz.prog Tryz.f68.results.toList = some R.surdref10_Told := by kernel_rfl
theorem E.surdref10_Told : Tryz.prog.funcs[F.surdref10_Told]? = some Tryz.f68 := Tryz.func68
theorem B.surdref10_Told : Tryz.f68.body = some (Tryz.f68.body.getD .skip) := by kernel_rfl
theorem N.surdref10_Told : Tryz.f68.ntmps = 29 := Tryz.ntmps68

def C.surdref08_D_Is : VC :=
  .seq (.region false [⟨some 4, .box (.t 0), none⟩,
   ⟨some 8, .mov (.c (bv false)), none⟩]) (.seq (.region false [⟨some 9, .fa 0 (.t 4), none⟩,
   ⟨some 10, .load (some 2) (.t 9), none⟩,
   ⟨some 11, .mov (.t 1), none⟩,
   ⟨some 12, .mov (.t 2), none⟩,
   ⟨some 13, .call F.surdref06_Z_Is [.t 10, .t 11, .t 12], none⟩,
   ⟨some 14, .mov (.t 13), none⟩,
   ⟨some 15, .fa 2 (.t 4), some (14, true)⟩,
   ⟨some 16, .load none (.t 15), some (14, true)⟩,
   ⟨some 17, .mov (.t 3), some (14, true)⟩,
   ⟨some 18, .bin .eql false (.t 16) (.t 17), some (14, true)⟩,
   ⟨some 19, .pick (.t 14) (.t 18) (.c (bv false)), none⟩,
   ⟨some 8, .mov (.t 19), none⟩]) .ret)
def R.surdref08_D_Is : List VRes := [.tmp 8]
theorem K.surdref08_D_Is : resCode Tryz.prog Tryz.f69.ntmps (Tryz.f69.body.getD .skip) = C.surdref08_D_Is := by kernel_rfl
theorem Q.surdref08_D_Is : resResults Tryz.prog Tryz.f69.results.toList = some R.surdref08_D_Is := by kernel_rfl
theorem E.surdref08_D_Is : Tryz.prog.funcs[F.surdref08_D_Is]? = some Tryz.f69 := Tryz.func69
theorem B.surdref08_D_Is : Tryz.f69.body = some (Tryz.f69.body.getD .skip) := by kernel_rfl
theorem N.surdref08_D_Is : Tryz.f69.ntmps = 20 := Tryz.ntmps69

def C.surdlaw10_small : VC :=
  .seq (.region false [⟨some 2, .alloc [.bool false, .slice none 0 0, .int .i64 0], none⟩]) (.seq (.region false [⟨some 3, .mov (.t 0), none⟩,
   ⟨some 4, .conv .u64 (.t 3), none⟩,
   ⟨some 5, .bsl true 1 1 [.int .u64 0] [(0, (1, .t 4))], none⟩,
   ⟨some 6, .build [.bool false, .slice none 0 0] [(1, (1, .t 5))], none⟩,
   ⟨some 7, .build [.bool false, .slice none 0 0, .int .i64 0] [(0, (2, .t 6))], none⟩,
   ⟨none, .store 3 (.t 2) (.t 7), none⟩]) .ret)
def R.surdlaw10_small : List VRes := [.cell 2 (some 3)]
theorem K.surdlaw10_small : resCode Tryz.prog Tryz.f70.ntmps (Tryz.f70.body.getD .skip) = C.surdlaw10_small := by kernel_rfl
theorem Q.surdlaw10_small : resResults Tryz.prog Tryz.f70.results.toList = some R.surdlaw10_small := by kernel_rfl
theorem E.surdlaw10_small : Tryz.prog.funcs[F.surdlaw10_small]? = some Tryz.f70 := Tryz.func70
theorem B.surdlaw10_small : Tryz.f70.body = some (Tryz.f70.body.getD .skip) := by kernel_rfl
theorem N.surdlaw10_small : Tryz.f70.ntmps = 8 := Tryz.ntmps70

def C.surdref08_Int : VC :=
  .seq (.region false [⟨some 4, .alloc [.bool false, .slice none 0 0, .int .i64 0], none⟩]) (.seq (.region false [⟨some 5, .mov (.t 0), none⟩,
   ⟨some 6, .call F.surdref06_Int [.t 5], none⟩,
   ⟨some 7, .mov (.t 1), none⟩,
   ⟨some 8, .call F.surdref08_Of [.t 6, .t 7], none⟩,
   ⟨none, .store 3 (.t 4) (.t 8), none⟩]) .ret)
def R.surdref08_Int : List VRes := [.cell 4 (some 3)]
theorem K.surdref08_Int : resCode Tryz.prog Tryz.f71.ntmps (Tryz.f71.body.getD .skip) = C.surdref08_Int := by kernel_rfl
theorem Q.surdref08_Int : resResults Tryz.prog Tryz.f71.results.toList = some R.surdref08_Int := by kernel_rfl
theorem E.surdref08_Int : Tryz.prog.funcs[F.surdref08_Int]? = some Tryz.f71 := Tryz.func71
theorem B.surdref08_Int : Tryz.f71.body = some (Tryz.f71.body.getD .skip) := by kernel_rfl
theorem N.surdref08_Int : Tryz.f71.ntmps = 9 := Tryz.ntmps71

def C.span_checks : VC :=
  .seq (.region false [⟨some 4, .mov (.c (iv 0)), none⟩]) (.seq (.seq (.region false [⟨some 8, .mov (.t 1), none⟩,
   ⟨some 9, .len (.t 8), none⟩,
   ⟨some 10, .mov (.c (iv 0)), none⟩]) (.block 0 (.loop (.seq (.region false [⟨some 11, .bin .lss false (.t 10) (.t 9), none⟩]) (.seq (.cond (.t 11) .skip (.exit 0)) (.seq (.block 1 (.seq (.region false [⟨some 12, .ixa 6 (.t 8) (.t 10), none⟩,
   ⟨some 13, .load (some 6) (.t 12), none⟩,
   ⟨some 6, .alloc [.bool false, .slice none 0 0, .int .i64 0, .bool false, .slice none 0 0, .int .i64 0], none⟩,
   ⟨none, .store 6 (.t 6) (.t 13), none⟩]) (.seq (.region false [⟨some 14, .load (some 6) (.t 6), none⟩,
   ⟨some 15, .call F.span_check [.t 14], none⟩,
   ⟨some 7, .mov (.t 15), none⟩]) (.seq (.region false [⟨some 16, .mov (.t 7), none⟩,
   ⟨some 17, .bin .neq false (.t 16) (.c (iv 0)), none⟩]) (.cond (.t 17) (.seq (.region false [⟨some 18, .mov (.t 7), none⟩,
   ⟨some 4, .mov (.t 18), none⟩]) .ret) .skip))))) (.region false [⟨some 19, .bin .add false (.t 10) (.c (iv 1)), none⟩,
   ⟨some 10, .mov (.t 19), none⟩]))))))) (.seq (.seq (.region false [⟨some 20, .mov (.t 0), none⟩,
   ⟨some 21, .bin .lss false (.t 20) (.c (iv (-1099511627776))), none⟩,
   ⟨some 22, .mov (.t 21), none⟩,
   ⟨some 23, .mov (.t 0), some (22, false)⟩,
   ⟨some 24, .bin .gtr false (.t 23) (.c (iv 1099511627776)), some (22, false)⟩,
   ⟨some 25, .pick (.t 22) (.c (bv true)) (.t 24), none⟩]) (.cond (.t 25) (.seq (.region false [⟨some 4, .mov (.c (iv 1)), none⟩]) .ret) .skip)) (.seq (.region false [⟨some 4, .mov (.c (iv 0)), none⟩]) .ret)))
def R.span_checks : List VRes := [.tmp 4]
theorem K.span_checks : resCode Tryz.prog Tryz.f75.ntmps (Tryz.f75.body.getD .skip) = C.span_checks := by kernel_rfl
theorem Q.span_checks : resResults Tryz.prog Tryz.f75.results.toList = some R.span_checks := by kernel_rfl
theorem E.span_checks : Tryz.prog.funcs[F.span_checks]? = some Tryz.f75 := Tryz.func75
theorem B.span_checks : Tryz.f75.body = some (Tryz.f75.body.getD .skip) := by kernel_rfl
theorem N.span_checks : Tryz.f75.ntmps = 26 := Tryz.ntmps75

def C.dyadic_Compare : VC :=
  .seq (.region false [⟨some 2, .box (.t 0), none⟩,
   ⟨some 3, .box (.t 1), none⟩,
   ⟨some 4, .mov (.c (iv 0)), none⟩,
   ⟨some 5, .mov (.c (iv 0)), none⟩]) (.seq (.region false [⟨some 10, .load (some 3) (.t 2), none⟩,
   ⟨some 11, .load (some 3) (.t 3), none⟩,
   ⟨some 12, .call F.dyadic_two [.t 10, .t 11], none⟩,
   ⟨some 9, .mov (.t 12), none⟩,
   ⟨some 13, .ext (.t 9) 0, none⟩,
   ⟨some 14, .ext (.t 9) 1, none⟩,
   ⟨some 15, .ext (.t 9) 2, none⟩,
   ⟨some 6, .alloc [.bool false, .slice none 0 0, .int .i64 0], none⟩,
   ⟨some 7, .alloc [.bool false, .slice none 0 0, .int .i64 0], none⟩,
   ⟨none, .store 3 (.t 6) (.t 13), none⟩,
   ⟨none, .store 3 (.t 7) (.t 14), none⟩,
   ⟨some 8, .mov (.t 15), none⟩]) (.seq (.seq (.region false [⟨some 16, .mov (.t 8), none⟩,
   ⟨some 17, .bin .neq false (.t 16) (.c (iv 0)), none⟩]) (.cond (.t 17) (.seq (.region false [⟨some 18, .mov (.t 8), none⟩,
   ⟨some 4, .mov (.c (iv 0)), none⟩,
   ⟨some 5, .mov (.t 18), none⟩]) .ret) .skip)) (.seq (.region false [⟨some 19, .load (some 3) (.t 6), none⟩,
   ⟨some 20, .load (some 3) (.t 7), none⟩,
   ⟨some 21, .call F.dyadic_compare [.t 19, .t 20], none⟩,
   ⟨some 4, .mov (.t 21), none⟩,
   ⟨some 5, .mov (.c (iv 0)), none⟩]) .ret)))
def R.dyadic_Compare : List VRes := [.tmp 4, .tmp 5]
theorem K.dyadic_Compare : resCode Tryz.prog Tryz.f76.ntmps (Tryz.f76.body.getD .skip) = C.dyadic_Compare := by kernel_rfl
theorem Q.dyadic_Compare : resResults Tryz.prog Tryz.f76.results.toList = some R.dyadic_Compare := by kernel_rfl
theorem E.dyadic_Compare : Tryz.prog.funcs[F.dyadic_Compare]? = some Tryz.f76 := Tryz.func76
theorem B.dyadic_Compare : Tryz.f76.body = some (Tryz.f76.body.getD .skip) := by kernel_rfl
theorem N.dyadic_Compare : Tryz.f76.ntmps = 22 := Tryz.ntmps76

def C.surdref10_more : VC :=
  .seq (.region false [⟨some 2, .box (.t 0), none⟩,
   ⟨some 3, .box (.t 1), none⟩,
   ⟨some 4, .alloc [.bool false, .slice none 0 0, .int .i64 0], none⟩]) (.seq (.seq (.region false [⟨some 5, .load (some 3) (.t 2), none⟩,
   ⟨some 6, .load (some 3) (.t 3), none⟩,
   ⟨some 7, .call F.surdref08_Cmp [.t 5, .t 6], none⟩,
   ⟨some 8, .bin .geq false (.t 7) (.c (iv 0)), none⟩]) (.cond (.t 8) (.seq (.region false [⟨some 9, .load (some 3) (.t 2), none⟩,
   ⟨none, .store 3 (.t 4) (.t 9), none⟩]) .ret) .skip)) (.seq (.region false [⟨some 10, .load (some 3) (.t 3), none⟩,
   ⟨none, .store 3 (.t 4) (.t 10), none⟩]) .ret))
def R.surdref10_more : List VRes := [.cell 4 (some 3)]
theorem K.surdref10_more : resCode Tryz.prog Tryz.f77.ntmps (Tryz.f77.body.getD .skip) = C.surdref10_more := by kernel_rfl
theorem Q.surdref10_more : resResults Tryz.prog Tryz.f77.results.toList = some R.surdref10_more := by kernel_rfl
theorem E.surdref10_more : Tryz.prog.funcs[F.surdref10_more]? = some Tryz.f77 := Tryz.func77
theorem B.surdref10_more : Tryz.f77.body = some (Tryz.f77.body.getD .skip) := by kernel_rfl
theorem N.surdref10_more : Tryz.f77.ntmps = 11 := Tryz.ntmps77

def C.surdref10_less : VC :=
  .seq (.region false [⟨some 2, .box (.t 0), none⟩,
   ⟨some 3, .box (.t 1), none⟩,
   ⟨some 4, .alloc [.bool false, .slice none 0 0, .int .i64 0], none⟩]) (.seq (.seq (.region false [⟨some 5, .load (some 3) (.t 2), none⟩,
   ⟨some 6, .load (some 3) (.t 3), none⟩,
   ⟨some 7, .call F.surdref08_Cmp [.t 5, .t 6], none⟩,
   ⟨some 8, .bin .leq false (.t 7) (.c (iv 0)), none⟩]) (.cond (.t 8) (.seq (.region false [⟨some 9, .load (some 3) (.t 2), none⟩,
   ⟨none, .store 3 (.t 4) (.t 9), none⟩]) .ret) .skip)) (.seq (.region false [⟨some 10, .load (some 3) (.t 3), none⟩,
   ⟨none, .store 3 (.t 4) (.t 10), none⟩]) .ret))
def R.surdref10_less : List VRes := [.cell 4 (some 3)]
theorem K.surdref10_less : resCode Tryz.prog Tryz.f78.ntmps (Tryz.f78.body.getD .skip) = C.surdref10_less := by kernel_rfl
theorem Q.surdref10_less : resResults Tryz.prog Tryz.f78.results.toList = some R.surdref10_less := by kernel_rfl
theorem E.surdref10_less : Tryz.prog.funcs[F.surdref10_less]? = some Tryz.f78 := Tryz.func78
theorem B.surdref10_less : Tryz.f78.body = some (Tryz.f78.body.getD .skip) := by kernel_rfl
theorem N.surdref10_less : Tryz.f78.ntmps = 11 := Tryz.ntmps78

def C.surdref08_D_Top : VC :=
  .seq (.region false [⟨some 1, .box (.t 0), none⟩,
   ⟨some 2, .mov (.c (iv 0)), none⟩]) (.seq (.region true [⟨some 3, .fa 0 (.t 1), none⟩,
   ⟨some 4, .fa 1 (.t 3), none⟩,
   ⟨some 5, .load none (.t 4), none⟩,
   ⟨some 6, .call F.surdref01_Num_Len [.t 5], none⟩,
   ⟨some 7, .bin .sub false (.t 6) (.c (iv 1)), none⟩,
   ⟨some 8, .fa 2 (.t 1), none⟩,
   ⟨some 9, .load none (.t 8), none⟩,
   ⟨some 10, .bin .add false (.t 7) (.t 9), none⟩,
   ⟨some 2, .mov (.t 10), none⟩]) .ret)
def R.surdref08_D_Top : List VRes := [.tmp 2]
theorem K.surdref08_D_Top : resCode Tryz.prog Tryz.f81.ntmps (Tryz.f81.body.getD .skip) = C.surdref08_D_Top := by kernel_rfl
theorem Q.surdref08_D_Top : resResults Tryz.prog Tryz.f81.results.toList = some R.surdref08_D_Top := by kernel_rfl
theorem E.surdref08_D_Top : Tryz.prog.funcs[F.surdref08_D_Top]? = some Tryz.f81 := Tryz.func81
theorem B.surdref08_D_Top : Tryz.f81.body = some (Tryz.f81.body.getD .skip) := by kernel_rfl
theorem N.surdref08_D_Top : Tryz.f81.ntmps = 11 := Tryz.ntmps81

def C.surdref06_Cmp : VC :=
  .seq (.region false [⟨some 2, .box (.t 0), none⟩,
   ⟨some 3, .box (.t 1), none⟩,
   ⟨some 4, .mov (.c (iv 0)), none⟩]) (.seq (.seq (.region false [⟨some 6, .fa 0 (.t 2), none⟩,
   ⟨some 7, .load none (.t 6), none⟩,
   ⟨some 8, .fa 0 (.t 3), none⟩,
   ⟨some 9, .load none (.t 8), none⟩,
   ⟨some 10, .bin .neq true (.t 7) (.t 9), none⟩]) (.cond (.t 10) (.seq (.seq (.region false [⟨some 11, .fa 0 (.t 2), none⟩,
   ⟨some 12, .load none (.t 11), none⟩]) (.cond (.t 12) (.seq (.region false [⟨some 4, .mov (.c (iv (-1))), none⟩]) .ret) .skip)) (.seq (.region false [⟨some 4, .mov (.c (iv 1)), none⟩]) .ret)) .skip)) (.seq (.region false [⟨some 13, .fa 1 (.t 2), none⟩,
   ⟨some 14, .load none (.t 13), none⟩,
   ⟨some 15, .fa 1 (.t 3), none⟩,
   ⟨some 16, .load none (.t 15), none⟩,
   ⟨some 17, .call F.surdref01_Cmp [.t 14, .t 16], none⟩,
   ⟨some 5, .mov (.t 17), none⟩]) (.seq (.seq (.region false [⟨some 18, .fa 0 (.t 2), none⟩,
   ⟨some 19, .load none (.t 18), none⟩]) (.cond (.t 19) (.seq (.region false [⟨some 20, .mov (.t 5), none⟩,
   ⟨some 21, .un .neg (.t 20), none⟩,
   ⟨some 4, .mov (.t 21), none⟩]) .ret) .skip)) (.seq (.region false [⟨some 22, .mov (.t 5), none⟩,
   ⟨some 4, .mov (.t 22), none⟩]) .ret))))
def R.surdref06_Cmp : List VRes := [.tmp 4]
theorem K.surdref06_Cmp : resCode Tryz.prog Tryz.f82.ntmps (Tryz.f82.body.getD .skip) = C.surdref06_Cmp := by kernel_rfl
theorem Q.surdref06_Cmp : resResults Tryz.prog Tryz.f82.results.toList = some R.surdref06_Cmp := by kernel_rfl
theorem E.surdref06_Cmp : Tryz.prog.funcs[F.surdref06_Cmp]? = some Tryz.f82 := Tryz.func82
theorem B.surdref06_Cmp : Tryz.f82.body = some (Tryz.f82.body.getD .skip) := by kernel_rfl
theorem N.surdref06_Cmp : Tryz.f82.ntmps = 23 := Tryz.ntmps82

def C.surdref06_Shift : VC :=
  .seq (.region false [⟨some 2, .box (.t 0), none⟩,
   ⟨some 4, .alloc [.bool false, .slice none 0 0], none⟩]) (.seq (.seq (.region false [⟨some 7, .mov (.t 1), none⟩,
   ⟨some 8, .bin .geq false (.t 7) (.c (iv 0)), none⟩]) (.cond (.t 8) (.seq (.region true [⟨some 9, .fa 0 (.t 2), none⟩,
   ⟨some 10, .load none (.t 9), none⟩,
   ⟨some 11, .fa 1 (.t 2), none⟩,
   ⟨some 12, .load none (.t 11), none⟩,
   ⟨some 13, .mov (.t 1), none⟩,
   ⟨some 14, .call F.surdref01_Shl [.t 12, .t 13], none⟩,
   ⟨some 15, .call F.surdref06_make1 [.t 10, .t 14], none⟩,
   ⟨none, .store 2 (.t 4) (.t 15), none⟩]) .ret) .skip)) (.seq (.seq (.region false [⟨some 16, .mov (.t 1), none⟩,
   ⟨some 17, .fa 1 (.t 2), none⟩,
   ⟨some 18, .load none (.t 17), none⟩,
   ⟨some 19, .call F.surdref01_Num_Len [.t 18], none⟩,
   ⟨some 20, .un .neg (.t 19), none⟩,
   ⟨some 21, .bin .lss false (.t 16) (.t 20), none⟩]) (.cond (.t 21) (.seq (.seq (.region false [⟨some 22, .fa 0 (.t 2), none⟩,
   ⟨some 23, .load none (.t 22), none⟩]) (.cond (.t 23) (.seq (.region false [⟨some 24, .call F.surdref06_Int [.c (iv (-1))], none⟩,
   ⟨none, .store 2 (.t 4) (.t 24), none⟩]) .ret) .skip)) (.seq (.region false [⟨some 25, .build [.bool false, .slice none 0 0] [], none⟩,
   ⟨none, .store 2 (.t 4) (.t 25), none⟩]) .ret)) .skip)) (.seq (.region true [⟨some 27, .load (some 2) (.t 2), none⟩,
   ⟨some 28, .call F.surdref01_Int [.c (iv 1)], none⟩,
   ⟨some 29, .mov (.t 1), none⟩,
   ⟨some 30, .un .neg (.t 29), none⟩,
   ⟨some 31, .call F.surdref01_Shl [.t 28, .t 30], none⟩,
   ⟨some 32, .call F.surdref06_make1 [.c (bv false), .t 31], none⟩,
   ⟨some 33, .call F.surdref06_Floor [.t 27, .t 32], none⟩,
   ⟨some 26, .mov (.t 33), none⟩,
   ⟨some 34, .ext (.t 26) 0, none⟩,
   ⟨some 35, .ext (.t 26) 1, none⟩,
   ⟨some 5, .mov (.c .any), none⟩,
   ⟨some 6, .mov (.c .any), none⟩,
   ⟨some 5, .boxA 2 (.t 34), none⟩,
   ⟨some 6, .boxA 2 (.t 35), none⟩]) (.seq (.region false [⟨some 36, .load (some 2) (.t 5), none⟩,
   ⟨none, .store 2 (.t 4) (.t 36), none⟩]) .ret))))
def R.surdref06_Shift : List VRes := [.cell 4 (some 2)]
theorem K.surdref06_Shift : resCode Tryz.prog Tryz.f83.ntmps (Tryz.f83.body.getD .skip) = C.surdref06_Shift := by kernel_rfl
theorem Q.surdref06_Shift : resResults Tryz.prog Tryz.f83.results.toList = some R.surdref06_Shift := by kernel_rfl
theorem E.surdref06_Shift : Tryz.prog.funcs[F.surdref06_Shift]? = some Tryz.f83 := Tryz.func83
theorem B.surdref06_Shift : Tryz.f83.body = some (Tryz.f83.body.getD .skip) := by kernel_rfl
theorem N.surdref06_Shift : Tryz.f83.ntmps = 37 := Tryz.ntmps83

def C.dyadic_Round : VC :=
  .seq (.region false [⟨some 3, .box (.t 0), none⟩,
   ⟨some 6, .alloc [.bool false, .slice none 0 0, .int .i64 0], none⟩,
   ⟨some 7, .mov (.c (iv 0)), none⟩]) (.seq (.region false [⟨some 11, .load (some 3) (.t 3), none⟩,
   ⟨some 12, .call F.dyadic_read [.t 11], none⟩,
   ⟨some 10, .mov (.t 12), none⟩,
   ⟨some 13, .ext (.t 10) 0, none⟩,
   ⟨some 14, .ext (.t 10) 1, none⟩,
   ⟨some 8, .alloc [.bool false, .slice none 0 0, .int .i64 0], none⟩,
   ⟨none, .store 3 (.t 8) (.t 13), none⟩,
   ⟨some 9, .mov (.t 14), none⟩]) (.seq (.block 0 (.seq (.region false [⟨some 16, .mov (.t 9), none⟩,
   ⟨some 17, .bin .neq false (.t 16) (.c (iv 0)), none⟩,
   ⟨some 15, .mov (.t 17), none⟩]) (.cond (.t 15) (.seq (.region false [⟨some 18, .build [.bool false, .slice none 0 0, .int .i64 0] [], none⟩,
   ⟨some 19, .mov (.t 9), none⟩,
   ⟨none, .store 3 (.t 6) (.t 18), none⟩,
   ⟨some 7, .mov (.t 19), none⟩]) .ret) (.seq (.region false [⟨some 21, .mov (.t 1), none⟩,
   ⟨some 22, .call F.dyadic_within [.t 21], none⟩,
   ⟨some 23, .un .not (.t 22), none⟩,
   ⟨some 20, .mov (.t 23), none⟩]) (.cond (.t 20) (.seq (.region false [⟨some 24, .build [.bool false, .slice none 0 0, .int .i64 0] [], none⟩,
   ⟨none, .store 3 (.t 6) (.t 24), none⟩,
   ⟨some 7, .mov (.c (iv 1)), none⟩]) .ret) (.seq (.region false [⟨some 26, .mov (.t 2), none⟩,
   ⟨some 27, .call F.dyadic_direction [.t 26], none⟩,
   ⟨some 28, .un .not (.t 27), none⟩,
   ⟨some 25, .mov (.t 28), none⟩]) (.cond (.t 25) (.seq (.region false [⟨some 29, .build [.bool false, .slice none 0 0, .int .i64 0] [], none⟩,
   ⟨none, .store 3 (.t 6) (.t 29), none⟩,
   ⟨some 7, .mov (.c (iv 81)), none⟩]) .ret) .skip))))))) (.seq (.region false [⟨some 30, .load (some 3) (.t 8), none⟩,
   ⟨some 31, .mov (.t 1), none⟩,
   ⟨some 32, .mov (.t 2), none⟩,
   ⟨some 33, .call F.dyadic_rounded [.t 30, .t 31, .t 32], none⟩,
   ⟨some 34, .ext (.t 33) 0, none⟩,
   ⟨some 35, .ext (.t 33) 1, none⟩,
   ⟨none, .store 3 (.t 6) (.t 34), none⟩,
   ⟨some 7, .mov (.t 35), none⟩]) .ret)))
def R.dyadic_Round : List VRes := [.cell 6 (some 3), .tmp 7]
theorem K.dyadic_Round : resCode Tryz.prog Tryz.f86.ntmps (Tryz.f86.body.getD .skip) = C.dyadic_Round := by kernel_rfl
theorem Q.dyadic_Round : resResults Tryz.prog Tryz.f86.results.toList = some R.dyadic_Round := by kernel_rfl
theorem E.dyadic_Round : Tryz.prog.funcs[F.dyadic_Round]? = some Tryz.f86 := Tryz.func86
theorem B.dyadic_Round : Tryz.f86.body = some (Tryz.f86.body.getD .skip) := by kernel_rfl
theorem N.dyadic_Round : Tryz.f86.ntmps = 36 := Tryz.ntmps86

def C.span_worst : VC :=
  .seq (.region false [⟨some 4, .mov (.c (iv 0)), none⟩]) (.seq (.seq (.region false [⟨some 5, .mov (.t 0), none⟩,
   ⟨some 6, .bin .eql false (.t 5) (.c (iv 3)), none⟩,
   ⟨some 7, .mov (.t 6), none⟩,
   ⟨some 8, .mov (.t 1), some (7, false)⟩,
   ⟨some 9, .bin .eql false (.t 8) (.c (iv 3)), some (7, false)⟩,
   ⟨some 10, .pick (.t 7) (.c (bv true)) (.t 9), none⟩]) (.cond (.t 10) (.seq (.region false [⟨some 4, .mov (.c (iv 3)), none⟩]) .ret) .skip)) (.seq (.seq (.region false [⟨some 11, .mov (.t 0), none⟩,
   ⟨some 12, .bin .neq false (.t 11) (.c (iv 0)), none⟩]) (.cond (.t 12) (.seq (.region false [⟨some 13, .mov (.t 0), none⟩,
   ⟨some 4, .mov (.t 13), none⟩]) .ret) .skip)) (.seq (.region false [⟨some 14, .mov (.t 1), none⟩,
   ⟨some 4, .mov (.t 14), none⟩]) .ret)))
def R.span_worst : List VRes := [.tmp 4]
theorem K.span_worst : resCode Tryz.prog Tryz.f87.ntmps (Tryz.f87.body.getD .skip) = C.span_worst := by kernel_rfl
theorem Q.span_worst : resResults Tryz.prog Tryz.f87.results.toList = some R.span_worst := by kernel_rfl
theorem E.span_worst : Tryz.prog.funcs[F.span_worst]? = some Tryz.f87 := Tryz.func87
theorem B.span_worst : Tryz.f87.body = some (Tryz.f87.body.getD .skip) := by kernel_rfl
theorem N.span_worst : Tryz.f87.ntmps = 15 := Tryz.ntmps87

def C.surdref08_Told : VC :=
  .seq (.region false [⟨some 1, .box (.t 0), none⟩,
   ⟨some 2, .alloc [.bool false, .slice none 0 0, .int .i64 0], none⟩,
   ⟨some 3, .mov (.c (iv 0)), none⟩]) (.seq (.seq (.region false [⟨some 4, .fa 0 (.t 1), none⟩,
   ⟨some 5, .fa 1 (.t 4), none⟩,
   ⟨some 6, .load none (.t 5), none⟩,
   ⟨some 7, .call F.surdref01_Num_Len [.t 6], none⟩,
   ⟨some 8, .bin .gtr false (.t 7) (.c (iv 67108864)), none⟩]) (.cond (.t 8) (.seq (.region false [⟨some 9, .build [.bool false, .slice none 0 0, .int .i64 0] [], none⟩,
   ⟨none, .store 3 (.t 2) (.t 9), none⟩,
   ⟨some 3, .mov (.c (iv 3)), none⟩]) .ret) .skip)) (.seq (.seq (.region false [⟨some 10, .fa 2 (.t 1), none⟩,
   ⟨some 11, .load none (.t 10), none⟩,
   ⟨some 12, .call F.surdref08_Fits [.t 11], none⟩,
   ⟨some 13, .un .not (.t 12), none⟩]) (.cond (.t 13) (.seq (.region false [⟨some 14, .build [.bool false, .slice none 0 0, .int .i64 0] [], none⟩,
   ⟨none, .store 3 (.t 2) (.t 14), none⟩,
   ⟨some 3, .mov (.c (iv 80)), none⟩]) .ret) .skip)) (.seq (.region false [⟨some 15, .load (some 3) (.t 1), none⟩,
   ⟨none, .store 3 (.t 2) (.t 15), none⟩,
   ⟨some 3, .mov (.c (iv 0)), none⟩]) .ret)))
def R.surdref08_Told : List VRes := [.cell 2 (some 3), .tmp 3]
theorem K.surdref08_Told : resCode Tryz.prog Tryz.f88.ntmps (Tryz.f88.body.getD .skip) = C.surdref08_Told := by kernel_rfl
theorem Q.surdref08_Told : resResults Tryz.prog Tryz.f88.results.toList = some R.surdref08_Told := by kernel_rfl
theorem E.surdref08_Told : Tryz.prog.funcs[F.surdref08_Told]? = some Tryz.f88 := Tryz.func88
theorem B.surdref08_Told : Tryz.f88.body = some (Tryz.f88.body.getD .skip) := by kernel_rfl
theorem N.surdref08_Told : Tryz.f88.ntmps = 16 := Tryz.ntmps88

def C.surdref06_Neg : VC :=
  .seq (.region false [⟨some 1, .box (.t 0), none⟩,
   ⟨some 2, .alloc [.bool false, .slice none 0 0], none⟩]) (.seq (.region false [⟨some 3, .fa 0 (.t 1), none⟩,
   ⟨some 4, .load none (.t 3), none⟩,
   ⟨some 5, .un .not (.t 4), none⟩,
   ⟨some 6, .fa 1 (.t 1), none⟩,
   ⟨some 7, .load none (.t 6), none⟩,
   ⟨some 8, .call F.surdref06_make1 [.t 5, .t 7], none⟩,
   ⟨none, .store 2 (.t 2) (.t 8), none⟩]) .ret)
def R.surdref06_Neg : List VRes := [.cell 2 (some 2)]
theorem K.surdref06_Neg : resCode Tryz.prog Tryz.f89.ntmps (Tryz.f89.body.getD .skip) = C.surdref06_Neg := by kernel_rfl
theorem Q.surdref06_Neg : resResults Tryz.prog Tryz.f89.results.toList = some R.surdref06_Neg := by kernel_rfl
theorem E.surdref06_Neg : Tryz.prog.funcs[F.surdref06_Neg]? = some Tryz.f89 := Tryz.func89
theorem B.surdref06_Neg : Tryz.f89.body = some (Tryz.f89.body.getD .skip) := by kernel_rfl
theorem N.surdref06_Neg : Tryz.f89.ntmps = 9 := Tryz.ntmps89

def C.surdref01_Num_Len : VC :=
  .seq (.region false [⟨some 2, .mov (.c (iv 0)), none⟩]) (.seq (.seq (.region false [⟨some 5, .mov (.t 0), none⟩,
   ⟨some 6, .len (.t 5), none⟩,
   ⟨some 7, .bin .eql false (.t 6) (.c (iv 0)), none⟩]) (.cond (.t 7) (.seq (.region false [⟨some 2, .mov (.c (iv 0)), none⟩]) .ret) .skip)) (.seq (.region false [⟨some 8, .mov (.t 0), none⟩,
   ⟨some 9, .len (.t 8), none⟩,
   ⟨some 10, .bin .sub false (.t 9) (.c (iv 1)), none⟩,
   ⟨some 11, .bin .mul false (.c (iv 32)) (.t 10), none⟩,
   ⟨some 3, .mov (.t 11), none⟩]) (.seq (.seq (.region false [⟨some 12, .mov (.t 0), none⟩,
   ⟨some 13, .mov (.t 0), none⟩,
   ⟨some 14, .len (.t 13), none⟩,
   ⟨some 15, .bin .sub false (.t 14) (.c (iv 1)), none⟩,
   ⟨some 16, .ixa 1 (.t 12) (.t 15), none⟩,
   ⟨some 17, .load none (.t 16), none⟩,
   ⟨some 4, .mov (.t 17), none⟩]) (.block 0 (.loop (.seq (.seq (.region false [⟨some 18, .mov (.t 4), none⟩,
   ⟨some 19, .bin .gtr false (.t 18) (.c (nv 0)), none⟩]) (.cond (.t 19) .skip (.exit 0))) (.seq (.block 1 (.region false [⟨some 22, .mov (.t 3), none⟩,
   ⟨some 23, .bin .add false (.t 22) (.c (iv 1)), none⟩,
   ⟨some 3, .mov (.t 23), none⟩])) (.region false [⟨some 20, .mov (.t 4), none⟩,
   ⟨some 21, .bin .quo false (.t 20) (.c (nv 2)), none⟩,
   ⟨some 4, .mov (.t 21), none⟩])))))) (.seq (.region false [⟨some 24, .mov (.t 3), none⟩,
   ⟨some 2, .mov (.t 24), none⟩]) .ret))))
def R.surdref01_Num_Len : List VRes := [.tmp 2]
theorem K.surdref01_Num_Len : resCode Tryz.prog Tryz.f91.ntmps (Tryz.f91.body.getD .skip) = C.surdref01_Num_Len := by kernel_rfl
theorem Q.surdref01_Num_Len : resResults Tryz.prog Tryz.f91.results.toList = some R.surdref01_Num_Len := by kernel_rfl
theorem E.surdref01_Num_Len : Tryz.prog.funcs[F.surdref01_Num_Len]? = some Tryz.f91 := Tryz.func91
theorem B.surdref01_Num_Len : Tryz.f91.body = some (Tryz.f91.body.getD .skip) := by kernel_rfl
theorem N.surdref01_Num_Len : Tryz.f91.ntmps = 25 := Tryz.ntmps91

def C.surdref01_Shl : VC :=
  .seq (.region false [⟨some 4, .mov (.c nil1), none⟩]) (.seq (.seq (.region false [⟨some 9, .mov (.t 0), none⟩,
   ⟨some 10, .len (.t 9), none⟩,
   ⟨some 11, .bin .eql false (.t 10) (.c (iv 0)), none⟩]) (.cond (.t 11) (.seq (.region false [⟨some 4, .mov (.c nil1), none⟩]) .ret) .skip)) (.seq (.region false [⟨some 12, .mov (.t 0), none⟩,
   ⟨some 13, .len (.t 12), none⟩,
   ⟨some 14, .mov (.t 1), none⟩,
   ⟨some 15, .bin .quo false (.t 14) (.c (iv 32)), none⟩,
   ⟨some 16, .bin .add false (.t 13) (.t 15), none⟩,
   ⟨some 17, .bin .add false (.t 16) (.c (iv 1)), none⟩,
   ⟨some 18, .mk [.int .u64 0] 8 (.t 17) (.t 17), none⟩,
   ⟨some 5, .mov (.t 18), none⟩]) (.seq (.region false [⟨some 19, .mov (.t 1), none⟩,
   ⟨some 20, .bin .rem false (.t 19) (.c (iv 32)), none⟩,
   ⟨some 6, .mov (.t 20), none⟩]) (.seq (.seq (.region false [⟨some 21, .mov (.t 0), none⟩,
   ⟨some 22, .len (.t 21), none⟩,
   ⟨some 23, .mov (.c (iv 0)), none⟩]) (.block 0 (.loop (.seq (.region false [⟨some 24, .bin .lss false (.t 23) (.t 22), none⟩]) (.seq (.cond (.t 24) .skip (.exit 0)) (.seq (.block 1 (.seq (.region false [⟨some 25, .mov (.t 23), none⟩,
   ⟨some 26, .ixa 1 (.t 21) (.t 23), none⟩,
   ⟨some 27, .load none (.t 26), none⟩,
   ⟨some 7, .mov (.t 25), none⟩,
   ⟨some 8, .mov (.t 27), none⟩]) (.seq (.region true [⟨some 28, .mov (.t 5), none⟩,
   ⟨some 29, .mov (.t 7), none⟩,
   ⟨some 30, .mov (.t 1), none⟩,
   ⟨some 31, .bin .quo false (.t 30) (.c (iv 32)), none⟩,
   ⟨some 32, .bin .add false (.t 29) (.t 31), none⟩,
   ⟨some 33, .ixa 1 (.t 28) (.t 32), none⟩,
   ⟨some 34, .load none (.t 33), none⟩,
   ⟨some 35, .mov (.t 8), none⟩,
   ⟨some 36, .mov (.t 6), none⟩,
   ⟨some 37, .bin .shl false (.t 35) (.t 36), none⟩,
   ⟨some 38, .bin .rem false (.t 37) (.c (nv 4294967296)), none⟩,
   ⟨some 39, .bin .add false (.t 34) (.t 38), none⟩,
   ⟨some 40, .ixa 1 (.t 28) (.t 32), none⟩,
   ⟨none, .store 1 (.t 40) (.t 39), none⟩]) (.region false [⟨some 41, .mov (.t 5), none⟩,
   ⟨some 42, .mov (.t 7), none⟩,
   ⟨some 43, .mov (.t 1), none⟩,
   ⟨some 44, .bin .quo false (.t 43) (.c (iv 32)), none⟩,
   ⟨some 45, .bin .add false (.t 42) (.t 44), none⟩,
   ⟨some 46, .bin .add false (.t 45) (.c (iv 1)), none⟩,
   ⟨some 47, .mov (.t 8), none⟩,
   ⟨some 48, .mov (.t 6), none⟩,
   ⟨some 49, .bin .shl false (.t 47) (.t 48), none⟩,
   ⟨some 50, .bin .quo false (.t 49) (.c (nv 4294967296)), none⟩,
   ⟨some 51, .ixa 1 (.t 41) (.t 46), none⟩,
   ⟨none, .store 1 (.t 51) (.t 50), none⟩])))) (.region false [⟨some 52, .bin .add false (.t 23) (.c (iv 1)), none⟩,
   ⟨some 23, .mov (.t 52), none⟩]))))))) (.seq (.region false [⟨some 53, .mov (.t 5), none⟩,
   ⟨some 54, .call F.surdref01_norm [.t 53], none⟩,
   ⟨some 4, .mov (.t 54), none⟩]) .ret)))))
def R.surdref01_Shl : List VRes := [.tmp 4]
theorem K.surdref01_Shl : resCode Tryz.prog Tryz.f92.ntmps (Tryz.f92.body.getD .skip) = C.surdref01_Shl := by kernel_rfl
theorem Q.surdref01_Shl : resResults Tryz.prog Tryz.f92.results.toList = some R.surdref01_Shl := by kernel_rfl
theorem E.surdref01_Shl : Tryz.prog.funcs[F.surdref01_Shl]? = some Tryz.f92 := Tryz.func92
theorem B.surdref01_Shl : Tryz.f92.body = some (Tryz.f92.body.getD .skip) := by kernel_rfl
theorem N.surdref01_Shl : Tryz.f92.ntmps = 55 := Tryz.ntmps92

def C.surdref01_Int : VC :=
  .seq (.region false [⟨some 2, .mov (.c nil1), none⟩]) (.seq (.region false [⟨some 3, .mov (.t 0), none⟩,
   ⟨some 4, .conv .u64 (.t 3), none⟩,
   ⟨some 5, .bsl true 1 1 [.int .u64 0] [(0, (1, .t 4))], none⟩,
   ⟨some 6, .call F.surdref01_Of [.t 5], none⟩,
   ⟨some 2, .mov (.t 6), none⟩]) .ret)
def R.surdref01_Int : List VRes := [.tmp 2]
theorem K.surdref01_Int : resCode Tryz.prog Tryz.f93.ntmps (Tryz.f93.body.getD .skip) = C.surdref01_Int := by kernel_rfl
theorem Q.surdref01_Int : resResults Tryz.prog Tryz.f93.results.toList = some R.surdref01_Int := by kernel_rfl
theorem E.surdref01_Int : Tryz.prog.funcs[F.surdref01_Int]? = some Tryz.f93 := Tryz.func93
theorem B.surdref01_Int : Tryz.f93.body = some (Tryz.f93.body.getD .skip) := by kernel_rfl
theorem N.surdref01_Int : Tryz.f93.ntmps = 7 := Tryz.ntmps93

def C.surdref06_Floor : VC :=
  .seq (.region false [⟨some 2, .box (.t 0), none⟩,
   ⟨some 3, .box (.t 1), none⟩,
   ⟨some 4, .alloc [.bool false, .slice none 0 0], none⟩,
   ⟨some 5, .alloc [.bool false, .slice none 0 0], none⟩]) (.seq (.region false [⟨some 10, .fa 1 (.t 2), none⟩,
   ⟨some 11, .load none (.t 10), none⟩,
   ⟨some 12, .fa 1 (.t 3), none⟩,
   ⟨some 13, .load none (.t 12), none⟩,
   ⟨some 14, .call F.surdref01_Div [.t 11, .t 13], none⟩,
   ⟨some 9, .mov (.t 14), none⟩,
   ⟨some 15, .ext (.t 9) 0, none⟩,
   ⟨some 16, .ext (.t 9) 1, none⟩,
   ⟨some 6, .mov (.t 15), none⟩,
   ⟨some 7, .mov (.t 16), none⟩]) (.seq (.region false [⟨some 17, .fa 0 (.t 2), none⟩,
   ⟨some 18, .load none (.t 17), none⟩,
   ⟨some 19, .fa 0 (.t 3), none⟩,
   ⟨some 20, .load none (.t 19), none⟩,
   ⟨some 21, .bin .neq true (.t 18) (.t 20), none⟩,
   ⟨some 22, .mov (.t 6), none⟩,
   ⟨some 23, .call F.surdref06_make1 [.t 21, .t 22], none⟩,
   ⟨some 8, .alloc [.bool false, .slice none 0 0], none⟩,
   ⟨none, .store 2 (.t 8) (.t 23), none⟩]) (.seq (.seq (.region false [⟨some 24, .mov (.t 7), none⟩,
   ⟨some 25, .call F.surdref01_Num_Zero [.t 24], none⟩,
   ⟨some 26, .un .not (.t 25), none⟩,
   ⟨some 27, .mov (.t 26), none⟩,
   ⟨some 28, .fa 0 (.t 2), some (27, true)⟩,
   ⟨some 29, .load none (.t 28), some (27, true)⟩,
   ⟨some 30, .fa 0 (.t 3), some (27, true)⟩,
   ⟨some 31, .load none (.t 30), some (27, true)⟩,
   ⟨some 32, .bin .neq true (.t 29) (.t 31), some (27, true)⟩,
   ⟨some 33, .pick (.t 27) (.t 32) (.c (bv false)), none⟩]) (.cond (.t 33) (.region true [⟨some 34, .load (some 2) (.t 8), none⟩,
   ⟨some 35, .call F.surdref06_Int [.c (iv 1)], none⟩,
   ⟨some 36, .call F.surdref06_Sub [.t 34, .t 35], none⟩,
   ⟨none, .store 2 (.t 8) (.t 36), none⟩]) .skip)) (.seq (.region true [⟨some 37, .load (some 2) (.t 8), none⟩,
   ⟨some 38, .load (some 2) (.t 2), none⟩,
   ⟨some 39, .load (some 2) (.t 8), none⟩,
   ⟨some 40, .load (some 2) (.t 3), none⟩,
   ⟨some 41, .call F.surdref06_Mul [.t 39, .t 40], none⟩,
   ⟨some 42, .call F.surdref06_Sub [.t 38, .t 41], none⟩,
   ⟨none, .store 2 (.t 4) (.t 37), none⟩,
   ⟨none, .store 2 (.t 5) (.t 42), none⟩]) .ret))))
def R.surdref06_Floor : List VRes := [.cell 4 (some 2), .cell 5 (some 2)]
theorem K.surdref06_Floor : resCode Tryz.prog Tryz.f94.ntmps (Tryz.f94.body.getD .skip) = C.surdref06_Floor := by kernel_rfl
theorem Q.surdref06_Floor : resResults Tryz.prog Tryz.f94.results.toList = some R.surdref06_Floor := by kernel_rfl
theorem E.surdref06_Floor : Tryz.prog.funcs[F.surdref06_Floor]? = some Tryz.f94 := Tryz.func94
theorem B.surdref06_Floor : Tryz.f94.body = some (Tryz.f94.body.getD .skip) := by kernel_rfl
theorem N.surdref06_Floor : Tryz.f94.ntmps = 43 := Tryz.ntmps94

def C.surdref06_Ceil : VC :=
  .seq (.region false [⟨some 2, .box (.t 0), none⟩,
   ⟨some 3, .box (.t 1), none⟩,
   ⟨some 4, .alloc [.bool false, .slice none 0 0], none⟩,
   ⟨some 5, .alloc [.bool false, .slice none 0 0], none⟩]) (.seq (.region false [⟨some 9, .load (some 2) (.t 2), none⟩,
   ⟨some 10, .load (some 2) (.t 3), none⟩,
   ⟨some 11, .call F.surdref06_Floor [.t 9, .t 10], none⟩,
   ⟨some 8, .mov (.t 11), none⟩,
   ⟨some 12, .ext (.t 8) 0, none⟩,
   ⟨some 13, .ext (.t 8) 1, none⟩,
   ⟨some 6, .alloc [.bool false, .slice none 0 0], none⟩,
   ⟨some 7, .alloc [.bool false, .slice none 0 0], none⟩,
   ⟨none, .store 2 (.t 6) (.t 12), none⟩,
   ⟨none, .store 2 (.t 7) (.t 13), none⟩]) (.seq (.seq (.region false [⟨some 14, .load (some 2) (.t 7), none⟩,
   ⟨some 15, .call F.surdref06_Z_Sign [.t 14], none⟩,
   ⟨some 16, .bin .eql false (.t 15) (.c (iv 0)), none⟩]) (.cond (.t 16) (.seq (.region true [⟨some 17, .load (some 2) (.t 6), none⟩,
   ⟨some 18, .load (some 2) (.t 7), none⟩,
   ⟨none, .storeA 2 (.t 4) (.t 17) [7], none⟩,
   ⟨none, .store 2 (.t 5) (.t 18), none⟩]) .ret) .skip)) (.seq (.region true [⟨some 19, .load (some 2) (.t 6), none⟩,
   ⟨some 20, .call F.surdref06_Int [.c (iv 1)], none⟩,
   ⟨some 21, .call F.surdref06_Add [.t 19, .t 20], none⟩,
   ⟨none, .store 2 (.t 6) (.t 21), none⟩]) (.seq (.region true [⟨some 22, .load (some 2) (.t 6), none⟩,
   ⟨some 23, .load (some 2) (.t 2), none⟩,
   ⟨some 24, .load (some 2) (.t 6), none⟩,
   ⟨some 25, .load (some 2) (.t 3), none⟩,
   ⟨some 26, .call F.surdref06_Mul [.t 24, .t 25], none⟩,
   ⟨some 27, .call F.surdref06_Sub [.t 23, .t 26], none⟩,
   ⟨none, .store 2 (.t 4) (.t 22), none⟩,
   ⟨none, .store 2 (.t 5) (.t 27), none⟩]) .ret))))
def R.surdref06_Ceil : List VRes := [.cell 4 (some 2), .cell 5 (some 2)]
theorem K.surdref06_Ceil : resCode Tryz.prog Tryz.f95.ntmps (Tryz.f95.body.getD .skip) = C.surdref06_Ceil := by kernel_rfl
theorem Q.surdref06_Ceil : resResults Tryz.prog Tryz.f95.results.toList = some R.surdref06_Ceil := by kernel_rfl
theorem E.surdref06_Ceil : Tryz.prog.funcs[F.surdref06_Ceil]? = some Tryz.f95 := Tryz.func95
theorem B.surdref06_Ceil : Tryz.f95.body = some (Tryz.f95.body.getD .skip) := by kernel_rfl
theorem N.surdref06_Ceil : Tryz.f95.ntmps = 28 := Tryz.ntmps95

def C.surdref10_worst : VC :=
  .seq (.region false [⟨some 4, .mov (.c (iv 0)), none⟩]) (.seq (.seq (.region false [⟨some 5, .mov (.t 0), none⟩,
   ⟨some 6, .bin .eql false (.t 5) (.c (iv 3)), none⟩,
   ⟨some 7, .mov (.t 6), none⟩,
   ⟨some 8, .mov (.t 1), some (7, false)⟩,
   ⟨some 9, .bin .eql false (.t 8) (.c (iv 3)), some (7, false)⟩,
   ⟨some 10, .pick (.t 7) (.c (bv true)) (.t 9), none⟩]) (.cond (.t 10) (.seq (.region false [⟨some 4, .mov (.c (iv 3)), none⟩]) .ret) .skip)) (.seq (.seq (.region false [⟨some 11, .mov (.t 0), none⟩,
   ⟨some 12, .bin .neq false (.t 11) (.c (iv 0)), none⟩]) (.cond (.t 12) (.seq (.region false [⟨some 13, .mov (.t 0), none⟩,
   ⟨some 4, .mov (.t 13), none⟩]) .ret) .skip)) (.seq (.region false [⟨some 14, .mov (.t 1), none⟩,
   ⟨some 4, .mov (.t 14), none⟩]) .ret)))
def R.surdref10_worst : List VRes := [.tmp 4]
theorem K.surdref10_worst : resCode Tryz.prog Tryz.f97.ntmps (Tryz.f97.body.getD .skip) = C.surdref10_worst := by kernel_rfl
theorem Q.surdref10_worst : resResults Tryz.prog Tryz.f97.results.toList = some R.surdref10_worst := by kernel_rfl
theorem E.surdref10_worst : Tryz.prog.funcs[F.surdref10_worst]? = some Tryz.f97 := Tryz.func97
theorem B.surdref10_worst : Tryz.f97.body = some (Tryz.f97.body.getD .skip) := by kernel_rfl
theorem N.surdref10_worst : Tryz.f97.ntmps = 15 := Tryz.ntmps97

def C.span_sums : VC :=
  .seq (.region false [⟨some 3, .box (.t 0), none⟩,
   ⟨some 4, .box (.t 1), none⟩,
   ⟨some 6, .alloc [.bool false, .slice none 0 0, .int .i64 0, .bool false, .slice none 0 0, .int .i64 0], none⟩,
   ⟨some 7, .mov (.c (iv 0)), none⟩]) (.seq (.region false [⟨some 14, .fa 0 (.t 3), none⟩,
   ⟨some 15, .load (some 3) (.t 14), none⟩,
   ⟨some 16, .fa 0 (.t 4), none⟩,
   ⟨some 17, .load (some 3) (.t 16), none⟩,
   ⟨some 18, .call F.dyadic_Add [.t 15, .t 17], none⟩,
   ⟨some 13, .mov (.t 18), none⟩,
   ⟨some 19, .ext (.t 13) 0, none⟩,
   ⟨some 20, .ext (.t 13) 1, none⟩,
   ⟨some 8, .alloc [.bool false, .slice none 0 0, .int .i64 0], none⟩,
   ⟨none, .store 3 (.t 8) (.t 19), none⟩,
   ⟨some 9, .mov (.t 20), none⟩]) (.seq (.region false [⟨some 22, .fa 3 (.t 3), none⟩,
   ⟨some 23, .load (some 3) (.t 22), none⟩,
   ⟨some 24, .fa 3 (.t 4), none⟩,
   ⟨some 25, .load (some 3) (.t 24), none⟩,
   ⟨some 26, .call F.dyadic_Add [.t 23, .t 25], none⟩,
   ⟨some 21, .mov (.t 26), none⟩,
   ⟨some 27, .ext (.t 21) 0, none⟩,
   ⟨some 28, .ext (.t 21) 1, none⟩,
   ⟨some 10, .alloc [.bool false, .slice none 0 0, .int .i64 0], none⟩,
   ⟨none, .store 3 (.t 10) (.t 27), none⟩,
   ⟨some 11, .mov (.t 28), none⟩]) (.seq (.seq (.region false [⟨some 29, .mov (.t 9), none⟩,
   ⟨some 30, .mov (.t 11), none⟩,
   ⟨some 31, .call F.span_worst [.t 29, .t 30], none⟩,
   ⟨some 12, .mov (.t 31), none⟩]) (.seq (.region false [⟨some 32, .mov (.t 12), none⟩,
   ⟨some 33, .bin .neq false (.t 32) (.c (iv 0)), none⟩]) (.cond (.t 33) (.seq (.region false [⟨some 34, .build [.bool false, .slice none 0 0, .int .i64 0, .bool false, .slice none 0 0, .int .i64 0] [], none⟩,
   ⟨some 35, .mov (.t 12), none⟩,
   ⟨none, .store 6 (.t 6) (.t 34), none⟩,
   ⟨some 7, .mov (.t 35), none⟩]) .ret) .skip))) (.seq (.region false [⟨some 36, .load (some 3) (.t 8), none⟩,
   ⟨some 37, .load (some 3) (.t 10), none⟩,
   ⟨some 38, .mov (.t 2), none⟩,
   ⟨some 39, .call F.span_outward [.t 36, .t 37, .t 38], none⟩,
   ⟨some 40, .ext (.t 39) 0, none⟩,
   ⟨some 41, .ext (.t 39) 1, none⟩,
   ⟨none, .store 6 (.t 6) (.t 40), none⟩,
   ⟨some 7, .mov (.t 41), none⟩]) .ret))))
def R.span_sums : List VRes := [.cell 6 (some 6), .tmp 7]
theorem K.span_sums : resCode Tryz.prog Tryz.f98.ntmps (Tryz.f98.body.getD .skip) = C.span_sums := by kernel_rfl
theorem Q.span_sums : resResults Tryz.prog Tryz.f98.results.toList = some R.span_sums := by kernel_rfl
theorem E.span_sums : Tryz.prog.funcs[F.span_sums]? = some Tryz.f98 := Tryz.func98
theorem B.span_sums : Tryz.f98.body = some (Tryz.f98.body.getD .skip) := by kernel_rfl
theorem N.span_sums : Tryz.f98.ntmps = 42 := Tryz.ntmps98

end Go.Proofs.YtplofcianjnkmaaGreatDoor
