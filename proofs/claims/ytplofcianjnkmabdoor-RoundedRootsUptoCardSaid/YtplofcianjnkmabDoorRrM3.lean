/- Texts of a claim, merged: what they prove is told at the last one's head. -/
import Derived.Test.YtplofcianjnkmabDoorRrM2
import Derived.Test.YtplofcianjnkmabDoorProg
import Derived.Test.YtplofcianjnkmabDoorChecked
import Derived.Lib.Mul64
set_option linter.unusedVariables false
namespace Go.Proofs.YtplofcianjnkmabDoor
open Go.VM

abbrev F.surdlaw09_RoundedRoots : FuncId := 5
abbrev F.surdlaw09_lives : FuncId := 6
abbrev F.surdlaw09_value : FuncId := 7
abbrev F.surdref07_R_Sign : FuncId := 8
abbrev F.rounded_Quo : FuncId := 9
abbrev F.surdlaw09_answer : FuncId := 11
abbrev F.surdref07_Cmp : FuncId := 12
abbrev F.surdref07_Scale : FuncId := 13
abbrev F.rounded_Sqrt : FuncId := 17
abbrev F.surdref07_Mul : FuncId := 18
abbrev F.surdlaw09_same : FuncId := 19
abbrev F.surdref01_Int : FuncId := 20
abbrev F.surdref01_Of : FuncId := 21
abbrev F.surdref01_Num_Len : FuncId := 22
abbrev F.surdref07_Make : FuncId := 23
abbrev F.surdref01_Num_Zero : FuncId := 24
abbrev F.rounded_read : FuncId := 25
abbrev F.rounded_asked : FuncId := 26
abbrev F.rounded_quotient : FuncId := 27
abbrev F.surdref01_Mul : FuncId := 28
abbrev F.surdref01_Cmp : FuncId := 29
abbrev F.surdref01_Num_Tail : FuncId := 30
abbrev F.surdref01_Shl : FuncId := 31
abbrev F.surdref01_Shr : FuncId := 32
abbrev F.nat_Length : FuncId := 35
abbrev F.rounded_finish : FuncId := 36
abbrev F.rounded_left : FuncId := 37
abbrev F.nat_Tail : FuncId := 38
abbrev F.rounded_right : FuncId := 39
abbrev F.roots_Sqrt : FuncId := 40
abbrev F.nat_Bit : FuncId := 41
abbrev F.surdref01_Num_Is : FuncId := 42
abbrev F.surdref01_norm : FuncId := 43
abbrev F.surdref01_Gcd : FuncId := 44
abbrev F.surdref01_Div : FuncId := 45
abbrev F.nat_Norm : FuncId := 46
abbrev F.div_Quo : FuncId := 47
abbrev F.rounded_minus : FuncId := 48
abbrev F.rounded_times : FuncId := 49
abbrev F.nat_Compare : FuncId := 50
abbrev F.surdref01_Num_Bit : FuncId := 51
abbrev F.surdref01_Num_at : FuncId := 52
abbrev F.surdref01_Add : FuncId := 53
abbrev F.surdref01_Sub : FuncId := 54
abbrev F.nat_trim : FuncId := 55
abbrev F.bits_Len64 : FuncId := 56
abbrev F.rounded_way : FuncId := 57
abbrev F.nat_Add : FuncId := 58
abbrev F.nat_From : FuncId := 59
abbrev F.bits_TrailingZeros64 : FuncId := 60
abbrev F.roots_Root : FuncId := 61
abbrev F.surdref01_Num_Limbs : FuncId := 62
abbrev F.div_divide : FuncId := 63
abbrev F.mul_Mul : FuncId := 64
abbrev F.rounded_plus : FuncId := 65
abbrev F.rounded_way_1 : FuncId := 66
abbrev F.rounded_way_2 : FuncId := 67
abbrev F.rounded_way_3 : FuncId := 68
abbrev F.nat_told : FuncId := 70
abbrev F.roots_fits : FuncId := 71
abbrev F.roots_newton : FuncId := 72
abbrev F.mul_Pow : FuncId := 73
abbrev F.roots_less : FuncId := 74
abbrev F.bits_Div64 : FuncId := 75
abbrev F.bits_LeadingZeros64 : FuncId := 76
abbrev F.div_up : FuncId := 77
abbrev F.div_guess : FuncId := 78
abbrev F.div_down : FuncId := 79
abbrev F.mul_product : FuncId := 80
abbrev F.mul_Mul_1 : FuncId := 81
abbrev F.mul_halved : FuncId := 82
abbrev F.roots_power : FuncId := 83
abbrev F.nat_Times : FuncId := 84
abbrev F.nat_Through : FuncId := 85
abbrev F.mul_Square : FuncId := 86
abbrev F.nat_Sub : FuncId := 87
abbrev F.bits_Mul64 : FuncId := 88
abbrev F.mul_great : FuncId := 90
abbrev F.mul_fits : FuncId := 91
abbrev F.mul_school : FuncId := 92
abbrev F.mul_addAt : FuncId := 93
abbrev F.mul_part : FuncId := 94
abbrev F.mul_less : FuncId := 95
abbrev F.mul_sum : FuncId := 96
abbrev F.nat_Left : FuncId := 97
def C.surdlaw09_RoundedRoots : VC :=
  .seq (.region false [⟨some 3, .box (.t 0), none⟩,
   ⟨some 4, .box (.t 1), none⟩,
   ⟨some 6, .mov (.c (bv false)), none⟩]) (.seq (.seq (.region false [⟨some 22, .mov (.t 2), none⟩,
   ⟨some 23, .bin .lss false (.t 22) (.c (iv (-1000))), none⟩,
   ⟨some 24, .mov (.t 23), none⟩,
   ⟨some 25, .mov (.t 2), some (24, false)⟩,
   ⟨some 26, .bin .gtr false (.t 25) (.c (iv 1000)), some (24, false)⟩,
   ⟨some 27, .pick (.t 24) (.c (bv true)) (.t 26), none⟩]) (.cond (.t 27) (.region false [⟨some 2, .mov (.c (iv (-3))), none⟩]) .skip)) (.seq (.region false [⟨some 28, .fa 0 (.t 3), none⟩,
   ⟨some 29, .fa 0 (.t 28), none⟩,
   ⟨none, .store 1 (.t 29) (.c (bv false)), none⟩,
   ⟨some 30, .fa 0 (.t 4), none⟩,
   ⟨some 31, .fa 0 (.t 30), none⟩,
   ⟨none, .store 1 (.t 31) (.c (bv false)), none⟩]) (.seq (.region false [⟨some 33, .load (some 3) (.t 3), none⟩,
   ⟨some 34, .call F.surdlaw09_value [.t 33], none⟩,
   ⟨some 32, .mov (.t 34), none⟩,
   ⟨some 35, .ext (.t 32) 0, none⟩,
   ⟨some 36, .ext (.t 32) 1, none⟩,
   ⟨some 7, .alloc [.bool false, .slice none 0 0, .slice none 0 0], none⟩,
   ⟨none, .store 3 (.t 7) (.t 35), none⟩,
   ⟨some 8, .mov (.t 36), none⟩]) (.seq (.region false [⟨some 38, .load (some 3) (.t 4), none⟩,
   ⟨some 39, .call F.surdlaw09_value [.t 38], none⟩,
   ⟨some 37, .mov (.t 39), none⟩,
   ⟨some 40, .ext (.t 37) 0, none⟩,
   ⟨some 41, .ext (.t 37) 1, none⟩,
   ⟨some 9, .alloc [.bool false, .slice none 0 0, .slice none 0 0], none⟩,
   ⟨none, .store 3 (.t 9) (.t 40), none⟩,
   ⟨some 10, .mov (.t 41), none⟩]) (.seq (.seq (.region false [⟨some 42, .mov (.t 8), none⟩,
   ⟨some 43, .un .not (.t 42), none⟩,
   ⟨some 44, .mov (.t 43), none⟩,
   ⟨some 45, .mov (.t 10), some (44, false)⟩,
   ⟨some 46, .un .not (.t 45), some (44, false)⟩,
   ⟨some 47, .pick (.t 44) (.c (bv true)) (.t 46), none⟩]) (.cond (.t 47) (.seq (.region false [⟨some 48, .call F.surdlaw09_lives [], none⟩,
   ⟨some 6, .mov (.t 48), none⟩]) .ret) .skip)) (.seq (.region false [⟨some 50, .load (some 3) (.t 3), none⟩,
   ⟨some 51, .mov (.t 2), none⟩,
   ⟨some 52, .call F.rounded_Sqrt [.t 50, .t 51, .c (iv 0)], none⟩,
   ⟨some 49, .mov (.t 52), none⟩,
   ⟨some 53, .ext (.t 49) 0, none⟩,
   ⟨some 54, .ext (.t 49) 1, none⟩,
   ⟨some 11, .alloc [.bool false, .slice none 0 0, .int .i64 0], none⟩,
   ⟨none, .store 3 (.t 11) (.t 53), none⟩,
   ⟨some 12, .mov (.t 54), none⟩]) (.seq (.region false [⟨some 56, .load (some 3) (.t 3), none⟩,
   ⟨some 57, .mov (.t 2), none⟩,
   ⟨some 58, .call F.rounded_Sqrt [.t 56, .t 57, .c (iv 1)], none⟩,
   ⟨some 55, .mov (.t 58), none⟩,
   ⟨some 59, .ext (.t 55) 0, none⟩,
   ⟨some 60, .ext (.t 55) 1, none⟩,
   ⟨some 13, .alloc [.bool false, .slice none 0 0, .int .i64 0], none⟩,
   ⟨none, .store 3 (.t 13) (.t 59), none⟩,
   ⟨some 14, .mov (.t 60), none⟩]) (.seq (.region false [⟨some 62, .load (some 3) (.t 4), none⟩,
   ⟨some 63, .mov (.t 2), none⟩,
   ⟨some 64, .call F.rounded_Sqrt [.t 62, .t 63, .c (iv 0)], none⟩,
   ⟨some 61, .mov (.t 64), none⟩,
   ⟨some 65, .ext (.t 61) 0, none⟩,
   ⟨some 66, .ext (.t 61) 1, none⟩,
   ⟨some 15, .alloc [.bool false, .slice none 0 0, .int .i64 0], none⟩,
   ⟨none, .store 3 (.t 15) (.t 65), none⟩,
   ⟨some 16, .mov (.t 66), none⟩]) (.seq (.region false [⟨some 68, .load (some 3) (.t 11), none⟩,
   ⟨some 69, .call F.surdlaw09_answer [.t 68], none⟩,
   ⟨some 67, .mov (.t 69), none⟩,
   ⟨some 70, .ext (.t 67) 0, none⟩,
   ⟨some 71, .ext (.t 67) 1, none⟩,
   ⟨some 17, .alloc [.bool false, .slice none 0 0, .slice none 0 0], none⟩,
   ⟨none, .store 3 (.t 17) (.t 70), none⟩,
   ⟨some 8, .mov (.t 71), none⟩]) (.seq (.region false [⟨some 73, .load (some 3) (.t 13), none⟩,
   ⟨some 74, .call F.surdlaw09_answer [.t 73], none⟩,
   ⟨some 72, .mov (.t 74), none⟩,
   ⟨some 75, .ext (.t 72) 0, none⟩,
   ⟨some 76, .ext (.t 72) 1, none⟩,
   ⟨some 18, .alloc [.bool false, .slice none 0 0, .slice none 0 0], none⟩,
   ⟨none, .store 3 (.t 18) (.t 75), none⟩,
   ⟨some 19, .mov (.t 76), none⟩]) (.seq (.region false [⟨some 78, .load (some 3) (.t 15), none⟩,
   ⟨some 79, .call F.surdlaw09_answer [.t 78], none⟩,
   ⟨some 77, .mov (.t 79), none⟩,
   ⟨some 80, .ext (.t 77) 0, none⟩,
   ⟨some 81, .ext (.t 77) 1, none⟩,
   ⟨some 20, .alloc [.bool false, .slice none 0 0, .slice none 0 0], none⟩,
   ⟨none, .store 3 (.t 20) (.t 80), none⟩,
   ⟨some 21, .mov (.t 81), none⟩]) (.seq (.seq (.region false [⟨some 82, .mov (.t 12), none⟩,
   ⟨some 83, .bin .neq false (.t 82) (.c (iv 0)), none⟩,
   ⟨some 84, .mov (.t 83), none⟩,
   ⟨some 85, .mov (.t 14), some (84, false)⟩,
   ⟨some 86, .bin .neq false (.t 85) (.c (iv 0)), some (84, false)⟩,
   ⟨some 87, .pick (.t 84) (.c (bv true)) (.t 86), none⟩,
   ⟨some 88, .mov (.t 87), none⟩,
   ⟨some 89, .mov (.t 16), some (88, false)⟩,
   ⟨some 90, .bin .neq false (.t 89) (.c (iv 0)), some (88, false)⟩,
   ⟨some 91, .pick (.t 88) (.c (bv true)) (.t 90), none⟩,
   ⟨some 92, .mov (.t 91), none⟩,
   ⟨some 93, .mov (.t 8), some (92, false)⟩,
   ⟨some 94, .un .not (.t 93), some (92, false)⟩,
   ⟨some 95, .pick (.t 92) (.c (bv true)) (.t 94), none⟩,
   ⟨some 96, .mov (.t 95), none⟩,
   ⟨some 97, .mov (.t 19), some (96, false)⟩,
   ⟨some 98, .un .not (.t 97), some (96, false)⟩,
   ⟨some 99, .pick (.t 96) (.c (bv true)) (.t 98), none⟩,
   ⟨some 100, .mov (.t 99), none⟩,
   ⟨some 101, .mov (.t 21), some (100, false)⟩,
   ⟨some 102, .un .not (.t 101), some (100, false)⟩,
   ⟨some 103, .pick (.t 100) (.c (bv true)) (.t 102), none⟩,
   ⟨some 104, .mov (.t 103), none⟩,
   ⟨some 105, .load (some 3) (.t 17), some (104, false)⟩,
   ⟨some 106, .call F.surdref07_R_Sign [.t 105], some (104, false)⟩,
   ⟨some 107, .bin .lss false (.t 106) (.c (iv 0)), some (104, false)⟩,
   ⟨some 108, .pick (.t 104) (.c (bv true)) (.t 107), none⟩]) (.cond (.t 108) (.seq (.region false [⟨some 6, .mov (.c (bv false)), none⟩]) .ret) .skip)) (.seq (.seq (.region true [⟨some 109, .load (some 3) (.t 17), none⟩,
   ⟨some 110, .load (some 3) (.t 17), none⟩,
   ⟨some 111, .call F.surdref07_Mul [.t 109, .t 110], none⟩,
   ⟨some 112, .load (some 3) (.t 7), none⟩,
   ⟨some 113, .call F.surdref07_Cmp [.t 111, .t 112], none⟩,
   ⟨some 114, .bin .gtr false (.t 113) (.c (iv 0)), none⟩,
   ⟨some 115, .mov (.t 114), none⟩,
   ⟨some 116, .load (some 3) (.t 18), some (115, false)⟩,
   ⟨some 117, .load (some 3) (.t 18), some (115, false)⟩,
   ⟨some 118, .call F.surdref07_Mul [.t 116, .t 117], some (115, false)⟩,
   ⟨some 119, .load (some 3) (.t 7), some (115, false)⟩,
   ⟨some 120, .call F.surdref07_Cmp [.t 118, .t 119], some (115, false)⟩,
   ⟨some 121, .bin .lss false (.t 120) (.c (iv 0)), some (115, false)⟩,
   ⟨some 122, .pick (.t 115) (.c (bv true)) (.t 121), none⟩]) (.cond (.t 122) (.seq (.region false [⟨some 6, .mov (.c (bv false)), none⟩]) .ret) .skip)) (.seq (.region false [⟨some 123, .load (some 3) (.t 7), none⟩,
   ⟨some 124, .load (some 3) (.t 9), none⟩,
   ⟨some 125, .call F.surdref07_Cmp [.t 123, .t 124], none⟩,
   ⟨some 126, .bin .gtr false (.t 125) (.c (iv 0)), none⟩,
   ⟨some 127, .mov (.t 126), none⟩,
   ⟨some 128, .load (some 3) (.t 17), some (127, false)⟩,
   ⟨some 129, .load (some 3) (.t 20), some (127, false)⟩,
   ⟨some 130, .call F.surdref07_Cmp [.t 128, .t 129], some (127, false)⟩,
   ⟨some 131, .bin .leq false (.t 130) (.c (iv 0)), some (127, false)⟩,
   ⟨some 132, .pick (.t 127) (.c (bv true)) (.t 131), none⟩,
   ⟨some 133, .mov (.t 132), none⟩,
   ⟨some 134, .call F.surdlaw09_lives [], some (133, true)⟩,
   ⟨some 135, .pick (.t 133) (.t 134) (.c (bv false)), none⟩,
   ⟨some 6, .mov (.t 135), none⟩]) .ret))))))))))))))
def R.surdlaw09_RoundedRoots : List VRes := [.tmp 6]
theorem K.surdlaw09_RoundedRoots : resCode Tryd.prog Tryd.f5.ntmps (Tryd.f5.body.getD .skip) = C.surdlaw09_RoundedRoots := by kernel_rfl
theorem Q.surdlaw09_RoundedRoots : resResults Tryd.prog Tryd.f5.results.toList = some R.surdlaw09_RoundedRoots := by kernel_rfl
theorem E.surdlaw09_RoundedRoots : Tryd.prog.funcs[F.surdlaw09_RoundedRoots]? = some Tryd.f5 := Tryd.func5
theorem B.surdlaw09_RoundedRoots : Tryd.f5.body = some (Tryd.f5.body.getD .skip) := by kernel_rfl
theorem N.surdlaw09_RoundedRoots : Tryd.f5.ntmps = 136 := Tryd.ntmps5

def C.surdlaw09_lives : VC :=
  .seq (.region false [⟨some 0, .mov (.c (bv false)), none⟩]) (.seq (.region false [⟨some 6, .bsl true 1 1 [.int .u64 0] [(0, (1, .c (nv 1)))], none⟩,
   ⟨some 7, .build [.bool false, .slice none 0 0] [(1, (1, .t 6))], none⟩,
   ⟨some 8, .build [.bool false, .slice none 0 0, .int .i64 0] [(0, (2, .t 7))], none⟩,
   ⟨some 9, .bsl true 1 1 [.int .u64 0] [(0, (1, .c (nv 3)))], none⟩,
   ⟨some 10, .build [.bool false, .slice none 0 0] [(1, (1, .t 9))], none⟩,
   ⟨some 11, .build [.bool false, .slice none 0 0, .int .i64 0] [(0, (2, .t 10))], none⟩,
   ⟨some 12, .call F.rounded_Quo [.t 8, .t 11, .c (iv (-4)), .c (iv 1)], none⟩,
   ⟨some 5, .mov (.t 12), none⟩,
   ⟨some 13, .ext (.t 5) 0, none⟩,
   ⟨some 14, .ext (.t 5) 1, none⟩,
   ⟨some 1, .alloc [.bool false, .slice none 0 0, .int .i64 0], none⟩,
   ⟨none, .store 3 (.t 1) (.t 13), none⟩,
   ⟨some 2, .mov (.t 14), none⟩]) (.seq (.region false [⟨some 16, .bsl true 1 1 [.int .u64 0] [(0, (1, .c (nv 2)))], none⟩,
   ⟨some 17, .build [.bool false, .slice none 0 0] [(1, (1, .t 16))], none⟩,
   ⟨some 18, .build [.bool false, .slice none 0 0, .int .i64 0] [(0, (2, .t 17))], none⟩,
   ⟨some 19, .call F.rounded_Sqrt [.t 18, .c (iv (-4)), .c (iv 0)], none⟩,
   ⟨some 15, .mov (.t 19), none⟩,
   ⟨some 20, .ext (.t 15) 0, none⟩,
   ⟨some 21, .ext (.t 15) 1, none⟩,
   ⟨some 3, .alloc [.bool false, .slice none 0 0, .int .i64 0], none⟩,
   ⟨none, .store 3 (.t 3) (.t 20), none⟩,
   ⟨some 4, .mov (.t 21), none⟩]) (.seq (.region true [⟨some 22, .load (some 3) (.t 1), none⟩,
   ⟨some 23, .mov (.t 2), none⟩,
   ⟨some 24, .call F.surdref01_Int [.c (iv 3)], none⟩,
   ⟨some 25, .build [.bool false, .slice none 0 0, .int .i64 0] [(1, (1, .t 24)), (2, (1, .c (iv (-3))))], none⟩,
   ⟨some 26, .call F.surdlaw09_same [.t 22, .t 23, .t 25, .c (iv 0)], none⟩,
   ⟨some 27, .mov (.t 26), none⟩,
   ⟨some 28, .load (some 3) (.t 3), some (27, true)⟩,
   ⟨some 29, .mov (.t 4), some (27, true)⟩,
   ⟨some 30, .call F.surdref01_Int [.c (iv 11)], some (27, true)⟩,
   ⟨some 31, .build [.bool false, .slice none 0 0, .int .i64 0] [(1, (1, .t 30)), (2, (1, .c (iv (-3))))], some (27, true)⟩,
   ⟨some 32, .call F.surdlaw09_same [.t 28, .t 29, .t 31, .c (iv 0)], some (27, true)⟩,
   ⟨some 33, .pick (.t 27) (.t 32) (.c (bv false)), none⟩,
   ⟨some 0, .mov (.t 33), none⟩]) .ret)))
def R.surdlaw09_lives : List VRes := [.tmp 0]
theorem K.surdlaw09_lives : resCode Tryd.prog Tryd.f6.ntmps (Tryd.f6.body.getD .skip) = C.surdlaw09_lives := by kernel_rfl
theorem Q.surdlaw09_lives : resResults Tryd.prog Tryd.f6.results.toList = some R.surdlaw09_lives := by kernel_rfl
theorem E.surdlaw09_lives : Tryd.prog.funcs[F.surdlaw09_lives]? = some Tryd.f6 := Tryd.func6
theorem B.surdlaw09_lives : Tryd.f6.body = some (Tryd.f6.body.getD .skip) := by kernel_rfl
theorem N.surdlaw09_lives : Tryd.f6.ntmps = 34 := Tryd.ntmps6

def C.surdlaw09_value : VC :=
  .seq (.region false [⟨some 1, .box (.t 0), none⟩,
   ⟨some 2, .alloc [.bool false, .slice none 0 0, .slice none 0 0], none⟩,
   ⟨some 3, .mov (.c (bv false)), none⟩]) (.seq (.seq (.region false [⟨some 4, .fa 2 (.t 1), none⟩,
   ⟨some 5, .load none (.t 4), none⟩,
   ⟨some 6, .bin .lss false (.t 5) (.c (iv (-65536))), none⟩,
   ⟨some 7, .mov (.t 6), none⟩,
   ⟨some 8, .fa 2 (.t 1), some (7, false)⟩,
   ⟨some 9, .load none (.t 8), some (7, false)⟩,
   ⟨some 10, .bin .gtr false (.t 9) (.c (iv 65536)), some (7, false)⟩,
   ⟨some 11, .pick (.t 7) (.c (bv true)) (.t 10), none⟩,
   ⟨some 12, .mov (.t 11), none⟩,
   ⟨some 13, .fa 0 (.t 1), some (12, false)⟩,
   ⟨some 14, .fa 1 (.t 13), some (12, false)⟩,
   ⟨some 15, .load none (.t 14), some (12, false)⟩,
   ⟨some 16, .call F.surdref01_Of [.t 15], some (12, false)⟩,
   ⟨some 17, .call F.surdref01_Num_Len [.t 16], some (12, false)⟩,
   ⟨some 18, .bin .gtr false (.t 17) (.c (iv 65536)), some (12, false)⟩,
   ⟨some 19, .pick (.t 12) (.c (bv true)) (.t 18), none⟩]) (.cond (.t 19) (.seq (.region false [⟨some 20, .build [.bool false, .slice none 0 0, .slice none 0 0] [], none⟩,
   ⟨none, .store 3 (.t 2) (.t 20), none⟩,
   ⟨some 3, .mov (.c (bv false)), none⟩]) .ret) .skip)) (.seq (.region true [⟨some 21, .fa 0 (.t 1), none⟩,
   ⟨some 22, .fa 0 (.t 21), none⟩,
   ⟨some 23, .load none (.t 22), none⟩,
   ⟨some 24, .fa 0 (.t 1), none⟩,
   ⟨some 25, .fa 1 (.t 24), none⟩,
   ⟨some 26, .load none (.t 25), none⟩,
   ⟨some 27, .call F.surdref01_Of [.t 26], none⟩,
   ⟨some 28, .call F.surdref01_Int [.c (iv 1)], none⟩,
   ⟨some 29, .call F.surdref07_Make [.t 23, .t 27, .t 28], none⟩,
   ⟨some 30, .fa 2 (.t 1), none⟩,
   ⟨some 31, .load none (.t 30), none⟩,
   ⟨some 32, .call F.surdref07_Scale [.t 29, .t 31], none⟩,
   ⟨none, .store 3 (.t 2) (.t 32), none⟩,
   ⟨some 3, .mov (.c (bv true)), none⟩]) .ret))
def R.surdlaw09_value : List VRes := [.cell 2 (some 3), .tmp 3]
theorem K.surdlaw09_value : resCode Tryd.prog Tryd.f7.ntmps (Tryd.f7.body.getD .skip) = C.surdlaw09_value := by kernel_rfl
theorem Q.surdlaw09_value : resResults Tryd.prog Tryd.f7.results.toList = some R.surdlaw09_value := by kernel_rfl
theorem E.surdlaw09_value : Tryd.prog.funcs[F.surdlaw09_value]? = some Tryd.f7 := Tryd.func7
theorem B.surdlaw09_value : Tryd.f7.body = some (Tryd.f7.body.getD .skip) := by kernel_rfl
theorem N.surdlaw09_value : Tryd.f7.ntmps = 33 := Tryd.ntmps7

def C.surdref07_R_Sign : VC :=
  .seq (.region false [⟨some 1, .box (.t 0), none⟩,
   ⟨some 2, .mov (.c (iv 0)), none⟩]) (.seq (.seq (.region false [⟨some 3, .fa 1 (.t 1), none⟩,
   ⟨some 4, .load none (.t 3), none⟩,
   ⟨some 5, .call F.surdref01_Num_Zero [.t 4], none⟩]) (.cond (.t 5) (.seq (.region false [⟨some 2, .mov (.c (iv 0)), none⟩]) .ret) .skip)) (.seq (.seq (.region false [⟨some 6, .fa 0 (.t 1), none⟩,
   ⟨some 7, .load none (.t 6), none⟩]) (.cond (.t 7) (.seq (.region false [⟨some 2, .mov (.c (iv (-1))), none⟩]) .ret) .skip)) (.seq (.region false [⟨some 2, .mov (.c (iv 1)), none⟩]) .ret)))
def R.surdref07_R_Sign : List VRes := [.tmp 2]
theorem K.surdref07_R_Sign : resCode Tryd.prog Tryd.f8.ntmps (Tryd.f8.body.getD .skip) = C.surdref07_R_Sign := by kernel_rfl
theorem Q.surdref07_R_Sign : resResults Tryd.prog Tryd.f8.results.toList = some R.surdref07_R_Sign := by kernel_rfl
theorem E.surdref07_R_Sign : Tryd.prog.funcs[F.surdref07_R_Sign]? = some Tryd.f8 := Tryd.func8
theorem B.surdref07_R_Sign : Tryd.f8.body = some (Tryd.f8.body.getD .skip) := by kernel_rfl
theorem N.surdref07_R_Sign : Tryd.f8.ntmps = 8 := Tryd.ntmps8

def C.rounded_Quo : VC :=
  .seq (.region false [⟨some 4, .box (.t 0), none⟩,
   ⟨some 5, .box (.t 1), none⟩,
   ⟨some 8, .alloc [.bool false, .slice none 0 0, .int .i64 0], none⟩,
   ⟨some 9, .mov (.c (iv 0)), none⟩]) (.seq (.region false [⟨some 15, .load (some 3) (.t 4), none⟩,
   ⟨some 16, .call F.rounded_read [.t 15], none⟩,
   ⟨some 14, .mov (.t 16), none⟩,
   ⟨some 17, .ext (.t 14) 0, none⟩,
   ⟨some 18, .ext (.t 14) 1, none⟩,
   ⟨some 10, .alloc [.bool false, .slice none 0 0, .int .i64 0], none⟩,
   ⟨none, .store 3 (.t 10) (.t 17), none⟩,
   ⟨some 11, .mov (.t 18), none⟩]) (.seq (.seq (.region false [⟨some 19, .mov (.t 11), none⟩,
   ⟨some 20, .bin .neq false (.t 19) (.c (iv 0)), none⟩]) (.cond (.t 20) (.seq (.region false [⟨some 21, .build [.bool false, .slice none 0 0, .int .i64 0] [], none⟩,
   ⟨some 22, .mov (.t 11), none⟩,
   ⟨none, .store 3 (.t 8) (.t 21), none⟩,
   ⟨some 9, .mov (.t 22), none⟩]) .ret) .skip)) (.seq (.region false [⟨some 24, .load (some 3) (.t 5), none⟩,
   ⟨some 25, .call F.rounded_read [.t 24], none⟩,
   ⟨some 23, .mov (.t 25), none⟩,
   ⟨some 26, .ext (.t 23) 0, none⟩,
   ⟨some 27, .ext (.t 23) 1, none⟩,
   ⟨some 12, .alloc [.bool false, .slice none 0 0, .int .i64 0], none⟩,
   ⟨none, .store 3 (.t 12) (.t 26), none⟩,
   ⟨some 11, .mov (.t 27), none⟩]) (.seq (.seq (.region false [⟨some 28, .mov (.t 11), none⟩,
   ⟨some 29, .bin .neq false (.t 28) (.c (iv 0)), none⟩]) (.cond (.t 29) (.seq (.region false [⟨some 30, .build [.bool false, .slice none 0 0, .int .i64 0] [], none⟩,
   ⟨some 31, .mov (.t 11), none⟩,
   ⟨none, .store 3 (.t 8) (.t 30), none⟩,
   ⟨some 9, .mov (.t 31), none⟩]) .ret) .skip)) (.seq (.seq (.region false [⟨some 32, .mov (.t 2), none⟩,
   ⟨some 33, .mov (.t 3), none⟩,
   ⟨some 34, .call F.rounded_asked [.t 32, .t 33], none⟩,
   ⟨some 13, .mov (.t 34), none⟩]) (.seq (.region false [⟨some 35, .mov (.t 13), none⟩,
   ⟨some 36, .bin .neq false (.t 35) (.c (iv 0)), none⟩]) (.cond (.t 36) (.seq (.region false [⟨some 37, .build [.bool false, .slice none 0 0, .int .i64 0] [], none⟩,
   ⟨some 38, .mov (.t 13), none⟩,
   ⟨none, .store 3 (.t 8) (.t 37), none⟩,
   ⟨some 9, .mov (.t 38), none⟩]) .ret) .skip))) (.seq (.seq (.region false [⟨some 39, .fa 1 (.t 12), none⟩,
   ⟨some 40, .load none (.t 39), none⟩,
   ⟨some 41, .len (.t 40), none⟩,
   ⟨some 42, .bin .eql false (.t 41) (.c (iv 0)), none⟩]) (.cond (.t 42) (.seq (.region false [⟨some 43, .build [.bool false, .slice none 0 0, .int .i64 0] [], none⟩,
   ⟨none, .store 3 (.t 8) (.t 43), none⟩,
   ⟨some 9, .mov (.c (iv 90)), none⟩]) .ret) .skip)) (.seq (.region false [⟨some 44, .fa 0 (.t 10), none⟩,
   ⟨some 45, .load none (.t 44), none⟩,
   ⟨some 46, .fa 0 (.t 12), none⟩,
   ⟨some 47, .load none (.t 46), none⟩,
   ⟨some 48, .bin .neq true (.t 45) (.t 47), none⟩,
   ⟨some 49, .fa 1 (.t 10), none⟩,
   ⟨some 50, .load none (.t 49), none⟩,
   ⟨some 51, .fa 1 (.t 12), none⟩,
   ⟨some 52, .load none (.t 51), none⟩,
   ⟨some 53, .fa 2 (.t 10), none⟩,
   ⟨some 54, .load none (.t 53), none⟩,
   ⟨some 55, .fa 2 (.t 12), none⟩,
   ⟨some 56, .load none (.t 55), none⟩,
   ⟨some 57, .bin .sub false (.t 54) (.t 56), none⟩,
   ⟨some 58, .mov (.t 2), none⟩,
   ⟨some 59, .mov (.t 3), none⟩,
   ⟨some 60, .call F.rounded_quotient [.t 48, .t 50, .t 52, .t 57, .t 58, .t 59], none⟩,
   ⟨some 61, .ext (.t 60) 0, none⟩,
   ⟨some 62, .ext (.t 60) 1, none⟩,
   ⟨none, .store 3 (.t 8) (.t 61), none⟩,
   ⟨some 9, .mov (.t 62), none⟩]) .ret)))))))
def R.rounded_Quo : List VRes := [.cell 8 (some 3), .tmp 9]
theorem K.rounded_Quo : resCode Tryd.prog Tryd.f9.ntmps (Tryd.f9.body.getD .skip) = C.rounded_Quo := by kernel_rfl
theorem Q.rounded_Quo : resResults Tryd.prog Tryd.f9.results.toList = some R.rounded_Quo := by kernel_rfl
theorem E.rounded_Quo : Tryd.prog.funcs[F.rounded_Quo]? = some Tryd.f9 := Tryd.func9
theorem B.rounded_Quo : Tryd.f9.body = some (Tryd.f9.body.getD .skip) := by kernel_rfl
theorem N.rounded_Quo : Tryd.f9.ntmps = 63 := Tryd.ntmps9

def C.surdlaw09_answer : VC :=
  .seq (.region false [⟨some 1, .box (.t 0), none⟩,
   ⟨some 2, .alloc [.bool false, .slice none 0 0, .slice none 0 0], none⟩,
   ⟨some 3, .mov (.c (bv false)), none⟩]) (.seq (.seq (.region false [⟨some 4, .fa 2 (.t 1), none⟩,
   ⟨some 5, .load none (.t 4), none⟩,
   ⟨some 6, .bin .lss false (.t 5) (.c (iv (-2097152))), none⟩,
   ⟨some 7, .mov (.t 6), none⟩,
   ⟨some 8, .fa 2 (.t 1), some (7, false)⟩,
   ⟨some 9, .load none (.t 8), some (7, false)⟩,
   ⟨some 10, .bin .gtr false (.t 9) (.c (iv 2097152)), some (7, false)⟩,
   ⟨some 11, .pick (.t 7) (.c (bv true)) (.t 10), none⟩,
   ⟨some 12, .mov (.t 11), none⟩,
   ⟨some 13, .fa 0 (.t 1), some (12, false)⟩,
   ⟨some 14, .fa 1 (.t 13), some (12, false)⟩,
   ⟨some 15, .load none (.t 14), some (12, false)⟩,
   ⟨some 16, .call F.surdref01_Of [.t 15], some (12, false)⟩,
   ⟨some 17, .call F.surdref01_Num_Len [.t 16], some (12, false)⟩,
   ⟨some 18, .bin .gtr false (.t 17) (.c (iv 2097152)), some (12, false)⟩,
   ⟨some 19, .pick (.t 12) (.c (bv true)) (.t 18), none⟩]) (.cond (.t 19) (.seq (.region false [⟨some 20, .build [.bool false, .slice none 0 0, .slice none 0 0] [], none⟩,
   ⟨none, .store 3 (.t 2) (.t 20), none⟩,
   ⟨some 3, .mov (.c (bv false)), none⟩]) .ret) .skip)) (.seq (.region true [⟨some 21, .fa 0 (.t 1), none⟩,
   ⟨some 22, .fa 0 (.t 21), none⟩,
   ⟨some 23, .load none (.t 22), none⟩,
   ⟨some 24, .fa 0 (.t 1), none⟩,
   ⟨some 25, .fa 1 (.t 24), none⟩,
   ⟨some 26, .load none (.t 25), none⟩,
   ⟨some 27, .call F.surdref01_Of [.t 26], none⟩,
   ⟨some 28, .call F.surdref01_Int [.c (iv 1)], none⟩,
   ⟨some 29, .call F.surdref07_Make [.t 23, .t 27, .t 28], none⟩,
   ⟨some 30, .fa 2 (.t 1), none⟩,
   ⟨some 31, .load none (.t 30), none⟩,
   ⟨some 32, .call F.surdref07_Scale [.t 29, .t 31], none⟩,
   ⟨none, .store 3 (.t 2) (.t 32), none⟩,
   ⟨some 3, .mov (.c (bv true)), none⟩]) .ret))
def R.surdlaw09_answer : List VRes := [.cell 2 (some 3), .tmp 3]
theorem K.surdlaw09_answer : resCode Tryd.prog Tryd.f11.ntmps (Tryd.f11.body.getD .skip) = C.surdlaw09_answer := by kernel_rfl
theorem Q.surdlaw09_answer : resResults Tryd.prog Tryd.f11.results.toList = some R.surdlaw09_answer := by kernel_rfl
theorem E.surdlaw09_answer : Tryd.prog.funcs[F.surdlaw09_answer]? = some Tryd.f11 := Tryd.func11
theorem B.surdlaw09_answer : Tryd.f11.body = some (Tryd.f11.body.getD .skip) := by kernel_rfl
theorem N.surdlaw09_answer : Tryd.f11.ntmps = 33 := Tryd.ntmps11

def C.surdref07_Cmp : VC :=
  .seq (.region false [⟨some 2, .box (.t 0), none⟩,
   ⟨some 3, .box (.t 1), none⟩,
   ⟨some 4, .mov (.c (iv 0)), none⟩]) (.seq (.seq (.region true [⟨some 5, .load (some 3) (.t 2), none⟩,
   ⟨some 6, .call F.surdref07_R_Sign [.t 5], none⟩,
   ⟨some 7, .load (some 3) (.t 3), none⟩,
   ⟨some 8, .call F.surdref07_R_Sign [.t 7], none⟩,
   ⟨some 9, .bin .neq false (.t 6) (.t 8), none⟩]) (.cond (.t 9) (.seq (.seq (.region true [⟨some 10, .load (some 3) (.t 2), none⟩,
   ⟨some 11, .call F.surdref07_R_Sign [.t 10], none⟩,
   ⟨some 12, .load (some 3) (.t 3), none⟩,
   ⟨some 13, .call F.surdref07_R_Sign [.t 12], none⟩,
   ⟨some 14, .bin .lss false (.t 11) (.t 13), none⟩]) (.cond (.t 14) (.seq (.region false [⟨some 4, .mov (.c (iv (-1))), none⟩]) .ret) .skip)) (.seq (.region false [⟨some 4, .mov (.c (iv 1)), none⟩]) .ret)) .skip)) (.seq (.region true [⟨some 15, .load (some 3) (.t 2), none⟩,
   ⟨some 16, .call F.surdref07_R_Sign [.t 15], none⟩,
   ⟨some 17, .fa 1 (.t 2), none⟩,
   ⟨some 18, .load none (.t 17), none⟩,
   ⟨some 19, .fa 2 (.t 3), none⟩,
   ⟨some 20, .load none (.t 19), none⟩,
   ⟨some 21, .call F.surdref01_Mul [.t 18, .t 20], none⟩,
   ⟨some 22, .fa 1 (.t 3), none⟩,
   ⟨some 23, .load none (.t 22), none⟩,
   ⟨some 24, .fa 2 (.t 2), none⟩,
   ⟨some 25, .load none (.t 24), none⟩,
   ⟨some 26, .call F.surdref01_Mul [.t 23, .t 25], none⟩,
   ⟨some 27, .call F.surdref01_Cmp [.t 21, .t 26], none⟩,
   ⟨some 28, .bin .mul false (.t 16) (.t 27), none⟩,
   ⟨some 4, .mov (.t 28), none⟩]) .ret))
def R.surdref07_Cmp : List VRes := [.tmp 4]
theorem K.surdref07_Cmp : resCode Tryd.prog Tryd.f12.ntmps (Tryd.f12.body.getD .skip) = C.surdref07_Cmp := by kernel_rfl
theorem Q.surdref07_Cmp : resResults Tryd.prog Tryd.f12.results.toList = some R.surdref07_Cmp := by kernel_rfl
theorem E.surdref07_Cmp : Tryd.prog.funcs[F.surdref07_Cmp]? = some Tryd.f12 := Tryd.func12
theorem B.surdref07_Cmp : Tryd.f12.body = some (Tryd.f12.body.getD .skip) := by kernel_rfl
theorem N.surdref07_Cmp : Tryd.f12.ntmps = 29 := Tryd.ntmps12

def C.surdref07_Scale : VC :=
  .seq (.region false [⟨some 2, .box (.t 0), none⟩,
   ⟨some 4, .alloc [.bool false, .slice none 0 0, .slice none 0 0], none⟩]) (.seq (.seq (.region false [⟨some 7, .fa 1 (.t 2), none⟩,
   ⟨some 8, .load none (.t 7), none⟩,
   ⟨some 9, .call F.surdref01_Num_Zero [.t 8], none⟩]) (.cond (.t 9) (.seq (.region false [⟨some 10, .load (some 3) (.t 2), none⟩,
   ⟨none, .store 3 (.t 4) (.t 10), none⟩]) .ret) .skip)) (.seq (.seq (.region false [⟨some 11, .mov (.t 1), none⟩,
   ⟨some 12, .bin .geq false (.t 11) (.c (iv 0)), none⟩]) (.cond (.t 12) (.seq (.region false [⟨some 13, .fa 2 (.t 2), none⟩,
   ⟨some 14, .load none (.t 13), none⟩,
   ⟨some 15, .call F.surdref01_Num_Tail [.t 14], none⟩,
   ⟨some 5, .mov (.t 15), none⟩]) (.seq (.seq (.region false [⟨some 16, .mov (.t 5), none⟩,
   ⟨some 17, .mov (.t 1), none⟩,
   ⟨some 18, .bin .gtr false (.t 16) (.t 17), none⟩]) (.cond (.t 18) (.region false [⟨some 19, .mov (.t 1), none⟩,
   ⟨some 5, .mov (.t 19), none⟩]) .skip)) (.seq (.region true [⟨some 20, .fa 0 (.t 2), none⟩,
   ⟨some 21, .load none (.t 20), none⟩,
   ⟨some 22, .fa 1 (.t 2), none⟩,
   ⟨some 23, .load none (.t 22), none⟩,
   ⟨some 24, .mov (.t 1), none⟩,
   ⟨some 25, .mov (.t 5), none⟩,
   ⟨some 26, .bin .sub false (.t 24) (.t 25), none⟩,
   ⟨some 27, .call F.surdref01_Shl [.t 23, .t 26], none⟩,
   ⟨some 28, .fa 2 (.t 2), none⟩,
   ⟨some 29, .load none (.t 28), none⟩,
   ⟨some 30, .mov (.t 5), none⟩,
   ⟨some 31, .call F.surdref01_Shr [.t 29, .t 30], none⟩,
   ⟨some 32, .build [.bool false, .slice none 0 0, .slice none 0 0] [(0, (1, .t 21)), (1, (1, .t 27)), (2, (1, .t 31))], none⟩,
   ⟨none, .store 3 (.t 4) (.t 32), none⟩]) .ret))) .skip)) (.seq (.region false [⟨some 33, .fa 1 (.t 2), none⟩,
   ⟨some 34, .load none (.t 33), none⟩,
   ⟨some 35, .call F.surdref01_Num_Tail [.t 34], none⟩,
   ⟨some 6, .mov (.t 35), none⟩]) (.seq (.seq (.region false [⟨some 36, .mov (.t 6), none⟩,
   ⟨some 37, .mov (.t 1), none⟩,
   ⟨some 38, .un .neg (.t 37), none⟩,
   ⟨some 39, .bin .gtr false (.t 36) (.t 38), none⟩]) (.cond (.t 39) (.region false [⟨some 40, .mov (.t 1), none⟩,
   ⟨some 41, .un .neg (.t 40), none⟩,
   ⟨some 6, .mov (.t 41), none⟩]) .skip)) (.seq (.region true [⟨some 42, .fa 0 (.t 2), none⟩,
   ⟨some 43, .load none (.t 42), none⟩,
   ⟨some 44, .fa 1 (.t 2), none⟩,
   ⟨some 45, .load none (.t 44), none⟩,
   ⟨some 46, .mov (.t 6), none⟩,
   ⟨some 47, .call F.surdref01_Shr [.t 45, .t 46], none⟩,
   ⟨some 48, .fa 2 (.t 2), none⟩,
   ⟨some 49, .load none (.t 48), none⟩,
   ⟨some 50, .mov (.t 1), none⟩,
   ⟨some 51, .un .neg (.t 50), none⟩,
   ⟨some 52, .mov (.t 6), none⟩,
   ⟨some 53, .bin .sub false (.t 51) (.t 52), none⟩,
   ⟨some 54, .call F.surdref01_Shl [.t 49, .t 53], none⟩,
   ⟨some 55, .build [.bool false, .slice none 0 0, .slice none 0 0] [(0, (1, .t 43)), (1, (1, .t 47)), (2, (1, .t 54))], none⟩,
   ⟨none, .store 3 (.t 4) (.t 55), none⟩]) .ret)))))
def R.surdref07_Scale : List VRes := [.cell 4 (some 3)]
theorem K.surdref07_Scale : resCode Tryd.prog Tryd.f13.ntmps (Tryd.f13.body.getD .skip) = C.surdref07_Scale := by kernel_rfl
theorem Q.surdref07_Scale : resResults Tryd.prog Tryd.f13.results.toList = some R.surdref07_Scale := by kernel_rfl
theorem E.surdref07_Scale : Tryd.prog.funcs[F.surdref07_Scale]? = some Tryd.f13 := Tryd.func13
theorem B.surdref07_Scale : Tryd.f13.body = some (Tryd.f13.body.getD .skip) := by kernel_rfl
theorem N.surdref07_Scale : Tryd.f13.ntmps = 56 := Tryd.ntmps13

def C.rounded_Sqrt : VC :=
  .seq (.region false [⟨some 3, .box (.t 0), none⟩,
   ⟨some 6, .alloc [.bool false, .slice none 0 0, .int .i64 0], none⟩,
   ⟨some 7, .mov (.c (iv 0)), none⟩]) (.seq (.region false [⟨some 20, .load (some 3) (.t 3), none⟩,
   ⟨some 21, .call F.rounded_read [.t 20], none⟩,
   ⟨some 19, .mov (.t 21), none⟩,
   ⟨some 22, .ext (.t 19) 0, none⟩,
   ⟨some 23, .ext (.t 19) 1, none⟩,
   ⟨some 8, .alloc [.bool false, .slice none 0 0, .int .i64 0], none⟩,
   ⟨none, .store 3 (.t 8) (.t 22), none⟩,
   ⟨some 9, .mov (.t 23), none⟩]) (.seq (.seq (.region false [⟨some 24, .mov (.t 9), none⟩,
   ⟨some 25, .bin .neq false (.t 24) (.c (iv 0)), none⟩]) (.cond (.t 25) (.seq (.region false [⟨some 26, .build [.bool false, .slice none 0 0, .int .i64 0] [], none⟩,
   ⟨some 27, .mov (.t 9), none⟩,
   ⟨none, .store 3 (.t 6) (.t 26), none⟩,
   ⟨some 7, .mov (.t 27), none⟩]) .ret) .skip)) (.seq (.seq (.region false [⟨some 28, .mov (.t 1), none⟩,
   ⟨some 29, .mov (.t 2), none⟩,
   ⟨some 30, .call F.rounded_asked [.t 28, .t 29], none⟩,
   ⟨some 10, .mov (.t 30), none⟩]) (.seq (.region false [⟨some 31, .mov (.t 10), none⟩,
   ⟨some 32, .bin .neq false (.t 31) (.c (iv 0)), none⟩]) (.cond (.t 32) (.seq (.region false [⟨some 33, .build [.bool false, .slice none 0 0, .int .i64 0] [], none⟩,
   ⟨some 34, .mov (.t 10), none⟩,
   ⟨none, .store 3 (.t 6) (.t 33), none⟩,
   ⟨some 7, .mov (.t 34), none⟩]) .ret) .skip))) (.seq (.seq (.region false [⟨some 35, .fa 1 (.t 8), none⟩,
   ⟨some 36, .load none (.t 35), none⟩,
   ⟨some 37, .len (.t 36), none⟩,
   ⟨some 38, .bin .eql false (.t 37) (.c (iv 0)), none⟩]) (.cond (.t 38) (.seq (.region false [⟨some 39, .build [.bool false, .slice none 0 0, .int .i64 0] [], none⟩,
   ⟨none, .store 3 (.t 6) (.t 39), none⟩,
   ⟨some 7, .mov (.c (iv 0)), none⟩]) .ret) .skip)) (.seq (.seq (.region false [⟨some 40, .fa 0 (.t 8), none⟩,
   ⟨some 41, .load none (.t 40), none⟩]) (.cond (.t 41) (.seq (.region false [⟨some 42, .build [.bool false, .slice none 0 0, .int .i64 0] [], none⟩,
   ⟨none, .store 3 (.t 6) (.t 42), none⟩,
   ⟨some 7, .mov (.c (iv 91)), none⟩]) .ret) .skip)) (.seq (.region false [⟨some 43, .fa 2 (.t 8), none⟩,
   ⟨some 44, .load none (.t 43), none⟩,
   ⟨some 45, .mov (.t 1), none⟩,
   ⟨some 46, .bin .mul false (.c (iv 2)) (.t 45), none⟩,
   ⟨some 47, .bin .sub false (.t 44) (.t 46), none⟩,
   ⟨some 11, .mov (.t 47), none⟩]) (.seq (.seq (.region false [⟨some 48, .fa 1 (.t 8), none⟩,
   ⟨some 49, .load none (.t 48), none⟩,
   ⟨some 50, .call F.nat_Length [.t 49], none⟩,
   ⟨some 51, .mov (.t 11), none⟩,
   ⟨some 52, .bin .add false (.t 50) (.t 51), none⟩,
   ⟨some 53, .bin .gtr false (.t 52) (.c (iv 134217730)), none⟩]) (.cond (.t 53) (.seq (.region false [⟨some 54, .build [.bool false, .slice none 0 0, .int .i64 0] [], none⟩,
   ⟨none, .store 3 (.t 6) (.t 54), none⟩,
   ⟨some 7, .mov (.c (iv 3)), none⟩]) .ret) .skip)) (.seq (.seq (.region false [⟨some 55, .fa 1 (.t 8), none⟩,
   ⟨some 56, .load none (.t 55), none⟩,
   ⟨some 57, .call F.nat_Length [.t 56], none⟩,
   ⟨some 58, .mov (.t 11), none⟩,
   ⟨some 59, .bin .add false (.t 57) (.t 58), none⟩,
   ⟨some 60, .bin .lss false (.t 59) (.c (iv (-4))), none⟩]) (.cond (.t 60) (.seq (.region false [⟨some 61, .mov (.t 1), none⟩,
   ⟨some 62, .mov (.t 2), none⟩,
   ⟨some 63, .call F.rounded_finish [.c (bv false), .c nil1, .c (iv 1), .t 61, .t 62], none⟩,
   ⟨some 64, .ext (.t 63) 0, none⟩,
   ⟨some 65, .ext (.t 63) 1, none⟩,
   ⟨none, .store 3 (.t 6) (.t 64), none⟩,
   ⟨some 7, .mov (.t 65), none⟩]) .ret) .skip)) (.seq (.region false [⟨some 66, .mov (.t 11), none⟩,
   ⟨some 67, .bin .add false (.t 66) (.c (iv 2)), none⟩,
   ⟨some 11, .mov (.t 67), none⟩]) (.seq (.region false [⟨some 12, .mov (.c (bv false)), none⟩]) (.seq (.region false [⟨some 68, .fa 1 (.t 8), none⟩,
   ⟨some 69, .load none (.t 68), none⟩,
   ⟨some 13, .mov (.t 69), none⟩]) (.seq (.seq (.region false [⟨some 70, .mov (.t 11), none⟩,
   ⟨some 71, .bin .geq false (.t 70) (.c (iv 0)), none⟩]) (.cond (.t 71) (.region false [⟨some 72, .mov (.t 13), none⟩,
   ⟨some 73, .mov (.t 11), none⟩,
   ⟨some 74, .call F.rounded_left [.t 72, .t 73], none⟩,
   ⟨some 13, .mov (.t 74), none⟩]) (.seq (.region false [⟨some 75, .mov (.t 13), none⟩,
   ⟨some 76, .call F.nat_Tail [.t 75], none⟩,
   ⟨some 77, .mov (.t 11), none⟩,
   ⟨some 78, .un .neg (.t 77), none⟩,
   ⟨some 79, .bin .lss false (.t 76) (.t 78), none⟩,
   ⟨some 12, .mov (.t 79), none⟩]) (.region false [⟨some 80, .mov (.t 13), none⟩,
   ⟨some 81, .mov (.t 11), none⟩,
   ⟨some 82, .un .neg (.t 81), none⟩,
   ⟨some 83, .call F.rounded_right [.t 80, .t 82], none⟩,
   ⟨some 13, .mov (.t 83), none⟩])))) (.seq (.region false [⟨some 85, .mov (.t 13), none⟩,
   ⟨some 86, .call F.roots_Sqrt [.t 85], none⟩,
   ⟨some 84, .mov (.t 86), none⟩,
   ⟨some 87, .ext (.t 84) 0, none⟩,
   ⟨some 88, .ext (.t 84) 1, none⟩,
   ⟨some 89, .ext (.t 84) 2, none⟩,
   ⟨some 14, .mov (.t 87), none⟩,
   ⟨some 15, .mov (.t 88), none⟩,
   ⟨some 9, .mov (.t 89), none⟩]) (.seq (.seq (.region false [⟨some 90, .mov (.t 9), none⟩,
   ⟨some 91, .bin .neq false (.t 90) (.c (iv 0)), none⟩]) (.cond (.t 91) (.seq (.region false [⟨some 92, .build [.bool false, .slice none 0 0, .int .i64 0] [], none⟩,
   ⟨some 93, .mov (.t 9), none⟩,
   ⟨none, .store 3 (.t 6) (.t 92), none⟩,
   ⟨some 7, .mov (.t 93), none⟩]) .ret) .skip)) (.seq (.region false [⟨some 94, .mov (.t 14), none⟩,
   ⟨some 95, .call F.rounded_right [.t 94, .c (iv 1)], none⟩,
   ⟨some 16, .mov (.t 95), none⟩]) (.seq (.region false [⟨some 96, .mov (.t 12), none⟩,
   ⟨some 97, .mov (.t 96), none⟩,
   ⟨some 98, .mov (.t 15), some (97, false)⟩,
   ⟨some 99, .len (.t 98), some (97, false)⟩,
   ⟨some 100, .bin .gtr false (.t 99) (.c (iv 0)), some (97, false)⟩,
   ⟨some 101, .pick (.t 97) (.c (bv true)) (.t 100), none⟩,
   ⟨some 17, .mov (.t 101), none⟩]) (.seq (.region false [⟨some 18, .mov (.c (iv 0)), none⟩]) (.seq (.block 0 (.seq (.region false [⟨some 103, .mov (.t 14), none⟩,
   ⟨some 104, .call F.nat_Bit [.t 103, .c (iv 0)], none⟩,
   ⟨some 105, .bin .eql false (.t 104) (.c (iv 1)), none⟩,
   ⟨some 106, .mov (.t 105), none⟩,
   ⟨some 107, .mov (.t 17), some (106, true)⟩,
   ⟨some 108, .pick (.t 106) (.t 107) (.c (bv false)), none⟩,
   ⟨some 102, .mov (.t 108), none⟩]) (.cond (.t 102) (.region false [⟨some 18, .mov (.c (iv 3)), none⟩]) (.seq (.region false [⟨some 110, .mov (.t 14), none⟩,
   ⟨some 111, .call F.nat_Bit [.t 110, .c (iv 0)], none⟩,
   ⟨some 112, .bin .eql false (.t 111) (.c (iv 1)), none⟩,
   ⟨some 109, .mov (.t 112), none⟩]) (.cond (.t 109) (.region false [⟨some 18, .mov (.c (iv 2)), none⟩]) (.seq (.region false [⟨some 114, .mov (.t 17), none⟩,
   ⟨some 113, .mov (.t 114), none⟩]) (.cond (.t 113) (.region false [⟨some 18, .mov (.c (iv 1)), none⟩]) .skip))))))) (.seq (.region false [⟨some 115, .mov (.t 16), none⟩,
   ⟨some 116, .mov (.t 18), none⟩,
   ⟨some 117, .mov (.t 1), none⟩,
   ⟨some 118, .mov (.t 2), none⟩,
   ⟨some 119, .call F.rounded_finish [.c (bv false), .t 115, .t 116, .t 117, .t 118], none⟩,
   ⟨some 120, .ext (.t 119) 0, none⟩,
   ⟨some 121, .ext (.t 119) 1, none⟩,
   ⟨none, .store 3 (.t 6) (.t 120), none⟩,
   ⟨some 7, .mov (.t 121), none⟩]) .ret)))))))))))))))))))
def R.rounded_Sqrt : List VRes := [.cell 6 (some 3), .tmp 7]
theorem K.rounded_Sqrt : resCode Tryd.prog Tryd.f17.ntmps (Tryd.f17.body.getD .skip) = C.rounded_Sqrt := by kernel_rfl
theorem Q.rounded_Sqrt : resResults Tryd.prog Tryd.f17.results.toList = some R.rounded_Sqrt := by kernel_rfl
theorem E.rounded_Sqrt : Tryd.prog.funcs[F.rounded_Sqrt]? = some Tryd.f17 := Tryd.func17
theorem B.rounded_Sqrt : Tryd.f17.body = some (Tryd.f17.body.getD .skip) := by kernel_rfl
theorem N.rounded_Sqrt : Tryd.f17.ntmps = 122 := Tryd.ntmps17

def C.surdref07_Mul : VC :=
  .seq (.region false [⟨some 2, .box (.t 0), none⟩,
   ⟨some 3, .box (.t 1), none⟩,
   ⟨some 4, .alloc [.bool false, .slice none 0 0, .slice none 0 0], none⟩]) (.seq (.region true [⟨some 5, .fa 0 (.t 2), none⟩,
   ⟨some 6, .load none (.t 5), none⟩,
   ⟨some 7, .fa 0 (.t 3), none⟩,
   ⟨some 8, .load none (.t 7), none⟩,
   ⟨some 9, .bin .neq true (.t 6) (.t 8), none⟩,
   ⟨some 10, .fa 1 (.t 2), none⟩,
   ⟨some 11, .load none (.t 10), none⟩,
   ⟨some 12, .fa 1 (.t 3), none⟩,
   ⟨some 13, .load none (.t 12), none⟩,
   ⟨some 14, .call F.surdref01_Mul [.t 11, .t 13], none⟩,
   ⟨some 15, .fa 2 (.t 2), none⟩,
   ⟨some 16, .load none (.t 15), none⟩,
   ⟨some 17, .fa 2 (.t 3), none⟩,
   ⟨some 18, .load none (.t 17), none⟩,
   ⟨some 19, .call F.surdref01_Mul [.t 16, .t 18], none⟩,
   ⟨some 20, .call F.surdref07_Make [.t 9, .t 14, .t 19], none⟩,
   ⟨none, .store 3 (.t 4) (.t 20), none⟩]) .ret)
def R.surdref07_Mul : List VRes := [.cell 4 (some 3)]
theorem K.surdref07_Mul : resCode Tryd.prog Tryd.f18.ntmps (Tryd.f18.body.getD .skip) = C.surdref07_Mul := by kernel_rfl
theorem Q.surdref07_Mul : resResults Tryd.prog Tryd.f18.results.toList = some R.surdref07_Mul := by kernel_rfl
theorem E.surdref07_Mul : Tryd.prog.funcs[F.surdref07_Mul]? = some Tryd.f18 := Tryd.func18
theorem B.surdref07_Mul : Tryd.f18.body = some (Tryd.f18.body.getD .skip) := by kernel_rfl
theorem N.surdref07_Mul : Tryd.f18.ntmps = 21 := Tryd.ntmps18

def C.surdlaw09_same : VC :=
  .seq (.region false [⟨some 4, .box (.t 0), none⟩,
   ⟨some 6, .box (.t 2), none⟩,
   ⟨some 8, .mov (.c (bv false)), none⟩]) (.seq (.seq (.region false [⟨some 9, .mov (.t 3), none⟩,
   ⟨some 10, .bin .neq false (.t 9) (.c (iv 0)), none⟩]) (.cond (.t 10) (.seq (.region false [⟨some 11, .mov (.t 1), none⟩,
   ⟨some 12, .mov (.t 3), none⟩,
   ⟨some 13, .bin .eql false (.t 11) (.t 12), none⟩,
   ⟨some 14, .mov (.t 13), none⟩,
   ⟨some 15, .fa 0 (.t 4), some (14, true)⟩,
   ⟨some 16, .fa 0 (.t 15), some (14, true)⟩,
   ⟨some 17, .load none (.t 16), some (14, true)⟩,
   ⟨some 18, .un .not (.t 17), some (14, true)⟩,
   ⟨some 19, .pick (.t 14) (.t 18) (.c (bv false)), none⟩,
   ⟨some 20, .mov (.t 19), none⟩,
   ⟨some 21, .fa 0 (.t 4), some (20, true)⟩,
   ⟨some 22, .fa 1 (.t 21), some (20, true)⟩,
   ⟨some 23, .load none (.t 22), some (20, true)⟩,
   ⟨some 24, .len (.t 23), some (20, true)⟩,
   ⟨some 25, .bin .eql false (.t 24) (.c (iv 0)), some (20, true)⟩,
   ⟨some 26, .pick (.t 20) (.t 25) (.c (bv false)), none⟩,
   ⟨some 27, .mov (.t 26), none⟩,
   ⟨some 28, .fa 2 (.t 4), some (27, true)⟩,
   ⟨some 29, .load none (.t 28), some (27, true)⟩,
   ⟨some 30, .bin .eql false (.t 29) (.c (iv 0)), some (27, true)⟩,
   ⟨some 31, .pick (.t 27) (.t 30) (.c (bv false)), none⟩,
   ⟨some 8, .mov (.t 31), none⟩]) .ret) .skip)) (.seq (.region false [⟨some 32, .mov (.t 1), none⟩,
   ⟨some 33, .bin .eql false (.t 32) (.c (iv 0)), none⟩,
   ⟨some 34, .mov (.t 33), none⟩,
   ⟨some 35, .fa 0 (.t 4), some (34, true)⟩,
   ⟨some 36, .fa 0 (.t 35), some (34, true)⟩,
   ⟨some 37, .load none (.t 36), some (34, true)⟩,
   ⟨some 38, .fa 0 (.t 6), some (34, true)⟩,
   ⟨some 39, .load none (.t 38), some (34, true)⟩,
   ⟨some 40, .bin .eql true (.t 37) (.t 39), some (34, true)⟩,
   ⟨some 41, .pick (.t 34) (.t 40) (.c (bv false)), none⟩,
   ⟨some 42, .mov (.t 41), none⟩,
   ⟨some 43, .fa 2 (.t 4), some (42, true)⟩,
   ⟨some 44, .load none (.t 43), some (42, true)⟩,
   ⟨some 45, .fa 2 (.t 6), some (42, true)⟩,
   ⟨some 46, .load none (.t 45), some (42, true)⟩,
   ⟨some 47, .bin .eql false (.t 44) (.t 46), some (42, true)⟩,
   ⟨some 48, .pick (.t 42) (.t 47) (.c (bv false)), none⟩,
   ⟨some 49, .mov (.t 48), none⟩,
   ⟨some 50, .fa 1 (.t 6), some (49, true)⟩,
   ⟨some 51, .load none (.t 50), some (49, true)⟩,
   ⟨some 52, .fa 0 (.t 4), some (49, true)⟩,
   ⟨some 53, .fa 1 (.t 52), some (49, true)⟩,
   ⟨some 54, .load none (.t 53), some (49, true)⟩,
   ⟨some 55, .call F.surdref01_Num_Is [.t 51, .t 54], some (49, true)⟩,
   ⟨some 56, .pick (.t 49) (.t 55) (.c (bv false)), none⟩,
   ⟨some 8, .mov (.t 56), none⟩]) .ret))
def R.surdlaw09_same : List VRes := [.tmp 8]
theorem K.surdlaw09_same : resCode Tryd.prog Tryd.f19.ntmps (Tryd.f19.body.getD .skip) = C.surdlaw09_same := by kernel_rfl
theorem Q.surdlaw09_same : resResults Tryd.prog Tryd.f19.results.toList = some R.surdlaw09_same := by kernel_rfl
theorem E.surdlaw09_same : Tryd.prog.funcs[F.surdlaw09_same]? = some Tryd.f19 := Tryd.func19
theorem B.surdlaw09_same : Tryd.f19.body = some (Tryd.f19.body.getD .skip) := by kernel_rfl
theorem N.surdlaw09_same : Tryd.f19.ntmps = 57 := Tryd.ntmps19

def C.surdref01_Int : VC :=
  .seq (.region false [⟨some 2, .mov (.c nil1), none⟩]) (.seq (.region false [⟨some 3, .mov (.t 0), none⟩,
   ⟨some 4, .conv .u64 (.t 3), none⟩,
   ⟨some 5, .bsl true 1 1 [.int .u64 0] [(0, (1, .t 4))], none⟩,
   ⟨some 6, .call F.surdref01_Of [.t 5], none⟩,
   ⟨some 2, .mov (.t 6), none⟩]) .ret)
def R.surdref01_Int : List VRes := [.tmp 2]
theorem K.surdref01_Int : resCode Tryd.prog Tryd.f20.ntmps (Tryd.f20.body.getD .skip) = C.surdref01_Int := by kernel_rfl
theorem Q.surdref01_Int : resResults Tryd.prog Tryd.f20.results.toList = some R.surdref01_Int := by kernel_rfl
theorem E.surdref01_Int : Tryd.prog.funcs[F.surdref01_Int]? = some Tryd.f20 := Tryd.func20
theorem B.surdref01_Int : Tryd.f20.body = some (Tryd.f20.body.getD .skip) := by kernel_rfl
theorem N.surdref01_Int : Tryd.f20.ntmps = 7 := Tryd.ntmps20

def C.surdref01_Of : VC :=
  .seq (.region false [⟨some 2, .mov (.c nil1), none⟩]) (.seq (.region false [⟨some 6, .mov (.t 0), none⟩,
   ⟨some 7, .len (.t 6), none⟩,
   ⟨some 8, .bin .mul false (.c (iv 2)) (.t 7), none⟩,
   ⟨some 9, .mk [.int .u64 0] 8 (.c (iv 0)) (.t 8), none⟩,
   ⟨some 3, .mov (.t 9), none⟩]) (.seq (.seq (.region false [⟨some 10, .mov (.t 0), none⟩,
   ⟨some 11, .len (.t 10), none⟩,
   ⟨some 12, .mov (.c (iv 0)), none⟩]) (.block 0 (.loop (.seq (.region false [⟨some 13, .bin .lss false (.t 12) (.t 11), none⟩]) (.seq (.cond (.t 13) .skip (.exit 0)) (.seq (.block 1 (.seq (.region false [⟨some 14, .ixa 1 (.t 10) (.t 12), none⟩,
   ⟨some 15, .load none (.t 14), none⟩,
   ⟨some 5, .mov (.t 15), none⟩]) (.region false [⟨some 16, .mov (.t 3), none⟩,
   ⟨some 17, .mov (.t 5), none⟩,
   ⟨some 18, .bin .rem false (.t 17) (.c (nv 4294967296)), none⟩,
   ⟨some 19, .mov (.t 5), none⟩,
   ⟨some 20, .bin .quo false (.t 19) (.c (nv 4294967296)), none⟩,
   ⟨some 21, .bsl true 1 2 [.int .u64 0] [(0, (1, .t 18)), (1, (1, .t 20))], none⟩,
   ⟨some 22, .app 1 8 [.int .u64 0] (.t 16) (.t 21), none⟩,
   ⟨some 3, .mov (.t 22), none⟩]))) (.region false [⟨some 23, .bin .add false (.t 12) (.c (iv 1)), none⟩,
   ⟨some 12, .mov (.t 23), none⟩]))))))) (.seq (.region false [⟨some 24, .mov (.t 3), none⟩,
   ⟨some 25, .call F.surdref01_norm [.t 24], none⟩,
   ⟨some 2, .mov (.t 25), none⟩]) .ret)))
def R.surdref01_Of : List VRes := [.tmp 2]
theorem K.surdref01_Of : resCode Tryd.prog Tryd.f21.ntmps (Tryd.f21.body.getD .skip) = C.surdref01_Of := by kernel_rfl
theorem Q.surdref01_Of : resResults Tryd.prog Tryd.f21.results.toList = some R.surdref01_Of := by kernel_rfl
theorem E.surdref01_Of : Tryd.prog.funcs[F.surdref01_Of]? = some Tryd.f21 := Tryd.func21
theorem B.surdref01_Of : Tryd.f21.body = some (Tryd.f21.body.getD .skip) := by kernel_rfl
theorem N.surdref01_Of : Tryd.f21.ntmps = 26 := Tryd.ntmps21

def C.surdref01_Num_Len : VC :=
  .seq (.region false [⟨some 2, .mov (.c (iv 0)), none⟩]) (.seq (.seq (.region false [⟨some 5, .mov (.t 0), none⟩,
   ⟨some 6, .len (.t 5), none⟩,
   ⟨some 7, .bin .eql false (.t 6) (.c (iv 0)), none⟩]) (.cond (.t 7) (.seq (.region false [⟨some 2, .mov (.c (iv 0)), none⟩]) .ret) .skip)) (.seq (.region false [⟨some 8, .mov (.t 0), none⟩,
   ⟨some 9, .len (.t 8), none⟩,
   ⟨some 10, .bin .sub false (.t 9) (.c (iv 1)), none⟩,
   ⟨some 11, .bin .mul false (.c (iv 32)) (.t 10), none⟩,
   ⟨some 3, .mov (.t 11), none⟩]) (.seq (.seq (.region false [⟨some 12, .mov (.t 0), none⟩,
   ⟨some 13, .mov (.t 0), none⟩,
   ⟨some 14, .len (.t 13), none⟩,
   ⟨some 15, .bin .sub false (.t 14) (.c (iv 1)), none⟩,
   ⟨some 16, .ixa 1 (.t 12) (.t 15), none⟩,
   ⟨some 17, .load none (.t 16), none⟩,
   ⟨some 4, .mov (.t 17), none⟩]) (.block 0 (.loop (.seq (.seq (.region false [⟨some 18, .mov (.t 4), none⟩,
   ⟨some 19, .bin .gtr false (.t 18) (.c (nv 0)), none⟩]) (.cond (.t 19) .skip (.exit 0))) (.seq (.block 1 (.region false [⟨some 22, .mov (.t 3), none⟩,
   ⟨some 23, .bin .add false (.t 22) (.c (iv 1)), none⟩,
   ⟨some 3, .mov (.t 23), none⟩])) (.region false [⟨some 20, .mov (.t 4), none⟩,
   ⟨some 21, .bin .quo false (.t 20) (.c (nv 2)), none⟩,
   ⟨some 4, .mov (.t 21), none⟩])))))) (.seq (.region false [⟨some 24, .mov (.t 3), none⟩,
   ⟨some 2, .mov (.t 24), none⟩]) .ret))))
def R.surdref01_Num_Len : List VRes := [.tmp 2]
theorem K.surdref01_Num_Len : resCode Tryd.prog Tryd.f22.ntmps (Tryd.f22.body.getD .skip) = C.surdref01_Num_Len := by kernel_rfl
theorem Q.surdref01_Num_Len : resResults Tryd.prog Tryd.f22.results.toList = some R.surdref01_Num_Len := by kernel_rfl
theorem E.surdref01_Num_Len : Tryd.prog.funcs[F.surdref01_Num_Len]? = some Tryd.f22 := Tryd.func22
theorem B.surdref01_Num_Len : Tryd.f22.body = some (Tryd.f22.body.getD .skip) := by kernel_rfl
theorem N.surdref01_Num_Len : Tryd.f22.ntmps = 25 := Tryd.ntmps22

def C.surdref07_Make : VC :=
  .seq (.region false [⟨some 6, .alloc [.bool false, .slice none 0 0, .slice none 0 0], none⟩]) (.seq (.seq (.region false [⟨some 8, .mov (.t 1), none⟩,
   ⟨some 9, .call F.surdref01_Num_Zero [.t 8], none⟩]) (.cond (.t 9) (.seq (.region false [⟨some 10, .call F.surdref01_Int [.c (iv 1)], none⟩,
   ⟨some 11, .build [.bool false, .slice none 0 0, .slice none 0 0] [(2, (1, .t 10))], none⟩,
   ⟨none, .store 3 (.t 6) (.t 11), none⟩]) .ret) .skip)) (.seq (.region false [⟨some 12, .mov (.t 1), none⟩,
   ⟨some 13, .mov (.t 2), none⟩,
   ⟨some 14, .call F.surdref01_Gcd [.t 12, .t 13], none⟩,
   ⟨some 7, .mov (.t 14), none⟩]) (.seq (.region false [⟨some 16, .mov (.t 1), none⟩,
   ⟨some 17, .mov (.t 7), none⟩,
   ⟨some 18, .call F.surdref01_Div [.t 16, .t 17], none⟩,
   ⟨some 15, .mov (.t 18), none⟩,
   ⟨some 19, .ext (.t 15) 0, none⟩,
   ⟨some 20, .ext (.t 15) 1, none⟩,
   ⟨some 1, .mov (.t 19), none⟩]) (.seq (.region false [⟨some 22, .mov (.t 2), none⟩,
   ⟨some 23, .mov (.t 7), none⟩,
   ⟨some 24, .call F.surdref01_Div [.t 22, .t 23], none⟩,
   ⟨some 21, .mov (.t 24), none⟩,
   ⟨some 25, .ext (.t 21) 0, none⟩,
   ⟨some 26, .ext (.t 21) 1, none⟩,
   ⟨some 2, .mov (.t 25), none⟩]) (.seq (.region false [⟨some 27, .mov (.t 0), none⟩,
   ⟨some 28, .mov (.t 1), none⟩,
   ⟨some 29, .mov (.t 2), none⟩,
   ⟨some 30, .build [.bool false, .slice none 0 0, .slice none 0 0] [(0, (1, .t 27)), (1, (1, .t 28)), (2, (1, .t 29))], none⟩,
   ⟨none, .store 3 (.t 6) (.t 30), none⟩]) .ret)))))
def R.surdref07_Make : List VRes := [.cell 6 (some 3)]
theorem K.surdref07_Make : resCode Tryd.prog Tryd.f23.ntmps (Tryd.f23.body.getD .skip) = C.surdref07_Make := by kernel_rfl
theorem Q.surdref07_Make : resResults Tryd.prog Tryd.f23.results.toList = some R.surdref07_Make := by kernel_rfl
theorem E.surdref07_Make : Tryd.prog.funcs[F.surdref07_Make]? = some Tryd.f23 := Tryd.func23
theorem B.surdref07_Make : Tryd.f23.body = some (Tryd.f23.body.getD .skip) := by kernel_rfl
theorem N.surdref07_Make : Tryd.f23.ntmps = 31 := Tryd.ntmps23

def C.surdref01_Num_Zero : VC :=
  .seq (.region false [⟨some 2, .mov (.c (bv false)), none⟩]) (.seq (.region false [⟨some 3, .mov (.t 0), none⟩,
   ⟨some 4, .len (.t 3), none⟩,
   ⟨some 5, .bin .eql false (.t 4) (.c (iv 0)), none⟩,
   ⟨some 2, .mov (.t 5), none⟩]) .ret)
def R.surdref01_Num_Zero : List VRes := [.tmp 2]
theorem K.surdref01_Num_Zero : resCode Tryd.prog Tryd.f24.ntmps (Tryd.f24.body.getD .skip) = C.surdref01_Num_Zero := by kernel_rfl
theorem Q.surdref01_Num_Zero : resResults Tryd.prog Tryd.f24.results.toList = some R.surdref01_Num_Zero := by kernel_rfl
theorem E.surdref01_Num_Zero : Tryd.prog.funcs[F.surdref01_Num_Zero]? = some Tryd.f24 := Tryd.func24
theorem B.surdref01_Num_Zero : Tryd.f24.body = some (Tryd.f24.body.getD .skip) := by kernel_rfl
theorem N.surdref01_Num_Zero : Tryd.f24.ntmps = 6 := Tryd.ntmps24

def C.rounded_read : VC :=
  .seq (.region false [⟨some 1, .box (.t 0), none⟩,
   ⟨some 2, .alloc [.bool false, .slice none 0 0, .int .i64 0], none⟩,
   ⟨some 3, .mov (.c (iv 0)), none⟩]) (.seq (.seq (.region false [⟨some 6, .fa 2 (.t 1), none⟩,
   ⟨some 7, .load none (.t 6), none⟩,
   ⟨some 8, .bin .lss false (.t 7) (.c (iv (-1099511627776))), none⟩,
   ⟨some 9, .mov (.t 8), none⟩,
   ⟨some 10, .fa 2 (.t 1), some (9, false)⟩,
   ⟨some 11, .load none (.t 10), some (9, false)⟩,
   ⟨some 12, .bin .gtr false (.t 11) (.c (iv 1099511627776)), some (9, false)⟩,
   ⟨some 13, .pick (.t 9) (.c (bv true)) (.t 12), none⟩]) (.cond (.t 13) (.seq (.region false [⟨some 14, .build [.bool false, .slice none 0 0, .int .i64 0] [], none⟩,
   ⟨none, .store 3 (.t 2) (.t 14), none⟩,
   ⟨some 3, .mov (.c (iv 80)), none⟩]) .ret) .skip)) (.seq (.region false [⟨some 15, .fa 0 (.t 1), none⟩,
   ⟨some 16, .fa 1 (.t 15), none⟩,
   ⟨some 17, .load none (.t 16), none⟩,
   ⟨some 18, .call F.nat_Norm [.t 17], none⟩,
   ⟨some 4, .mov (.t 18), none⟩]) (.seq (.seq (.region false [⟨some 19, .mov (.t 4), none⟩,
   ⟨some 20, .len (.t 19), none⟩,
   ⟨some 21, .bin .eql false (.t 20) (.c (iv 0)), none⟩]) (.cond (.t 21) (.seq (.region false [⟨some 22, .build [.bool false, .slice none 0 0, .int .i64 0] [], none⟩,
   ⟨none, .store 3 (.t 2) (.t 22), none⟩,
   ⟨some 3, .mov (.c (iv 0)), none⟩]) .ret) .skip)) (.seq (.region false [⟨some 23, .mov (.t 4), none⟩,
   ⟨some 24, .call F.nat_Tail [.t 23], none⟩,
   ⟨some 5, .mov (.t 24), none⟩]) (.seq (.region true [⟨some 25, .fa 0 (.t 1), none⟩,
   ⟨some 26, .fa 0 (.t 25), none⟩,
   ⟨some 27, .load none (.t 26), none⟩,
   ⟨some 28, .mov (.t 4), none⟩,
   ⟨some 29, .mov (.t 5), none⟩,
   ⟨some 30, .call F.rounded_right [.t 28, .t 29], none⟩,
   ⟨some 31, .fa 2 (.t 1), none⟩,
   ⟨some 32, .load none (.t 31), none⟩,
   ⟨some 33, .mov (.t 5), none⟩,
   ⟨some 34, .bin .add false (.t 32) (.t 33), none⟩,
   ⟨some 35, .build [.bool false, .slice none 0 0, .int .i64 0] [(0, (1, .t 27)), (1, (1, .t 30)), (2, (1, .t 34))], none⟩,
   ⟨none, .store 3 (.t 2) (.t 35), none⟩,
   ⟨some 3, .mov (.c (iv 0)), none⟩]) .ret)))))
def R.rounded_read : List VRes := [.cell 2 (some 3), .tmp 3]
theorem K.rounded_read : resCode Tryd.prog Tryd.f25.ntmps (Tryd.f25.body.getD .skip) = C.rounded_read := by kernel_rfl
theorem Q.rounded_read : resResults Tryd.prog Tryd.f25.results.toList = some R.rounded_read := by kernel_rfl
theorem E.rounded_read : Tryd.prog.funcs[F.rounded_read]? = some Tryd.f25 := Tryd.func25
theorem B.rounded_read : Tryd.f25.body = some (Tryd.f25.body.getD .skip) := by kernel_rfl
theorem N.rounded_read : Tryd.f25.ntmps = 36 := Tryd.ntmps25

def C.rounded_asked : VC :=
  .seq (.region false [⟨some 4, .mov (.c (iv 0)), none⟩]) (.seq (.block 0 (.seq (.region false [⟨some 6, .mov (.t 0), none⟩,
   ⟨some 7, .bin .lss false (.t 6) (.c (iv (-1099511627776))), none⟩,
   ⟨some 8, .mov (.t 7), none⟩,
   ⟨some 9, .mov (.t 0), some (8, false)⟩,
   ⟨some 10, .bin .gtr false (.t 9) (.c (iv 1099511627776)), some (8, false)⟩,
   ⟨some 11, .pick (.t 8) (.c (bv true)) (.t 10), none⟩,
   ⟨some 5, .mov (.t 11), none⟩]) (.cond (.t 5) (.seq (.region false [⟨some 4, .mov (.c (iv 1)), none⟩]) .ret) (.seq (.region false [⟨some 13, .mov (.t 1), none⟩,
   ⟨some 14, .bin .lss false (.t 13) (.c (iv 0)), none⟩,
   ⟨some 15, .mov (.t 14), none⟩,
   ⟨some 16, .mov (.t 1), some (15, false)⟩,
   ⟨some 17, .bin .gtr false (.t 16) (.c (iv 2)), some (15, false)⟩,
   ⟨some 18, .pick (.t 15) (.c (bv true)) (.t 17), none⟩,
   ⟨some 12, .mov (.t 18), none⟩]) (.cond (.t 12) (.seq (.region false [⟨some 4, .mov (.c (iv 81)), none⟩]) .ret) .skip))))) (.seq (.region false [⟨some 4, .mov (.c (iv 0)), none⟩]) .ret))
def R.rounded_asked : List VRes := [.tmp 4]
theorem K.rounded_asked : resCode Tryd.prog Tryd.f26.ntmps (Tryd.f26.body.getD .skip) = C.rounded_asked := by kernel_rfl
theorem Q.rounded_asked : resResults Tryd.prog Tryd.f26.results.toList = some R.rounded_asked := by kernel_rfl
theorem E.rounded_asked : Tryd.prog.funcs[F.rounded_asked]? = some Tryd.f26 := Tryd.func26
theorem B.rounded_asked : Tryd.f26.body = some (Tryd.f26.body.getD .skip) := by kernel_rfl
theorem N.rounded_asked : Tryd.f26.ntmps = 19 := Tryd.ntmps26

def C.rounded_quotient : VC :=
  .seq (.region false [⟨some 12, .alloc [.bool false, .slice none 0 0, .int .i64 0], none⟩,
   ⟨some 13, .mov (.c (iv 0)), none⟩]) (.seq (.seq (.region false [⟨some 22, .mov (.t 1), none⟩,
   ⟨some 23, .len (.t 22), none⟩,
   ⟨some 24, .bin .eql false (.t 23) (.c (iv 0)), none⟩]) (.cond (.t 24) (.seq (.region false [⟨some 25, .build [.bool false, .slice none 0 0, .int .i64 0] [], none⟩,
   ⟨none, .store 3 (.t 12) (.t 25), none⟩,
   ⟨some 13, .mov (.c (iv 0)), none⟩]) .ret) .skip)) (.seq (.region false [⟨some 26, .mov (.t 3), none⟩,
   ⟨some 27, .mov (.t 4), none⟩,
   ⟨some 28, .bin .sub false (.t 26) (.t 27), none⟩,
   ⟨some 14, .mov (.t 28), none⟩]) (.seq (.region false [⟨some 29, .mov (.t 1), none⟩,
   ⟨some 30, .call F.nat_Length [.t 29], none⟩,
   ⟨some 31, .mov (.t 2), none⟩,
   ⟨some 32, .call F.nat_Length [.t 31], none⟩,
   ⟨some 33, .bin .sub false (.t 30) (.t 32), none⟩,
   ⟨some 34, .mov (.t 14), none⟩,
   ⟨some 35, .bin .add false (.t 33) (.t 34), none⟩,
   ⟨some 15, .mov (.t 35), none⟩]) (.seq (.seq (.region false [⟨some 36, .mov (.t 15), none⟩,
   ⟨some 37, .bin .gtr false (.t 36) (.c (iv 67108865)), none⟩]) (.cond (.t 37) (.seq (.region false [⟨some 38, .build [.bool false, .slice none 0 0, .int .i64 0] [], none⟩,
   ⟨none, .store 3 (.t 12) (.t 38), none⟩,
   ⟨some 13, .mov (.c (iv 3)), none⟩]) .ret) .skip)) (.seq (.seq (.region false [⟨some 39, .mov (.t 15), none⟩,
   ⟨some 40, .bin .lss false (.t 39) (.c (iv (-2))), none⟩]) (.cond (.t 40) (.seq (.region false [⟨some 41, .mov (.t 0), none⟩,
   ⟨some 42, .mov (.t 4), none⟩,
   ⟨some 43, .mov (.t 5), none⟩,
   ⟨some 44, .call F.rounded_finish [.t 41, .c nil1, .c (iv 1), .t 42, .t 43], none⟩,
   ⟨some 45, .ext (.t 44) 0, none⟩,
   ⟨some 46, .ext (.t 44) 1, none⟩,
   ⟨none, .store 3 (.t 12) (.t 45), none⟩,
   ⟨some 13, .mov (.t 46), none⟩]) .ret) .skip)) (.seq (.seq (.region false [⟨some 47, .mov (.t 14), none⟩,
   ⟨some 48, .bin .geq false (.t 47) (.c (iv 0)), none⟩]) (.cond (.t 48) (.seq (.region false [⟨some 49, .mov (.t 14), none⟩,
   ⟨some 50, .mov (.t 2), none⟩,
   ⟨some 51, .call F.nat_Tail [.t 50], none⟩,
   ⟨some 52, .mm false (.t 49) (.t 51), none⟩,
   ⟨some 16, .mov (.t 52), none⟩]) (.region false [⟨some 53, .mov (.t 1), none⟩,
   ⟨some 54, .mov (.t 14), none⟩,
   ⟨some 55, .mov (.t 16), none⟩,
   ⟨some 56, .bin .sub false (.t 54) (.t 55), none⟩,
   ⟨some 57, .call F.rounded_left [.t 53, .t 56], none⟩,
   ⟨some 58, .mov (.t 2), none⟩,
   ⟨some 59, .mov (.t 16), none⟩,
   ⟨some 60, .call F.rounded_right [.t 58, .t 59], none⟩,
   ⟨some 1, .mov (.t 57), none⟩,
   ⟨some 2, .mov (.t 60), none⟩])) (.seq (.region false [⟨some 61, .mov (.t 14), none⟩,
   ⟨some 62, .un .neg (.t 61), none⟩,
   ⟨some 63, .mov (.t 1), none⟩,
   ⟨some 64, .call F.nat_Tail [.t 63], none⟩,
   ⟨some 65, .mm false (.t 62) (.t 64), none⟩,
   ⟨some 17, .mov (.t 65), none⟩]) (.region false [⟨some 66, .mov (.t 1), none⟩,
   ⟨some 67, .mov (.t 17), none⟩,
   ⟨some 68, .call F.rounded_right [.t 66, .t 67], none⟩,
   ⟨some 69, .mov (.t 2), none⟩,
   ⟨some 70, .mov (.t 14), none⟩,
   ⟨some 71, .un .neg (.t 70), none⟩,
   ⟨some 72, .mov (.t 17), none⟩,
   ⟨some 73, .bin .sub false (.t 71) (.t 72), none⟩,
   ⟨some 74, .call F.rounded_left [.t 69, .t 73], none⟩,
   ⟨some 1, .mov (.t 68), none⟩,
   ⟨some 2, .mov (.t 74), none⟩])))) (.seq (.region false [⟨some 76, .mov (.t 1), none⟩,
   ⟨some 77, .mov (.t 2), none⟩,
   ⟨some 78, .call F.div_Quo [.t 76, .t 77], none⟩,
   ⟨some 75, .mov (.t 78), none⟩,
   ⟨some 79, .ext (.t 75) 0, none⟩,
   ⟨some 80, .ext (.t 75) 1, none⟩,
   ⟨some 18, .mov (.t 79), none⟩,
   ⟨some 19, .mov (.t 80), none⟩]) (.seq (.seq (.region false [⟨some 81, .mov (.t 19), none⟩,
   ⟨some 82, .bin .neq false (.t 81) (.c (iv 0)), none⟩]) (.cond (.t 82) (.seq (.region false [⟨some 83, .build [.bool false, .slice none 0 0, .int .i64 0] [], none⟩,
   ⟨some 84, .mov (.t 19), none⟩,
   ⟨none, .store 3 (.t 12) (.t 83), none⟩,
   ⟨some 13, .mov (.t 84), none⟩]) .ret) .skip)) (.seq (.region false [⟨some 85, .mov (.t 1), none⟩,
   ⟨some 86, .mov (.t 18), none⟩,
   ⟨some 87, .mov (.t 2), none⟩,
   ⟨some 88, .call F.rounded_times [.t 86, .t 87], none⟩,
   ⟨some 89, .call F.rounded_minus [.t 85, .t 88], none⟩,
   ⟨some 20, .mov (.t 89), none⟩]) (.seq (.region false [⟨some 21, .mov (.c (iv 0)), none⟩]) (.seq (.seq (.region false [⟨some 90, .mov (.t 20), none⟩,
   ⟨some 91, .len (.t 90), none⟩,
   ⟨some 92, .bin .gtr false (.t 91) (.c (iv 0)), none⟩]) (.cond (.t 92) (.region false [⟨some 93, .mov (.t 20), none⟩,
   ⟨some 94, .call F.rounded_left [.t 93, .c (iv 1)], none⟩,
   ⟨some 95, .mov (.t 2), none⟩,
   ⟨some 96, .call F.nat_Compare [.t 94, .t 95], none⟩,
   ⟨some 97, .bin .add false (.c (iv 2)) (.t 96), none⟩,
   ⟨some 21, .mov (.t 97), none⟩]) .skip)) (.seq (.region false [⟨some 98, .mov (.t 0), none⟩,
   ⟨some 99, .mov (.t 18), none⟩,
   ⟨some 100, .mov (.t 21), none⟩,
   ⟨some 101, .mov (.t 4), none⟩,
   ⟨some 102, .mov (.t 5), none⟩,
   ⟨some 103, .call F.rounded_finish [.t 98, .t 99, .t 100, .t 101, .t 102], none⟩,
   ⟨some 104, .ext (.t 103) 0, none⟩,
   ⟨some 105, .ext (.t 103) 1, none⟩,
   ⟨none, .store 3 (.t 12) (.t 104), none⟩,
   ⟨some 13, .mov (.t 105), none⟩]) .ret))))))))))))
def R.rounded_quotient : List VRes := [.cell 12 (some 3), .tmp 13]
theorem K.rounded_quotient : resCode Tryd.prog Tryd.f27.ntmps (Tryd.f27.body.getD .skip) = C.rounded_quotient := by kernel_rfl
theorem Q.rounded_quotient : resResults Tryd.prog Tryd.f27.results.toList = some R.rounded_quotient := by kernel_rfl
theorem E.rounded_quotient : Tryd.prog.funcs[F.rounded_quotient]? = some Tryd.f27 := Tryd.func27
theorem B.rounded_quotient : Tryd.f27.body = some (Tryd.f27.body.getD .skip) := by kernel_rfl
theorem N.rounded_quotient : Tryd.f27.ntmps = 106 := Tryd.ntmps27

def C.surdref01_Mul : VC :=
  .seq (.region false [⟨some 4, .mov (.c nil1), none⟩]) (.seq (.region false [⟨some 12, .mov (.t 0), none⟩,
   ⟨some 13, .len (.t 12), none⟩,
   ⟨some 14, .mov (.t 1), none⟩,
   ⟨some 15, .len (.t 14), none⟩,
   ⟨some 16, .bin .add false (.t 13) (.t 15), none⟩,
   ⟨some 17, .bin .add false (.t 16) (.c (iv 1)), none⟩,
   ⟨some 18, .mk [.int .u64 0] 8 (.t 17) (.t 17), none⟩,
   ⟨some 5, .mov (.t 18), none⟩]) (.seq (.seq (.region false [⟨some 19, .mov (.t 0), none⟩,
   ⟨some 20, .len (.t 19), none⟩,
   ⟨some 21, .mov (.c (iv 0)), none⟩]) (.block 0 (.loop (.seq (.region false [⟨some 22, .bin .lss false (.t 21) (.t 20), none⟩]) (.seq (.cond (.t 22) .skip (.exit 0)) (.seq (.block 1 (.seq (.region false [⟨some 23, .mov (.t 21), none⟩,
   ⟨some 24, .ixa 1 (.t 19) (.t 21), none⟩,
   ⟨some 25, .load none (.t 24), none⟩,
   ⟨some 6, .mov (.t 23), none⟩,
   ⟨some 7, .mov (.t 25), none⟩]) (.seq (.region false [⟨some 8, .mov (.c (nv 0)), none⟩]) (.seq (.seq (.region false [⟨some 26, .mov (.t 1), none⟩,
   ⟨some 27, .len (.t 26), none⟩,
   ⟨some 28, .mov (.c (iv 0)), none⟩]) (.block 2 (.loop (.seq (.region false [⟨some 29, .bin .lss false (.t 28) (.t 27), none⟩]) (.seq (.cond (.t 29) .skip (.exit 2)) (.seq (.block 3 (.seq (.region false [⟨some 30, .mov (.t 28), none⟩,
   ⟨some 31, .ixa 1 (.t 26) (.t 28), none⟩,
   ⟨some 32, .load none (.t 31), none⟩,
   ⟨some 9, .mov (.t 30), none⟩,
   ⟨some 10, .mov (.t 32), none⟩]) (.seq (.region false [⟨some 33, .mov (.t 7), none⟩,
   ⟨some 34, .mov (.t 10), none⟩,
   ⟨some 35, .bin .mul false (.t 33) (.t 34), none⟩,
   ⟨some 36, .mov (.t 5), none⟩,
   ⟨some 37, .mov (.t 6), none⟩,
   ⟨some 38, .mov (.t 9), none⟩,
   ⟨some 39, .bin .add false (.t 37) (.t 38), none⟩,
   ⟨some 40, .ixa 1 (.t 36) (.t 39), none⟩,
   ⟨some 41, .load none (.t 40), none⟩,
   ⟨some 42, .bin .add false (.t 35) (.t 41), none⟩,
   ⟨some 43, .mov (.t 8), none⟩,
   ⟨some 44, .bin .add false (.t 42) (.t 43), none⟩,
   ⟨some 11, .mov (.t 44), none⟩]) (.seq (.region false [⟨some 45, .mov (.t 5), none⟩,
   ⟨some 46, .mov (.t 6), none⟩,
   ⟨some 47, .mov (.t 9), none⟩,
   ⟨some 48, .bin .add false (.t 46) (.t 47), none⟩,
   ⟨some 49, .mov (.t 11), none⟩,
   ⟨some 50, .bin .rem false (.t 49) (.c (nv 4294967296)), none⟩,
   ⟨some 51, .ixa 1 (.t 45) (.t 48), none⟩,
   ⟨none, .store 1 (.t 51) (.t 50), none⟩]) (.region false [⟨some 52, .mov (.t 11), none⟩,
   ⟨some 53, .bin .quo false (.t 52) (.c (nv 4294967296)), none⟩,
   ⟨some 8, .mov (.t 53), none⟩]))))) (.region false [⟨some 54, .bin .add false (.t 28) (.c (iv 1)), none⟩,
   ⟨some 28, .mov (.t 54), none⟩]))))))) (.region false [⟨some 55, .mov (.t 5), none⟩,
   ⟨some 56, .mov (.t 6), none⟩,
   ⟨some 57, .mov (.t 1), none⟩,
   ⟨some 58, .len (.t 57), none⟩,
   ⟨some 59, .bin .add false (.t 56) (.t 58), none⟩,
   ⟨some 60, .mov (.t 8), none⟩,
   ⟨some 61, .ixa 1 (.t 55) (.t 59), none⟩,
   ⟨none, .store 1 (.t 61) (.t 60), none⟩]))))) (.region false [⟨some 62, .bin .add false (.t 21) (.c (iv 1)), none⟩,
   ⟨some 21, .mov (.t 62), none⟩]))))))) (.seq (.region false [⟨some 63, .mov (.t 5), none⟩,
   ⟨some 64, .call F.surdref01_norm [.t 63], none⟩,
   ⟨some 4, .mov (.t 64), none⟩]) .ret)))
def R.surdref01_Mul : List VRes := [.tmp 4]
theorem K.surdref01_Mul : resCode Tryd.prog Tryd.f28.ntmps (Tryd.f28.body.getD .skip) = C.surdref01_Mul := by kernel_rfl
theorem Q.surdref01_Mul : resResults Tryd.prog Tryd.f28.results.toList = some R.surdref01_Mul := by kernel_rfl
theorem E.surdref01_Mul : Tryd.prog.funcs[F.surdref01_Mul]? = some Tryd.f28 := Tryd.func28
theorem B.surdref01_Mul : Tryd.f28.body = some (Tryd.f28.body.getD .skip) := by kernel_rfl
theorem N.surdref01_Mul : Tryd.f28.ntmps = 65 := Tryd.ntmps28

def C.surdref01_Cmp : VC :=
  .seq (.region false [⟨some 4, .mov (.c (iv 0)), none⟩]) (.seq (.seq (.region false [⟨some 6, .mov (.t 0), none⟩,
   ⟨some 7, .len (.t 6), none⟩,
   ⟨some 8, .mov (.t 1), none⟩,
   ⟨some 9, .len (.t 8), none⟩,
   ⟨some 10, .bin .neq false (.t 7) (.t 9), none⟩]) (.cond (.t 10) (.seq (.seq (.region false [⟨some 11, .mov (.t 0), none⟩,
   ⟨some 12, .len (.t 11), none⟩,
   ⟨some 13, .mov (.t 1), none⟩,
   ⟨some 14, .len (.t 13), none⟩,
   ⟨some 15, .bin .lss false (.t 12) (.t 14), none⟩]) (.cond (.t 15) (.seq (.region false [⟨some 4, .mov (.c (iv (-1))), none⟩]) .ret) .skip)) (.seq (.region false [⟨some 4, .mov (.c (iv 1)), none⟩]) .ret)) .skip)) (.seq (.seq (.region false [⟨some 16, .mov (.t 0), none⟩,
   ⟨some 17, .len (.t 16), none⟩,
   ⟨some 18, .bin .sub false (.t 17) (.c (iv 1)), none⟩,
   ⟨some 5, .mov (.t 18), none⟩]) (.block 0 (.loop (.seq (.seq (.region false [⟨some 19, .mov (.t 5), none⟩,
   ⟨some 20, .bin .geq false (.t 19) (.c (iv 0)), none⟩]) (.cond (.t 20) .skip (.exit 0))) (.seq (.block 1 (.seq (.seq (.region true [⟨some 23, .mov (.t 0), none⟩,
   ⟨some 24, .mov (.t 5), none⟩,
   ⟨some 25, .ixa 1 (.t 23) (.t 24), none⟩,
   ⟨some 26, .load none (.t 25), none⟩,
   ⟨some 27, .mov (.t 1), none⟩,
   ⟨some 28, .mov (.t 5), none⟩,
   ⟨some 29, .ixa 1 (.t 27) (.t 28), none⟩,
   ⟨some 30, .load none (.t 29), none⟩,
   ⟨some 31, .bin .lss false (.t 26) (.t 30), none⟩]) (.cond (.t 31) (.seq (.region false [⟨some 4, .mov (.c (iv (-1))), none⟩]) .ret) .skip)) (.seq (.region true [⟨some 32, .mov (.t 0), none⟩,
   ⟨some 33, .mov (.t 5), none⟩,
   ⟨some 34, .ixa 1 (.t 32) (.t 33), none⟩,
   ⟨some 35, .load none (.t 34), none⟩,
   ⟨some 36, .mov (.t 1), none⟩,
   ⟨some 37, .mov (.t 5), none⟩,
   ⟨some 38, .ixa 1 (.t 36) (.t 37), none⟩,
   ⟨some 39, .load none (.t 38), none⟩,
   ⟨some 40, .bin .gtr false (.t 35) (.t 39), none⟩]) (.cond (.t 40) (.seq (.region false [⟨some 4, .mov (.c (iv 1)), none⟩]) .ret) .skip)))) (.region false [⟨some 21, .mov (.t 5), none⟩,
   ⟨some 22, .bin .sub false (.t 21) (.c (iv 1)), none⟩,
   ⟨some 5, .mov (.t 22), none⟩])))))) (.seq (.region false [⟨some 4, .mov (.c (iv 0)), none⟩]) .ret)))
def R.surdref01_Cmp : List VRes := [.tmp 4]
theorem K.surdref01_Cmp : resCode Tryd.prog Tryd.f29.ntmps (Tryd.f29.body.getD .skip) = C.surdref01_Cmp := by kernel_rfl
theorem Q.surdref01_Cmp : resResults Tryd.prog Tryd.f29.results.toList = some R.surdref01_Cmp := by kernel_rfl
theorem E.surdref01_Cmp : Tryd.prog.funcs[F.surdref01_Cmp]? = some Tryd.f29 := Tryd.func29
theorem B.surdref01_Cmp : Tryd.f29.body = some (Tryd.f29.body.getD .skip) := by kernel_rfl
theorem N.surdref01_Cmp : Tryd.f29.ntmps = 41 := Tryd.ntmps29

def C.surdref01_Num_Tail : VC :=
  .seq (.region false [⟨some 2, .mov (.c (iv 0)), none⟩]) (.seq (.seq (.region false [⟨some 4, .mov (.t 0), none⟩,
   ⟨some 5, .len (.t 4), none⟩,
   ⟨some 6, .bin .eql false (.t 5) (.c (iv 0)), none⟩]) (.cond (.t 6) (.seq (.region false [⟨some 2, .mov (.c (iv 0)), none⟩]) .ret) .skip)) (.seq (.region false [⟨some 3, .mov (.c (iv 0)), none⟩]) (.seq (.block 0 (.loop (.seq (.seq (.region false [⟨some 7, .mov (.t 0), none⟩,
   ⟨some 8, .mov (.t 3), none⟩,
   ⟨some 9, .call F.surdref01_Num_Bit [.t 7, .t 8], none⟩,
   ⟨some 10, .bin .eql false (.t 9) (.c (iv 0)), none⟩]) (.cond (.t 10) .skip (.exit 0))) (.block 1 (.region false [⟨some 11, .mov (.t 3), none⟩,
   ⟨some 12, .bin .add false (.t 11) (.c (iv 1)), none⟩,
   ⟨some 3, .mov (.t 12), none⟩]))))) (.seq (.region false [⟨some 13, .mov (.t 3), none⟩,
   ⟨some 2, .mov (.t 13), none⟩]) .ret))))
def R.surdref01_Num_Tail : List VRes := [.tmp 2]
theorem K.surdref01_Num_Tail : resCode Tryd.prog Tryd.f30.ntmps (Tryd.f30.body.getD .skip) = C.surdref01_Num_Tail := by kernel_rfl
theorem Q.surdref01_Num_Tail : resResults Tryd.prog Tryd.f30.results.toList = some R.surdref01_Num_Tail := by kernel_rfl
theorem E.surdref01_Num_Tail : Tryd.prog.funcs[F.surdref01_Num_Tail]? = some Tryd.f30 := Tryd.func30
theorem B.surdref01_Num_Tail : Tryd.f30.body = some (Tryd.f30.body.getD .skip) := by kernel_rfl
theorem N.surdref01_Num_Tail : Tryd.f30.ntmps = 14 := Tryd.ntmps30

def C.surdref01_Shl : VC :=
  .seq (.region false [⟨some 4, .mov (.c nil1), none⟩]) (.seq (.seq (.region false [⟨some 9, .mov (.t 0), none⟩,
   ⟨some 10, .len (.t 9), none⟩,
   ⟨some 11, .bin .eql false (.t 10) (.c (iv 0)), none⟩]) (.cond (.t 11) (.seq (.region false [⟨some 4, .mov (.c nil1), none⟩]) .ret) .skip)) (.seq (.region false [⟨some 12, .mov (.t 0), none⟩,
   ⟨some 13, .len (.t 12), none⟩,
   ⟨some 14, .mov (.t 1), none⟩,
   ⟨some 15, .bin .quo false (.t 14) (.c (iv 32)), none⟩,
   ⟨some 16, .bin .add false (.t 13) (.t 15), none⟩,
   ⟨some 17, .bin .add false (.t 16) (.c (iv 1)), none⟩,
   ⟨some 18, .mk [.int .u64 0] 8 (.t 17) (.t 17), none⟩,
   ⟨some 5, .mov (.t 18), none⟩]) (.seq (.region false [⟨some 19, .mov (.t 1), none⟩,
   ⟨some 20, .bin .rem false (.t 19) (.c (iv 32)), none⟩,
   ⟨some 6, .mov (.t 20), none⟩]) (.seq (.seq (.region false [⟨some 21, .mov (.t 0), none⟩,
   ⟨some 22, .len (.t 21), none⟩,
   ⟨some 23, .mov (.c (iv 0)), none⟩]) (.block 0 (.loop (.seq (.region false [⟨some 24, .bin .lss false (.t 23) (.t 22), none⟩]) (.seq (.cond (.t 24) .skip (.exit 0)) (.seq (.block 1 (.seq (.region false [⟨some 25, .mov (.t 23), none⟩,
   ⟨some 26, .ixa 1 (.t 21) (.t 23), none⟩,
   ⟨some 27, .load none (.t 26), none⟩,
   ⟨some 7, .mov (.t 25), none⟩,
   ⟨some 8, .mov (.t 27), none⟩]) (.seq (.region true [⟨some 28, .mov (.t 5), none⟩,
   ⟨some 29, .mov (.t 7), none⟩,
   ⟨some 30, .mov (.t 1), none⟩,
   ⟨some 31, .bin .quo false (.t 30) (.c (iv 32)), none⟩,
   ⟨some 32, .bin .add false (.t 29) (.t 31), none⟩,
   ⟨some 33, .ixa 1 (.t 28) (.t 32), none⟩,
   ⟨some 34, .load none (.t 33), none⟩,
   ⟨some 35, .mov (.t 8), none⟩,
   ⟨some 36, .mov (.t 6), none⟩,
   ⟨some 37, .bin .shl false (.t 35) (.t 36), none⟩,
   ⟨some 38, .bin .rem false (.t 37) (.c (nv 4294967296)), none⟩,
   ⟨some 39, .bin .add false (.t 34) (.t 38), none⟩,
   ⟨some 40, .ixa 1 (.t 28) (.t 32), none⟩,
   ⟨none, .store 1 (.t 40) (.t 39), none⟩]) (.region false [⟨some 41, .mov (.t 5), none⟩,
   ⟨some 42, .mov (.t 7), none⟩,
   ⟨some 43, .mov (.t 1), none⟩,
   ⟨some 44, .bin .quo false (.t 43) (.c (iv 32)), none⟩,
   ⟨some 45, .bin .add false (.t 42) (.t 44), none⟩,
   ⟨some 46, .bin .add false (.t 45) (.c (iv 1)), none⟩,
   ⟨some 47, .mov (.t 8), none⟩,
   ⟨some 48, .mov (.t 6), none⟩,
   ⟨some 49, .bin .shl false (.t 47) (.t 48), none⟩,
   ⟨some 50, .bin .quo false (.t 49) (.c (nv 4294967296)), none⟩,
   ⟨some 51, .ixa 1 (.t 41) (.t 46), none⟩,
   ⟨none, .store 1 (.t 51) (.t 50), none⟩])))) (.region false [⟨some 52, .bin .add false (.t 23) (.c (iv 1)), none⟩,
   ⟨some 23, .mov (.t 52), none⟩]))))))) (.seq (.region false [⟨some 53, .mov (.t 5), none⟩,
   ⟨some 54, .call F.surdref01_norm [.t 53], none⟩,
   ⟨some 4, .mov (.t 54), none⟩]) .ret)))))
def R.surdref01_Shl : List VRes := [.tmp 4]
theorem K.surdref01_Shl : resCode Tryd.prog Tryd.f31.ntmps (Tryd.f31.body.getD .skip) = C.surdref01_Shl := by kernel_rfl
theorem Q.surdref01_Shl : resResults Tryd.prog Tryd.f31.results.toList = some R.surdref01_Shl := by kernel_rfl
theorem E.surdref01_Shl : Tryd.prog.funcs[F.surdref01_Shl]? = some Tryd.f31 := Tryd.func31
theorem B.surdref01_Shl : Tryd.f31.body = some (Tryd.f31.body.getD .skip) := by kernel_rfl
theorem N.surdref01_Shl : Tryd.f31.ntmps = 55 := Tryd.ntmps31

def C.surdref01_Shr : VC :=
  .seq (.region false [⟨some 4, .mov (.c nil1), none⟩]) (.seq (.seq (.region false [⟨some 9, .mov (.t 1), none⟩,
   ⟨some 10, .bin .quo false (.t 9) (.c (iv 32)), none⟩,
   ⟨some 11, .mov (.t 0), none⟩,
   ⟨some 12, .len (.t 11), none⟩,
   ⟨some 13, .bin .geq false (.t 10) (.t 12), none⟩]) (.cond (.t 13) (.seq (.region false [⟨some 4, .mov (.c nil1), none⟩]) .ret) .skip)) (.seq (.region false [⟨some 14, .mov (.t 0), none⟩,
   ⟨some 15, .len (.t 14), none⟩,
   ⟨some 16, .mov (.t 1), none⟩,
   ⟨some 17, .bin .quo false (.t 16) (.c (iv 32)), none⟩,
   ⟨some 18, .bin .sub false (.t 15) (.t 17), none⟩,
   ⟨some 19, .mk [.int .u64 0] 8 (.t 18) (.t 18), none⟩,
   ⟨some 5, .mov (.t 19), none⟩]) (.seq (.region false [⟨some 20, .mov (.t 1), none⟩,
   ⟨some 21, .bin .rem false (.t 20) (.c (iv 32)), none⟩,
   ⟨some 6, .mov (.t 21), none⟩]) (.seq (.seq (.region false [⟨some 22, .mov (.t 5), none⟩,
   ⟨some 23, .len (.t 22), none⟩,
   ⟨some 24, .mov (.c (iv 0)), none⟩]) (.block 0 (.loop (.seq (.region false [⟨some 25, .bin .lss false (.t 24) (.t 23), none⟩]) (.seq (.cond (.t 25) .skip (.exit 0)) (.seq (.block 1 (.seq (.region false [⟨some 26, .mov (.t 24), none⟩,
   ⟨some 7, .mov (.t 26), none⟩]) (.seq (.region true [⟨some 27, .mov (.t 0), none⟩,
   ⟨some 28, .mov (.t 7), none⟩,
   ⟨some 29, .mov (.t 1), none⟩,
   ⟨some 30, .bin .quo false (.t 29) (.c (iv 32)), none⟩,
   ⟨some 31, .bin .add false (.t 28) (.t 30), none⟩,
   ⟨some 32, .ixa 1 (.t 27) (.t 31), none⟩,
   ⟨some 33, .load none (.t 32), none⟩,
   ⟨some 34, .mov (.t 0), none⟩,
   ⟨some 35, .mov (.t 7), none⟩,
   ⟨some 36, .mov (.t 1), none⟩,
   ⟨some 37, .bin .quo false (.t 36) (.c (iv 32)), none⟩,
   ⟨some 38, .bin .add false (.t 35) (.t 37), none⟩,
   ⟨some 39, .bin .add false (.t 38) (.c (iv 1)), none⟩,
   ⟨some 40, .call F.surdref01_Num_at [.t 34, .t 39], none⟩,
   ⟨some 41, .bin .mul false (.t 40) (.c (nv 4294967296)), none⟩,
   ⟨some 42, .bin .add false (.t 33) (.t 41), none⟩,
   ⟨some 8, .mov (.t 42), none⟩]) (.region false [⟨some 43, .mov (.t 5), none⟩,
   ⟨some 44, .mov (.t 7), none⟩,
   ⟨some 45, .mov (.t 8), none⟩,
   ⟨some 46, .mov (.t 6), none⟩,
   ⟨some 47, .bin .shr false (.t 45) (.t 46), none⟩,
   ⟨some 48, .bin .rem false (.t 47) (.c (nv 4294967296)), none⟩,
   ⟨some 49, .ixa 1 (.t 43) (.t 44), none⟩,
   ⟨none, .store 1 (.t 49) (.t 48), none⟩])))) (.region false [⟨some 50, .bin .add false (.t 24) (.c (iv 1)), none⟩,
   ⟨some 24, .mov (.t 50), none⟩]))))))) (.seq (.region false [⟨some 51, .mov (.t 5), none⟩,
   ⟨some 52, .call F.surdref01_norm [.t 51], none⟩,
   ⟨some 4, .mov (.t 52), none⟩]) .ret)))))
def R.surdref01_Shr : List VRes := [.tmp 4]
theorem K.surdref01_Shr : resCode Tryd.prog Tryd.f32.ntmps (Tryd.f32.body.getD .skip) = C.surdref01_Shr := by kernel_rfl
theorem Q.surdref01_Shr : resResults Tryd.prog Tryd.f32.results.toList = some R.surdref01_Shr := by kernel_rfl
theorem E.surdref01_Shr : Tryd.prog.funcs[F.surdref01_Shr]? = some Tryd.f32 := Tryd.func32
theorem B.surdref01_Shr : Tryd.f32.body = some (Tryd.f32.body.getD .skip) := by kernel_rfl
theorem N.surdref01_Shr : Tryd.f32.ntmps = 53 := Tryd.ntmps32

def C.nat_Length : VC :=
  .seq (.region false [⟨some 2, .mov (.c (iv 0)), none⟩]) (.seq (.region false [⟨some 3, .mov (.t 0), none⟩,
   ⟨some 4, .call F.nat_trim [.t 3], none⟩,
   ⟨some 0, .mov (.t 4), none⟩]) (.seq (.seq (.region false [⟨some 5, .mov (.t 0), none⟩,
   ⟨some 6, .len (.t 5), none⟩,
   ⟨some 7, .bin .eql false (.t 6) (.c (iv 0)), none⟩]) (.cond (.t 7) (.seq (.region false [⟨some 2, .mov (.c (iv 0)), none⟩]) .ret) .skip)) (.seq (.region false [⟨some 8, .mov (.t 0), none⟩,
   ⟨some 9, .len (.t 8), none⟩,
   ⟨some 10, .bin .sub false (.t 9) (.c (iv 1)), none⟩,
   ⟨some 11, .bin .mul false (.c (iv 64)) (.t 10), none⟩,
   ⟨some 12, .mov (.t 0), none⟩,
   ⟨some 13, .mov (.t 0), none⟩,
   ⟨some 14, .len (.t 13), none⟩,
   ⟨some 15, .bin .sub false (.t 14) (.c (iv 1)), none⟩,
   ⟨some 16, .ixa 1 (.t 12) (.t 15), none⟩,
   ⟨some 17, .load none (.t 16), none⟩,
   ⟨some 18, .call F.bits_Len64 [.t 17], none⟩,
   ⟨some 19, .bin .add false (.t 11) (.t 18), none⟩,
   ⟨some 2, .mov (.t 19), none⟩]) .ret)))
def R.nat_Length : List VRes := [.tmp 2]
theorem K.nat_Length : resCode Tryd.prog Tryd.f35.ntmps (Tryd.f35.body.getD .skip) = C.nat_Length := by kernel_rfl
theorem Q.nat_Length : resResults Tryd.prog Tryd.f35.results.toList = some R.nat_Length := by kernel_rfl
theorem E.nat_Length : Tryd.prog.funcs[F.nat_Length]? = some Tryd.f35 := Tryd.func35
theorem B.nat_Length : Tryd.f35.body = some (Tryd.f35.body.getD .skip) := by kernel_rfl
theorem N.nat_Length : Tryd.f35.ntmps = 20 := Tryd.ntmps35

def C.rounded_finish : VC :=
  .seq (.region false [⟨some 10, .alloc [.bool false, .slice none 0 0, .int .i64 0], none⟩,
   ⟨some 11, .mov (.c (iv 0)), none⟩]) (.seq (.seq (.region false [⟨some 14, .mov (.t 4), none⟩,
   ⟨some 15, .call F.rounded_way [.t 14], none⟩,
   ⟨some 16, .mov (.t 0), none⟩,
   ⟨some 17, .mov (.t 1), none⟩,
   ⟨some 18, .mov (.t 2), none⟩,
   ⟨some 19, .callv (.t 15) [.t 16, .t 17, .t 18], none⟩]) (.cond (.t 19) (.seq (.region false [⟨some 12, .mov (.c (iv 0)), none⟩]) (.seq (.region false [⟨some 21, .mov (.t 1), none⟩,
   ⟨some 22, .call F.nat_From [.c (nv 1)], none⟩,
   ⟨some 23, .call F.nat_Add [.t 21, .t 22], none⟩,
   ⟨some 20, .mov (.t 23), none⟩,
   ⟨some 24, .ext (.t 20) 0, none⟩,
   ⟨some 25, .ext (.t 20) 1, none⟩,
   ⟨some 1, .mov (.t 24), none⟩,
   ⟨some 12, .mov (.t 25), none⟩]) (.seq (.region false [⟨some 26, .mov (.t 12), none⟩,
   ⟨some 27, .bin .neq false (.t 26) (.c (iv 0)), none⟩]) (.cond (.t 27) (.seq (.region false [⟨some 28, .build [.bool false, .slice none 0 0, .int .i64 0] [], none⟩,
   ⟨some 29, .mov (.t 12), none⟩,
   ⟨none, .store 3 (.t 10) (.t 28), none⟩,
   ⟨some 11, .mov (.t 29), none⟩]) .ret) .skip)))) .skip)) (.seq (.seq (.region false [⟨some 30, .mov (.t 1), none⟩,
   ⟨some 31, .call F.nat_Length [.t 30], none⟩,
   ⟨some 32, .bin .gtr false (.t 31) (.c (iv 67108864)), none⟩]) (.cond (.t 32) (.seq (.region false [⟨some 33, .build [.bool false, .slice none 0 0, .int .i64 0] [], none⟩,
   ⟨none, .store 3 (.t 10) (.t 33), none⟩,
   ⟨some 11, .mov (.c (iv 3)), none⟩]) .ret) .skip)) (.seq (.seq (.region false [⟨some 34, .mov (.t 1), none⟩,
   ⟨some 35, .len (.t 34), none⟩,
   ⟨some 36, .bin .eql false (.t 35) (.c (iv 0)), none⟩]) (.cond (.t 36) (.seq (.region false [⟨some 37, .build [.bool false, .slice none 0 0, .int .i64 0] [], none⟩,
   ⟨none, .store 3 (.t 10) (.t 37), none⟩,
   ⟨some 11, .mov (.c (iv 0)), none⟩]) .ret) .skip)) (.seq (.region false [⟨some 38, .mov (.t 1), none⟩,
   ⟨some 39, .call F.nat_Tail [.t 38], none⟩,
   ⟨some 13, .mov (.t 39), none⟩]) (.seq (.seq (.region false [⟨some 40, .mov (.t 3), none⟩,
   ⟨some 41, .mov (.t 13), none⟩,
   ⟨some 42, .bin .add false (.t 40) (.t 41), none⟩,
   ⟨some 43, .bin .gtr false (.t 42) (.c (iv 1099511627776)), none⟩]) (.cond (.t 43) (.seq (.region false [⟨some 44, .build [.bool false, .slice none 0 0, .int .i64 0] [], none⟩,
   ⟨none, .store 3 (.t 10) (.t 44), none⟩,
   ⟨some 11, .mov (.c (iv 80)), none⟩]) .ret) .skip)) (.seq (.region false [⟨some 45, .mov (.t 0), none⟩,
   ⟨some 46, .mov (.t 1), none⟩,
   ⟨some 47, .mov (.t 13), none⟩,
   ⟨some 48, .call F.rounded_right [.t 46, .t 47], none⟩,
   ⟨some 49, .build [.bool false, .slice none 0 0] [(0, (1, .t 45)), (1, (1, .t 48))], none⟩,
   ⟨some 50, .mov (.t 3), none⟩,
   ⟨some 51, .mov (.t 13), none⟩,
   ⟨some 52, .bin .add false (.t 50) (.t 51), none⟩,
   ⟨some 53, .build [.bool false, .slice none 0 0, .int .i64 0] [(0, (2, .t 49)), (2, (1, .t 52))], none⟩,
   ⟨none, .store 3 (.t 10) (.t 53), none⟩,
   ⟨some 11, .mov (.c (iv 0)), none⟩]) .ret))))))
def R.rounded_finish : List VRes := [.cell 10 (some 3), .tmp 11]
theorem K.rounded_finish : resCode Tryd.prog Tryd.f36.ntmps (Tryd.f36.body.getD .skip) = C.rounded_finish := by kernel_rfl
theorem Q.rounded_finish : resResults Tryd.prog Tryd.f36.results.toList = some R.rounded_finish := by kernel_rfl
theorem E.rounded_finish : Tryd.prog.funcs[F.rounded_finish]? = some Tryd.f36 := Tryd.func36
theorem B.rounded_finish : Tryd.f36.body = some (Tryd.f36.body.getD .skip) := by kernel_rfl
theorem N.rounded_finish : Tryd.f36.ntmps = 54 := Tryd.ntmps36

def C.rounded_left : VC :=
  .seq (.region false [⟨some 4, .mov (.c nil1), none⟩]) (.seq (.seq (.region false [⟨some 8, .mov (.t 0), none⟩,
   ⟨some 9, .len (.t 8), none⟩,
   ⟨some 10, .bin .eql false (.t 9) (.c (iv 0)), none⟩]) (.cond (.t 10) (.seq (.region false [⟨some 4, .mov (.c nil1), none⟩]) .ret) .skip)) (.seq (.region false [⟨some 11, .mov (.t 1), none⟩,
   ⟨some 12, .bin .quo false (.t 11) (.c (iv 64)), none⟩,
   ⟨some 13, .mov (.t 0), none⟩,
   ⟨some 14, .len (.t 13), none⟩,
   ⟨some 15, .bin .add false (.t 12) (.t 14), none⟩,
   ⟨some 16, .bin .add false (.t 15) (.c (iv 1)), none⟩,
   ⟨some 17, .mk [.int .u64 0] 8 (.t 16) (.t 16), none⟩,
   ⟨some 5, .mov (.t 17), none⟩]) (.seq (.seq (.region false [⟨some 18, .mov (.t 0), none⟩,
   ⟨some 19, .len (.t 18), none⟩,
   ⟨some 20, .mov (.c (iv 0)), none⟩]) (.block 0 (.loop (.seq (.region false [⟨some 21, .bin .lss false (.t 20) (.t 19), none⟩]) (.seq (.cond (.t 21) .skip (.exit 0)) (.seq (.block 1 (.seq (.region false [⟨some 22, .mov (.t 20), none⟩,
   ⟨some 23, .ixa 1 (.t 18) (.t 20), none⟩,
   ⟨some 24, .load none (.t 23), none⟩,
   ⟨some 6, .mov (.t 22), none⟩,
   ⟨some 7, .mov (.t 24), none⟩]) (.seq (.region false [⟨some 25, .mov (.t 5), none⟩,
   ⟨some 26, .mov (.t 1), none⟩,
   ⟨some 27, .bin .quo false (.t 26) (.c (iv 64)), none⟩,
   ⟨some 28, .mov (.t 6), none⟩,
   ⟨some 29, .bin .add false (.t 27) (.t 28), none⟩,
   ⟨some 30, .ixa 1 (.t 25) (.t 29), none⟩,
   ⟨some 31, .load none (.t 30), none⟩,
   ⟨some 32, .mov (.t 7), none⟩,
   ⟨some 33, .mov (.t 1), none⟩,
   ⟨some 34, .bin .rem false (.t 33) (.c (iv 64)), none⟩,
   ⟨some 35, .conv .u64 (.t 34), none⟩,
   ⟨some 36, .bin .shl false (.t 32) (.t 35), none⟩,
   ⟨some 37, .bin .or false (.t 31) (.t 36), none⟩,
   ⟨some 38, .ixa 1 (.t 25) (.t 29), none⟩,
   ⟨none, .store 1 (.t 38) (.t 37), none⟩]) (.region false [⟨some 39, .mov (.t 5), none⟩,
   ⟨some 40, .mov (.t 1), none⟩,
   ⟨some 41, .bin .quo false (.t 40) (.c (iv 64)), none⟩,
   ⟨some 42, .mov (.t 6), none⟩,
   ⟨some 43, .bin .add false (.t 41) (.t 42), none⟩,
   ⟨some 44, .bin .add false (.t 43) (.c (iv 1)), none⟩,
   ⟨some 45, .ixa 1 (.t 39) (.t 44), none⟩,
   ⟨some 46, .load none (.t 45), none⟩,
   ⟨some 47, .mov (.t 7), none⟩,
   ⟨some 48, .bin .shr false (.t 47) (.c (nv 1)), none⟩,
   ⟨some 49, .mov (.t 1), none⟩,
   ⟨some 50, .bin .rem false (.t 49) (.c (iv 64)), none⟩,
   ⟨some 51, .bin .sub false (.c (iv 63)) (.t 50), none⟩,
   ⟨some 52, .conv .u64 (.t 51), none⟩,
   ⟨some 53, .bin .shr false (.t 48) (.t 52), none⟩,
   ⟨some 54, .bin .or false (.t 46) (.t 53), none⟩,
   ⟨some 55, .ixa 1 (.t 39) (.t 44), none⟩,
   ⟨none, .store 1 (.t 55) (.t 54), none⟩])))) (.region false [⟨some 56, .bin .add false (.t 20) (.c (iv 1)), none⟩,
   ⟨some 20, .mov (.t 56), none⟩]))))))) (.seq (.region false [⟨some 57, .mov (.t 5), none⟩,
   ⟨some 58, .call F.nat_Norm [.t 57], none⟩,
   ⟨some 4, .mov (.t 58), none⟩]) .ret))))
def R.rounded_left : List VRes := [.tmp 4]
theorem K.rounded_left : resCode Tryd.prog Tryd.f37.ntmps (Tryd.f37.body.getD .skip) = C.rounded_left := by kernel_rfl
theorem Q.rounded_left : resResults Tryd.prog Tryd.f37.results.toList = some R.rounded_left := by kernel_rfl
theorem E.rounded_left : Tryd.prog.funcs[F.rounded_left]? = some Tryd.f37 := Tryd.func37
theorem B.rounded_left : Tryd.f37.body = some (Tryd.f37.body.getD .skip) := by kernel_rfl
theorem N.rounded_left : Tryd.f37.ntmps = 59 := Tryd.ntmps37

def C.nat_Tail : VC :=
  .seq (.region false [⟨some 2, .mov (.c (iv 0)), none⟩]) (.seq (.seq (.region false [⟨some 5, .mov (.t 0), none⟩,
   ⟨some 6, .len (.t 5), none⟩,
   ⟨some 7, .mov (.c (iv 0)), none⟩]) (.block 0 (.loop (.seq (.region false [⟨some 8, .bin .lss false (.t 7) (.t 6), none⟩]) (.seq (.cond (.t 8) .skip (.exit 0)) (.seq (.block 1 (.seq (.region false [⟨some 9, .mov (.t 7), none⟩,
   ⟨some 10, .ixa 1 (.t 5) (.t 7), none⟩,
   ⟨some 11, .load none (.t 10), none⟩,
   ⟨some 3, .mov (.t 9), none⟩,
   ⟨some 4, .mov (.t 11), none⟩]) (.seq (.region false [⟨some 12, .mov (.t 4), none⟩,
   ⟨some 13, .bin .neq false (.t 12) (.c (nv 0)), none⟩]) (.cond (.t 13) (.seq (.region false [⟨some 14, .mov (.t 3), none⟩,
   ⟨some 15, .bin .mul false (.c (iv 64)) (.t 14), none⟩,
   ⟨some 16, .mov (.t 4), none⟩,
   ⟨some 17, .call F.bits_TrailingZeros64 [.t 16], none⟩,
   ⟨some 18, .bin .add false (.t 15) (.t 17), none⟩,
   ⟨some 2, .mov (.t 18), none⟩]) .ret) .skip)))) (.region false [⟨some 19, .bin .add false (.t 7) (.c (iv 1)), none⟩,
   ⟨some 7, .mov (.t 19), none⟩]))))))) (.seq (.region false [⟨some 2, .mov (.c (iv 0)), none⟩]) .ret))
def R.nat_Tail : List VRes := [.tmp 2]
theorem K.nat_Tail : resCode Tryd.prog Tryd.f38.ntmps (Tryd.f38.body.getD .skip) = C.nat_Tail := by kernel_rfl
theorem Q.nat_Tail : resResults Tryd.prog Tryd.f38.results.toList = some R.nat_Tail := by kernel_rfl
theorem E.nat_Tail : Tryd.prog.funcs[F.nat_Tail]? = some Tryd.f38 := Tryd.func38
theorem B.nat_Tail : Tryd.f38.body = some (Tryd.f38.body.getD .skip) := by kernel_rfl
theorem N.nat_Tail : Tryd.f38.ntmps = 20 := Tryd.ntmps38

def C.rounded_right : VC :=
  .seq (.region false [⟨some 4, .mov (.c nil1), none⟩]) (.seq (.seq (.region false [⟨some 7, .mov (.t 1), none⟩,
   ⟨some 8, .bin .quo false (.t 7) (.c (iv 64)), none⟩,
   ⟨some 9, .mov (.t 0), none⟩,
   ⟨some 10, .len (.t 9), none⟩,
   ⟨some 11, .bin .geq false (.t 8) (.t 10), none⟩]) (.cond (.t 11) (.seq (.region false [⟨some 4, .mov (.c nil1), none⟩]) .ret) .skip)) (.seq (.region false [⟨some 12, .mov (.t 0), none⟩,
   ⟨some 13, .mov (.t 1), none⟩,
   ⟨some 14, .bin .quo false (.t 13) (.c (iv 64)), none⟩,
   ⟨some 15, .slc 1 (.t 12) (some (.t 14)) none none, none⟩,
   ⟨some 16, .app 1 8 [.int .u64 0] (.c nil1) (.t 15), none⟩,
   ⟨some 5, .mov (.t 16), none⟩]) (.seq (.seq (.region false [⟨some 17, .mov (.t 5), none⟩,
   ⟨some 18, .len (.t 17), none⟩,
   ⟨some 19, .mov (.c (iv 0)), none⟩]) (.block 0 (.loop (.seq (.region false [⟨some 20, .bin .lss false (.t 19) (.t 18), none⟩]) (.seq (.cond (.t 20) .skip (.exit 0)) (.seq (.block 1 (.seq (.region false [⟨some 21, .mov (.t 19), none⟩,
   ⟨some 6, .mov (.t 21), none⟩]) (.seq (.region false [⟨some 22, .mov (.t 5), none⟩,
   ⟨some 23, .mov (.t 6), none⟩,
   ⟨some 24, .ixa 1 (.t 22) (.t 23), none⟩,
   ⟨some 25, .load none (.t 24), none⟩,
   ⟨some 26, .mov (.t 1), none⟩,
   ⟨some 27, .bin .rem false (.t 26) (.c (iv 64)), none⟩,
   ⟨some 28, .conv .u64 (.t 27), none⟩,
   ⟨some 29, .bin .shr false (.t 25) (.t 28), none⟩,
   ⟨some 30, .ixa 1 (.t 22) (.t 23), none⟩,
   ⟨none, .store 1 (.t 30) (.t 29), none⟩]) (.seq (.region false [⟨some 31, .mov (.t 6), none⟩,
   ⟨some 32, .bin .add false (.t 31) (.c (iv 1)), none⟩,
   ⟨some 33, .mov (.t 5), none⟩,
   ⟨some 34, .len (.t 33), none⟩,
   ⟨some 35, .bin .lss false (.t 32) (.t 34), none⟩]) (.cond (.t 35) (.region true [⟨some 36, .mov (.t 5), none⟩,
   ⟨some 37, .mov (.t 6), none⟩,
   ⟨some 38, .ixa 1 (.t 36) (.t 37), none⟩,
   ⟨some 39, .load none (.t 38), none⟩,
   ⟨some 40, .mov (.t 5), none⟩,
   ⟨some 41, .mov (.t 6), none⟩,
   ⟨some 42, .bin .add false (.t 41) (.c (iv 1)), none⟩,
   ⟨some 43, .ixa 1 (.t 40) (.t 42), none⟩,
   ⟨some 44, .load none (.t 43), none⟩,
   ⟨some 45, .bin .shl false (.t 44) (.c (nv 1)), none⟩,
   ⟨some 46, .mov (.t 1), none⟩,
   ⟨some 47, .bin .rem false (.t 46) (.c (iv 64)), none⟩,
   ⟨some 48, .bin .sub false (.c (iv 63)) (.t 47), none⟩,
   ⟨some 49, .conv .u64 (.t 48), none⟩,
   ⟨some 50, .bin .shl false (.t 45) (.t 49), none⟩,
   ⟨some 51, .bin .or false (.t 39) (.t 50), none⟩,
   ⟨some 52, .ixa 1 (.t 36) (.t 37), none⟩,
   ⟨none, .store 1 (.t 52) (.t 51), none⟩]) .skip))))) (.region false [⟨some 53, .bin .add false (.t 19) (.c (iv 1)), none⟩,
   ⟨some 19, .mov (.t 53), none⟩]))))))) (.seq (.region false [⟨some 54, .mov (.t 5), none⟩,
   ⟨some 55, .call F.nat_Norm [.t 54], none⟩,
   ⟨some 4, .mov (.t 55), none⟩]) .ret))))
def R.rounded_right : List VRes := [.tmp 4]
theorem K.rounded_right : resCode Tryd.prog Tryd.f39.ntmps (Tryd.f39.body.getD .skip) = C.rounded_right := by kernel_rfl
theorem Q.rounded_right : resResults Tryd.prog Tryd.f39.results.toList = some R.rounded_right := by kernel_rfl
theorem E.rounded_right : Tryd.prog.funcs[F.rounded_right]? = some Tryd.f39 := Tryd.func39
theorem B.rounded_right : Tryd.f39.body = some (Tryd.f39.body.getD .skip) := by kernel_rfl
theorem N.rounded_right : Tryd.f39.ntmps = 56 := Tryd.ntmps39

def C.roots_Sqrt : VC :=
  .seq (.region false [⟨some 2, .mov (.c nil1), none⟩,
   ⟨some 3, .mov (.c nil1), none⟩,
   ⟨some 4, .mov (.c (iv 0)), none⟩]) (.seq (.region false [⟨some 5, .mov (.t 0), none⟩,
   ⟨some 6, .call F.roots_Root [.t 5, .c (iv 2)], none⟩,
   ⟨some 7, .ext (.t 6) 0, none⟩,
   ⟨some 8, .ext (.t 6) 1, none⟩,
   ⟨some 9, .ext (.t 6) 2, none⟩,
   ⟨some 2, .mov (.t 7), none⟩,
   ⟨some 3, .mov (.t 8), none⟩,
   ⟨some 4, .mov (.t 9), none⟩]) .ret)
def R.roots_Sqrt : List VRes := [.tmp 2, .tmp 3, .tmp 4]
theorem K.roots_Sqrt : resCode Tryd.prog Tryd.f40.ntmps (Tryd.f40.body.getD .skip) = C.roots_Sqrt := by kernel_rfl
theorem Q.roots_Sqrt : resResults Tryd.prog Tryd.f40.results.toList = some R.roots_Sqrt := by kernel_rfl
theorem E.roots_Sqrt : Tryd.prog.funcs[F.roots_Sqrt]? = some Tryd.f40 := Tryd.func40
theorem B.roots_Sqrt : Tryd.f40.body = some (Tryd.f40.body.getD .skip) := by kernel_rfl
theorem N.roots_Sqrt : Tryd.f40.ntmps = 10 := Tryd.ntmps40

def C.nat_Bit : VC :=
  .seq (.region false [⟨some 4, .mov (.c (iv 0)), none⟩]) (.seq (.seq (.region false [⟨some 5, .mov (.t 1), none⟩,
   ⟨some 6, .bin .lss false (.t 5) (.c (iv 0)), none⟩,
   ⟨some 7, .mov (.t 6), none⟩,
   ⟨some 8, .mov (.t 1), some (7, false)⟩,
   ⟨some 9, .bin .quo false (.t 8) (.c (iv 64)), some (7, false)⟩,
   ⟨some 10, .mov (.t 0), some (7, false)⟩,
   ⟨some 11, .len (.t 10), some (7, false)⟩,
   ⟨some 12, .bin .geq false (.t 9) (.t 11), some (7, false)⟩,
   ⟨some 13, .pick (.t 7) (.c (bv true)) (.t 12), none⟩]) (.cond (.t 13) (.seq (.region false [⟨some 4, .mov (.c (iv 0)), none⟩]) .ret) .skip)) (.seq (.region false [⟨some 14, .mov (.t 0), none⟩,
   ⟨some 15, .mov (.t 1), none⟩,
   ⟨some 16, .bin .quo false (.t 15) (.c (iv 64)), none⟩,
   ⟨some 17, .ixa 1 (.t 14) (.t 16), none⟩,
   ⟨some 18, .load none (.t 17), none⟩,
   ⟨some 19, .mov (.t 1), none⟩,
   ⟨some 20, .bin .rem false (.t 19) (.c (iv 64)), none⟩,
   ⟨some 21, .conv .u64 (.t 20), none⟩,
   ⟨some 22, .bin .shr false (.t 18) (.t 21), none⟩,
   ⟨some 23, .bin .and false (.t 22) (.c (nv 1)), none⟩,
   ⟨some 24, .conv .i64 (.t 23), none⟩,
   ⟨some 4, .mov (.t 24), none⟩]) .ret))
def R.nat_Bit : List VRes := [.tmp 4]
theorem K.nat_Bit : resCode Tryd.prog Tryd.f41.ntmps (Tryd.f41.body.getD .skip) = C.nat_Bit := by kernel_rfl
theorem Q.nat_Bit : resResults Tryd.prog Tryd.f41.results.toList = some R.nat_Bit := by kernel_rfl
theorem E.nat_Bit : Tryd.prog.funcs[F.nat_Bit]? = some Tryd.f41 := Tryd.func41
theorem B.nat_Bit : Tryd.f41.body = some (Tryd.f41.body.getD .skip) := by kernel_rfl
theorem N.nat_Bit : Tryd.f41.ntmps = 25 := Tryd.ntmps41

def C.surdref01_Num_Is : VC :=
  .seq (.region false [⟨some 4, .mov (.c (bv false)), none⟩]) (.seq (.region false [⟨some 7, .mov (.t 0), none⟩,
   ⟨some 8, .call F.surdref01_Num_Limbs [.t 7], none⟩,
   ⟨some 5, .mov (.t 8), none⟩]) (.seq (.seq (.region false [⟨some 9, .mov (.t 5), none⟩,
   ⟨some 10, .len (.t 9), none⟩,
   ⟨some 11, .mov (.t 1), none⟩,
   ⟨some 12, .len (.t 11), none⟩,
   ⟨some 13, .bin .neq false (.t 10) (.t 12), none⟩]) (.cond (.t 13) (.seq (.region false [⟨some 4, .mov (.c (bv false)), none⟩]) .ret) .skip)) (.seq (.seq (.region false [⟨some 14, .mov (.t 5), none⟩,
   ⟨some 15, .len (.t 14), none⟩,
   ⟨some 16, .mov (.c (iv 0)), none⟩]) (.block 0 (.loop (.seq (.region false [⟨some 17, .bin .lss false (.t 16) (.t 15), none⟩]) (.seq (.cond (.t 17) .skip (.exit 0)) (.seq (.block 1 (.seq (.region false [⟨some 18, .mov (.t 16), none⟩,
   ⟨some 6, .mov (.t 18), none⟩]) (.seq (.region true [⟨some 19, .mov (.t 5), none⟩,
   ⟨some 20, .mov (.t 6), none⟩,
   ⟨some 21, .ixa 1 (.t 19) (.t 20), none⟩,
   ⟨some 22, .load none (.t 21), none⟩,
   ⟨some 23, .mov (.t 1), none⟩,
   ⟨some 24, .mov (.t 6), none⟩,
   ⟨some 25, .ixa 1 (.t 23) (.t 24), none⟩,
   ⟨some 26, .load none (.t 25), none⟩,
   ⟨some 27, .bin .neq false (.t 22) (.t 26), none⟩]) (.cond (.t 27) (.seq (.region false [⟨some 4, .mov (.c (bv false)), none⟩]) .ret) .skip)))) (.region false [⟨some 28, .bin .add false (.t 16) (.c (iv 1)), none⟩,
   ⟨some 16, .mov (.t 28), none⟩]))))))) (.seq (.region false [⟨some 4, .mov (.c (bv true)), none⟩]) .ret))))
def R.surdref01_Num_Is : List VRes := [.tmp 4]
theorem K.surdref01_Num_Is : resCode Tryd.prog Tryd.f42.ntmps (Tryd.f42.body.getD .skip) = C.surdref01_Num_Is := by kernel_rfl
theorem Q.surdref01_Num_Is : resResults Tryd.prog Tryd.f42.results.toList = some R.surdref01_Num_Is := by kernel_rfl
theorem E.surdref01_Num_Is : Tryd.prog.funcs[F.surdref01_Num_Is]? = some Tryd.f42 := Tryd.func42
theorem B.surdref01_Num_Is : Tryd.f42.body = some (Tryd.f42.body.getD .skip) := by kernel_rfl
theorem N.surdref01_Num_Is : Tryd.f42.ntmps = 29 := Tryd.ntmps42

def C.surdref01_norm : VC :=
  .seq (.region false [⟨some 2, .mov (.c nil1), none⟩]) (.seq (.region false [⟨some 4, .mov (.t 0), none⟩,
   ⟨some 5, .len (.t 4), none⟩,
   ⟨some 3, .mov (.t 5), none⟩]) (.seq (.block 0 (.loop (.seq (.seq (.region false [⟨some 6, .mov (.t 3), none⟩,
   ⟨some 7, .bin .gtr false (.t 6) (.c (iv 0)), none⟩,
   ⟨some 8, .mov (.t 7), none⟩,
   ⟨some 9, .mov (.t 0), some (8, true)⟩,
   ⟨some 10, .mov (.t 3), some (8, true)⟩,
   ⟨some 11, .bin .sub false (.t 10) (.c (iv 1)), some (8, true)⟩,
   ⟨some 12, .ixa 1 (.t 9) (.t 11), some (8, true)⟩,
   ⟨some 13, .load none (.t 12), some (8, true)⟩,
   ⟨some 14, .bin .eql false (.t 13) (.c (nv 0)), some (8, true)⟩,
   ⟨some 15, .pick (.t 8) (.t 14) (.c (bv false)), none⟩]) (.cond (.t 15) .skip (.exit 0))) (.block 1 (.region false [⟨some 16, .mov (.t 3), none⟩,
   ⟨some 17, .bin .sub false (.t 16) (.c (iv 1)), none⟩,
   ⟨some 3, .mov (.t 17), none⟩]))))) (.seq (.region false [⟨some 18, .mov (.t 0), none⟩,
   ⟨some 19, .mov (.t 3), none⟩,
   ⟨some 20, .mov (.t 3), none⟩,
   ⟨some 21, .slc 1 (.t 18) none (some (.t 19)) (some (.t 20)), none⟩,
   ⟨some 2, .mov (.t 21), none⟩]) .ret)))
def R.surdref01_norm : List VRes := [.tmp 2]
theorem K.surdref01_norm : resCode Tryd.prog Tryd.f43.ntmps (Tryd.f43.body.getD .skip) = C.surdref01_norm := by kernel_rfl
theorem Q.surdref01_norm : resResults Tryd.prog Tryd.f43.results.toList = some R.surdref01_norm := by kernel_rfl
theorem E.surdref01_norm : Tryd.prog.funcs[F.surdref01_norm]? = some Tryd.f43 := Tryd.func43
theorem B.surdref01_norm : Tryd.f43.body = some (Tryd.f43.body.getD .skip) := by kernel_rfl
theorem N.surdref01_norm : Tryd.f43.ntmps = 22 := Tryd.ntmps43

def C.surdref01_Gcd : VC :=
  .seq (.region false [⟨some 4, .mov (.c nil1), none⟩]) (.seq (.block 0 (.loop (.seq (.seq (.region false [⟨some 7, .mov (.t 1), none⟩,
   ⟨some 8, .call F.surdref01_Num_Zero [.t 7], none⟩,
   ⟨some 9, .un .not (.t 8), none⟩]) (.cond (.t 9) .skip (.exit 0))) (.block 1 (.seq (.region false [⟨some 11, .mov (.t 0), none⟩,
   ⟨some 12, .mov (.t 1), none⟩,
   ⟨some 13, .call F.surdref01_Div [.t 11, .t 12], none⟩,
   ⟨some 10, .mov (.t 13), none⟩,
   ⟨some 14, .ext (.t 10) 0, none⟩,
   ⟨some 15, .ext (.t 10) 1, none⟩,
   ⟨some 5, .mov (.t 14), none⟩,
   ⟨some 6, .mov (.t 15), none⟩]) (.region false [⟨some 16, .mov (.t 1), none⟩,
   ⟨some 17, .mov (.t 6), none⟩,
   ⟨some 0, .mov (.t 16), none⟩,
   ⟨some 1, .mov (.t 17), none⟩])))))) (.seq (.region false [⟨some 18, .mov (.t 0), none⟩,
   ⟨some 4, .mov (.t 18), none⟩]) .ret))
def R.surdref01_Gcd : List VRes := [.tmp 4]
theorem K.surdref01_Gcd : resCode Tryd.prog Tryd.f44.ntmps (Tryd.f44.body.getD .skip) = C.surdref01_Gcd := by kernel_rfl
theorem Q.surdref01_Gcd : resResults Tryd.prog Tryd.f44.results.toList = some R.surdref01_Gcd := by kernel_rfl
theorem E.surdref01_Gcd : Tryd.prog.funcs[F.surdref01_Gcd]? = some Tryd.f44 := Tryd.func44
theorem B.surdref01_Gcd : Tryd.f44.body = some (Tryd.f44.body.getD .skip) := by kernel_rfl
theorem N.surdref01_Gcd : Tryd.f44.ntmps = 19 := Tryd.ntmps44

def C.surdref01_Div : VC :=
  .seq (.region false [⟨some 4, .mov (.c nil1), none⟩,
   ⟨some 5, .mov (.c nil1), none⟩]) (.seq (.region false [⟨some 6, .mov (.c nil1), none⟩]) (.seq (.region false [⟨some 12, .mov (.t 0), none⟩,
   ⟨some 13, .len (.t 12), none⟩,
   ⟨some 14, .mk [.int .u64 0] 8 (.t 13) (.t 13), none⟩,
   ⟨some 7, .mov (.t 14), none⟩]) (.seq (.seq (.region false [⟨some 15, .mov (.t 0), none⟩,
   ⟨some 16, .len (.t 15), none⟩,
   ⟨some 17, .bin .sub false (.t 16) (.c (iv 1)), none⟩,
   ⟨some 8, .mov (.t 17), none⟩]) (.block 0 (.loop (.seq (.seq (.region false [⟨some 18, .mov (.t 8), none⟩,
   ⟨some 19, .bin .geq false (.t 18) (.c (iv 0)), none⟩]) (.cond (.t 19) .skip (.exit 0))) (.seq (.block 1 (.seq (.region true [⟨some 22, .mov (.t 6), none⟩,
   ⟨some 23, .call F.surdref01_Shl [.t 22, .c (iv 32)], none⟩,
   ⟨some 24, .mov (.t 0), none⟩,
   ⟨some 25, .mov (.t 8), none⟩,
   ⟨some 26, .ixa 1 (.t 24) (.t 25), none⟩,
   ⟨some 27, .load none (.t 26), none⟩,
   ⟨some 28, .bsl false 1 1 [.int .u64 0] [(0, (1, .t 27))], none⟩,
   ⟨some 29, .call F.surdref01_norm [.t 28], none⟩,
   ⟨some 30, .call F.surdref01_Add [.t 23, .t 29], none⟩,
   ⟨some 6, .mov (.t 30), none⟩]) (.seq (.region false [⟨some 9, .mov (.c (nv 0)), none⟩]) (.seq (.seq (.region false [⟨some 31, .mov (.t 6), none⟩,
   ⟨some 32, .mov (.t 1), none⟩,
   ⟨some 33, .call F.surdref01_Cmp [.t 31, .t 32], none⟩,
   ⟨some 34, .bin .geq false (.t 33) (.c (iv 0)), none⟩]) (.cond (.t 34) (.seq (.region false [⟨some 10, .mov (.c (iv 31)), none⟩]) (.block 2 (.loop (.seq (.seq (.region false [⟨some 35, .mov (.t 10), none⟩,
   ⟨some 36, .bin .geq false (.t 35) (.c (iv 0)), none⟩]) (.cond (.t 36) .skip (.exit 2))) (.seq (.block 3 (.seq (.region false [⟨some 39, .mov (.t 1), none⟩,
   ⟨some 40, .mov (.t 10), none⟩,
   ⟨some 41, .call F.surdref01_Shl [.t 39, .t 40], none⟩,
   ⟨some 11, .mov (.t 41), none⟩]) (.seq (.region false [⟨some 42, .mov (.t 6), none⟩,
   ⟨some 43, .mov (.t 11), none⟩,
   ⟨some 44, .call F.surdref01_Cmp [.t 42, .t 43], none⟩,
   ⟨some 45, .bin .geq false (.t 44) (.c (iv 0)), none⟩]) (.cond (.t 45) (.seq (.region false [⟨some 46, .mov (.t 6), none⟩,
   ⟨some 47, .mov (.t 11), none⟩,
   ⟨some 48, .call F.surdref01_Sub [.t 46, .t 47], none⟩,
   ⟨some 6, .mov (.t 48), none⟩]) (.region false [⟨some 49, .mov (.t 9), none⟩,
   ⟨some 50, .mov (.t 10), none⟩,
   ⟨some 51, .bin .shl false (.c (nv 1)) (.t 50), none⟩,
   ⟨some 52, .bin .add false (.t 49) (.t 51), none⟩,
   ⟨some 9, .mov (.t 52), none⟩])) .skip)))) (.region false [⟨some 37, .mov (.t 10), none⟩,
   ⟨some 38, .bin .sub false (.t 37) (.c (iv 1)), none⟩,
   ⟨some 10, .mov (.t 38), none⟩])))))) .skip)) (.region false [⟨some 53, .mov (.t 7), none⟩,
   ⟨some 54, .mov (.t 8), none⟩,
   ⟨some 55, .mov (.t 9), none⟩,
   ⟨some 56, .ixa 1 (.t 53) (.t 54), none⟩,
   ⟨none, .store 1 (.t 56) (.t 55), none⟩]))))) (.region false [⟨some 20, .mov (.t 8), none⟩,
   ⟨some 21, .bin .sub false (.t 20) (.c (iv 1)), none⟩,
   ⟨some 8, .mov (.t 21), none⟩])))))) (.seq (.region false [⟨some 57, .mov (.t 7), none⟩,
   ⟨some 58, .call F.surdref01_norm [.t 57], none⟩,
   ⟨some 59, .mov (.t 6), none⟩,
   ⟨some 4, .mov (.t 58), none⟩,
   ⟨some 5, .mov (.t 59), none⟩]) .ret))))
def R.surdref01_Div : List VRes := [.tmp 4, .tmp 5]
theorem K.surdref01_Div : resCode Tryd.prog Tryd.f45.ntmps (Tryd.f45.body.getD .skip) = C.surdref01_Div := by kernel_rfl
theorem Q.surdref01_Div : resResults Tryd.prog Tryd.f45.results.toList = some R.surdref01_Div := by kernel_rfl
theorem E.surdref01_Div : Tryd.prog.funcs[F.surdref01_Div]? = some Tryd.f45 := Tryd.func45
theorem B.surdref01_Div : Tryd.f45.body = some (Tryd.f45.body.getD .skip) := by kernel_rfl
theorem N.surdref01_Div : Tryd.f45.ntmps = 60 := Tryd.ntmps45

def C.nat_Norm : VC :=
  .seq (.region false [⟨some 2, .mov (.c nil1), none⟩]) (.seq (.region false [⟨some 3, .mov (.t 0), none⟩,
   ⟨some 4, .call F.nat_trim [.t 3], none⟩,
   ⟨some 5, .app 1 8 [.int .u64 0] (.c nil1) (.t 4), none⟩,
   ⟨some 2, .mov (.t 5), none⟩]) .ret)
def R.nat_Norm : List VRes := [.tmp 2]
theorem K.nat_Norm : resCode Tryd.prog Tryd.f46.ntmps (Tryd.f46.body.getD .skip) = C.nat_Norm := by kernel_rfl
theorem Q.nat_Norm : resResults Tryd.prog Tryd.f46.results.toList = some R.nat_Norm := by kernel_rfl
theorem E.nat_Norm : Tryd.prog.funcs[F.nat_Norm]? = some Tryd.f46 := Tryd.func46
theorem B.nat_Norm : Tryd.f46.body = some (Tryd.f46.body.getD .skip) := by kernel_rfl
theorem N.nat_Norm : Tryd.f46.ntmps = 6 := Tryd.ntmps46

def C.div_Quo : VC :=
  .seq (.region false [⟨some 4, .mov (.c nil1), none⟩,
   ⟨some 5, .mov (.c (iv 0)), none⟩]) (.seq (.region false [⟨some 8, .mov (.t 0), none⟩,
   ⟨some 9, .call F.nat_Norm [.t 8], none⟩,
   ⟨some 10, .mov (.t 1), none⟩,
   ⟨some 11, .call F.nat_Norm [.t 10], none⟩,
   ⟨some 0, .mov (.t 9), none⟩,
   ⟨some 1, .mov (.t 11), none⟩]) (.seq (.seq (.region false [⟨some 12, .mov (.t 1), none⟩,
   ⟨some 13, .len (.t 12), none⟩,
   ⟨some 14, .bin .eql false (.t 13) (.c (iv 0)), none⟩]) (.cond (.t 14) (.seq (.region false [⟨some 4, .mov (.c nil1), none⟩,
   ⟨some 5, .mov (.c (iv 30)), none⟩]) .ret) .skip)) (.seq (.region false [⟨some 16, .mov (.t 0), none⟩,
   ⟨some 17, .mov (.t 1), none⟩,
   ⟨some 18, .call F.div_divide [.t 16, .t 17], none⟩,
   ⟨some 15, .mov (.t 18), none⟩,
   ⟨some 19, .ext (.t 15) 0, none⟩,
   ⟨some 20, .ext (.t 15) 1, none⟩,
   ⟨some 6, .mov (.t 19), none⟩,
   ⟨some 7, .mov (.t 20), none⟩]) (.seq (.seq (.region false [⟨some 21, .mov (.t 6), none⟩,
   ⟨some 22, .call F.nat_Length [.t 21], none⟩,
   ⟨some 23, .bin .gtr false (.t 22) (.c (iv 67108864)), none⟩]) (.cond (.t 23) (.seq (.region false [⟨some 4, .mov (.c nil1), none⟩,
   ⟨some 5, .mov (.c (iv 3)), none⟩]) .ret) .skip)) (.seq (.region false [⟨some 24, .mov (.t 6), none⟩,
   ⟨some 4, .mov (.t 24), none⟩,
   ⟨some 5, .mov (.c (iv 0)), none⟩]) .ret)))))
def R.div_Quo : List VRes := [.tmp 4, .tmp 5]
theorem K.div_Quo : resCode Tryd.prog Tryd.f47.ntmps (Tryd.f47.body.getD .skip) = C.div_Quo := by kernel_rfl
theorem Q.div_Quo : resResults Tryd.prog Tryd.f47.results.toList = some R.div_Quo := by kernel_rfl
theorem E.div_Quo : Tryd.prog.funcs[F.div_Quo]? = some Tryd.f47 := Tryd.func47
theorem B.div_Quo : Tryd.f47.body = some (Tryd.f47.body.getD .skip) := by kernel_rfl
theorem N.div_Quo : Tryd.f47.ntmps = 25 := Tryd.ntmps47

def C.rounded_minus : VC :=
  .seq (.region false [⟨some 4, .mov (.c nil1), none⟩]) (.seq (.region false [⟨some 10, .mov (.t 0), none⟩,
   ⟨some 11, .app 1 8 [.int .u64 0] (.c nil1) (.t 10), none⟩,
   ⟨some 5, .mov (.t 11), none⟩]) (.seq (.region false [⟨some 6, .mov (.c (nv 0)), none⟩]) (.seq (.seq (.region false [⟨some 12, .mov (.t 5), none⟩,
   ⟨some 13, .len (.t 12), none⟩,
   ⟨some 14, .mov (.c (iv 0)), none⟩]) (.block 0 (.loop (.seq (.region false [⟨some 15, .bin .lss false (.t 14) (.t 13), none⟩]) (.seq (.cond (.t 15) .skip (.exit 0)) (.seq (.block 1 (.seq (.region false [⟨some 16, .mov (.t 14), none⟩,
   ⟨some 7, .mov (.t 16), none⟩]) (.seq (.region false [⟨some 8, .mov (.c (nv 0)), none⟩]) (.seq (.seq (.region false [⟨some 17, .mov (.t 7), none⟩,
   ⟨some 18, .mov (.t 1), none⟩,
   ⟨some 19, .len (.t 18), none⟩,
   ⟨some 20, .bin .lss false (.t 17) (.t 19), none⟩]) (.cond (.t 20) (.region false [⟨some 21, .mov (.t 1), none⟩,
   ⟨some 22, .mov (.t 7), none⟩,
   ⟨some 23, .ixa 1 (.t 21) (.t 22), none⟩,
   ⟨some 24, .load none (.t 23), none⟩,
   ⟨some 8, .mov (.t 24), none⟩]) .skip)) (.seq (.region false [⟨some 25, .mov (.t 5), none⟩,
   ⟨some 26, .mov (.t 7), none⟩,
   ⟨some 27, .ixa 1 (.t 25) (.t 26), none⟩,
   ⟨some 28, .load none (.t 27), none⟩,
   ⟨some 9, .mov (.t 28), none⟩]) (.seq (.region false [⟨some 29, .mov (.t 5), none⟩,
   ⟨some 30, .mov (.t 7), none⟩,
   ⟨some 31, .mov (.t 9), none⟩,
   ⟨some 32, .mov (.t 8), none⟩,
   ⟨some 33, .bin .sub false (.t 31) (.t 32), none⟩,
   ⟨some 34, .mov (.t 6), none⟩,
   ⟨some 35, .bin .sub false (.t 33) (.t 34), none⟩,
   ⟨some 36, .ixa 1 (.t 29) (.t 30), none⟩,
   ⟨none, .store 1 (.t 36) (.t 35), none⟩]) (.seq (.region false [⟨some 37, .mov (.t 9), none⟩,
   ⟨some 38, .mov (.t 8), none⟩,
   ⟨some 39, .bin .lss false (.t 37) (.t 38), none⟩,
   ⟨some 40, .mov (.t 39), none⟩,
   ⟨some 41, .mov (.t 9), some (40, false)⟩,
   ⟨some 42, .mov (.t 8), some (40, false)⟩,
   ⟨some 43, .bin .eql false (.t 41) (.t 42), some (40, false)⟩,
   ⟨some 44, .mov (.t 43), some (40, false)⟩,
   ⟨some 45, .mov (.t 6), some (44, true)⟩,
   ⟨some 46, .bin .eql false (.t 45) (.c (nv 1)), some (44, true)⟩,
   ⟨some 47, .pick (.t 44) (.t 46) (.c (bv false)), some (40, false)⟩,
   ⟨some 48, .pick (.t 40) (.c (bv true)) (.t 47), none⟩]) (.cond (.t 48) (.region false [⟨some 6, .mov (.c (nv 1)), none⟩]) (.region false [⟨some 6, .mov (.c (nv 0)), none⟩]))))))))) (.region false [⟨some 49, .bin .add false (.t 14) (.c (iv 1)), none⟩,
   ⟨some 14, .mov (.t 49), none⟩]))))))) (.seq (.region false [⟨some 50, .mov (.t 5), none⟩,
   ⟨some 51, .call F.nat_Norm [.t 50], none⟩,
   ⟨some 4, .mov (.t 51), none⟩]) .ret))))
def R.rounded_minus : List VRes := [.tmp 4]
theorem K.rounded_minus : resCode Tryd.prog Tryd.f48.ntmps (Tryd.f48.body.getD .skip) = C.rounded_minus := by kernel_rfl
theorem Q.rounded_minus : resResults Tryd.prog Tryd.f48.results.toList = some R.rounded_minus := by kernel_rfl
theorem E.rounded_minus : Tryd.prog.funcs[F.rounded_minus]? = some Tryd.f48 := Tryd.func48
theorem B.rounded_minus : Tryd.f48.body = some (Tryd.f48.body.getD .skip) := by kernel_rfl
theorem N.rounded_minus : Tryd.f48.ntmps = 52 := Tryd.ntmps48

def C.rounded_times : VC :=
  .seq (.region false [⟨some 4, .mov (.c nil1), none⟩]) (.seq (.region false [⟨some 12, .mov (.t 0), none⟩,
   ⟨some 13, .mov (.t 1), none⟩,
   ⟨some 14, .call F.mul_Mul [.t 12, .t 13], none⟩,
   ⟨some 11, .mov (.t 14), none⟩,
   ⟨some 15, .ext (.t 11) 0, none⟩,
   ⟨some 16, .ext (.t 11) 1, none⟩,
   ⟨some 5, .mov (.t 15), none⟩,
   ⟨some 6, .mov (.t 16), none⟩]) (.seq (.seq (.region false [⟨some 17, .mov (.t 6), none⟩,
   ⟨some 18, .bin .eql false (.t 17) (.c (iv 0)), none⟩]) (.cond (.t 18) (.seq (.region false [⟨some 19, .mov (.t 5), none⟩,
   ⟨some 4, .mov (.t 19), none⟩]) .ret) .skip)) (.seq (.region false [⟨some 7, .mov (.c nil1), none⟩]) (.seq (.seq (.region false [⟨some 20, .mov (.t 1), none⟩,
   ⟨some 21, .len (.t 20), none⟩,
   ⟨some 22, .bin .sub false (.t 21) (.c (iv 1)), none⟩,
   ⟨some 8, .mov (.t 22), none⟩]) (.block 0 (.loop (.seq (.seq (.region false [⟨some 23, .mov (.t 8), none⟩,
   ⟨some 24, .bin .geq false (.t 23) (.c (iv 0)), none⟩]) (.cond (.t 24) .skip (.exit 0))) (.seq (.block 1 (.seq (.region false [⟨some 27, .mov (.t 7), none⟩,
   ⟨some 28, .call F.rounded_left [.t 27, .c (iv 64)], none⟩,
   ⟨some 7, .mov (.t 28), none⟩]) (.seq (.region false [⟨some 30, .mov (.t 0), none⟩,
   ⟨some 31, .mov (.t 1), none⟩,
   ⟨some 32, .mov (.t 8), none⟩,
   ⟨some 33, .ixa 1 (.t 31) (.t 32), none⟩,
   ⟨some 34, .load none (.t 33), none⟩,
   ⟨some 35, .call F.nat_From [.t 34], none⟩,
   ⟨some 36, .call F.mul_Mul [.t 30, .t 35], none⟩,
   ⟨some 29, .mov (.t 36), none⟩,
   ⟨some 37, .ext (.t 29) 0, none⟩,
   ⟨some 38, .ext (.t 29) 1, none⟩,
   ⟨some 9, .mov (.t 37), none⟩,
   ⟨some 10, .mov (.t 38), none⟩]) (.region false [⟨some 39, .mov (.t 7), none⟩,
   ⟨some 40, .mov (.t 9), none⟩,
   ⟨some 41, .call F.rounded_plus [.t 39, .t 40], none⟩,
   ⟨some 7, .mov (.t 41), none⟩])))) (.region false [⟨some 25, .mov (.t 8), none⟩,
   ⟨some 26, .bin .sub false (.t 25) (.c (iv 1)), none⟩,
   ⟨some 8, .mov (.t 26), none⟩])))))) (.seq (.region false [⟨some 42, .mov (.t 7), none⟩,
   ⟨some 4, .mov (.t 42), none⟩]) .ret)))))
def R.rounded_times : List VRes := [.tmp 4]
theorem K.rounded_times : resCode Tryd.prog Tryd.f49.ntmps (Tryd.f49.body.getD .skip) = C.rounded_times := by kernel_rfl
theorem Q.rounded_times : resResults Tryd.prog Tryd.f49.results.toList = some R.rounded_times := by kernel_rfl
theorem E.rounded_times : Tryd.prog.funcs[F.rounded_times]? = some Tryd.f49 := Tryd.func49
theorem B.rounded_times : Tryd.f49.body = some (Tryd.f49.body.getD .skip) := by kernel_rfl
theorem N.rounded_times : Tryd.f49.ntmps = 43 := Tryd.ntmps49

def C.nat_Compare : VC :=
  .seq (.region false [⟨some 4, .mov (.c (iv 0)), none⟩]) (.seq (.region false [⟨some 6, .mov (.t 0), none⟩,
   ⟨some 7, .call F.nat_trim [.t 6], none⟩,
   ⟨some 8, .mov (.t 1), none⟩,
   ⟨some 9, .call F.nat_trim [.t 8], none⟩,
   ⟨some 0, .mov (.t 7), none⟩,
   ⟨some 1, .mov (.t 9), none⟩]) (.seq (.seq (.region false [⟨some 10, .mov (.t 0), none⟩,
   ⟨some 11, .len (.t 10), none⟩,
   ⟨some 12, .mov (.t 1), none⟩,
   ⟨some 13, .len (.t 12), none⟩,
   ⟨some 14, .bin .neq false (.t 11) (.t 13), none⟩]) (.cond (.t 14) (.seq (.seq (.region false [⟨some 15, .mov (.t 0), none⟩,
   ⟨some 16, .len (.t 15), none⟩,
   ⟨some 17, .mov (.t 1), none⟩,
   ⟨some 18, .len (.t 17), none⟩,
   ⟨some 19, .bin .lss false (.t 16) (.t 18), none⟩]) (.cond (.t 19) (.seq (.region false [⟨some 4, .mov (.c (iv (-1))), none⟩]) .ret) .skip)) (.seq (.region false [⟨some 4, .mov (.c (iv 1)), none⟩]) .ret)) .skip)) (.seq (.seq (.region false [⟨some 20, .mov (.t 0), none⟩,
   ⟨some 21, .len (.t 20), none⟩,
   ⟨some 22, .bin .sub false (.t 21) (.c (iv 1)), none⟩,
   ⟨some 5, .mov (.t 22), none⟩]) (.block 0 (.loop (.seq (.seq (.region false [⟨some 23, .mov (.t 5), none⟩,
   ⟨some 24, .bin .geq false (.t 23) (.c (iv 0)), none⟩]) (.cond (.t 24) .skip (.exit 0))) (.seq (.block 1 (.seq (.seq (.region true [⟨some 27, .mov (.t 0), none⟩,
   ⟨some 28, .mov (.t 5), none⟩,
   ⟨some 29, .ixa 1 (.t 27) (.t 28), none⟩,
   ⟨some 30, .load none (.t 29), none⟩,
   ⟨some 31, .mov (.t 1), none⟩,
   ⟨some 32, .mov (.t 5), none⟩,
   ⟨some 33, .ixa 1 (.t 31) (.t 32), none⟩,
   ⟨some 34, .load none (.t 33), none⟩,
   ⟨some 35, .bin .lss false (.t 30) (.t 34), none⟩]) (.cond (.t 35) (.seq (.region false [⟨some 4, .mov (.c (iv (-1))), none⟩]) .ret) .skip)) (.seq (.region true [⟨some 36, .mov (.t 0), none⟩,
   ⟨some 37, .mov (.t 5), none⟩,
   ⟨some 38, .ixa 1 (.t 36) (.t 37), none⟩,
   ⟨some 39, .load none (.t 38), none⟩,
   ⟨some 40, .mov (.t 1), none⟩,
   ⟨some 41, .mov (.t 5), none⟩,
   ⟨some 42, .ixa 1 (.t 40) (.t 41), none⟩,
   ⟨some 43, .load none (.t 42), none⟩,
   ⟨some 44, .bin .gtr false (.t 39) (.t 43), none⟩]) (.cond (.t 44) (.seq (.region false [⟨some 4, .mov (.c (iv 1)), none⟩]) .ret) .skip)))) (.region false [⟨some 25, .mov (.t 5), none⟩,
   ⟨some 26, .bin .sub false (.t 25) (.c (iv 1)), none⟩,
   ⟨some 5, .mov (.t 26), none⟩])))))) (.seq (.region false [⟨some 4, .mov (.c (iv 0)), none⟩]) .ret))))
def R.nat_Compare : List VRes := [.tmp 4]
theorem K.nat_Compare : resCode Tryd.prog Tryd.f50.ntmps (Tryd.f50.body.getD .skip) = C.nat_Compare := by kernel_rfl
theorem Q.nat_Compare : resResults Tryd.prog Tryd.f50.results.toList = some R.nat_Compare := by kernel_rfl
theorem E.nat_Compare : Tryd.prog.funcs[F.nat_Compare]? = some Tryd.f50 := Tryd.func50
theorem B.nat_Compare : Tryd.f50.body = some (Tryd.f50.body.getD .skip) := by kernel_rfl
theorem N.nat_Compare : Tryd.f50.ntmps = 45 := Tryd.ntmps50

def C.surdref01_Num_Bit : VC :=
  .seq (.region false [⟨some 4, .mov (.c (iv 0)), none⟩]) (.seq (.seq (.region false [⟨some 5, .mov (.t 1), none⟩,
   ⟨some 6, .bin .lss false (.t 5) (.c (iv 0)), none⟩,
   ⟨some 7, .mov (.t 6), none⟩,
   ⟨some 8, .mov (.t 1), some (7, false)⟩,
   ⟨some 9, .bin .quo false (.t 8) (.c (iv 32)), some (7, false)⟩,
   ⟨some 10, .mov (.t 0), some (7, false)⟩,
   ⟨some 11, .len (.t 10), some (7, false)⟩,
   ⟨some 12, .bin .geq false (.t 9) (.t 11), some (7, false)⟩,
   ⟨some 13, .pick (.t 7) (.c (bv true)) (.t 12), none⟩]) (.cond (.t 13) (.seq (.region false [⟨some 4, .mov (.c (iv 0)), none⟩]) .ret) .skip)) (.seq (.region false [⟨some 14, .mov (.t 0), none⟩,
   ⟨some 15, .mov (.t 1), none⟩,
   ⟨some 16, .bin .quo false (.t 15) (.c (iv 32)), none⟩,
   ⟨some 17, .ixa 1 (.t 14) (.t 16), none⟩,
   ⟨some 18, .load none (.t 17), none⟩,
   ⟨some 19, .mov (.t 1), none⟩,
   ⟨some 20, .bin .rem false (.t 19) (.c (iv 32)), none⟩,
   ⟨some 21, .bin .shr false (.t 18) (.t 20), none⟩,
   ⟨some 22, .bin .and false (.t 21) (.c (nv 1)), none⟩,
   ⟨some 23, .conv .i64 (.t 22), none⟩,
   ⟨some 4, .mov (.t 23), none⟩]) .ret))
def R.surdref01_Num_Bit : List VRes := [.tmp 4]
theorem K.surdref01_Num_Bit : resCode Tryd.prog Tryd.f51.ntmps (Tryd.f51.body.getD .skip) = C.surdref01_Num_Bit := by kernel_rfl
theorem Q.surdref01_Num_Bit : resResults Tryd.prog Tryd.f51.results.toList = some R.surdref01_Num_Bit := by kernel_rfl
theorem E.surdref01_Num_Bit : Tryd.prog.funcs[F.surdref01_Num_Bit]? = some Tryd.f51 := Tryd.func51
theorem B.surdref01_Num_Bit : Tryd.f51.body = some (Tryd.f51.body.getD .skip) := by kernel_rfl
theorem N.surdref01_Num_Bit : Tryd.f51.ntmps = 24 := Tryd.ntmps51

def C.surdref01_Num_at : VC :=
  .seq (.region false [⟨some 4, .mov (.c (nv 0)), none⟩]) (.seq (.seq (.region false [⟨some 5, .mov (.t 1), none⟩,
   ⟨some 6, .mov (.t 0), none⟩,
   ⟨some 7, .len (.t 6), none⟩,
   ⟨some 8, .bin .lss false (.t 5) (.t 7), none⟩]) (.cond (.t 8) (.seq (.region false [⟨some 9, .mov (.t 0), none⟩,
   ⟨some 10, .mov (.t 1), none⟩,
   ⟨some 11, .ixa 1 (.t 9) (.t 10), none⟩,
   ⟨some 12, .load none (.t 11), none⟩,
   ⟨some 4, .mov (.t 12), none⟩]) .ret) .skip)) (.seq (.region false [⟨some 4, .mov (.c (nv 0)), none⟩]) .ret))
def R.surdref01_Num_at : List VRes := [.tmp 4]
theorem K.surdref01_Num_at : resCode Tryd.prog Tryd.f52.ntmps (Tryd.f52.body.getD .skip) = C.surdref01_Num_at := by kernel_rfl
theorem Q.surdref01_Num_at : resResults Tryd.prog Tryd.f52.results.toList = some R.surdref01_Num_at := by kernel_rfl
theorem E.surdref01_Num_at : Tryd.prog.funcs[F.surdref01_Num_at]? = some Tryd.f52 := Tryd.func52
theorem B.surdref01_Num_at : Tryd.f52.body = some (Tryd.f52.body.getD .skip) := by kernel_rfl
theorem N.surdref01_Num_at : Tryd.f52.ntmps = 13 := Tryd.ntmps52

def C.surdref01_Add : VC :=
  .seq (.region false [⟨some 4, .mov (.c nil1), none⟩]) (.seq (.region false [⟨some 10, .mov (.t 0), none⟩,
   ⟨some 11, .len (.t 10), none⟩,
   ⟨some 5, .mov (.t 11), none⟩]) (.seq (.seq (.region false [⟨some 12, .mov (.t 1), none⟩,
   ⟨some 13, .len (.t 12), none⟩,
   ⟨some 14, .mov (.t 5), none⟩,
   ⟨some 15, .bin .gtr false (.t 13) (.t 14), none⟩]) (.cond (.t 15) (.region false [⟨some 16, .mov (.t 1), none⟩,
   ⟨some 17, .len (.t 16), none⟩,
   ⟨some 5, .mov (.t 17), none⟩]) .skip)) (.seq (.region false [⟨some 18, .mov (.t 5), none⟩,
   ⟨some 19, .bin .add false (.t 18) (.c (iv 1)), none⟩,
   ⟨some 20, .mk [.int .u64 0] 8 (.t 19) (.t 19), none⟩,
   ⟨some 6, .mov (.t 20), none⟩]) (.seq (.region false [⟨some 7, .mov (.c (nv 0)), none⟩]) (.seq (.seq (.region false [⟨some 8, .mov (.c (iv 0)), none⟩]) (.block 0 (.loop (.seq (.seq (.region false [⟨some 21, .mov (.t 8), none⟩,
   ⟨some 22, .mov (.t 5), none⟩,
   ⟨some 23, .bin .leq false (.t 21) (.t 22), none⟩]) (.cond (.t 23) .skip (.exit 0))) (.seq (.block 1 (.seq (.region false [⟨some 26, .mov (.t 0), none⟩,
   ⟨some 27, .mov (.t 8), none⟩,
   ⟨some 28, .call F.surdref01_Num_at [.t 26, .t 27], none⟩,
   ⟨some 29, .mov (.t 1), none⟩,
   ⟨some 30, .mov (.t 8), none⟩,
   ⟨some 31, .call F.surdref01_Num_at [.t 29, .t 30], none⟩,
   ⟨some 32, .bin .add false (.t 28) (.t 31), none⟩,
   ⟨some 33, .mov (.t 7), none⟩,
   ⟨some 34, .bin .add false (.t 32) (.t 33), none⟩,
   ⟨some 9, .mov (.t 34), none⟩]) (.seq (.region false [⟨some 35, .mov (.t 6), none⟩,
   ⟨some 36, .mov (.t 8), none⟩,
   ⟨some 37, .mov (.t 9), none⟩,
   ⟨some 38, .bin .rem false (.t 37) (.c (nv 4294967296)), none⟩,
   ⟨some 39, .ixa 1 (.t 35) (.t 36), none⟩,
   ⟨none, .store 1 (.t 39) (.t 38), none⟩]) (.region false [⟨some 40, .mov (.t 9), none⟩,
   ⟨some 41, .bin .quo false (.t 40) (.c (nv 4294967296)), none⟩,
   ⟨some 7, .mov (.t 41), none⟩])))) (.region false [⟨some 24, .mov (.t 8), none⟩,
   ⟨some 25, .bin .add false (.t 24) (.c (iv 1)), none⟩,
   ⟨some 8, .mov (.t 25), none⟩])))))) (.seq (.region false [⟨some 42, .mov (.t 6), none⟩,
   ⟨some 43, .call F.surdref01_norm [.t 42], none⟩,
   ⟨some 4, .mov (.t 43), none⟩]) .ret))))))
def R.surdref01_Add : List VRes := [.tmp 4]
theorem K.surdref01_Add : resCode Tryd.prog Tryd.f53.ntmps (Tryd.f53.body.getD .skip) = C.surdref01_Add := by kernel_rfl
theorem Q.surdref01_Add : resResults Tryd.prog Tryd.f53.results.toList = some R.surdref01_Add := by kernel_rfl
theorem E.surdref01_Add : Tryd.prog.funcs[F.surdref01_Add]? = some Tryd.f53 := Tryd.func53
theorem B.surdref01_Add : Tryd.f53.body = some (Tryd.f53.body.getD .skip) := by kernel_rfl
theorem N.surdref01_Add : Tryd.f53.ntmps = 44 := Tryd.ntmps53

def C.surdref01_Sub : VC :=
  .seq (.region false [⟨some 4, .mov (.c nil1), none⟩]) (.seq (.region false [⟨some 9, .mov (.t 0), none⟩,
   ⟨some 10, .len (.t 9), none⟩,
   ⟨some 11, .mk [.int .u64 0] 8 (.t 10) (.t 10), none⟩,
   ⟨some 5, .mov (.t 11), none⟩]) (.seq (.region false [⟨some 6, .mov (.c (nv 0)), none⟩]) (.seq (.seq (.region false [⟨some 12, .mov (.t 0), none⟩,
   ⟨some 13, .len (.t 12), none⟩,
   ⟨some 14, .mov (.c (iv 0)), none⟩]) (.block 0 (.loop (.seq (.region false [⟨some 15, .bin .lss false (.t 14) (.t 13), none⟩]) (.seq (.cond (.t 15) .skip (.exit 0)) (.seq (.block 1 (.seq (.region false [⟨some 16, .mov (.t 14), none⟩,
   ⟨some 7, .mov (.t 16), none⟩]) (.seq (.region true [⟨some 17, .mov (.t 0), none⟩,
   ⟨some 18, .mov (.t 7), none⟩,
   ⟨some 19, .ixa 1 (.t 17) (.t 18), none⟩,
   ⟨some 20, .load none (.t 19), none⟩,
   ⟨some 21, .bin .add false (.t 20) (.c (nv 4294967296)), none⟩,
   ⟨some 22, .mov (.t 1), none⟩,
   ⟨some 23, .mov (.t 7), none⟩,
   ⟨some 24, .call F.surdref01_Num_at [.t 22, .t 23], none⟩,
   ⟨some 25, .bin .sub false (.t 21) (.t 24), none⟩,
   ⟨some 26, .mov (.t 6), none⟩,
   ⟨some 27, .bin .sub false (.t 25) (.t 26), none⟩,
   ⟨some 8, .mov (.t 27), none⟩]) (.seq (.region false [⟨some 28, .mov (.t 5), none⟩,
   ⟨some 29, .mov (.t 7), none⟩,
   ⟨some 30, .mov (.t 8), none⟩,
   ⟨some 31, .bin .rem false (.t 30) (.c (nv 4294967296)), none⟩,
   ⟨some 32, .ixa 1 (.t 28) (.t 29), none⟩,
   ⟨none, .store 1 (.t 32) (.t 31), none⟩]) (.region false [⟨some 33, .mov (.t 8), none⟩,
   ⟨some 34, .bin .quo false (.t 33) (.c (nv 4294967296)), none⟩,
   ⟨some 35, .bin .sub false (.c (nv 1)) (.t 34), none⟩,
   ⟨some 6, .mov (.t 35), none⟩]))))) (.region false [⟨some 36, .bin .add false (.t 14) (.c (iv 1)), none⟩,
   ⟨some 14, .mov (.t 36), none⟩]))))))) (.seq (.region false [⟨some 37, .mov (.t 5), none⟩,
   ⟨some 38, .call F.surdref01_norm [.t 37], none⟩,
   ⟨some 4, .mov (.t 38), none⟩]) .ret))))
def R.surdref01_Sub : List VRes := [.tmp 4]
theorem K.surdref01_Sub : resCode Tryd.prog Tryd.f54.ntmps (Tryd.f54.body.getD .skip) = C.surdref01_Sub := by kernel_rfl
theorem Q.surdref01_Sub : resResults Tryd.prog Tryd.f54.results.toList = some R.surdref01_Sub := by kernel_rfl
theorem E.surdref01_Sub : Tryd.prog.funcs[F.surdref01_Sub]? = some Tryd.f54 := Tryd.func54
theorem B.surdref01_Sub : Tryd.f54.body = some (Tryd.f54.body.getD .skip) := by kernel_rfl
theorem N.surdref01_Sub : Tryd.f54.ntmps = 39 := Tryd.ntmps54

def C.nat_trim : VC :=
  .seq (.region false [⟨some 2, .mov (.c nil1), none⟩]) (.seq (.block 0 (.loop (.seq (.seq (.region false [⟨some 3, .mov (.t 0), none⟩,
   ⟨some 4, .len (.t 3), none⟩,
   ⟨some 5, .bin .gtr false (.t 4) (.c (iv 0)), none⟩,
   ⟨some 6, .mov (.t 5), none⟩,
   ⟨some 7, .mov (.t 0), some (6, true)⟩,
   ⟨some 8, .mov (.t 0), some (6, true)⟩,
   ⟨some 9, .len (.t 8), some (6, true)⟩,
   ⟨some 10, .bin .sub false (.t 9) (.c (iv 1)), some (6, true)⟩,
   ⟨some 11, .ixa 1 (.t 7) (.t 10), some (6, true)⟩,
   ⟨some 12, .load none (.t 11), some (6, true)⟩,
   ⟨some 13, .bin .eql false (.t 12) (.c (nv 0)), some (6, true)⟩,
   ⟨some 14, .pick (.t 6) (.t 13) (.c (bv false)), none⟩]) (.cond (.t 14) .skip (.exit 0))) (.block 1 (.region false [⟨some 15, .mov (.t 0), none⟩,
   ⟨some 16, .mov (.t 0), none⟩,
   ⟨some 17, .len (.t 16), none⟩,
   ⟨some 18, .bin .sub false (.t 17) (.c (iv 1)), none⟩,
   ⟨some 19, .slc 1 (.t 15) none (some (.t 18)) none, none⟩,
   ⟨some 0, .mov (.t 19), none⟩]))))) (.seq (.region false [⟨some 20, .mov (.t 0), none⟩,
   ⟨some 2, .mov (.t 20), none⟩]) .ret))
def R.nat_trim : List VRes := [.tmp 2]
theorem K.nat_trim : resCode Tryd.prog Tryd.f55.ntmps (Tryd.f55.body.getD .skip) = C.nat_trim := by kernel_rfl
theorem Q.nat_trim : resResults Tryd.prog Tryd.f55.results.toList = some R.nat_trim := by kernel_rfl
theorem E.nat_trim : Tryd.prog.funcs[F.nat_trim]? = some Tryd.f55 := Tryd.func55
theorem B.nat_trim : Tryd.f55.body = some (Tryd.f55.body.getD .skip) := by kernel_rfl
theorem N.nat_trim : Tryd.f55.ntmps = 21 := Tryd.ntmps55

def C.bits_Len64 : VC :=
  .seq (.region false [⟨some 2, .mov (.c (iv 0)), none⟩]) (.seq (.seq (.region false [⟨some 3, .mov (.t 0), none⟩,
   ⟨some 4, .bin .geq false (.t 3) (.c (nv 4294967296)), none⟩]) (.cond (.t 4) (.seq (.region false [⟨some 5, .mov (.t 0), none⟩,
   ⟨some 6, .bin .shr false (.t 5) (.c (nv 32)), none⟩,
   ⟨some 0, .mov (.t 6), none⟩]) (.region false [⟨some 2, .mov (.c (iv 32)), none⟩])) .skip)) (.seq (.seq (.region false [⟨some 7, .mov (.t 0), none⟩,
   ⟨some 8, .bin .geq false (.t 7) (.c (nv 65536)), none⟩]) (.cond (.t 8) (.seq (.region false [⟨some 9, .mov (.t 0), none⟩,
   ⟨some 10, .bin .shr false (.t 9) (.c (nv 16)), none⟩,
   ⟨some 0, .mov (.t 10), none⟩]) (.region false [⟨some 11, .mov (.t 2), none⟩,
   ⟨some 12, .bin .add false (.t 11) (.c (iv 16)), none⟩,
   ⟨some 2, .mov (.t 12), none⟩])) .skip)) (.seq (.seq (.region false [⟨some 13, .mov (.t 0), none⟩,
   ⟨some 14, .bin .geq false (.t 13) (.c (nv 256)), none⟩]) (.cond (.t 14) (.seq (.region false [⟨some 15, .mov (.t 0), none⟩,
   ⟨some 16, .bin .shr false (.t 15) (.c (nv 8)), none⟩,
   ⟨some 0, .mov (.t 16), none⟩]) (.region false [⟨some 17, .mov (.t 2), none⟩,
   ⟨some 18, .bin .add false (.t 17) (.c (iv 8)), none⟩,
   ⟨some 2, .mov (.t 18), none⟩])) .skip)) (.seq (.region false [⟨some 19, .mov (.t 2), none⟩,
   ⟨some 20, .mov (.t 0), none⟩,
   ⟨some 21, .conv .u8 (.t 20), none⟩,
   ⟨some 22, .six (.c (.lit (.string ⟨#[0, 1, 2, 2, 3, 3, 3, 3, 4, 4, 4, 4, 4, 4, 4, 4, 5, 5, 5, 5, 5, 5, 5, 5, 5, 5, 5, 5, 5, 5, 5, 5, 6, 6, 6, 6, 6, 6, 6, 6, 6, 6, 6, 6, 6, 6, 6, 6, 6, 6, 6, 6, 6, 6, 6, 6, 6, 6, 6, 6, 6, 6, 6, 6, 7, 7, 7, 7, 7, 7, 7, 7, 7, 7, 7, 7, 7, 7, 7, 7, 7, 7, 7, 7, 7, 7, 7, 7, 7, 7, 7, 7, 7, 7, 7, 7, 7, 7, 7, 7, 7, 7, 7, 7, 7, 7, 7, 7, 7, 7, 7, 7, 7, 7, 7, 7, 7, 7, 7, 7, 7, 7, 7, 7, 7, 7, 7, 7, 8, 8, 8, 8, 8, 8, 8, 8, 8, 8, 8, 8, 8, 8, 8, 8, 8, 8, 8, 8, 8, 8, 8, 8, 8, 8, 8, 8, 8, 8, 8, 8, 8, 8, 8, 8, 8, 8, 8, 8, 8, 8, 8, 8, 8, 8, 8, 8, 8, 8, 8, 8, 8, 8, 8, 8, 8, 8, 8, 8, 8, 8, 8, 8, 8, 8, 8, 8, 8, 8, 8, 8, 8, 8, 8, 8, 8, 8, 8, 8, 8, 8, 8, 8, 8, 8, 8, 8, 8, 8, 8, 8, 8, 8, 8, 8, 8, 8, 8, 8, 8, 8, 8, 8, 8, 8, 8, 8, 8, 8, 8, 8, 8, 8, 8, 8, 8, 8, 8, 8, 8, 8, 8, 8, 8, 8, 8, 8]⟩))) (.t 21), none⟩,
   ⟨some 23, .conv .i64 (.t 22), none⟩,
   ⟨some 24, .bin .add false (.t 19) (.t 23), none⟩,
   ⟨some 2, .mov (.t 24), none⟩]) .ret))))
def R.bits_Len64 : List VRes := [.tmp 2]
theorem K.bits_Len64 : resCode Tryd.prog Tryd.f56.ntmps (Tryd.f56.body.getD .skip) = C.bits_Len64 := by kernel_rfl
theorem Q.bits_Len64 : resResults Tryd.prog Tryd.f56.results.toList = some R.bits_Len64 := by kernel_rfl
theorem E.bits_Len64 : Tryd.prog.funcs[F.bits_Len64]? = some Tryd.f56 := Tryd.func56
theorem B.bits_Len64 : Tryd.f56.body = some (Tryd.f56.body.getD .skip) := by kernel_rfl
theorem N.bits_Len64 : Tryd.f56.ntmps = 25 := Tryd.ntmps56

def C.rounded_way : VC :=
  .seq (.region false [⟨some 2, .mov (.c (.lit .nilFunc)), none⟩]) (.seq (.seq (.region false [⟨some 3, .mov (.t 0), none⟩]) (.block 0 (.seq (.region false [⟨some 5, .bin .eql false (.t 3) (.c (iv 0)), none⟩,
   ⟨some 4, .mov (.t 5), none⟩]) (.cond (.t 4) (.seq (.region false [⟨some 2, .mov (.c (.lit (.func (.func F.rounded_way_1) #[] #[]))), none⟩]) .ret) (.seq (.region false [⟨some 7, .bin .eql false (.t 3) (.c (iv 1)), none⟩,
   ⟨some 6, .mov (.t 7), none⟩]) (.cond (.t 6) (.seq (.region false [⟨some 2, .mov (.c (.lit (.func (.func F.rounded_way_2) #[] #[]))), none⟩]) .ret) .skip)))))) (.seq (.region false [⟨some 2, .mov (.c (.lit (.func (.func F.rounded_way_3) #[] #[]))), none⟩]) .ret))
def R.rounded_way : List VRes := [.tmp 2]
theorem K.rounded_way : resCode Tryd.prog Tryd.f57.ntmps (Tryd.f57.body.getD .skip) = C.rounded_way := by kernel_rfl
theorem Q.rounded_way : resResults Tryd.prog Tryd.f57.results.toList = some R.rounded_way := by kernel_rfl
theorem E.rounded_way : Tryd.prog.funcs[F.rounded_way]? = some Tryd.f57 := Tryd.func57
theorem B.rounded_way : Tryd.f57.body = some (Tryd.f57.body.getD .skip) := by kernel_rfl
theorem N.rounded_way : Tryd.f57.ntmps = 8 := Tryd.ntmps57

def C.nat_Add : VC :=
  .seq (.region false [⟨some 4, .mov (.c nil1), none⟩,
   ⟨some 5, .mov (.c (iv 0)), none⟩]) (.seq (.region false [⟨some 10, .mov (.t 0), none⟩,
   ⟨some 11, .call F.nat_trim [.t 10], none⟩,
   ⟨some 12, .mov (.t 1), none⟩,
   ⟨some 13, .call F.nat_trim [.t 12], none⟩,
   ⟨some 0, .mov (.t 11), none⟩,
   ⟨some 1, .mov (.t 13), none⟩]) (.seq (.seq (.region false [⟨some 14, .mov (.t 0), none⟩,
   ⟨some 15, .len (.t 14), none⟩,
   ⟨some 16, .mov (.t 1), none⟩,
   ⟨some 17, .len (.t 16), none⟩,
   ⟨some 18, .bin .lss false (.t 15) (.t 17), none⟩]) (.cond (.t 18) (.region false [⟨some 19, .mov (.t 1), none⟩,
   ⟨some 20, .mov (.t 0), none⟩,
   ⟨some 0, .mov (.t 19), none⟩,
   ⟨some 1, .mov (.t 20), none⟩]) .skip)) (.seq (.region false [⟨some 21, .mov (.t 0), none⟩,
   ⟨some 22, .len (.t 21), none⟩,
   ⟨some 23, .bin .add false (.t 22) (.c (iv 1)), none⟩,
   ⟨some 24, .mk [.int .u64 0] 8 (.t 23) (.t 23), none⟩,
   ⟨some 6, .mov (.t 24), none⟩]) (.seq (.region false [⟨some 7, .mov (.c (nv 0)), none⟩]) (.seq (.seq (.region false [⟨some 25, .mov (.t 0), none⟩,
   ⟨some 26, .len (.t 25), none⟩,
   ⟨some 27, .mov (.c (iv 0)), none⟩]) (.block 0 (.loop (.seq (.region false [⟨some 28, .bin .lss false (.t 27) (.t 26), none⟩]) (.seq (.cond (.t 28) .skip (.exit 0)) (.seq (.block 1 (.seq (.region false [⟨some 29, .mov (.t 27), none⟩,
   ⟨some 8, .mov (.t 29), none⟩]) (.seq (.region false [⟨some 9, .mov (.c (nv 0)), none⟩]) (.seq (.seq (.region false [⟨some 30, .mov (.t 8), none⟩,
   ⟨some 31, .mov (.t 1), none⟩,
   ⟨some 32, .len (.t 31), none⟩,
   ⟨some 33, .bin .lss false (.t 30) (.t 32), none⟩]) (.cond (.t 33) (.region false [⟨some 34, .mov (.t 1), none⟩,
   ⟨some 35, .mov (.t 8), none⟩,
   ⟨some 36, .ixa 1 (.t 34) (.t 35), none⟩,
   ⟨some 37, .load none (.t 36), none⟩,
   ⟨some 9, .mov (.t 37), none⟩]) .skip)) (.region false [⟨some 39, .mov (.t 6), none⟩,
   ⟨some 40, .mov (.t 8), none⟩,
   ⟨some 41, .mov (.t 0), none⟩,
   ⟨some 42, .mov (.t 8), none⟩,
   ⟨some 43, .ixa 1 (.t 41) (.t 42), none⟩,
   ⟨some 44, .load none (.t 43), none⟩,
   ⟨some 45, .mov (.t 9), none⟩,
   ⟨some 46, .mov (.t 7), none⟩,
   ⟨some 47, .ext64 false (.t 44) (.t 45) (.t 46), none⟩,
   ⟨some 38, .mov (.t 47), none⟩,
   ⟨some 48, .ext (.t 38) 0, none⟩,
   ⟨some 49, .ext (.t 38) 1, none⟩,
   ⟨some 50, .ixa 1 (.t 39) (.t 40), none⟩,
   ⟨none, .store 1 (.t 50) (.t 48), none⟩,
   ⟨some 7, .mov (.t 49), none⟩]))))) (.region false [⟨some 51, .bin .add false (.t 27) (.c (iv 1)), none⟩,
   ⟨some 27, .mov (.t 51), none⟩]))))))) (.seq (.region false [⟨some 52, .mov (.t 6), none⟩,
   ⟨some 53, .mov (.t 0), none⟩,
   ⟨some 54, .len (.t 53), none⟩,
   ⟨some 55, .mov (.t 7), none⟩,
   ⟨some 56, .ixa 1 (.t 52) (.t 54), none⟩,
   ⟨none, .store 1 (.t 56) (.t 55), none⟩]) (.seq (.region false [⟨some 57, .mov (.t 6), none⟩,
   ⟨some 58, .call F.nat_told [.t 57], none⟩,
   ⟨some 59, .ext (.t 58) 0, none⟩,
   ⟨some 60, .ext (.t 58) 1, none⟩,
   ⟨some 4, .mov (.t 59), none⟩,
   ⟨some 5, .mov (.t 60), none⟩]) .ret)))))))
def R.nat_Add : List VRes := [.tmp 4, .tmp 5]
theorem K.nat_Add : resCode Tryd.prog Tryd.f58.ntmps (Tryd.f58.body.getD .skip) = C.nat_Add := by kernel_rfl
theorem Q.nat_Add : resResults Tryd.prog Tryd.f58.results.toList = some R.nat_Add := by kernel_rfl
theorem E.nat_Add : Tryd.prog.funcs[F.nat_Add]? = some Tryd.f58 := Tryd.func58
theorem B.nat_Add : Tryd.f58.body = some (Tryd.f58.body.getD .skip) := by kernel_rfl
theorem N.nat_Add : Tryd.f58.ntmps = 61 := Tryd.ntmps58

def C.nat_From : VC :=
  .seq (.region false [⟨some 2, .mov (.c nil1), none⟩]) (.seq (.seq (.region false [⟨some 3, .mov (.t 0), none⟩,
   ⟨some 4, .bin .eql false (.t 3) (.c (nv 0)), none⟩]) (.cond (.t 4) (.seq (.region false [⟨some 2, .mov (.c nil1), none⟩]) .ret) .skip)) (.seq (.region false [⟨some 5, .mov (.t 0), none⟩,
   ⟨some 6, .bsl true 1 1 [.int .u64 0] [(0, (1, .t 5))], none⟩,
   ⟨some 2, .mov (.t 6), none⟩]) .ret))
def R.nat_From : List VRes := [.tmp 2]
theorem K.nat_From : resCode Tryd.prog Tryd.f59.ntmps (Tryd.f59.body.getD .skip) = C.nat_From := by kernel_rfl
theorem Q.nat_From : resResults Tryd.prog Tryd.f59.results.toList = some R.nat_From := by kernel_rfl
theorem E.nat_From : Tryd.prog.funcs[F.nat_From]? = some Tryd.f59 := Tryd.func59
theorem B.nat_From : Tryd.f59.body = some (Tryd.f59.body.getD .skip) := by kernel_rfl
theorem N.nat_From : Tryd.f59.ntmps = 7 := Tryd.ntmps59

def C.bits_TrailingZeros64 : VC :=
  .seq (.region false [⟨some 2, .mov (.c (iv 0)), none⟩]) (.seq (.seq (.region false [⟨some 3, .mov (.t 0), none⟩,
   ⟨some 4, .bin .eql false (.t 3) (.c (nv 0)), none⟩]) (.cond (.t 4) (.seq (.region false [⟨some 2, .mov (.c (iv 64)), none⟩]) .ret) .skip)) (.seq (.region false [⟨some 5, .mov (.t 0), none⟩,
   ⟨some 6, .mov (.t 0), none⟩,
   ⟨some 7, .un .neg (.t 6), none⟩,
   ⟨some 8, .bin .and false (.t 5) (.t 7), none⟩,
   ⟨some 9, .bin .mul false (.t 8) (.c (nv 285870213051353865)), none⟩,
   ⟨some 10, .bin .shr false (.t 9) (.c (nv 58)), none⟩,
   ⟨some 11, .axa 64 1 (.c (.gptr 0 0)) (.t 10), none⟩,
   ⟨some 12, .load none (.t 11), none⟩,
   ⟨some 13, .conv .i64 (.t 12), none⟩,
   ⟨some 2, .mov (.t 13), none⟩]) .ret))
def R.bits_TrailingZeros64 : List VRes := [.tmp 2]
theorem K.bits_TrailingZeros64 : resCode Tryd.prog Tryd.f60.ntmps (Tryd.f60.body.getD .skip) = C.bits_TrailingZeros64 := by kernel_rfl
theorem Q.bits_TrailingZeros64 : resResults Tryd.prog Tryd.f60.results.toList = some R.bits_TrailingZeros64 := by kernel_rfl
theorem E.bits_TrailingZeros64 : Tryd.prog.funcs[F.bits_TrailingZeros64]? = some Tryd.f60 := Tryd.func60
theorem B.bits_TrailingZeros64 : Tryd.f60.body = some (Tryd.f60.body.getD .skip) := by kernel_rfl
theorem N.bits_TrailingZeros64 : Tryd.f60.ntmps = 14 := Tryd.ntmps60

def C.roots_Root : VC :=
  .seq (.region false [⟨some 4, .mov (.c nil1), none⟩,
   ⟨some 5, .mov (.c nil1), none⟩,
   ⟨some 6, .mov (.c (iv 0)), none⟩]) (.seq (.seq (.region false [⟨some 11, .mov (.t 1), none⟩,
   ⟨some 12, .bin .lss false (.t 11) (.c (iv 1)), none⟩]) (.cond (.t 12) (.seq (.region false [⟨some 4, .mov (.c nil1), none⟩,
   ⟨some 5, .mov (.c nil1), none⟩,
   ⟨some 6, .mov (.c (iv 40)), none⟩]) .ret) .skip)) (.seq (.region false [⟨some 14, .mov (.t 0), none⟩,
   ⟨some 15, .call F.roots_fits [.t 14], none⟩,
   ⟨some 13, .mov (.t 15), none⟩,
   ⟨some 16, .ext (.t 13) 0, none⟩,
   ⟨some 17, .ext (.t 13) 1, none⟩,
   ⟨some 0, .mov (.t 16), none⟩,
   ⟨some 7, .mov (.t 17), none⟩]) (.seq (.seq (.region false [⟨some 18, .mov (.t 7), none⟩,
   ⟨some 19, .bin .neq false (.t 18) (.c (iv 0)), none⟩]) (.cond (.t 19) (.seq (.region false [⟨some 20, .mov (.t 7), none⟩,
   ⟨some 4, .mov (.c nil1), none⟩,
   ⟨some 5, .mov (.c nil1), none⟩,
   ⟨some 6, .mov (.t 20), none⟩]) .ret) .skip)) (.seq (.seq (.region false [⟨some 21, .mov (.t 1), none⟩,
   ⟨some 22, .bin .eql false (.t 21) (.c (iv 1)), none⟩,
   ⟨some 23, .mov (.t 22), none⟩,
   ⟨some 24, .mov (.t 0), some (23, false)⟩,
   ⟨some 25, .call F.nat_Length [.t 24], some (23, false)⟩,
   ⟨some 26, .bin .eql false (.t 25) (.c (iv 0)), some (23, false)⟩,
   ⟨some 27, .pick (.t 23) (.c (bv true)) (.t 26), none⟩]) (.cond (.t 27) (.seq (.region false [⟨some 28, .mov (.t 0), none⟩,
   ⟨some 4, .mov (.t 28), none⟩,
   ⟨some 5, .mov (.c nil1), none⟩,
   ⟨some 6, .mov (.c (iv 0)), none⟩]) .ret) .skip)) (.seq (.region false [⟨some 29, .mov (.t 0), none⟩,
   ⟨some 30, .mov (.t 1), none⟩,
   ⟨some 31, .call F.roots_newton [.t 29, .t 30], none⟩,
   ⟨some 8, .mov (.t 31), none⟩]) (.seq (.region false [⟨some 33, .mov (.t 8), none⟩,
   ⟨some 34, .mov (.t 1), none⟩,
   ⟨some 35, .call F.mul_Pow [.t 33, .t 34], none⟩,
   ⟨some 32, .mov (.t 35), none⟩,
   ⟨some 36, .ext (.t 32) 0, none⟩,
   ⟨some 37, .ext (.t 32) 1, none⟩,
   ⟨some 9, .mov (.t 36), none⟩,
   ⟨some 10, .mov (.t 37), none⟩]) (.seq (.region false [⟨some 38, .mov (.t 8), none⟩,
   ⟨some 39, .mov (.t 0), none⟩,
   ⟨some 40, .mov (.t 9), none⟩,
   ⟨some 41, .call F.roots_less [.t 39, .t 40], none⟩,
   ⟨some 4, .mov (.t 38), none⟩,
   ⟨some 5, .mov (.t 41), none⟩,
   ⟨some 6, .mov (.c (iv 0)), none⟩]) .ret)))))))
def R.roots_Root : List VRes := [.tmp 4, .tmp 5, .tmp 6]
theorem K.roots_Root : resCode Tryd.prog Tryd.f61.ntmps (Tryd.f61.body.getD .skip) = C.roots_Root := by kernel_rfl
theorem Q.roots_Root : resResults Tryd.prog Tryd.f61.results.toList = some R.roots_Root := by kernel_rfl
theorem E.roots_Root : Tryd.prog.funcs[F.roots_Root]? = some Tryd.f61 := Tryd.func61
theorem B.roots_Root : Tryd.f61.body = some (Tryd.f61.body.getD .skip) := by kernel_rfl
theorem N.roots_Root : Tryd.f61.ntmps = 42 := Tryd.ntmps61

def C.surdref01_Num_Limbs : VC :=
  .seq (.region false [⟨some 2, .mov (.c nil1), none⟩]) (.seq (.region false [⟨some 3, .mov (.c nil1), none⟩]) (.seq (.seq (.region false [⟨some 4, .mov (.c (iv 0)), none⟩]) (.block 0 (.loop (.seq (.seq (.region false [⟨some 6, .mov (.t 4), none⟩,
   ⟨some 7, .mov (.t 0), none⟩,
   ⟨some 8, .len (.t 7), none⟩,
   ⟨some 9, .bin .lss false (.t 6) (.t 8), none⟩]) (.cond (.t 9) .skip (.exit 0))) (.seq (.block 1 (.seq (.region false [⟨some 12, .mov (.t 0), none⟩,
   ⟨some 13, .mov (.t 4), none⟩,
   ⟨some 14, .ixa 1 (.t 12) (.t 13), none⟩,
   ⟨some 15, .load none (.t 14), none⟩,
   ⟨some 5, .mov (.t 15), none⟩]) (.seq (.seq (.region false [⟨some 16, .mov (.t 4), none⟩,
   ⟨some 17, .bin .add false (.t 16) (.c (iv 1)), none⟩,
   ⟨some 18, .mov (.t 0), none⟩,
   ⟨some 19, .len (.t 18), none⟩,
   ⟨some 20, .bin .lss false (.t 17) (.t 19), none⟩]) (.cond (.t 20) (.region false [⟨some 21, .mov (.t 5), none⟩,
   ⟨some 22, .mov (.t 0), none⟩,
   ⟨some 23, .mov (.t 4), none⟩,
   ⟨some 24, .bin .add false (.t 23) (.c (iv 1)), none⟩,
   ⟨some 25, .ixa 1 (.t 22) (.t 24), none⟩,
   ⟨some 26, .load none (.t 25), none⟩,
   ⟨some 27, .bin .mul false (.t 26) (.c (nv 4294967296)), none⟩,
   ⟨some 28, .bin .add false (.t 21) (.t 27), none⟩,
   ⟨some 5, .mov (.t 28), none⟩]) .skip)) (.region false [⟨some 29, .mov (.t 3), none⟩,
   ⟨some 30, .mov (.t 5), none⟩,
   ⟨some 31, .bsl true 1 1 [.int .u64 0] [(0, (1, .t 30))], none⟩,
   ⟨some 32, .app 1 8 [.int .u64 0] (.t 29) (.t 31), none⟩,
   ⟨some 3, .mov (.t 32), none⟩])))) (.region false [⟨some 10, .mov (.t 4), none⟩,
   ⟨some 11, .bin .add false (.t 10) (.c (iv 2)), none⟩,
   ⟨some 4, .mov (.t 11), none⟩])))))) (.seq (.region false [⟨some 33, .mov (.t 3), none⟩,
   ⟨some 2, .mov (.t 33), none⟩]) .ret)))
def R.surdref01_Num_Limbs : List VRes := [.tmp 2]
theorem K.surdref01_Num_Limbs : resCode Tryd.prog Tryd.f62.ntmps (Tryd.f62.body.getD .skip) = C.surdref01_Num_Limbs := by kernel_rfl
theorem Q.surdref01_Num_Limbs : resResults Tryd.prog Tryd.f62.results.toList = some R.surdref01_Num_Limbs := by kernel_rfl
theorem E.surdref01_Num_Limbs : Tryd.prog.funcs[F.surdref01_Num_Limbs]? = some Tryd.f62 := Tryd.func62
theorem B.surdref01_Num_Limbs : Tryd.f62.body = some (Tryd.f62.body.getD .skip) := by kernel_rfl
theorem N.surdref01_Num_Limbs : Tryd.f62.ntmps = 34 := Tryd.ntmps62

def C.div_divide : VC :=
  .seq (.region false [⟨some 4, .mov (.c nil1), none⟩,
   ⟨some 5, .mov (.c nil1), none⟩]) (.seq (.seq (.region false [⟨some 15, .mov (.t 0), none⟩,
   ⟨some 16, .mov (.t 1), none⟩,
   ⟨some 17, .call F.nat_Compare [.t 15, .t 16], none⟩,
   ⟨some 18, .bin .lss false (.t 17) (.c (iv 0)), none⟩]) (.cond (.t 18) (.seq (.region false [⟨some 19, .mov (.t 0), none⟩,
   ⟨some 4, .mov (.c nil1), none⟩,
   ⟨some 5, .mov (.t 19), none⟩]) .ret) .skip)) (.seq (.seq (.region false [⟨some 20, .mov (.t 1), none⟩,
   ⟨some 21, .len (.t 20), none⟩,
   ⟨some 22, .bin .eql false (.t 21) (.c (iv 1)), none⟩]) (.cond (.t 22) (.seq (.region false [⟨some 23, .mov (.t 0), none⟩,
   ⟨some 24, .len (.t 23), none⟩,
   ⟨some 25, .mk [.int .u64 0] 8 (.t 24) (.t 24), none⟩,
   ⟨some 6, .mov (.t 25), none⟩,
   ⟨some 7, .mov (.c (nv 0)), none⟩]) (.seq (.seq (.region false [⟨some 26, .mov (.t 0), none⟩,
   ⟨some 27, .len (.t 26), none⟩,
   ⟨some 28, .bin .sub false (.t 27) (.c (iv 1)), none⟩,
   ⟨some 8, .mov (.t 28), none⟩]) (.block 0 (.loop (.seq (.seq (.region false [⟨some 29, .mov (.t 8), none⟩,
   ⟨some 30, .bin .geq false (.t 29) (.c (iv 0)), none⟩]) (.cond (.t 30) .skip (.exit 0))) (.seq (.block 1 (.region true [⟨some 34, .mov (.t 6), none⟩,
   ⟨some 35, .mov (.t 8), none⟩,
   ⟨some 36, .mov (.t 7), none⟩,
   ⟨some 37, .mov (.t 0), none⟩,
   ⟨some 38, .mov (.t 8), none⟩,
   ⟨some 39, .ixa 1 (.t 37) (.t 38), none⟩,
   ⟨some 40, .load none (.t 39), none⟩,
   ⟨some 41, .mov (.t 1), none⟩,
   ⟨some 42, .ixa 1 (.t 41) (.c (iv 0)), none⟩,
   ⟨some 43, .load none (.t 42), none⟩,
   ⟨some 44, .call F.bits_Div64 [.t 36, .t 40, .t 43], none⟩,
   ⟨some 33, .mov (.t 44), none⟩,
   ⟨some 45, .ext (.t 33) 0, none⟩,
   ⟨some 46, .ext (.t 33) 1, none⟩,
   ⟨some 47, .ixa 1 (.t 34) (.t 35), none⟩,
   ⟨none, .store 1 (.t 47) (.t 45), none⟩,
   ⟨some 7, .mov (.t 46), none⟩])) (.region false [⟨some 31, .mov (.t 8), none⟩,
   ⟨some 32, .bin .sub false (.t 31) (.c (iv 1)), none⟩,
   ⟨some 8, .mov (.t 32), none⟩])))))) (.seq (.region false [⟨some 48, .mov (.t 6), none⟩,
   ⟨some 49, .call F.nat_Norm [.t 48], none⟩,
   ⟨some 50, .mov (.t 7), none⟩,
   ⟨some 51, .call F.nat_From [.t 50], none⟩,
   ⟨some 4, .mov (.t 49), none⟩,
   ⟨some 5, .mov (.t 51), none⟩]) .ret))) .skip)) (.seq (.region false [⟨some 52, .mov (.t 1), none⟩,
   ⟨some 53, .mov (.t 1), none⟩,
   ⟨some 54, .len (.t 53), none⟩,
   ⟨some 55, .bin .sub false (.t 54) (.c (iv 1)), none⟩,
   ⟨some 56, .ixa 1 (.t 52) (.t 55), none⟩,
   ⟨some 57, .load none (.t 56), none⟩,
   ⟨some 58, .call F.bits_LeadingZeros64 [.t 57], none⟩,
   ⟨some 59, .conv .u64 (.t 58), none⟩,
   ⟨some 9, .mov (.t 59), none⟩]) (.seq (.region true [⟨some 60, .mov (.t 0), none⟩,
   ⟨some 61, .mov (.t 9), none⟩,
   ⟨some 62, .call F.div_up [.t 60, .t 61], none⟩,
   ⟨some 63, .mov (.t 1), none⟩,
   ⟨some 64, .mov (.t 9), none⟩,
   ⟨some 65, .call F.div_up [.t 63, .t 64], none⟩,
   ⟨some 66, .mov (.t 1), none⟩,
   ⟨some 67, .len (.t 66), none⟩,
   ⟨some 68, .slc 1 (.t 65) none (some (.t 67)) none, none⟩,
   ⟨some 10, .mov (.t 62), none⟩,
   ⟨some 11, .mov (.t 68), none⟩]) (.seq (.region false [⟨some 69, .mov (.t 11), none⟩,
   ⟨some 70, .len (.t 69), none⟩,
   ⟨some 12, .mov (.t 70), none⟩]) (.seq (.region false [⟨some 71, .mov (.t 0), none⟩,
   ⟨some 72, .len (.t 71), none⟩,
   ⟨some 73, .mov (.t 12), none⟩,
   ⟨some 74, .bin .sub false (.t 72) (.t 73), none⟩,
   ⟨some 75, .bin .add false (.t 74) (.c (iv 1)), none⟩,
   ⟨some 76, .mk [.int .u64 0] 8 (.t 75) (.t 75), none⟩,
   ⟨some 13, .mov (.t 76), none⟩]) (.seq (.seq (.region false [⟨some 77, .mov (.t 0), none⟩,
   ⟨some 78, .len (.t 77), none⟩,
   ⟨some 79, .mov (.t 12), none⟩,
   ⟨some 80, .bin .sub false (.t 78) (.t 79), none⟩,
   ⟨some 14, .mov (.t 80), none⟩]) (.block 2 (.loop (.seq (.seq (.region false [⟨some 81, .mov (.t 14), none⟩,
   ⟨some 82, .bin .geq false (.t 81) (.c (iv 0)), none⟩]) (.cond (.t 82) .skip (.exit 2))) (.seq (.block 3 (.region false [⟨some 85, .mov (.t 13), none⟩,
   ⟨some 86, .mov (.t 14), none⟩,
   ⟨some 87, .mov (.t 10), none⟩,
   ⟨some 88, .mov (.t 14), none⟩,
   ⟨some 89, .mov (.t 14), none⟩,
   ⟨some 90, .mov (.t 12), none⟩,
   ⟨some 91, .bin .add false (.t 89) (.t 90), none⟩,
   ⟨some 92, .bin .add false (.t 91) (.c (iv 1)), none⟩,
   ⟨some 93, .slc 1 (.t 87) (some (.t 88)) (some (.t 92)) none, none⟩,
   ⟨some 94, .mov (.t 11), none⟩,
   ⟨some 95, .call F.div_guess [.t 93, .t 94], none⟩,
   ⟨some 96, .ixa 1 (.t 85) (.t 86), none⟩,
   ⟨none, .store 1 (.t 96) (.t 95), none⟩])) (.region false [⟨some 83, .mov (.t 14), none⟩,
   ⟨some 84, .bin .sub false (.t 83) (.c (iv 1)), none⟩,
   ⟨some 14, .mov (.t 84), none⟩])))))) (.seq (.region true [⟨some 97, .mov (.t 13), none⟩,
   ⟨some 98, .call F.nat_Norm [.t 97], none⟩,
   ⟨some 99, .mov (.t 10), none⟩,
   ⟨some 100, .mov (.t 12), none⟩,
   ⟨some 101, .slc 1 (.t 99) none (some (.t 100)) none, none⟩,
   ⟨some 102, .mov (.t 9), none⟩,
   ⟨some 103, .call F.div_down [.t 101, .t 102], none⟩,
   ⟨some 4, .mov (.t 98), none⟩,
   ⟨some 5, .mov (.t 103), none⟩]) .ret))))))))
def R.div_divide : List VRes := [.tmp 4, .tmp 5]
theorem K.div_divide : resCode Tryd.prog Tryd.f63.ntmps (Tryd.f63.body.getD .skip) = C.div_divide := by kernel_rfl
theorem Q.div_divide : resResults Tryd.prog Tryd.f63.results.toList = some R.div_divide := by kernel_rfl
theorem E.div_divide : Tryd.prog.funcs[F.div_divide]? = some Tryd.f63 := Tryd.func63
theorem B.div_divide : Tryd.f63.body = some (Tryd.f63.body.getD .skip) := by kernel_rfl
theorem N.div_divide : Tryd.f63.ntmps = 104 := Tryd.ntmps63

def C.mul_Mul : VC :=
  .seq (.region false [⟨some 4, .mov (.c nil1), none⟩,
   ⟨some 5, .mov (.c (iv 0)), none⟩]) (.seq (.region false [⟨some 6, .mov (.t 0), none⟩,
   ⟨some 7, .mov (.t 1), none⟩,
   ⟨some 8, .call F.mul_product [.t 6, .t 7, .c (.lit (.func (.func F.mul_Mul_1) #[] #[]))], none⟩,
   ⟨some 9, .ext (.t 8) 0, none⟩,
   ⟨some 10, .ext (.t 8) 1, none⟩,
   ⟨some 4, .mov (.t 9), none⟩,
   ⟨some 5, .mov (.t 10), none⟩]) .ret)
def R.mul_Mul : List VRes := [.tmp 4, .tmp 5]
theorem K.mul_Mul : resCode Tryd.prog Tryd.f64.ntmps (Tryd.f64.body.getD .skip) = C.mul_Mul := by kernel_rfl
theorem Q.mul_Mul : resResults Tryd.prog Tryd.f64.results.toList = some R.mul_Mul := by kernel_rfl
theorem E.mul_Mul : Tryd.prog.funcs[F.mul_Mul]? = some Tryd.f64 := Tryd.func64
theorem B.mul_Mul : Tryd.f64.body = some (Tryd.f64.body.getD .skip) := by kernel_rfl
theorem N.mul_Mul : Tryd.f64.ntmps = 11 := Tryd.ntmps64

def C.rounded_plus : VC :=
  .seq (.region false [⟨some 4, .mov (.c nil1), none⟩]) (.seq (.region false [⟨some 10, .mov (.t 0), none⟩,
   ⟨some 11, .len (.t 10), none⟩,
   ⟨some 12, .mov (.t 1), none⟩,
   ⟨some 13, .len (.t 12), none⟩,
   ⟨some 14, .mm true (.t 11) (.t 13), none⟩,
   ⟨some 15, .bin .add false (.t 14) (.c (iv 1)), none⟩,
   ⟨some 16, .mk [.int .u64 0] 8 (.t 15) (.t 15), none⟩,
   ⟨some 5, .mov (.t 16), none⟩]) (.seq (.region false [⟨some 6, .mov (.c (nv 0)), none⟩]) (.seq (.seq (.region false [⟨some 17, .mov (.t 5), none⟩,
   ⟨some 18, .len (.t 17), none⟩,
   ⟨some 19, .mov (.c (iv 0)), none⟩]) (.block 0 (.loop (.seq (.region false [⟨some 20, .bin .lss false (.t 19) (.t 18), none⟩]) (.seq (.cond (.t 20) .skip (.exit 0)) (.seq (.block 1 (.seq (.region false [⟨some 21, .mov (.t 19), none⟩,
   ⟨some 7, .mov (.t 21), none⟩]) (.seq (.region false [⟨some 8, .mov (.c (nv 0)), none⟩,
   ⟨some 9, .mov (.c (nv 0)), none⟩]) (.seq (.seq (.region false [⟨some 22, .mov (.t 7), none⟩,
   ⟨some 23, .mov (.t 0), none⟩,
   ⟨some 24, .len (.t 23), none⟩,
   ⟨some 25, .bin .lss false (.t 22) (.t 24), none⟩]) (.cond (.t 25) (.region false [⟨some 26, .mov (.t 0), none⟩,
   ⟨some 27, .mov (.t 7), none⟩,
   ⟨some 28, .ixa 1 (.t 26) (.t 27), none⟩,
   ⟨some 29, .load none (.t 28), none⟩,
   ⟨some 8, .mov (.t 29), none⟩]) .skip)) (.seq (.seq (.region false [⟨some 30, .mov (.t 7), none⟩,
   ⟨some 31, .mov (.t 1), none⟩,
   ⟨some 32, .len (.t 31), none⟩,
   ⟨some 33, .bin .lss false (.t 30) (.t 32), none⟩]) (.cond (.t 33) (.region false [⟨some 34, .mov (.t 1), none⟩,
   ⟨some 35, .mov (.t 7), none⟩,
   ⟨some 36, .ixa 1 (.t 34) (.t 35), none⟩,
   ⟨some 37, .load none (.t 36), none⟩,
   ⟨some 9, .mov (.t 37), none⟩]) .skip)) (.region false [⟨some 39, .mov (.t 5), none⟩,
   ⟨some 40, .mov (.t 7), none⟩,
   ⟨some 41, .mov (.t 8), none⟩,
   ⟨some 42, .mov (.t 9), none⟩,
   ⟨some 43, .mov (.t 6), none⟩,
   ⟨some 44, .ext64 false (.t 41) (.t 42) (.t 43), none⟩,
   ⟨some 38, .mov (.t 44), none⟩,
   ⟨some 45, .ext (.t 38) 0, none⟩,
   ⟨some 46, .ext (.t 38) 1, none⟩,
   ⟨some 47, .ixa 1 (.t 39) (.t 40), none⟩,
   ⟨none, .store 1 (.t 47) (.t 45), none⟩,
   ⟨some 6, .mov (.t 46), none⟩])))))) (.region false [⟨some 48, .bin .add false (.t 19) (.c (iv 1)), none⟩,
   ⟨some 19, .mov (.t 48), none⟩]))))))) (.seq (.region false [⟨some 49, .mov (.t 5), none⟩,
   ⟨some 50, .call F.nat_Norm [.t 49], none⟩,
   ⟨some 4, .mov (.t 50), none⟩]) .ret))))
def R.rounded_plus : List VRes := [.tmp 4]
theorem K.rounded_plus : resCode Tryd.prog Tryd.f65.ntmps (Tryd.f65.body.getD .skip) = C.rounded_plus := by kernel_rfl
theorem Q.rounded_plus : resResults Tryd.prog Tryd.f65.results.toList = some R.rounded_plus := by kernel_rfl
theorem E.rounded_plus : Tryd.prog.funcs[F.rounded_plus]? = some Tryd.f65 := Tryd.func65
theorem B.rounded_plus : Tryd.f65.body = some (Tryd.f65.body.getD .skip) := by kernel_rfl
theorem N.rounded_plus : Tryd.f65.ntmps = 51 := Tryd.ntmps65

def C.rounded_way_1 : VC :=
  .seq (.region false [⟨some 6, .mov (.c (bv false)), none⟩]) (.seq (.region false [⟨some 7, .mov (.t 0), none⟩,
   ⟨some 8, .mov (.t 7), none⟩,
   ⟨some 9, .mov (.t 2), some (8, true)⟩,
   ⟨some 10, .bin .gtr false (.t 9) (.c (iv 0)), some (8, true)⟩,
   ⟨some 11, .pick (.t 8) (.t 10) (.c (bv false)), none⟩,
   ⟨some 6, .mov (.t 11), none⟩]) .ret)
def R.rounded_way_1 : List VRes := [.tmp 6]
theorem K.rounded_way_1 : resCode Tryd.prog Tryd.f66.ntmps (Tryd.f66.body.getD .skip) = C.rounded_way_1 := by kernel_rfl
theorem Q.rounded_way_1 : resResults Tryd.prog Tryd.f66.results.toList = some R.rounded_way_1 := by kernel_rfl
theorem E.rounded_way_1 : Tryd.prog.funcs[F.rounded_way_1]? = some Tryd.f66 := Tryd.func66
theorem B.rounded_way_1 : Tryd.f66.body = some (Tryd.f66.body.getD .skip) := by kernel_rfl
theorem N.rounded_way_1 : Tryd.f66.ntmps = 12 := Tryd.ntmps66

def C.rounded_way_2 : VC :=
  .seq (.region false [⟨some 6, .mov (.c (bv false)), none⟩]) (.seq (.region false [⟨some 7, .mov (.t 0), none⟩,
   ⟨some 8, .un .not (.t 7), none⟩,
   ⟨some 9, .mov (.t 8), none⟩,
   ⟨some 10, .mov (.t 2), some (9, true)⟩,
   ⟨some 11, .bin .gtr false (.t 10) (.c (iv 0)), some (9, true)⟩,
   ⟨some 12, .pick (.t 9) (.t 11) (.c (bv false)), none⟩,
   ⟨some 6, .mov (.t 12), none⟩]) .ret)
def R.rounded_way_2 : List VRes := [.tmp 6]
theorem K.rounded_way_2 : resCode Tryd.prog Tryd.f67.ntmps (Tryd.f67.body.getD .skip) = C.rounded_way_2 := by kernel_rfl
theorem Q.rounded_way_2 : resResults Tryd.prog Tryd.f67.results.toList = some R.rounded_way_2 := by kernel_rfl
theorem E.rounded_way_2 : Tryd.prog.funcs[F.rounded_way_2]? = some Tryd.f67 := Tryd.func67
theorem B.rounded_way_2 : Tryd.f67.body = some (Tryd.f67.body.getD .skip) := by kernel_rfl
theorem N.rounded_way_2 : Tryd.f67.ntmps = 13 := Tryd.ntmps67

def C.rounded_way_3 : VC :=
  .seq (.region false [⟨some 6, .mov (.c (bv false)), none⟩]) (.seq (.region false [⟨some 7, .mov (.t 2), none⟩,
   ⟨some 8, .bin .eql false (.t 7) (.c (iv 3)), none⟩,
   ⟨some 9, .mov (.t 8), none⟩,
   ⟨some 10, .mov (.t 2), some (9, false)⟩,
   ⟨some 11, .bin .eql false (.t 10) (.c (iv 2)), some (9, false)⟩,
   ⟨some 12, .mov (.t 11), some (9, false)⟩,
   ⟨some 13, .mov (.t 1), some (12, true)⟩,
   ⟨some 14, .call F.nat_Bit [.t 13, .c (iv 0)], some (12, true)⟩,
   ⟨some 15, .bin .eql false (.t 14) (.c (iv 1)), some (12, true)⟩,
   ⟨some 16, .pick (.t 12) (.t 15) (.c (bv false)), some (9, false)⟩,
   ⟨some 17, .pick (.t 9) (.c (bv true)) (.t 16), none⟩,
   ⟨some 6, .mov (.t 17), none⟩]) .ret)
def R.rounded_way_3 : List VRes := [.tmp 6]
theorem K.rounded_way_3 : resCode Tryd.prog Tryd.f68.ntmps (Tryd.f68.body.getD .skip) = C.rounded_way_3 := by kernel_rfl
theorem Q.rounded_way_3 : resResults Tryd.prog Tryd.f68.results.toList = some R.rounded_way_3 := by kernel_rfl
theorem E.rounded_way_3 : Tryd.prog.funcs[F.rounded_way_3]? = some Tryd.f68 := Tryd.func68
theorem B.rounded_way_3 : Tryd.f68.body = some (Tryd.f68.body.getD .skip) := by kernel_rfl
theorem N.rounded_way_3 : Tryd.f68.ntmps = 18 := Tryd.ntmps68

def C.nat_told : VC :=
  .seq (.region false [⟨some 2, .mov (.c nil1), none⟩,
   ⟨some 3, .mov (.c (iv 0)), none⟩]) (.seq (.region false [⟨some 4, .mov (.t 0), none⟩,
   ⟨some 5, .call F.nat_trim [.t 4], none⟩,
   ⟨some 0, .mov (.t 5), none⟩]) (.seq (.seq (.region false [⟨some 6, .mov (.t 0), none⟩,
   ⟨some 7, .call F.nat_Length [.t 6], none⟩,
   ⟨some 8, .bin .gtr false (.t 7) (.c (iv 67108864)), none⟩]) (.cond (.t 8) (.seq (.region false [⟨some 2, .mov (.c nil1), none⟩,
   ⟨some 3, .mov (.c (iv 3)), none⟩]) .ret) .skip)) (.seq (.region false [⟨some 9, .mov (.t 0), none⟩,
   ⟨some 2, .mov (.t 9), none⟩,
   ⟨some 3, .mov (.c (iv 0)), none⟩]) .ret)))
def R.nat_told : List VRes := [.tmp 2, .tmp 3]
theorem K.nat_told : resCode Tryd.prog Tryd.f70.ntmps (Tryd.f70.body.getD .skip) = C.nat_told := by kernel_rfl
theorem Q.nat_told : resResults Tryd.prog Tryd.f70.results.toList = some R.nat_told := by kernel_rfl
theorem E.nat_told : Tryd.prog.funcs[F.nat_told]? = some Tryd.f70 := Tryd.func70
theorem B.nat_told : Tryd.f70.body = some (Tryd.f70.body.getD .skip) := by kernel_rfl
theorem N.nat_told : Tryd.f70.ntmps = 10 := Tryd.ntmps70

def C.roots_fits : VC :=
  .seq (.region false [⟨some 2, .mov (.c nil1), none⟩,
   ⟨some 3, .mov (.c (iv 0)), none⟩]) (.seq (.seq (.region false [⟨some 4, .mov (.t 0), none⟩,
   ⟨some 5, .call F.nat_Length [.t 4], none⟩,
   ⟨some 6, .bin .gtr false (.t 5) (.c (iv 67108864)), none⟩]) (.cond (.t 6) (.seq (.region false [⟨some 2, .mov (.c nil1), none⟩,
   ⟨some 3, .mov (.c (iv 3)), none⟩]) .ret) .skip)) (.seq (.region false [⟨some 7, .mov (.t 0), none⟩,
   ⟨some 8, .call F.nat_Norm [.t 7], none⟩,
   ⟨some 2, .mov (.t 8), none⟩,
   ⟨some 3, .mov (.c (iv 0)), none⟩]) .ret))
def R.roots_fits : List VRes := [.tmp 2, .tmp 3]
theorem K.roots_fits : resCode Tryd.prog Tryd.f71.ntmps (Tryd.f71.body.getD .skip) = C.roots_fits := by kernel_rfl
theorem Q.roots_fits : resResults Tryd.prog Tryd.f71.results.toList = some R.roots_fits := by kernel_rfl
theorem E.roots_fits : Tryd.prog.funcs[F.roots_fits]? = some Tryd.f71 := Tryd.func71
theorem B.roots_fits : Tryd.f71.body = some (Tryd.f71.body.getD .skip) := by kernel_rfl
theorem N.roots_fits : Tryd.f71.ntmps = 9 := Tryd.ntmps71

def C.roots_newton : VC :=
  .seq (.region false [⟨some 4, .mov (.c nil1), none⟩]) (.seq (.region false [⟨some 18, .mov (.t 0), none⟩,
   ⟨some 19, .call F.nat_Length [.t 18], none⟩,
   ⟨some 5, .mov (.t 19), none⟩]) (.seq (.seq (.region false [⟨some 20, .mov (.t 1), none⟩,
   ⟨some 21, .mov (.t 5), none⟩,
   ⟨some 22, .bin .geq false (.t 20) (.t 21), none⟩]) (.cond (.t 22) (.seq (.region false [⟨some 23, .call F.nat_From [.c (nv 1)], none⟩,
   ⟨some 4, .mov (.t 23), none⟩]) .ret) .skip)) (.seq (.region false [⟨some 24, .mov (.t 5), none⟩,
   ⟨some 25, .mov (.t 1), none⟩,
   ⟨some 26, .bin .add false (.t 24) (.t 25), none⟩,
   ⟨some 27, .bin .sub false (.t 26) (.c (iv 1)), none⟩,
   ⟨some 28, .mov (.t 1), none⟩,
   ⟨some 29, .bin .quo false (.t 27) (.t 28), none⟩,
   ⟨some 30, .call F.roots_power [.t 29], none⟩,
   ⟨some 6, .mov (.t 30), none⟩]) (.block 0 (.loop (.block 1 (.seq (.region false [⟨some 32, .mov (.t 6), none⟩,
   ⟨some 33, .mov (.t 1), none⟩,
   ⟨some 34, .bin .sub false (.t 33) (.c (iv 1)), none⟩,
   ⟨some 35, .call F.mul_Pow [.t 32, .t 34], none⟩,
   ⟨some 31, .mov (.t 35), none⟩,
   ⟨some 36, .ext (.t 31) 0, none⟩,
   ⟨some 37, .ext (.t 31) 1, none⟩,
   ⟨some 7, .mov (.t 36), none⟩,
   ⟨some 8, .mov (.t 37), none⟩]) (.seq (.region false [⟨some 39, .mov (.t 0), none⟩,
   ⟨some 40, .mov (.t 7), none⟩,
   ⟨some 41, .call F.div_Quo [.t 39, .t 40], none⟩,
   ⟨some 38, .mov (.t 41), none⟩,
   ⟨some 42, .ext (.t 38) 0, none⟩,
   ⟨some 43, .ext (.t 38) 1, none⟩,
   ⟨some 9, .mov (.t 42), none⟩,
   ⟨some 10, .mov (.t 43), none⟩]) (.seq (.region false [⟨some 45, .mov (.t 6), none⟩,
   ⟨some 46, .mov (.t 1), none⟩,
   ⟨some 47, .bin .sub false (.t 46) (.c (iv 1)), none⟩,
   ⟨some 48, .conv .u64 (.t 47), none⟩,
   ⟨some 49, .call F.nat_Times [.t 45, .t 48], none⟩,
   ⟨some 44, .mov (.t 49), none⟩,
   ⟨some 50, .ext (.t 44) 0, none⟩,
   ⟨some 51, .ext (.t 44) 1, none⟩,
   ⟨some 11, .mov (.t 50), none⟩,
   ⟨some 12, .mov (.t 51), none⟩]) (.seq (.region false [⟨some 53, .mov (.t 11), none⟩,
   ⟨some 54, .mov (.t 9), none⟩,
   ⟨some 55, .call F.nat_Add [.t 53, .t 54], none⟩,
   ⟨some 52, .mov (.t 55), none⟩,
   ⟨some 56, .ext (.t 52) 0, none⟩,
   ⟨some 57, .ext (.t 52) 1, none⟩,
   ⟨some 13, .mov (.t 56), none⟩,
   ⟨some 14, .mov (.t 57), none⟩]) (.seq (.region false [⟨some 59, .mov (.t 13), none⟩,
   ⟨some 60, .mov (.t 1), none⟩,
   ⟨some 61, .conv .u64 (.t 60), none⟩,
   ⟨some 62, .call F.nat_Through [.t 59, .t 61], none⟩,
   ⟨some 58, .mov (.t 62), none⟩,
   ⟨some 63, .ext (.t 58) 0, none⟩,
   ⟨some 64, .ext (.t 58) 1, none⟩,
   ⟨some 65, .ext (.t 58) 2, none⟩,
   ⟨some 15, .mov (.t 63), none⟩,
   ⟨some 16, .mov (.t 64), none⟩,
   ⟨some 17, .mov (.t 65), none⟩]) (.seq (.seq (.region false [⟨some 66, .mov (.t 15), none⟩,
   ⟨some 67, .mov (.t 6), none⟩,
   ⟨some 68, .call F.nat_Compare [.t 66, .t 67], none⟩,
   ⟨some 69, .bin .geq false (.t 68) (.c (iv 0)), none⟩]) (.cond (.t 69) (.seq (.region false [⟨some 70, .mov (.t 6), none⟩,
   ⟨some 4, .mov (.t 70), none⟩]) .ret) .skip)) (.region false [⟨some 71, .mov (.t 15), none⟩,
   ⟨some 6, .mov (.t 71), none⟩])))))))))))))
def R.roots_newton : List VRes := [.tmp 4]
theorem K.roots_newton : resCode Tryd.prog Tryd.f72.ntmps (Tryd.f72.body.getD .skip) = C.roots_newton := by kernel_rfl
theorem Q.roots_newton : resResults Tryd.prog Tryd.f72.results.toList = some R.roots_newton := by kernel_rfl
theorem E.roots_newton : Tryd.prog.funcs[F.roots_newton]? = some Tryd.f72 := Tryd.func72
theorem B.roots_newton : Tryd.f72.body = some (Tryd.f72.body.getD .skip) := by kernel_rfl
theorem N.roots_newton : Tryd.f72.ntmps = 72 := Tryd.ntmps72

def C.mul_Pow : VC :=
  .seq (.region false [⟨some 4, .mov (.c nil1), none⟩,
   ⟨some 5, .mov (.c (iv 0)), none⟩]) (.seq (.seq (.region false [⟨some 10, .mov (.t 1), none⟩,
   ⟨some 11, .bin .lss false (.t 10) (.c (iv 0)), none⟩]) (.cond (.t 11) (.seq (.region false [⟨some 4, .mov (.c nil1), none⟩,
   ⟨some 5, .mov (.c (iv 1)), none⟩]) .ret) .skip)) (.seq (.region false [⟨some 12, .mov (.t 0), none⟩,
   ⟨some 13, .call F.nat_Norm [.t 12], none⟩,
   ⟨some 0, .mov (.t 13), none⟩]) (.seq (.seq (.region false [⟨some 14, .mov (.t 1), none⟩,
   ⟨some 15, .bin .eql false (.t 14) (.c (iv 0)), none⟩]) (.cond (.t 15) (.seq (.region false [⟨some 16, .call F.nat_From [.c (nv 1)], none⟩,
   ⟨some 4, .mov (.t 16), none⟩,
   ⟨some 5, .mov (.c (iv 0)), none⟩]) .ret) .skip)) (.seq (.region false [⟨some 17, .mov (.t 0), none⟩,
   ⟨some 18, .call F.nat_Length [.t 17], none⟩,
   ⟨some 6, .mov (.t 18), none⟩]) (.seq (.seq (.region false [⟨some 19, .mov (.t 6), none⟩,
   ⟨some 20, .bin .leq false (.t 19) (.c (iv 1)), none⟩]) (.cond (.t 20) (.seq (.region false [⟨some 21, .mov (.t 0), none⟩,
   ⟨some 4, .mov (.t 21), none⟩,
   ⟨some 5, .mov (.c (iv 0)), none⟩]) .ret) .skip)) (.seq (.seq (.region false [⟨some 22, .mov (.t 1), none⟩,
   ⟨some 23, .bin .gtr false (.t 22) (.c (iv 67108864)), none⟩,
   ⟨some 24, .mov (.t 23), none⟩,
   ⟨some 25, .mov (.t 6), some (24, false)⟩,
   ⟨some 26, .bin .sub false (.t 25) (.c (iv 1)), some (24, false)⟩,
   ⟨some 27, .mov (.t 1), some (24, false)⟩,
   ⟨some 28, .bin .mul false (.t 26) (.t 27), some (24, false)⟩,
   ⟨some 29, .bin .add false (.t 28) (.c (iv 1)), some (24, false)⟩,
   ⟨some 30, .bin .gtr false (.t 29) (.c (iv 67108864)), some (24, false)⟩,
   ⟨some 31, .pick (.t 24) (.c (bv true)) (.t 30), none⟩]) (.cond (.t 31) (.seq (.region false [⟨some 4, .mov (.c nil1), none⟩,
   ⟨some 5, .mov (.c (iv 3)), none⟩]) .ret) .skip)) (.seq (.region false [⟨some 32, .call F.nat_From [.c (nv 1)], none⟩,
   ⟨some 7, .mov (.t 32), none⟩]) (.seq (.seq (.region false [⟨some 8, .mov (.c (iv 62)), none⟩]) (.block 0 (.loop (.seq (.seq (.region false [⟨some 33, .mov (.t 8), none⟩,
   ⟨some 34, .bin .geq false (.t 33) (.c (iv 0)), none⟩]) (.cond (.t 34) .skip (.exit 0))) (.seq (.block 1 (.seq (.region false [⟨some 9, .mov (.c (iv 0)), none⟩]) (.seq (.seq (.region false [⟨some 37, .mov (.t 7), none⟩,
   ⟨some 38, .len (.t 37), none⟩,
   ⟨some 39, .bin .gtr false (.t 38) (.c (iv 0)), none⟩]) (.cond (.t 39) (.seq (.region false [⟨some 41, .mov (.t 7), none⟩,
   ⟨some 42, .call F.mul_Square [.t 41], none⟩,
   ⟨some 40, .mov (.t 42), none⟩,
   ⟨some 43, .ext (.t 40) 0, none⟩,
   ⟨some 44, .ext (.t 40) 1, none⟩,
   ⟨some 7, .mov (.t 43), none⟩,
   ⟨some 9, .mov (.t 44), none⟩]) (.seq (.region false [⟨some 45, .mov (.t 9), none⟩,
   ⟨some 46, .bin .neq false (.t 45) (.c (iv 0)), none⟩]) (.cond (.t 46) (.seq (.region false [⟨some 47, .mov (.t 9), none⟩,
   ⟨some 4, .mov (.c nil1), none⟩,
   ⟨some 5, .mov (.t 47), none⟩]) .ret) .skip))) .skip)) (.seq (.region false [⟨some 48, .mov (.t 1), none⟩,
   ⟨some 49, .mov (.t 8), none⟩,
   ⟨some 50, .bin .shr false (.t 48) (.t 49), none⟩,
   ⟨some 51, .bin .and false (.t 50) (.c (iv 1)), none⟩,
   ⟨some 52, .bin .eql false (.t 51) (.c (iv 1)), none⟩]) (.cond (.t 52) (.seq (.region false [⟨some 54, .mov (.t 7), none⟩,
   ⟨some 55, .mov (.t 0), none⟩,
   ⟨some 56, .call F.mul_Mul [.t 54, .t 55], none⟩,
   ⟨some 53, .mov (.t 56), none⟩,
   ⟨some 57, .ext (.t 53) 0, none⟩,
   ⟨some 58, .ext (.t 53) 1, none⟩,
   ⟨some 7, .mov (.t 57), none⟩,
   ⟨some 9, .mov (.t 58), none⟩]) (.seq (.region false [⟨some 59, .mov (.t 9), none⟩,
   ⟨some 60, .bin .neq false (.t 59) (.c (iv 0)), none⟩]) (.cond (.t 60) (.seq (.region false [⟨some 61, .mov (.t 9), none⟩,
   ⟨some 4, .mov (.c nil1), none⟩,
   ⟨some 5, .mov (.t 61), none⟩]) .ret) .skip))) .skip))))) (.region false [⟨some 35, .mov (.t 8), none⟩,
   ⟨some 36, .bin .sub false (.t 35) (.c (iv 1)), none⟩,
   ⟨some 8, .mov (.t 36), none⟩])))))) (.seq (.region false [⟨some 62, .mov (.t 7), none⟩,
   ⟨some 4, .mov (.t 62), none⟩,
   ⟨some 5, .mov (.c (iv 0)), none⟩]) .ret)))))))))
def R.mul_Pow : List VRes := [.tmp 4, .tmp 5]
theorem K.mul_Pow : resCode Tryd.prog Tryd.f73.ntmps (Tryd.f73.body.getD .skip) = C.mul_Pow := by kernel_rfl
theorem Q.mul_Pow : resResults Tryd.prog Tryd.f73.results.toList = some R.mul_Pow := by kernel_rfl
theorem E.mul_Pow : Tryd.prog.funcs[F.mul_Pow]? = some Tryd.f73 := Tryd.func73
theorem B.mul_Pow : Tryd.f73.body = some (Tryd.f73.body.getD .skip) := by kernel_rfl
theorem N.mul_Pow : Tryd.f73.ntmps = 63 := Tryd.ntmps73

def C.roots_less : VC :=
  .seq (.region false [⟨some 4, .mov (.c nil1), none⟩]) (.seq (.region false [⟨some 8, .mov (.t 0), none⟩,
   ⟨some 9, .mov (.t 1), none⟩,
   ⟨some 10, .call F.nat_Sub [.t 8, .t 9], none⟩,
   ⟨some 7, .mov (.t 10), none⟩,
   ⟨some 11, .ext (.t 7) 0, none⟩,
   ⟨some 12, .ext (.t 7) 1, none⟩,
   ⟨some 5, .mov (.t 11), none⟩,
   ⟨some 6, .mov (.t 12), none⟩]) (.seq (.region false [⟨some 13, .mov (.t 5), none⟩,
   ⟨some 4, .mov (.t 13), none⟩]) .ret))
def R.roots_less : List VRes := [.tmp 4]
theorem K.roots_less : resCode Tryd.prog Tryd.f74.ntmps (Tryd.f74.body.getD .skip) = C.roots_less := by kernel_rfl
theorem Q.roots_less : resResults Tryd.prog Tryd.f74.results.toList = some R.roots_less := by kernel_rfl
theorem E.roots_less : Tryd.prog.funcs[F.roots_less]? = some Tryd.f74 := Tryd.func74
theorem B.roots_less : Tryd.f74.body = some (Tryd.f74.body.getD .skip) := by kernel_rfl
theorem N.roots_less : Tryd.f74.ntmps = 14 := Tryd.ntmps74

def C.bits_Div64 : VC :=
  .seq (.region false [⟨some 6, .mov (.c (nv 0)), none⟩,
   ⟨some 7, .mov (.c (nv 0)), none⟩]) (.seq (.seq (.region false [⟨some 19, .mov (.t 2), none⟩,
   ⟨some 20, .bin .eql false (.t 19) (.c (nv 0)), none⟩]) (.cond (.t 20) (.region false [⟨some 21, .load none (.c (.gptr 1 0)), none⟩,
   ⟨none, .bad, none⟩]) .skip)) (.seq (.seq (.region false [⟨some 22, .mov (.t 2), none⟩,
   ⟨some 23, .mov (.t 0), none⟩,
   ⟨some 24, .bin .leq false (.t 22) (.t 23), none⟩]) (.cond (.t 24) (.region false [⟨some 25, .load none (.c (.gptr 2 0)), none⟩,
   ⟨none, .bad, none⟩]) .skip)) (.seq (.seq (.region false [⟨some 26, .mov (.t 0), none⟩,
   ⟨some 27, .bin .eql false (.t 26) (.c (nv 0)), none⟩]) (.cond (.t 27) (.seq (.region true [⟨some 28, .mov (.t 1), none⟩,
   ⟨some 29, .mov (.t 2), none⟩,
   ⟨some 30, .bin .quo false (.t 28) (.t 29), none⟩,
   ⟨some 31, .mov (.t 1), none⟩,
   ⟨some 32, .mov (.t 2), none⟩,
   ⟨some 33, .bin .rem false (.t 31) (.t 32), none⟩,
   ⟨some 6, .mov (.t 30), none⟩,
   ⟨some 7, .mov (.t 33), none⟩]) .ret) .skip)) (.seq (.region false [⟨some 34, .mov (.t 2), none⟩,
   ⟨some 35, .call F.bits_LeadingZeros64 [.t 34], none⟩,
   ⟨some 36, .conv .u64 (.t 35), none⟩,
   ⟨some 8, .mov (.t 36), none⟩]) (.seq (.region false [⟨some 37, .mov (.t 2), none⟩,
   ⟨some 38, .mov (.t 8), none⟩,
   ⟨some 39, .bin .shl false (.t 37) (.t 38), none⟩,
   ⟨some 2, .mov (.t 39), none⟩]) (.seq (.region false [⟨some 40, .mov (.t 2), none⟩,
   ⟨some 41, .bin .shr false (.t 40) (.c (nv 32)), none⟩,
   ⟨some 9, .mov (.t 41), none⟩]) (.seq (.region false [⟨some 42, .mov (.t 2), none⟩,
   ⟨some 43, .bin .and false (.t 42) (.c (nv 4294967295)), none⟩,
   ⟨some 10, .mov (.t 43), none⟩]) (.seq (.region false [⟨some 44, .mov (.t 0), none⟩,
   ⟨some 45, .mov (.t 8), none⟩,
   ⟨some 46, .bin .shl false (.t 44) (.t 45), none⟩,
   ⟨some 47, .mov (.t 1), none⟩,
   ⟨some 48, .mov (.t 8), none⟩,
   ⟨some 49, .bin .sub false (.c (nv 64)) (.t 48), none⟩,
   ⟨some 50, .bin .shr false (.t 47) (.t 49), none⟩,
   ⟨some 51, .bin .or false (.t 46) (.t 50), none⟩,
   ⟨some 11, .mov (.t 51), none⟩]) (.seq (.region false [⟨some 52, .mov (.t 1), none⟩,
   ⟨some 53, .mov (.t 8), none⟩,
   ⟨some 54, .bin .shl false (.t 52) (.t 53), none⟩,
   ⟨some 12, .mov (.t 54), none⟩]) (.seq (.region false [⟨some 55, .mov (.t 12), none⟩,
   ⟨some 56, .bin .shr false (.t 55) (.c (nv 32)), none⟩,
   ⟨some 13, .mov (.t 56), none⟩]) (.seq (.region false [⟨some 57, .mov (.t 12), none⟩,
   ⟨some 58, .bin .and false (.t 57) (.c (nv 4294967295)), none⟩,
   ⟨some 14, .mov (.t 58), none⟩]) (.seq (.region false [⟨some 59, .mov (.t 11), none⟩,
   ⟨some 60, .mov (.t 9), none⟩,
   ⟨some 61, .bin .quo false (.t 59) (.t 60), none⟩,
   ⟨some 15, .mov (.t 61), none⟩]) (.seq (.region false [⟨some 62, .mov (.t 11), none⟩,
   ⟨some 63, .mov (.t 15), none⟩,
   ⟨some 64, .mov (.t 9), none⟩,
   ⟨some 65, .bin .mul false (.t 63) (.t 64), none⟩,
   ⟨some 66, .bin .sub false (.t 62) (.t 65), none⟩,
   ⟨some 16, .mov (.t 66), none⟩]) (.seq (.block 0 (.loop (.seq (.seq (.region false [⟨some 67, .mov (.t 15), none⟩,
   ⟨some 68, .bin .geq false (.t 67) (.c (nv 4294967296)), none⟩,
   ⟨some 69, .mov (.t 68), none⟩,
   ⟨some 70, .mov (.t 15), some (69, false)⟩,
   ⟨some 71, .mov (.t 10), some (69, false)⟩,
   ⟨some 72, .bin .mul false (.t 70) (.t 71), some (69, false)⟩,
   ⟨some 73, .mov (.t 16), some (69, false)⟩,
   ⟨some 74, .bin .mul false (.c (nv 4294967296)) (.t 73), some (69, false)⟩,
   ⟨some 75, .mov (.t 13), some (69, false)⟩,
   ⟨some 76, .bin .add false (.t 74) (.t 75), some (69, false)⟩,
   ⟨some 77, .bin .gtr false (.t 72) (.t 76), some (69, false)⟩,
   ⟨some 78, .pick (.t 69) (.c (bv true)) (.t 77), none⟩]) (.cond (.t 78) .skip (.exit 0))) (.block 1 (.seq (.region false [⟨some 79, .mov (.t 15), none⟩,
   ⟨some 80, .bin .sub false (.t 79) (.c (nv 1)), none⟩,
   ⟨some 15, .mov (.t 80), none⟩]) (.seq (.region false [⟨some 81, .mov (.t 16), none⟩,
   ⟨some 82, .mov (.t 9), none⟩,
   ⟨some 83, .bin .add false (.t 81) (.t 82), none⟩,
   ⟨some 16, .mov (.t 83), none⟩]) (.seq (.region false [⟨some 84, .mov (.t 16), none⟩,
   ⟨some 85, .bin .geq false (.t 84) (.c (nv 4294967296)), none⟩]) (.cond (.t 85) (.exit 0) .skip)))))))) (.seq (.region false [⟨some 86, .mov (.t 11), none⟩,
   ⟨some 87, .bin .mul false (.t 86) (.c (nv 4294967296)), none⟩,
   ⟨some 88, .mov (.t 13), none⟩,
   ⟨some 89, .bin .add false (.t 87) (.t 88), none⟩,
   ⟨some 90, .mov (.t 15), none⟩,
   ⟨some 91, .mov (.t 2), none⟩,
   ⟨some 92, .bin .mul false (.t 90) (.t 91), none⟩,
   ⟨some 93, .bin .sub false (.t 89) (.t 92), none⟩,
   ⟨some 17, .mov (.t 93), none⟩]) (.seq (.region false [⟨some 94, .mov (.t 17), none⟩,
   ⟨some 95, .mov (.t 9), none⟩,
   ⟨some 96, .bin .quo false (.t 94) (.t 95), none⟩,
   ⟨some 18, .mov (.t 96), none⟩]) (.seq (.region false [⟨some 97, .mov (.t 17), none⟩,
   ⟨some 98, .mov (.t 18), none⟩,
   ⟨some 99, .mov (.t 9), none⟩,
   ⟨some 100, .bin .mul false (.t 98) (.t 99), none⟩,
   ⟨some 101, .bin .sub false (.t 97) (.t 100), none⟩,
   ⟨some 16, .mov (.t 101), none⟩]) (.seq (.block 2 (.loop (.seq (.seq (.region false [⟨some 102, .mov (.t 18), none⟩,
   ⟨some 103, .bin .geq false (.t 102) (.c (nv 4294967296)), none⟩,
   ⟨some 104, .mov (.t 103), none⟩,
   ⟨some 105, .mov (.t 18), some (104, false)⟩,
   ⟨some 106, .mov (.t 10), some (104, false)⟩,
   ⟨some 107, .bin .mul false (.t 105) (.t 106), some (104, false)⟩,
   ⟨some 108, .mov (.t 16), some (104, false)⟩,
   ⟨some 109, .bin .mul false (.c (nv 4294967296)) (.t 108), some (104, false)⟩,
   ⟨some 110, .mov (.t 14), some (104, false)⟩,
   ⟨some 111, .bin .add false (.t 109) (.t 110), some (104, false)⟩,
   ⟨some 112, .bin .gtr false (.t 107) (.t 111), some (104, false)⟩,
   ⟨some 113, .pick (.t 104) (.c (bv true)) (.t 112), none⟩]) (.cond (.t 113) .skip (.exit 2))) (.block 3 (.seq (.region false [⟨some 114, .mov (.t 18), none⟩,
   ⟨some 115, .bin .sub false (.t 114) (.c (nv 1)), none⟩,
   ⟨some 18, .mov (.t 115), none⟩]) (.seq (.region false [⟨some 116, .mov (.t 16), none⟩,
   ⟨some 117, .mov (.t 9), none⟩,
   ⟨some 118, .bin .add false (.t 116) (.t 117), none⟩,
   ⟨some 16, .mov (.t 118), none⟩]) (.seq (.region false [⟨some 119, .mov (.t 16), none⟩,
   ⟨some 120, .bin .geq false (.t 119) (.c (nv 4294967296)), none⟩]) (.cond (.t 120) (.exit 2) .skip)))))))) (.seq (.region false [⟨some 121, .mov (.t 15), none⟩,
   ⟨some 122, .bin .mul false (.t 121) (.c (nv 4294967296)), none⟩,
   ⟨some 123, .mov (.t 18), none⟩,
   ⟨some 124, .bin .add false (.t 122) (.t 123), none⟩,
   ⟨some 125, .mov (.t 17), none⟩,
   ⟨some 126, .bin .mul false (.t 125) (.c (nv 4294967296)), none⟩,
   ⟨some 127, .mov (.t 14), none⟩,
   ⟨some 128, .bin .add false (.t 126) (.t 127), none⟩,
   ⟨some 129, .mov (.t 18), none⟩,
   ⟨some 130, .mov (.t 2), none⟩,
   ⟨some 131, .bin .mul false (.t 129) (.t 130), none⟩,
   ⟨some 132, .bin .sub false (.t 128) (.t 131), none⟩,
   ⟨some 133, .mov (.t 8), none⟩,
   ⟨some 134, .bin .shr false (.t 132) (.t 133), none⟩,
   ⟨some 6, .mov (.t 124), none⟩,
   ⟨some 7, .mov (.t 134), none⟩]) .ret)))))))))))))))))))
def R.bits_Div64 : List VRes := [.tmp 6, .tmp 7]
theorem K.bits_Div64 : resCode Tryd.prog Tryd.f75.ntmps (Tryd.f75.body.getD .skip) = C.bits_Div64 := by kernel_rfl
theorem Q.bits_Div64 : resResults Tryd.prog Tryd.f75.results.toList = some R.bits_Div64 := by kernel_rfl
theorem E.bits_Div64 : Tryd.prog.funcs[F.bits_Div64]? = some Tryd.f75 := Tryd.func75
theorem B.bits_Div64 : Tryd.f75.body = some (Tryd.f75.body.getD .skip) := by kernel_rfl
theorem N.bits_Div64 : Tryd.f75.ntmps = 135 := Tryd.ntmps75

def C.bits_LeadingZeros64 : VC :=
  .seq (.region false [⟨some 2, .mov (.c (iv 0)), none⟩]) (.seq (.region false [⟨some 3, .mov (.t 0), none⟩,
   ⟨some 4, .call F.bits_Len64 [.t 3], none⟩,
   ⟨some 5, .bin .sub false (.c (iv 64)) (.t 4), none⟩,
   ⟨some 2, .mov (.t 5), none⟩]) .ret)
def R.bits_LeadingZeros64 : List VRes := [.tmp 2]
theorem K.bits_LeadingZeros64 : resCode Tryd.prog Tryd.f76.ntmps (Tryd.f76.body.getD .skip) = C.bits_LeadingZeros64 := by kernel_rfl
theorem Q.bits_LeadingZeros64 : resResults Tryd.prog Tryd.f76.results.toList = some R.bits_LeadingZeros64 := by kernel_rfl
theorem E.bits_LeadingZeros64 : Tryd.prog.funcs[F.bits_LeadingZeros64]? = some Tryd.f76 := Tryd.func76
theorem B.bits_LeadingZeros64 : Tryd.f76.body = some (Tryd.f76.body.getD .skip) := by kernel_rfl
theorem N.bits_LeadingZeros64 : Tryd.f76.ntmps = 6 := Tryd.ntmps76

def C.div_up : VC :=
  .seq (.region false [⟨some 4, .mov (.c nil1), none⟩]) (.seq (.region false [⟨some 8, .mov (.t 0), none⟩,
   ⟨some 9, .len (.t 8), none⟩,
   ⟨some 10, .bin .add false (.t 9) (.c (iv 1)), none⟩,
   ⟨some 11, .mk [.int .u64 0] 8 (.t 10) (.t 10), none⟩,
   ⟨some 5, .mov (.t 11), none⟩]) (.seq (.seq (.region false [⟨some 12, .mov (.t 0), none⟩,
   ⟨some 13, .len (.t 12), none⟩,
   ⟨some 14, .mov (.c (iv 0)), none⟩]) (.block 0 (.loop (.seq (.region false [⟨some 15, .bin .lss false (.t 14) (.t 13), none⟩]) (.seq (.cond (.t 15) .skip (.exit 0)) (.seq (.block 1 (.seq (.region false [⟨some 16, .mov (.t 14), none⟩,
   ⟨some 17, .ixa 1 (.t 12) (.t 14), none⟩,
   ⟨some 18, .load none (.t 17), none⟩,
   ⟨some 6, .mov (.t 16), none⟩,
   ⟨some 7, .mov (.t 18), none⟩]) (.seq (.region false [⟨some 19, .mov (.t 5), none⟩,
   ⟨some 20, .mov (.t 6), none⟩,
   ⟨some 21, .ixa 1 (.t 19) (.t 20), none⟩,
   ⟨some 22, .load none (.t 21), none⟩,
   ⟨some 23, .mov (.t 7), none⟩,
   ⟨some 24, .mov (.t 1), none⟩,
   ⟨some 25, .bin .shl false (.t 23) (.t 24), none⟩,
   ⟨some 26, .bin .or false (.t 22) (.t 25), none⟩,
   ⟨some 27, .ixa 1 (.t 19) (.t 20), none⟩,
   ⟨none, .store 1 (.t 27) (.t 26), none⟩]) (.region false [⟨some 28, .mov (.t 5), none⟩,
   ⟨some 29, .mov (.t 6), none⟩,
   ⟨some 30, .bin .add false (.t 29) (.c (iv 1)), none⟩,
   ⟨some 31, .mov (.t 7), none⟩,
   ⟨some 32, .bin .shr false (.t 31) (.c (nv 1)), none⟩,
   ⟨some 33, .mov (.t 1), none⟩,
   ⟨some 34, .bin .sub false (.c (nv 63)) (.t 33), none⟩,
   ⟨some 35, .bin .shr false (.t 32) (.t 34), none⟩,
   ⟨some 36, .ixa 1 (.t 28) (.t 30), none⟩,
   ⟨none, .store 1 (.t 36) (.t 35), none⟩])))) (.region false [⟨some 37, .bin .add false (.t 14) (.c (iv 1)), none⟩,
   ⟨some 14, .mov (.t 37), none⟩]))))))) (.seq (.region false [⟨some 38, .mov (.t 5), none⟩,
   ⟨some 4, .mov (.t 38), none⟩]) .ret)))
def R.div_up : List VRes := [.tmp 4]
theorem K.div_up : resCode Tryd.prog Tryd.f77.ntmps (Tryd.f77.body.getD .skip) = C.div_up := by kernel_rfl
theorem Q.div_up : resResults Tryd.prog Tryd.f77.results.toList = some R.div_up := by kernel_rfl
theorem E.div_up : Tryd.prog.funcs[F.div_up]? = some Tryd.f77 := Tryd.func77
theorem B.div_up : Tryd.f77.body = some (Tryd.f77.body.getD .skip) := by kernel_rfl
theorem N.div_up : Tryd.f77.ntmps = 39 := Tryd.ntmps77

def C.div_guess : VC :=
  .seq (.region false [⟨some 4, .mov (.c (nv 0)), none⟩]) (.seq (.region false [⟨some 24, .mov (.t 1), none⟩,
   ⟨some 25, .len (.t 24), none⟩,
   ⟨some 5, .mov (.t 25), none⟩]) (.seq (.region false [⟨some 6, .mov (.c (nv 0)), none⟩,
   ⟨some 7, .mov (.c (nv 0)), none⟩]) (.seq (.region false [⟨some 8, .mov (.c (bv false)), none⟩]) (.seq (.seq (.region true [⟨some 26, .mov (.t 0), none⟩,
   ⟨some 27, .mov (.t 5), none⟩,
   ⟨some 28, .ixa 1 (.t 26) (.t 27), none⟩,
   ⟨some 29, .load none (.t 28), none⟩,
   ⟨some 30, .mov (.t 1), none⟩,
   ⟨some 31, .mov (.t 5), none⟩,
   ⟨some 32, .bin .sub false (.t 31) (.c (iv 1)), none⟩,
   ⟨some 33, .ixa 1 (.t 30) (.t 32), none⟩,
   ⟨some 34, .load none (.t 33), none⟩,
   ⟨some 35, .bin .geq false (.t 29) (.t 34), none⟩]) (.cond (.t 35) (.seq (.region false [⟨some 6, .mov (.c (nv 18446744073709551615)), none⟩]) (.seq (.region false [⟨some 9, .mov (.c (nv 0)), none⟩]) (.seq (.region true [⟨some 37, .mov (.t 0), none⟩,
   ⟨some 38, .mov (.t 5), none⟩,
   ⟨some 39, .bin .sub false (.t 38) (.c (iv 1)), none⟩,
   ⟨some 40, .ixa 1 (.t 37) (.t 39), none⟩,
   ⟨some 41, .load none (.t 40), none⟩,
   ⟨some 42, .mov (.t 1), none⟩,
   ⟨some 43, .mov (.t 5), none⟩,
   ⟨some 44, .bin .sub false (.t 43) (.c (iv 1)), none⟩,
   ⟨some 45, .ixa 1 (.t 42) (.t 44), none⟩,
   ⟨some 46, .load none (.t 45), none⟩,
   ⟨some 47, .ext64 false (.t 41) (.t 46) (.c (nv 0)), none⟩,
   ⟨some 36, .mov (.t 47), none⟩,
   ⟨some 48, .ext (.t 36) 0, none⟩,
   ⟨some 49, .ext (.t 36) 1, none⟩,
   ⟨some 7, .mov (.t 48), none⟩,
   ⟨some 9, .mov (.t 49), none⟩]) (.region false [⟨some 50, .mov (.t 9), none⟩,
   ⟨some 51, .bin .neq false (.t 50) (.c (nv 0)), none⟩,
   ⟨some 8, .mov (.t 51), none⟩])))) (.region true [⟨some 53, .mov (.t 0), none⟩,
   ⟨some 54, .mov (.t 5), none⟩,
   ⟨some 55, .ixa 1 (.t 53) (.t 54), none⟩,
   ⟨some 56, .load none (.t 55), none⟩,
   ⟨some 57, .mov (.t 0), none⟩,
   ⟨some 58, .mov (.t 5), none⟩,
   ⟨some 59, .bin .sub false (.t 58) (.c (iv 1)), none⟩,
   ⟨some 60, .ixa 1 (.t 57) (.t 59), none⟩,
   ⟨some 61, .load none (.t 60), none⟩,
   ⟨some 62, .mov (.t 1), none⟩,
   ⟨some 63, .mov (.t 5), none⟩,
   ⟨some 64, .bin .sub false (.t 63) (.c (iv 1)), none⟩,
   ⟨some 65, .ixa 1 (.t 62) (.t 64), none⟩,
   ⟨some 66, .load none (.t 65), none⟩,
   ⟨some 67, .call F.bits_Div64 [.t 56, .t 61, .t 66], none⟩,
   ⟨some 52, .mov (.t 67), none⟩,
   ⟨some 68, .ext (.t 52) 0, none⟩,
   ⟨some 69, .ext (.t 52) 1, none⟩,
   ⟨some 6, .mov (.t 68), none⟩,
   ⟨some 7, .mov (.t 69), none⟩]))) (.seq (.block 0 (.loop (.seq (.seq (.region false [⟨some 70, .mov (.t 8), none⟩,
   ⟨some 71, .un .not (.t 70), none⟩]) (.cond (.t 71) .skip (.exit 0))) (.block 1 (.seq (.region false [⟨some 73, .mov (.t 6), none⟩,
   ⟨some 74, .mov (.t 1), none⟩,
   ⟨some 75, .mov (.t 5), none⟩,
   ⟨some 76, .bin .sub false (.t 75) (.c (iv 2)), none⟩,
   ⟨some 77, .ixa 1 (.t 74) (.t 76), none⟩,
   ⟨some 78, .load none (.t 77), none⟩,
   ⟨some 79, .call F.bits_Mul64 [.t 73, .t 78], none⟩,
   ⟨some 72, .mov (.t 79), none⟩,
   ⟨some 80, .ext (.t 72) 0, none⟩,
   ⟨some 81, .ext (.t 72) 1, none⟩,
   ⟨some 10, .mov (.t 80), none⟩,
   ⟨some 11, .mov (.t 81), none⟩]) (.seq (.seq (.region false [⟨some 82, .mov (.t 10), none⟩,
   ⟨some 83, .mov (.t 7), none⟩,
   ⟨some 84, .bin .lss false (.t 82) (.t 83), none⟩,
   ⟨some 85, .mov (.t 84), none⟩,
   ⟨some 86, .mov (.t 10), some (85, false)⟩,
   ⟨some 87, .mov (.t 7), some (85, false)⟩,
   ⟨some 88, .bin .eql false (.t 86) (.t 87), some (85, false)⟩,
   ⟨some 89, .mov (.t 88), some (85, false)⟩,
   ⟨some 90, .mov (.t 11), some (89, true)⟩,
   ⟨some 91, .mov (.t 0), some (89, true)⟩,
   ⟨some 92, .mov (.t 5), some (89, true)⟩,
   ⟨some 93, .bin .sub false (.t 92) (.c (iv 2)), some (89, true)⟩,
   ⟨some 94, .ixa 1 (.t 91) (.t 93), some (89, true)⟩,
   ⟨some 95, .load none (.t 94), some (89, true)⟩,
   ⟨some 96, .bin .leq false (.t 90) (.t 95), some (89, true)⟩,
   ⟨some 97, .pick (.t 89) (.t 96) (.c (bv false)), some (85, false)⟩,
   ⟨some 98, .pick (.t 85) (.c (bv true)) (.t 97), none⟩]) (.cond (.t 98) (.exit 0) .skip)) (.seq (.region false [⟨some 99, .mov (.t 6), none⟩,
   ⟨some 100, .bin .sub false (.t 99) (.c (nv 1)), none⟩,
   ⟨some 6, .mov (.t 100), none⟩]) (.seq (.region false [⟨some 12, .mov (.c (nv 0)), none⟩]) (.seq (.region false [⟨some 102, .mov (.t 7), none⟩,
   ⟨some 103, .mov (.t 1), none⟩,
   ⟨some 104, .mov (.t 5), none⟩,
   ⟨some 105, .bin .sub false (.t 104) (.c (iv 1)), none⟩,
   ⟨some 106, .ixa 1 (.t 103) (.t 105), none⟩,
   ⟨some 107, .load none (.t 106), none⟩,
   ⟨some 108, .ext64 false (.t 102) (.t 107) (.c (nv 0)), none⟩,
   ⟨some 101, .mov (.t 108), none⟩,
   ⟨some 109, .ext (.t 101) 0, none⟩,
   ⟨some 110, .ext (.t 101) 1, none⟩,
   ⟨some 7, .mov (.t 109), none⟩,
   ⟨some 12, .mov (.t 110), none⟩]) (.seq (.region false [⟨some 111, .mov (.t 12), none⟩,
   ⟨some 112, .bin .neq false (.t 111) (.c (nv 0)), none⟩]) (.cond (.t 112) (.exit 0) .skip))))))))))) (.seq (.region false [⟨some 13, .mov (.c (nv 0)), none⟩,
   ⟨some 14, .mov (.c (nv 0)), none⟩]) (.seq (.seq (.region false [⟨some 113, .mov (.t 1), none⟩,
   ⟨some 114, .len (.t 113), none⟩,
   ⟨some 115, .mov (.c (iv 0)), none⟩]) (.block 2 (.loop (.seq (.region false [⟨some 116, .bin .lss false (.t 115) (.t 114), none⟩]) (.seq (.cond (.t 116) .skip (.exit 2)) (.seq (.block 3 (.seq (.region false [⟨some 117, .mov (.t 115), none⟩,
   ⟨some 118, .ixa 1 (.t 113) (.t 115), none⟩,
   ⟨some 119, .load none (.t 118), none⟩,
   ⟨some 15, .mov (.t 117), none⟩,
   ⟨some 16, .mov (.t 119), none⟩]) (.seq (.region false [⟨some 121, .mov (.t 16), none⟩,
   ⟨some 122, .mov (.t 6), none⟩,
   ⟨some 123, .call F.bits_Mul64 [.t 121, .t 122], none⟩,
   ⟨some 120, .mov (.t 123), none⟩,
   ⟨some 124, .ext (.t 120) 0, none⟩,
   ⟨some 125, .ext (.t 120) 1, none⟩,
   ⟨some 17, .mov (.t 124), none⟩,
   ⟨some 18, .mov (.t 125), none⟩]) (.seq (.region false [⟨some 127, .mov (.t 18), none⟩,
   ⟨some 128, .mov (.t 13), none⟩,
   ⟨some 129, .ext64 false (.t 127) (.t 128) (.c (nv 0)), none⟩,
   ⟨some 126, .mov (.t 129), none⟩,
   ⟨some 130, .ext (.t 126) 0, none⟩,
   ⟨some 131, .ext (.t 126) 1, none⟩,
   ⟨some 19, .mov (.t 130), none⟩,
   ⟨some 20, .mov (.t 131), none⟩]) (.seq (.region false [⟨some 132, .mov (.t 17), none⟩,
   ⟨some 133, .mov (.t 20), none⟩,
   ⟨some 134, .bin .add false (.t 132) (.t 133), none⟩,
   ⟨some 13, .mov (.t 134), none⟩]) (.region false [⟨some 136, .mov (.t 0), none⟩,
   ⟨some 137, .mov (.t 15), none⟩,
   ⟨some 138, .mov (.t 0), none⟩,
   ⟨some 139, .mov (.t 15), none⟩,
   ⟨some 140, .ixa 1 (.t 138) (.t 139), none⟩,
   ⟨some 141, .load none (.t 140), none⟩,
   ⟨some 142, .mov (.t 19), none⟩,
   ⟨some 143, .mov (.t 14), none⟩,
   ⟨some 144, .ext64 true (.t 141) (.t 142) (.t 143), none⟩,
   ⟨some 135, .mov (.t 144), none⟩,
   ⟨some 145, .ext (.t 135) 0, none⟩,
   ⟨some 146, .ext (.t 135) 1, none⟩,
   ⟨some 147, .ixa 1 (.t 136) (.t 137), none⟩,
   ⟨none, .store 1 (.t 147) (.t 145), none⟩,
   ⟨some 14, .mov (.t 146), none⟩])))))) (.region false [⟨some 148, .bin .add false (.t 115) (.c (iv 1)), none⟩,
   ⟨some 115, .mov (.t 148), none⟩]))))))) (.seq (.region false [⟨some 150, .mov (.t 0), none⟩,
   ⟨some 151, .mov (.t 5), none⟩,
   ⟨some 152, .mov (.t 0), none⟩,
   ⟨some 153, .mov (.t 5), none⟩,
   ⟨some 154, .ixa 1 (.t 152) (.t 153), none⟩,
   ⟨some 155, .load none (.t 154), none⟩,
   ⟨some 156, .mov (.t 13), none⟩,
   ⟨some 157, .mov (.t 14), none⟩,
   ⟨some 158, .ext64 true (.t 155) (.t 156) (.t 157), none⟩,
   ⟨some 149, .mov (.t 158), none⟩,
   ⟨some 159, .ext (.t 149) 0, none⟩,
   ⟨some 160, .ext (.t 149) 1, none⟩,
   ⟨some 161, .ixa 1 (.t 150) (.t 151), none⟩,
   ⟨none, .store 1 (.t 161) (.t 159), none⟩,
   ⟨some 14, .mov (.t 160), none⟩]) (.seq (.seq (.region false [⟨some 162, .mov (.t 14), none⟩,
   ⟨some 163, .bin .neq false (.t 162) (.c (nv 0)), none⟩]) (.cond (.t 163) (.seq (.region false [⟨some 164, .mov (.t 6), none⟩,
   ⟨some 165, .bin .sub false (.t 164) (.c (nv 1)), none⟩,
   ⟨some 6, .mov (.t 165), none⟩]) (.seq (.region false [⟨some 21, .mov (.c (nv 0)), none⟩]) (.seq (.seq (.region false [⟨some 166, .mov (.t 1), none⟩,
   ⟨some 167, .len (.t 166), none⟩,
   ⟨some 168, .mov (.c (iv 0)), none⟩]) (.block 4 (.loop (.seq (.region false [⟨some 169, .bin .lss false (.t 168) (.t 167), none⟩]) (.seq (.cond (.t 169) .skip (.exit 4)) (.seq (.block 5 (.seq (.region false [⟨some 170, .mov (.t 168), none⟩,
   ⟨some 171, .ixa 1 (.t 166) (.t 168), none⟩,
   ⟨some 172, .load none (.t 171), none⟩,
   ⟨some 22, .mov (.t 170), none⟩,
   ⟨some 23, .mov (.t 172), none⟩]) (.region false [⟨some 174, .mov (.t 0), none⟩,
   ⟨some 175, .mov (.t 22), none⟩,
   ⟨some 176, .mov (.t 0), none⟩,
   ⟨some 177, .mov (.t 22), none⟩,
   ⟨some 178, .ixa 1 (.t 176) (.t 177), none⟩,
   ⟨some 179, .load none (.t 178), none⟩,
   ⟨some 180, .mov (.t 23), none⟩,
   ⟨some 181, .mov (.t 21), none⟩,
   ⟨some 182, .ext64 false (.t 179) (.t 180) (.t 181), none⟩,
   ⟨some 173, .mov (.t 182), none⟩,
   ⟨some 183, .ext (.t 173) 0, none⟩,
   ⟨some 184, .ext (.t 173) 1, none⟩,
   ⟨some 185, .ixa 1 (.t 174) (.t 175), none⟩,
   ⟨none, .store 1 (.t 185) (.t 183), none⟩,
   ⟨some 21, .mov (.t 184), none⟩]))) (.region false [⟨some 186, .bin .add false (.t 168) (.c (iv 1)), none⟩,
   ⟨some 168, .mov (.t 186), none⟩]))))))) (.region false [⟨some 187, .mov (.t 0), none⟩,
   ⟨some 188, .mov (.t 5), none⟩,
   ⟨some 189, .ixa 1 (.t 187) (.t 188), none⟩,
   ⟨some 190, .load none (.t 189), none⟩,
   ⟨some 191, .mov (.t 21), none⟩,
   ⟨some 192, .bin .add false (.t 190) (.t 191), none⟩,
   ⟨some 193, .ixa 1 (.t 187) (.t 188), none⟩,
   ⟨none, .store 1 (.t 193) (.t 192), none⟩])))) .skip)) (.seq (.region false [⟨some 194, .mov (.t 6), none⟩,
   ⟨some 4, .mov (.t 194), none⟩]) .ret))))))))))
def R.div_guess : List VRes := [.tmp 4]
theorem K.div_guess : resCode Tryd.prog Tryd.f78.ntmps (Tryd.f78.body.getD .skip) = C.div_guess := by kernel_rfl
theorem Q.div_guess : resResults Tryd.prog Tryd.f78.results.toList = some R.div_guess := by kernel_rfl
theorem E.div_guess : Tryd.prog.funcs[F.div_guess]? = some Tryd.f78 := Tryd.func78
theorem B.div_guess : Tryd.f78.body = some (Tryd.f78.body.getD .skip) := by kernel_rfl
theorem N.div_guess : Tryd.f78.ntmps = 195 := Tryd.ntmps78

def C.div_down : VC :=
  .seq (.region false [⟨some 4, .mov (.c nil1), none⟩]) (.seq (.region false [⟨some 8, .mov (.t 0), none⟩,
   ⟨some 9, .len (.t 8), none⟩,
   ⟨some 10, .mk [.int .u64 0] 8 (.t 9) (.t 9), none⟩,
   ⟨some 5, .mov (.t 10), none⟩]) (.seq (.seq (.region false [⟨some 11, .mov (.t 0), none⟩,
   ⟨some 12, .len (.t 11), none⟩,
   ⟨some 13, .mov (.c (iv 0)), none⟩]) (.block 0 (.loop (.seq (.region false [⟨some 14, .bin .lss false (.t 13) (.t 12), none⟩]) (.seq (.cond (.t 14) .skip (.exit 0)) (.seq (.block 1 (.seq (.region false [⟨some 15, .mov (.t 13), none⟩,
   ⟨some 16, .ixa 1 (.t 11) (.t 13), none⟩,
   ⟨some 17, .load none (.t 16), none⟩,
   ⟨some 6, .mov (.t 15), none⟩,
   ⟨some 7, .mov (.t 17), none⟩]) (.seq (.region false [⟨some 18, .mov (.t 5), none⟩,
   ⟨some 19, .mov (.t 6), none⟩,
   ⟨some 20, .mov (.t 7), none⟩,
   ⟨some 21, .mov (.t 1), none⟩,
   ⟨some 22, .bin .shr false (.t 20) (.t 21), none⟩,
   ⟨some 23, .ixa 1 (.t 18) (.t 19), none⟩,
   ⟨none, .store 1 (.t 23) (.t 22), none⟩]) (.seq (.region false [⟨some 24, .mov (.t 6), none⟩,
   ⟨some 25, .bin .add false (.t 24) (.c (iv 1)), none⟩,
   ⟨some 26, .mov (.t 0), none⟩,
   ⟨some 27, .len (.t 26), none⟩,
   ⟨some 28, .bin .lss false (.t 25) (.t 27), none⟩]) (.cond (.t 28) (.region true [⟨some 29, .mov (.t 5), none⟩,
   ⟨some 30, .mov (.t 6), none⟩,
   ⟨some 31, .ixa 1 (.t 29) (.t 30), none⟩,
   ⟨some 32, .load none (.t 31), none⟩,
   ⟨some 33, .mov (.t 0), none⟩,
   ⟨some 34, .mov (.t 6), none⟩,
   ⟨some 35, .bin .add false (.t 34) (.c (iv 1)), none⟩,
   ⟨some 36, .ixa 1 (.t 33) (.t 35), none⟩,
   ⟨some 37, .load none (.t 36), none⟩,
   ⟨some 38, .bin .shl false (.t 37) (.c (nv 1)), none⟩,
   ⟨some 39, .mov (.t 1), none⟩,
   ⟨some 40, .bin .sub false (.c (nv 63)) (.t 39), none⟩,
   ⟨some 41, .bin .shl false (.t 38) (.t 40), none⟩,
   ⟨some 42, .bin .or false (.t 32) (.t 41), none⟩,
   ⟨some 43, .ixa 1 (.t 29) (.t 30), none⟩,
   ⟨none, .store 1 (.t 43) (.t 42), none⟩]) .skip))))) (.region false [⟨some 44, .bin .add false (.t 13) (.c (iv 1)), none⟩,
   ⟨some 13, .mov (.t 44), none⟩]))))))) (.seq (.region false [⟨some 45, .mov (.t 5), none⟩,
   ⟨some 46, .call F.nat_Norm [.t 45], none⟩,
   ⟨some 4, .mov (.t 46), none⟩]) .ret)))
def R.div_down : List VRes := [.tmp 4]
theorem K.div_down : resCode Tryd.prog Tryd.f79.ntmps (Tryd.f79.body.getD .skip) = C.div_down := by kernel_rfl
theorem Q.div_down : resResults Tryd.prog Tryd.f79.results.toList = some R.div_down := by kernel_rfl
theorem E.div_down : Tryd.prog.funcs[F.div_down]? = some Tryd.f79 := Tryd.func79
theorem B.div_down : Tryd.f79.body = some (Tryd.f79.body.getD .skip) := by kernel_rfl
theorem N.div_down : Tryd.f79.ntmps = 47 := Tryd.ntmps79

def C.mul_product : VC :=
  .seq (.region false [⟨some 6, .mov (.c nil1), none⟩,
   ⟨some 7, .mov (.c (iv 0)), none⟩]) (.seq (.region false [⟨some 8, .mov (.t 0), none⟩,
   ⟨some 9, .call F.nat_Norm [.t 8], none⟩,
   ⟨some 10, .mov (.t 1), none⟩,
   ⟨some 11, .call F.nat_Norm [.t 10], none⟩,
   ⟨some 0, .mov (.t 9), none⟩,
   ⟨some 1, .mov (.t 11), none⟩]) (.seq (.seq (.region false [⟨some 12, .mov (.t 0), none⟩,
   ⟨some 13, .mov (.t 1), none⟩,
   ⟨some 14, .call F.mul_great [.t 12, .t 13], none⟩]) (.cond (.t 14) (.seq (.region false [⟨some 6, .mov (.c nil1), none⟩,
   ⟨some 7, .mov (.c (iv 3)), none⟩]) .ret) .skip)) (.seq (.region false [⟨some 15, .mov (.t 2), none⟩,
   ⟨some 16, .mov (.t 0), none⟩,
   ⟨some 17, .mov (.t 1), none⟩,
   ⟨some 18, .callv (.t 15) [.t 16, .t 17], none⟩,
   ⟨some 19, .call F.mul_fits [.t 18], none⟩,
   ⟨some 20, .ext (.t 19) 0, none⟩,
   ⟨some 21, .ext (.t 19) 1, none⟩,
   ⟨some 6, .mov (.t 20), none⟩,
   ⟨some 7, .mov (.t 21), none⟩]) .ret)))
def R.mul_product : List VRes := [.tmp 6, .tmp 7]
theorem K.mul_product : resCode Tryd.prog Tryd.f80.ntmps (Tryd.f80.body.getD .skip) = C.mul_product := by kernel_rfl
theorem Q.mul_product : resResults Tryd.prog Tryd.f80.results.toList = some R.mul_product := by kernel_rfl
theorem E.mul_product : Tryd.prog.funcs[F.mul_product]? = some Tryd.f80 := Tryd.func80
theorem B.mul_product : Tryd.f80.body = some (Tryd.f80.body.getD .skip) := by kernel_rfl
theorem N.mul_product : Tryd.f80.ntmps = 22 := Tryd.ntmps80

def C.mul_Mul_1 : VC :=
  .seq (.region false [⟨some 4, .mov (.c nil1), none⟩]) (.seq (.region false [⟨some 5, .mov (.t 0), none⟩,
   ⟨some 6, .mov (.t 1), none⟩,
   ⟨some 7, .call F.mul_halved [.t 5, .t 6, .c (iv 40)], none⟩,
   ⟨some 4, .mov (.t 7), none⟩]) .ret)
def R.mul_Mul_1 : List VRes := [.tmp 4]
theorem K.mul_Mul_1 : resCode Tryd.prog Tryd.f81.ntmps (Tryd.f81.body.getD .skip) = C.mul_Mul_1 := by kernel_rfl
theorem Q.mul_Mul_1 : resResults Tryd.prog Tryd.f81.results.toList = some R.mul_Mul_1 := by kernel_rfl
theorem E.mul_Mul_1 : Tryd.prog.funcs[F.mul_Mul_1]? = some Tryd.f81 := Tryd.func81
theorem B.mul_Mul_1 : Tryd.f81.body = some (Tryd.f81.body.getD .skip) := by kernel_rfl
theorem N.mul_Mul_1 : Tryd.f81.ntmps = 8 := Tryd.ntmps81

def C.mul_halved : VC :=
  .seq (.region false [⟨some 6, .mov (.c nil1), none⟩]) (.seq (.seq (.region false [⟨some 17, .mov (.t 0), none⟩,
   ⟨some 18, .len (.t 17), none⟩,
   ⟨some 19, .mov (.t 1), none⟩,
   ⟨some 20, .len (.t 19), none⟩,
   ⟨some 21, .bin .lss false (.t 18) (.t 20), none⟩]) (.cond (.t 21) (.region false [⟨some 22, .mov (.t 1), none⟩,
   ⟨some 23, .mov (.t 0), none⟩,
   ⟨some 0, .mov (.t 22), none⟩,
   ⟨some 1, .mov (.t 23), none⟩]) .skip)) (.seq (.seq (.region false [⟨some 24, .mov (.t 1), none⟩,
   ⟨some 25, .len (.t 24), none⟩,
   ⟨some 26, .mov (.t 2), none⟩,
   ⟨some 27, .bin .lss false (.t 25) (.t 26), none⟩]) (.cond (.t 27) (.seq (.region false [⟨some 28, .mov (.t 0), none⟩,
   ⟨some 29, .mov (.t 1), none⟩,
   ⟨some 30, .call F.mul_school [.t 28, .t 29], none⟩,
   ⟨some 6, .mov (.t 30), none⟩]) .ret) .skip)) (.seq (.region false [⟨some 31, .mov (.t 0), none⟩,
   ⟨some 32, .len (.t 31), none⟩,
   ⟨some 33, .bin .add false (.t 32) (.c (iv 1)), none⟩,
   ⟨some 34, .bin .quo false (.t 33) (.c (iv 2)), none⟩,
   ⟨some 7, .mov (.t 34), none⟩]) (.seq (.seq (.region false [⟨some 35, .mov (.t 1), none⟩,
   ⟨some 36, .len (.t 35), none⟩,
   ⟨some 37, .mov (.t 7), none⟩,
   ⟨some 38, .bin .leq false (.t 36) (.t 37), none⟩]) (.cond (.t 38) (.seq (.region false [⟨some 39, .mov (.t 0), none⟩,
   ⟨some 40, .len (.t 39), none⟩,
   ⟨some 41, .mov (.t 1), none⟩,
   ⟨some 42, .len (.t 41), none⟩,
   ⟨some 43, .bin .add false (.t 40) (.t 42), none⟩,
   ⟨some 44, .bin .add false (.t 43) (.c (iv 1)), none⟩,
   ⟨some 45, .mk [.int .u64 0] 8 (.t 44) (.t 44), none⟩,
   ⟨some 8, .mov (.t 45), none⟩]) (.seq (.region false [⟨some 46, .mov (.t 8), none⟩,
   ⟨some 47, .mov (.t 0), none⟩,
   ⟨some 48, .mov (.t 7), none⟩,
   ⟨some 49, .call F.mul_part [.t 47, .c (iv 0), .t 48], none⟩,
   ⟨some 50, .mov (.t 1), none⟩,
   ⟨some 51, .mov (.t 2), none⟩,
   ⟨some 52, .call F.mul_halved [.t 49, .t 50, .t 51], none⟩,
   ⟨some 53, .call F.mul_addAt [.t 46, .t 52, .c (iv 0)], none⟩]) (.seq (.region false [⟨some 54, .mov (.t 8), none⟩,
   ⟨some 55, .mov (.t 0), none⟩,
   ⟨some 56, .mov (.t 7), none⟩,
   ⟨some 57, .mov (.t 0), none⟩,
   ⟨some 58, .len (.t 57), none⟩,
   ⟨some 59, .call F.mul_part [.t 55, .t 56, .t 58], none⟩,
   ⟨some 60, .mov (.t 1), none⟩,
   ⟨some 61, .mov (.t 2), none⟩,
   ⟨some 62, .call F.mul_halved [.t 59, .t 60, .t 61], none⟩,
   ⟨some 63, .mov (.t 7), none⟩,
   ⟨some 64, .call F.mul_addAt [.t 54, .t 62, .t 63], none⟩]) (.seq (.region false [⟨some 65, .mov (.t 8), none⟩,
   ⟨some 6, .mov (.t 65), none⟩]) .ret)))) .skip)) (.seq (.region false [⟨some 66, .mov (.t 0), none⟩,
   ⟨some 67, .mov (.t 7), none⟩,
   ⟨some 68, .call F.mul_part [.t 66, .c (iv 0), .t 67], none⟩,
   ⟨some 69, .mov (.t 0), none⟩,
   ⟨some 70, .mov (.t 7), none⟩,
   ⟨some 71, .mov (.t 0), none⟩,
   ⟨some 72, .len (.t 71), none⟩,
   ⟨some 73, .call F.mul_part [.t 69, .t 70, .t 72], none⟩,
   ⟨some 74, .mov (.t 1), none⟩,
   ⟨some 75, .mov (.t 7), none⟩,
   ⟨some 76, .call F.mul_part [.t 74, .c (iv 0), .t 75], none⟩,
   ⟨some 77, .mov (.t 1), none⟩,
   ⟨some 78, .mov (.t 7), none⟩,
   ⟨some 79, .mov (.t 1), none⟩,
   ⟨some 80, .len (.t 79), none⟩,
   ⟨some 81, .call F.mul_part [.t 77, .t 78, .t 80], none⟩,
   ⟨some 9, .mov (.t 68), none⟩,
   ⟨some 10, .mov (.t 73), none⟩,
   ⟨some 11, .mov (.t 76), none⟩,
   ⟨some 12, .mov (.t 81), none⟩]) (.seq (.region false [⟨some 82, .mov (.t 9), none⟩,
   ⟨some 83, .mov (.t 11), none⟩,
   ⟨some 84, .mov (.t 2), none⟩,
   ⟨some 85, .call F.mul_halved [.t 82, .t 83, .t 84], none⟩,
   ⟨some 86, .mov (.t 10), none⟩,
   ⟨some 87, .mov (.t 12), none⟩,
   ⟨some 88, .mov (.t 2), none⟩,
   ⟨some 89, .call F.mul_halved [.t 86, .t 87, .t 88], none⟩,
   ⟨some 13, .mov (.t 85), none⟩,
   ⟨some 14, .mov (.t 89), none⟩]) (.seq (.region false [⟨some 90, .mov (.t 9), none⟩,
   ⟨some 91, .mov (.t 10), none⟩,
   ⟨some 92, .call F.mul_sum [.t 90, .t 91], none⟩,
   ⟨some 93, .call F.nat_Norm [.t 92], none⟩,
   ⟨some 94, .mov (.t 11), none⟩,
   ⟨some 95, .mov (.t 12), none⟩,
   ⟨some 96, .call F.mul_sum [.t 94, .t 95], none⟩,
   ⟨some 97, .call F.nat_Norm [.t 96], none⟩,
   ⟨some 98, .mov (.t 2), none⟩,
   ⟨some 99, .call F.mul_halved [.t 93, .t 97, .t 98], none⟩,
   ⟨some 100, .mov (.t 13), none⟩,
   ⟨some 101, .call F.mul_less [.t 99, .t 100], none⟩,
   ⟨some 102, .mov (.t 14), none⟩,
   ⟨some 103, .call F.mul_less [.t 101, .t 102], none⟩,
   ⟨some 15, .mov (.t 103), none⟩]) (.seq (.region false [⟨some 104, .mov (.t 0), none⟩,
   ⟨some 105, .len (.t 104), none⟩,
   ⟨some 106, .mov (.t 1), none⟩,
   ⟨some 107, .len (.t 106), none⟩,
   ⟨some 108, .bin .add false (.t 105) (.t 107), none⟩,
   ⟨some 109, .bin .add false (.t 108) (.c (iv 1)), none⟩,
   ⟨some 110, .mk [.int .u64 0] 8 (.t 109) (.t 109), none⟩,
   ⟨some 16, .mov (.t 110), none⟩]) (.seq (.region false [⟨some 111, .mov (.t 16), none⟩,
   ⟨some 112, .mov (.t 13), none⟩,
   ⟨some 113, .call F.mul_addAt [.t 111, .t 112, .c (iv 0)], none⟩]) (.seq (.region false [⟨some 114, .mov (.t 16), none⟩,
   ⟨some 115, .mov (.t 15), none⟩,
   ⟨some 116, .mov (.t 7), none⟩,
   ⟨some 117, .call F.mul_addAt [.t 114, .t 115, .t 116], none⟩]) (.seq (.region false [⟨some 118, .mov (.t 16), none⟩,
   ⟨some 119, .mov (.t 14), none⟩,
   ⟨some 120, .mov (.t 7), none⟩,
   ⟨some 121, .bin .mul false (.c (iv 2)) (.t 120), none⟩,
   ⟨some 122, .call F.mul_addAt [.t 118, .t 119, .t 121], none⟩]) (.seq (.region false [⟨some 123, .mov (.t 16), none⟩,
   ⟨some 6, .mov (.t 123), none⟩]) .ret))))))))))))
def R.mul_halved : List VRes := [.tmp 6]
theorem K.mul_halved : resCode Tryd.prog Tryd.f82.ntmps (Tryd.f82.body.getD .skip) = C.mul_halved := by kernel_rfl
theorem Q.mul_halved : resResults Tryd.prog Tryd.f82.results.toList = some R.mul_halved := by kernel_rfl
theorem E.mul_halved : Tryd.prog.funcs[F.mul_halved]? = some Tryd.f82 := Tryd.func82
theorem B.mul_halved : Tryd.f82.body = some (Tryd.f82.body.getD .skip) := by kernel_rfl
theorem N.mul_halved : Tryd.f82.ntmps = 124 := Tryd.ntmps82

def C.roots_power : VC :=
  .seq (.region false [⟨some 2, .mov (.c nil1), none⟩]) (.seq (.region false [⟨some 6, .call F.nat_From [.c (nv 1)], none⟩,
   ⟨some 7, .mov (.t 0), none⟩,
   ⟨some 8, .call F.nat_Left [.t 6, .t 7], none⟩,
   ⟨some 5, .mov (.t 8), none⟩,
   ⟨some 9, .ext (.t 5) 0, none⟩,
   ⟨some 10, .ext (.t 5) 1, none⟩,
   ⟨some 3, .mov (.t 9), none⟩,
   ⟨some 4, .mov (.t 10), none⟩]) (.seq (.region false [⟨some 11, .mov (.t 3), none⟩,
   ⟨some 2, .mov (.t 11), none⟩]) .ret))
def R.roots_power : List VRes := [.tmp 2]
theorem K.roots_power : resCode Tryd.prog Tryd.f83.ntmps (Tryd.f83.body.getD .skip) = C.roots_power := by kernel_rfl
theorem Q.roots_power : resResults Tryd.prog Tryd.f83.results.toList = some R.roots_power := by kernel_rfl
theorem E.roots_power : Tryd.prog.funcs[F.roots_power]? = some Tryd.f83 := Tryd.func83
theorem B.roots_power : Tryd.f83.body = some (Tryd.f83.body.getD .skip) := by kernel_rfl
theorem N.roots_power : Tryd.f83.ntmps = 12 := Tryd.ntmps83

def C.nat_Times : VC :=
  .seq (.region false [⟨some 4, .mov (.c nil1), none⟩,
   ⟨some 5, .mov (.c (iv 0)), none⟩]) (.seq (.region false [⟨some 14, .mov (.t 0), none⟩,
   ⟨some 15, .call F.nat_trim [.t 14], none⟩,
   ⟨some 0, .mov (.t 15), none⟩]) (.seq (.region false [⟨some 16, .mov (.t 0), none⟩,
   ⟨some 17, .len (.t 16), none⟩,
   ⟨some 18, .bin .add false (.t 17) (.c (iv 1)), none⟩,
   ⟨some 19, .mk [.int .u64 0] 8 (.t 18) (.t 18), none⟩,
   ⟨some 6, .mov (.t 19), none⟩]) (.seq (.region false [⟨some 7, .mov (.c (nv 0)), none⟩]) (.seq (.seq (.region false [⟨some 20, .mov (.t 0), none⟩,
   ⟨some 21, .len (.t 20), none⟩,
   ⟨some 22, .mov (.c (iv 0)), none⟩]) (.block 0 (.loop (.seq (.region false [⟨some 23, .bin .lss false (.t 22) (.t 21), none⟩]) (.seq (.cond (.t 23) .skip (.exit 0)) (.seq (.block 1 (.seq (.region false [⟨some 24, .mov (.t 22), none⟩,
   ⟨some 25, .ixa 1 (.t 20) (.t 22), none⟩,
   ⟨some 26, .load none (.t 25), none⟩,
   ⟨some 8, .mov (.t 24), none⟩,
   ⟨some 9, .mov (.t 26), none⟩]) (.seq (.region false [⟨some 28, .mov (.t 9), none⟩,
   ⟨some 29, .mov (.t 1), none⟩,
   ⟨some 30, .call F.bits_Mul64 [.t 28, .t 29], none⟩,
   ⟨some 27, .mov (.t 30), none⟩,
   ⟨some 31, .ext (.t 27) 0, none⟩,
   ⟨some 32, .ext (.t 27) 1, none⟩,
   ⟨some 10, .mov (.t 31), none⟩,
   ⟨some 11, .mov (.t 32), none⟩]) (.seq (.region false [⟨some 34, .mov (.t 11), none⟩,
   ⟨some 35, .mov (.t 7), none⟩,
   ⟨some 36, .ext64 false (.t 34) (.t 35) (.c (nv 0)), none⟩,
   ⟨some 33, .mov (.t 36), none⟩,
   ⟨some 37, .ext (.t 33) 0, none⟩,
   ⟨some 38, .ext (.t 33) 1, none⟩,
   ⟨some 12, .mov (.t 37), none⟩,
   ⟨some 13, .mov (.t 38), none⟩]) (.seq (.region false [⟨some 39, .mov (.t 6), none⟩,
   ⟨some 40, .mov (.t 8), none⟩,
   ⟨some 41, .mov (.t 12), none⟩,
   ⟨some 42, .ixa 1 (.t 39) (.t 40), none⟩,
   ⟨none, .store 1 (.t 42) (.t 41), none⟩]) (.region false [⟨some 43, .mov (.t 10), none⟩,
   ⟨some 44, .mov (.t 13), none⟩,
   ⟨some 45, .bin .add false (.t 43) (.t 44), none⟩,
   ⟨some 7, .mov (.t 45), none⟩])))))) (.region false [⟨some 46, .bin .add false (.t 22) (.c (iv 1)), none⟩,
   ⟨some 22, .mov (.t 46), none⟩]))))))) (.seq (.region false [⟨some 47, .mov (.t 6), none⟩,
   ⟨some 48, .mov (.t 0), none⟩,
   ⟨some 49, .len (.t 48), none⟩,
   ⟨some 50, .mov (.t 7), none⟩,
   ⟨some 51, .ixa 1 (.t 47) (.t 49), none⟩,
   ⟨none, .store 1 (.t 51) (.t 50), none⟩]) (.seq (.region false [⟨some 52, .mov (.t 6), none⟩,
   ⟨some 53, .call F.nat_told [.t 52], none⟩,
   ⟨some 54, .ext (.t 53) 0, none⟩,
   ⟨some 55, .ext (.t 53) 1, none⟩,
   ⟨some 4, .mov (.t 54), none⟩,
   ⟨some 5, .mov (.t 55), none⟩]) .ret))))))
def R.nat_Times : List VRes := [.tmp 4, .tmp 5]
theorem K.nat_Times : resCode Tryd.prog Tryd.f84.ntmps (Tryd.f84.body.getD .skip) = C.nat_Times := by kernel_rfl
theorem Q.nat_Times : resResults Tryd.prog Tryd.f84.results.toList = some R.nat_Times := by kernel_rfl
theorem E.nat_Times : Tryd.prog.funcs[F.nat_Times]? = some Tryd.f84 := Tryd.func84
theorem B.nat_Times : Tryd.f84.body = some (Tryd.f84.body.getD .skip) := by kernel_rfl
theorem N.nat_Times : Tryd.f84.ntmps = 56 := Tryd.ntmps84

def C.nat_Through : VC :=
  .seq (.region false [⟨some 4, .mov (.c nil1), none⟩,
   ⟨some 5, .mov (.c (nv 0)), none⟩,
   ⟨some 6, .mov (.c (iv 0)), none⟩]) (.seq (.seq (.region false [⟨some 11, .mov (.t 1), none⟩,
   ⟨some 12, .bin .eql false (.t 11) (.c (nv 0)), none⟩]) (.cond (.t 12) (.seq (.region false [⟨some 4, .mov (.c nil1), none⟩,
   ⟨some 5, .mov (.c (nv 0)), none⟩,
   ⟨some 6, .mov (.c (iv 1)), none⟩]) .ret) .skip)) (.seq (.region false [⟨some 13, .mov (.t 0), none⟩,
   ⟨some 14, .call F.nat_trim [.t 13], none⟩,
   ⟨some 0, .mov (.t 14), none⟩]) (.seq (.region false [⟨some 15, .mov (.t 0), none⟩,
   ⟨some 16, .len (.t 15), none⟩,
   ⟨some 17, .mk [.int .u64 0] 8 (.t 16) (.t 16), none⟩,
   ⟨some 7, .mov (.t 17), none⟩]) (.seq (.region false [⟨some 8, .mov (.c (nv 0)), none⟩]) (.seq (.seq (.region false [⟨some 18, .mov (.t 0), none⟩,
   ⟨some 19, .len (.t 18), none⟩,
   ⟨some 20, .bin .sub false (.t 19) (.c (iv 1)), none⟩,
   ⟨some 9, .mov (.t 20), none⟩]) (.block 0 (.loop (.seq (.seq (.region false [⟨some 21, .mov (.t 9), none⟩,
   ⟨some 22, .bin .geq false (.t 21) (.c (iv 0)), none⟩]) (.cond (.t 22) .skip (.exit 0))) (.seq (.block 1 (.region false [⟨some 26, .mov (.t 7), none⟩,
   ⟨some 27, .mov (.t 9), none⟩,
   ⟨some 28, .mov (.t 8), none⟩,
   ⟨some 29, .mov (.t 0), none⟩,
   ⟨some 30, .mov (.t 9), none⟩,
   ⟨some 31, .ixa 1 (.t 29) (.t 30), none⟩,
   ⟨some 32, .load none (.t 31), none⟩,
   ⟨some 33, .mov (.t 1), none⟩,
   ⟨some 34, .call F.bits_Div64 [.t 28, .t 32, .t 33], none⟩,
   ⟨some 25, .mov (.t 34), none⟩,
   ⟨some 35, .ext (.t 25) 0, none⟩,
   ⟨some 36, .ext (.t 25) 1, none⟩,
   ⟨some 37, .ixa 1 (.t 26) (.t 27), none⟩,
   ⟨none, .store 1 (.t 37) (.t 35), none⟩,
   ⟨some 8, .mov (.t 36), none⟩])) (.region false [⟨some 23, .mov (.t 9), none⟩,
   ⟨some 24, .bin .sub false (.t 23) (.c (iv 1)), none⟩,
   ⟨some 9, .mov (.t 24), none⟩])))))) (.seq (.region false [⟨some 39, .mov (.t 7), none⟩,
   ⟨some 40, .call F.nat_told [.t 39], none⟩,
   ⟨some 38, .mov (.t 40), none⟩,
   ⟨some 41, .ext (.t 38) 0, none⟩,
   ⟨some 42, .ext (.t 38) 1, none⟩,
   ⟨some 7, .mov (.t 41), none⟩,
   ⟨some 10, .mov (.t 42), none⟩]) (.seq (.seq (.region false [⟨some 43, .mov (.t 10), none⟩,
   ⟨some 44, .bin .neq false (.t 43) (.c (iv 0)), none⟩]) (.cond (.t 44) (.seq (.region false [⟨some 45, .mov (.t 10), none⟩,
   ⟨some 4, .mov (.c nil1), none⟩,
   ⟨some 5, .mov (.c (nv 0)), none⟩,
   ⟨some 6, .mov (.t 45), none⟩]) .ret) .skip)) (.seq (.region false [⟨some 46, .mov (.t 7), none⟩,
   ⟨some 47, .mov (.t 8), none⟩,
   ⟨some 4, .mov (.t 46), none⟩,
   ⟨some 5, .mov (.t 47), none⟩,
   ⟨some 6, .mov (.c (iv 0)), none⟩]) .ret))))))))
def R.nat_Through : List VRes := [.tmp 4, .tmp 5, .tmp 6]
theorem K.nat_Through : resCode Tryd.prog Tryd.f85.ntmps (Tryd.f85.body.getD .skip) = C.nat_Through := by kernel_rfl
theorem Q.nat_Through : resResults Tryd.prog Tryd.f85.results.toList = some R.nat_Through := by kernel_rfl
theorem E.nat_Through : Tryd.prog.funcs[F.nat_Through]? = some Tryd.f85 := Tryd.func85
theorem B.nat_Through : Tryd.f85.body = some (Tryd.f85.body.getD .skip) := by kernel_rfl
theorem N.nat_Through : Tryd.f85.ntmps = 48 := Tryd.ntmps85

def C.mul_Square : VC :=
  .seq (.region false [⟨some 2, .mov (.c nil1), none⟩,
   ⟨some 3, .mov (.c (iv 0)), none⟩]) (.seq (.region false [⟨some 4, .mov (.t 0), none⟩,
   ⟨some 5, .mov (.t 0), none⟩,
   ⟨some 6, .call F.mul_Mul [.t 4, .t 5], none⟩,
   ⟨some 7, .ext (.t 6) 0, none⟩,
   ⟨some 8, .ext (.t 6) 1, none⟩,
   ⟨some 2, .mov (.t 7), none⟩,
   ⟨some 3, .mov (.t 8), none⟩]) .ret)
def R.mul_Square : List VRes := [.tmp 2, .tmp 3]
theorem K.mul_Square : resCode Tryd.prog Tryd.f86.ntmps (Tryd.f86.body.getD .skip) = C.mul_Square := by kernel_rfl
theorem Q.mul_Square : resResults Tryd.prog Tryd.f86.results.toList = some R.mul_Square := by kernel_rfl
theorem E.mul_Square : Tryd.prog.funcs[F.mul_Square]? = some Tryd.f86 := Tryd.func86
theorem B.mul_Square : Tryd.f86.body = some (Tryd.f86.body.getD .skip) := by kernel_rfl
theorem N.mul_Square : Tryd.f86.ntmps = 9 := Tryd.ntmps86

def C.nat_Sub : VC :=
  .seq (.region false [⟨some 4, .mov (.c nil1), none⟩,
   ⟨some 5, .mov (.c (iv 0)), none⟩]) (.seq (.seq (.region false [⟨some 10, .mov (.t 0), none⟩,
   ⟨some 11, .mov (.t 1), none⟩,
   ⟨some 12, .call F.nat_Compare [.t 10, .t 11], none⟩,
   ⟨some 13, .bin .lss false (.t 12) (.c (iv 0)), none⟩]) (.cond (.t 13) (.seq (.region false [⟨some 4, .mov (.c nil1), none⟩,
   ⟨some 5, .mov (.c (iv 10)), none⟩]) .ret) .skip)) (.seq (.region false [⟨some 14, .mov (.t 0), none⟩,
   ⟨some 15, .call F.nat_trim [.t 14], none⟩,
   ⟨some 16, .mov (.t 1), none⟩,
   ⟨some 17, .call F.nat_trim [.t 16], none⟩,
   ⟨some 0, .mov (.t 15), none⟩,
   ⟨some 1, .mov (.t 17), none⟩]) (.seq (.region false [⟨some 18, .mov (.t 0), none⟩,
   ⟨some 19, .len (.t 18), none⟩,
   ⟨some 20, .mk [.int .u64 0] 8 (.t 19) (.t 19), none⟩,
   ⟨some 6, .mov (.t 20), none⟩]) (.seq (.region false [⟨some 7, .mov (.c (nv 0)), none⟩]) (.seq (.seq (.region false [⟨some 21, .mov (.t 0), none⟩,
   ⟨some 22, .len (.t 21), none⟩,
   ⟨some 23, .mov (.c (iv 0)), none⟩]) (.block 0 (.loop (.seq (.region false [⟨some 24, .bin .lss false (.t 23) (.t 22), none⟩]) (.seq (.cond (.t 24) .skip (.exit 0)) (.seq (.block 1 (.seq (.region false [⟨some 25, .mov (.t 23), none⟩,
   ⟨some 8, .mov (.t 25), none⟩]) (.seq (.region false [⟨some 9, .mov (.c (nv 0)), none⟩]) (.seq (.seq (.region false [⟨some 26, .mov (.t 8), none⟩,
   ⟨some 27, .mov (.t 1), none⟩,
   ⟨some 28, .len (.t 27), none⟩,
   ⟨some 29, .bin .lss false (.t 26) (.t 28), none⟩]) (.cond (.t 29) (.region false [⟨some 30, .mov (.t 1), none⟩,
   ⟨some 31, .mov (.t 8), none⟩,
   ⟨some 32, .ixa 1 (.t 30) (.t 31), none⟩,
   ⟨some 33, .load none (.t 32), none⟩,
   ⟨some 9, .mov (.t 33), none⟩]) .skip)) (.region false [⟨some 35, .mov (.t 6), none⟩,
   ⟨some 36, .mov (.t 8), none⟩,
   ⟨some 37, .mov (.t 0), none⟩,
   ⟨some 38, .mov (.t 8), none⟩,
   ⟨some 39, .ixa 1 (.t 37) (.t 38), none⟩,
   ⟨some 40, .load none (.t 39), none⟩,
   ⟨some 41, .mov (.t 9), none⟩,
   ⟨some 42, .mov (.t 7), none⟩,
   ⟨some 43, .ext64 true (.t 40) (.t 41) (.t 42), none⟩,
   ⟨some 34, .mov (.t 43), none⟩,
   ⟨some 44, .ext (.t 34) 0, none⟩,
   ⟨some 45, .ext (.t 34) 1, none⟩,
   ⟨some 46, .ixa 1 (.t 35) (.t 36), none⟩,
   ⟨none, .store 1 (.t 46) (.t 44), none⟩,
   ⟨some 7, .mov (.t 45), none⟩]))))) (.region false [⟨some 47, .bin .add false (.t 23) (.c (iv 1)), none⟩,
   ⟨some 23, .mov (.t 47), none⟩]))))))) (.seq (.region false [⟨some 48, .mov (.t 6), none⟩,
   ⟨some 49, .call F.nat_told [.t 48], none⟩,
   ⟨some 50, .ext (.t 49) 0, none⟩,
   ⟨some 51, .ext (.t 49) 1, none⟩,
   ⟨some 4, .mov (.t 50), none⟩,
   ⟨some 5, .mov (.t 51), none⟩]) .ret))))))
def R.nat_Sub : List VRes := [.tmp 4, .tmp 5]
theorem K.nat_Sub : resCode Tryd.prog Tryd.f87.ntmps (Tryd.f87.body.getD .skip) = C.nat_Sub := by kernel_rfl
theorem Q.nat_Sub : resResults Tryd.prog Tryd.f87.results.toList = some R.nat_Sub := by kernel_rfl
theorem E.nat_Sub : Tryd.prog.funcs[F.nat_Sub]? = some Tryd.f87 := Tryd.func87
theorem B.nat_Sub : Tryd.f87.body = some (Tryd.f87.body.getD .skip) := by kernel_rfl
theorem N.nat_Sub : Tryd.f87.ntmps = 52 := Tryd.ntmps87

def C.bits_Mul64 : VC :=
  .seq (.region false [⟨some 4, .mov (.c (nv 0)), none⟩,
   ⟨some 5, .mov (.c (nv 0)), none⟩]) (.seq (.region false [⟨some 14, .mov (.t 0), none⟩,
   ⟨some 15, .bin .and false (.t 14) (.c (nv 4294967295)), none⟩,
   ⟨some 6, .mov (.t 15), none⟩]) (.seq (.region false [⟨some 16, .mov (.t 0), none⟩,
   ⟨some 17, .bin .shr false (.t 16) (.c (nv 32)), none⟩,
   ⟨some 7, .mov (.t 17), none⟩]) (.seq (.region false [⟨some 18, .mov (.t 1), none⟩,
   ⟨some 19, .bin .and false (.t 18) (.c (nv 4294967295)), none⟩,
   ⟨some 8, .mov (.t 19), none⟩]) (.seq (.region false [⟨some 20, .mov (.t 1), none⟩,
   ⟨some 21, .bin .shr false (.t 20) (.c (nv 32)), none⟩,
   ⟨some 9, .mov (.t 21), none⟩]) (.seq (.region false [⟨some 22, .mov (.t 6), none⟩,
   ⟨some 23, .mov (.t 8), none⟩,
   ⟨some 24, .bin .mul false (.t 22) (.t 23), none⟩,
   ⟨some 10, .mov (.t 24), none⟩]) (.seq (.region false [⟨some 25, .mov (.t 7), none⟩,
   ⟨some 26, .mov (.t 8), none⟩,
   ⟨some 27, .bin .mul false (.t 25) (.t 26), none⟩,
   ⟨some 28, .mov (.t 10), none⟩,
   ⟨some 29, .bin .shr false (.t 28) (.c (nv 32)), none⟩,
   ⟨some 30, .bin .add false (.t 27) (.t 29), none⟩,
   ⟨some 11, .mov (.t 30), none⟩]) (.seq (.region false [⟨some 31, .mov (.t 11), none⟩,
   ⟨some 32, .bin .and false (.t 31) (.c (nv 4294967295)), none⟩,
   ⟨some 12, .mov (.t 32), none⟩]) (.seq (.region false [⟨some 33, .mov (.t 11), none⟩,
   ⟨some 34, .bin .shr false (.t 33) (.c (nv 32)), none⟩,
   ⟨some 13, .mov (.t 34), none⟩]) (.seq (.region false [⟨some 35, .mov (.t 12), none⟩,
   ⟨some 36, .mov (.t 6), none⟩,
   ⟨some 37, .mov (.t 9), none⟩,
   ⟨some 38, .bin .mul false (.t 36) (.t 37), none⟩,
   ⟨some 39, .bin .add false (.t 35) (.t 38), none⟩,
   ⟨some 12, .mov (.t 39), none⟩]) (.seq (.region false [⟨some 40, .mov (.t 7), none⟩,
   ⟨some 41, .mov (.t 9), none⟩,
   ⟨some 42, .bin .mul false (.t 40) (.t 41), none⟩,
   ⟨some 43, .mov (.t 13), none⟩,
   ⟨some 44, .bin .add false (.t 42) (.t 43), none⟩,
   ⟨some 45, .mov (.t 12), none⟩,
   ⟨some 46, .bin .shr false (.t 45) (.c (nv 32)), none⟩,
   ⟨some 47, .bin .add false (.t 44) (.t 46), none⟩,
   ⟨some 4, .mov (.t 47), none⟩]) (.seq (.region false [⟨some 48, .mov (.t 0), none⟩,
   ⟨some 49, .mov (.t 1), none⟩,
   ⟨some 50, .bin .mul false (.t 48) (.t 49), none⟩,
   ⟨some 5, .mov (.t 50), none⟩]) .ret)))))))))))
def R.bits_Mul64 : List VRes := [.tmp 4, .tmp 5]
theorem K.bits_Mul64 : resCode Tryd.prog Tryd.f88.ntmps (Tryd.f88.body.getD .skip) = C.bits_Mul64 := by kernel_rfl
theorem Q.bits_Mul64 : resResults Tryd.prog Tryd.f88.results.toList = some R.bits_Mul64 := by kernel_rfl
theorem E.bits_Mul64 : Tryd.prog.funcs[F.bits_Mul64]? = some Tryd.f88 := Tryd.func88
theorem B.bits_Mul64 : Tryd.f88.body = some (Tryd.f88.body.getD .skip) := by kernel_rfl
theorem N.bits_Mul64 : Tryd.f88.ntmps = 51 := Tryd.ntmps88

def C.mul_great : VC :=
  .seq (.region false [⟨some 4, .mov (.c (bv false)), none⟩]) (.seq (.region false [⟨some 7, .mov (.t 0), none⟩,
   ⟨some 8, .call F.nat_Length [.t 7], none⟩,
   ⟨some 9, .mov (.t 1), none⟩,
   ⟨some 10, .call F.nat_Length [.t 9], none⟩,
   ⟨some 5, .mov (.t 8), none⟩,
   ⟨some 6, .mov (.t 10), none⟩]) (.seq (.region false [⟨some 11, .mov (.t 5), none⟩,
   ⟨some 12, .bin .gtr false (.t 11) (.c (iv 0)), none⟩,
   ⟨some 13, .mov (.t 12), none⟩,
   ⟨some 14, .mov (.t 6), some (13, true)⟩,
   ⟨some 15, .bin .gtr false (.t 14) (.c (iv 0)), some (13, true)⟩,
   ⟨some 16, .pick (.t 13) (.t 15) (.c (bv false)), none⟩,
   ⟨some 17, .mov (.t 16), none⟩,
   ⟨some 18, .mov (.t 5), some (17, true)⟩,
   ⟨some 19, .mov (.t 6), some (17, true)⟩,
   ⟨some 20, .bin .add false (.t 18) (.t 19), some (17, true)⟩,
   ⟨some 21, .bin .sub false (.t 20) (.c (iv 1)), some (17, true)⟩,
   ⟨some 22, .bin .gtr false (.t 21) (.c (iv 67108864)), some (17, true)⟩,
   ⟨some 23, .pick (.t 17) (.t 22) (.c (bv false)), none⟩,
   ⟨some 4, .mov (.t 23), none⟩]) .ret))
def R.mul_great : List VRes := [.tmp 4]
theorem K.mul_great : resCode Tryd.prog Tryd.f90.ntmps (Tryd.f90.body.getD .skip) = C.mul_great := by kernel_rfl
theorem Q.mul_great : resResults Tryd.prog Tryd.f90.results.toList = some R.mul_great := by kernel_rfl
theorem E.mul_great : Tryd.prog.funcs[F.mul_great]? = some Tryd.f90 := Tryd.func90
theorem B.mul_great : Tryd.f90.body = some (Tryd.f90.body.getD .skip) := by kernel_rfl
theorem N.mul_great : Tryd.f90.ntmps = 24 := Tryd.ntmps90

def C.mul_fits : VC :=
  .seq (.region false [⟨some 2, .mov (.c nil1), none⟩,
   ⟨some 3, .mov (.c (iv 0)), none⟩]) (.seq (.region false [⟨some 4, .mov (.t 0), none⟩,
   ⟨some 5, .call F.nat_Norm [.t 4], none⟩,
   ⟨some 0, .mov (.t 5), none⟩]) (.seq (.seq (.region false [⟨some 6, .mov (.t 0), none⟩,
   ⟨some 7, .call F.nat_Length [.t 6], none⟩,
   ⟨some 8, .bin .gtr false (.t 7) (.c (iv 67108864)), none⟩]) (.cond (.t 8) (.seq (.region false [⟨some 2, .mov (.c nil1), none⟩,
   ⟨some 3, .mov (.c (iv 3)), none⟩]) .ret) .skip)) (.seq (.region false [⟨some 9, .mov (.t 0), none⟩,
   ⟨some 2, .mov (.t 9), none⟩,
   ⟨some 3, .mov (.c (iv 0)), none⟩]) .ret)))
def R.mul_fits : List VRes := [.tmp 2, .tmp 3]
theorem K.mul_fits : resCode Tryd.prog Tryd.f91.ntmps (Tryd.f91.body.getD .skip) = C.mul_fits := by kernel_rfl
theorem Q.mul_fits : resResults Tryd.prog Tryd.f91.results.toList = some R.mul_fits := by kernel_rfl
theorem E.mul_fits : Tryd.prog.funcs[F.mul_fits]? = some Tryd.f91 := Tryd.func91
theorem B.mul_fits : Tryd.f91.body = some (Tryd.f91.body.getD .skip) := by kernel_rfl
theorem N.mul_fits : Tryd.f91.ntmps = 10 := Tryd.ntmps91

def C.mul_school : VC :=
  .seq (.region false [⟨some 4, .mov (.c nil1), none⟩]) (.seq (.region false [⟨some 14, .mov (.t 0), none⟩,
   ⟨some 15, .len (.t 14), none⟩,
   ⟨some 16, .mov (.t 1), none⟩,
   ⟨some 17, .len (.t 16), none⟩,
   ⟨some 18, .bin .add false (.t 15) (.t 17), none⟩,
   ⟨some 19, .mk [.int .u64 0] 8 (.t 18) (.t 18), none⟩,
   ⟨some 5, .mov (.t 19), none⟩]) (.seq (.seq (.region false [⟨some 20, .mov (.t 0), none⟩,
   ⟨some 21, .len (.t 20), none⟩,
   ⟨some 22, .mov (.c (iv 0)), none⟩]) (.block 0 (.loop (.seq (.region false [⟨some 23, .bin .lss false (.t 22) (.t 21), none⟩]) (.seq (.cond (.t 23) .skip (.exit 0)) (.seq (.block 1 (.seq (.region false [⟨some 24, .mov (.t 22), none⟩,
   ⟨some 25, .ixa 1 (.t 20) (.t 22), none⟩,
   ⟨some 26, .load none (.t 25), none⟩,
   ⟨some 6, .mov (.t 24), none⟩,
   ⟨some 7, .mov (.t 26), none⟩]) (.seq (.region false [⟨some 8, .mov (.c (nv 0)), none⟩]) (.seq (.seq (.region false [⟨some 27, .mov (.t 1), none⟩,
   ⟨some 28, .len (.t 27), none⟩,
   ⟨some 29, .mov (.c (iv 0)), none⟩]) (.block 2 (.loop (.seq (.region false [⟨some 30, .bin .lss false (.t 29) (.t 28), none⟩]) (.seq (.cond (.t 30) .skip (.exit 2)) (.seq (.block 3 (.seq (.region false [⟨some 31, .mov (.t 29), none⟩,
   ⟨some 32, .ixa 1 (.t 27) (.t 29), none⟩,
   ⟨some 33, .load none (.t 32), none⟩,
   ⟨some 9, .mov (.t 31), none⟩,
   ⟨some 10, .mov (.t 33), none⟩]) (.seq (.region false [⟨some 35, .mov (.t 7), none⟩,
   ⟨some 36, .mov (.t 10), none⟩,
   ⟨some 37, .call F.bits_Mul64 [.t 35, .t 36], none⟩,
   ⟨some 34, .mov (.t 37), none⟩,
   ⟨some 38, .ext (.t 34) 0, none⟩,
   ⟨some 39, .ext (.t 34) 1, none⟩,
   ⟨some 11, .mov (.t 38), none⟩,
   ⟨some 12, .mov (.t 39), none⟩]) (.seq (.region false [⟨some 13, .mov (.c (nv 0)), none⟩]) (.seq (.region false [⟨some 41, .mov (.t 12), none⟩,
   ⟨some 42, .mov (.t 8), none⟩,
   ⟨some 43, .ext64 false (.t 41) (.t 42) (.c (nv 0)), none⟩,
   ⟨some 40, .mov (.t 43), none⟩,
   ⟨some 44, .ext (.t 40) 0, none⟩,
   ⟨some 45, .ext (.t 40) 1, none⟩,
   ⟨some 12, .mov (.t 44), none⟩,
   ⟨some 13, .mov (.t 45), none⟩]) (.seq (.region false [⟨some 46, .mov (.t 11), none⟩,
   ⟨some 47, .mov (.t 13), none⟩,
   ⟨some 48, .bin .add false (.t 46) (.t 47), none⟩,
   ⟨some 11, .mov (.t 48), none⟩]) (.seq (.region false [⟨some 50, .mov (.t 5), none⟩,
   ⟨some 51, .mov (.t 6), none⟩,
   ⟨some 52, .mov (.t 9), none⟩,
   ⟨some 53, .bin .add false (.t 51) (.t 52), none⟩,
   ⟨some 54, .mov (.t 5), none⟩,
   ⟨some 55, .mov (.t 6), none⟩,
   ⟨some 56, .mov (.t 9), none⟩,
   ⟨some 57, .bin .add false (.t 55) (.t 56), none⟩,
   ⟨some 58, .ixa 1 (.t 54) (.t 57), none⟩,
   ⟨some 59, .load none (.t 58), none⟩,
   ⟨some 60, .mov (.t 12), none⟩,
   ⟨some 61, .ext64 false (.t 59) (.t 60) (.c (nv 0)), none⟩,
   ⟨some 49, .mov (.t 61), none⟩,
   ⟨some 62, .ext (.t 49) 0, none⟩,
   ⟨some 63, .ext (.t 49) 1, none⟩,
   ⟨some 64, .ixa 1 (.t 50) (.t 53), none⟩,
   ⟨none, .store 1 (.t 64) (.t 62), none⟩,
   ⟨some 13, .mov (.t 63), none⟩]) (.region false [⟨some 65, .mov (.t 11), none⟩,
   ⟨some 66, .mov (.t 13), none⟩,
   ⟨some 67, .bin .add false (.t 65) (.t 66), none⟩,
   ⟨some 8, .mov (.t 67), none⟩])))))))) (.region false [⟨some 68, .bin .add false (.t 29) (.c (iv 1)), none⟩,
   ⟨some 29, .mov (.t 68), none⟩]))))))) (.region false [⟨some 69, .mov (.t 5), none⟩,
   ⟨some 70, .mov (.t 6), none⟩,
   ⟨some 71, .mov (.t 1), none⟩,
   ⟨some 72, .len (.t 71), none⟩,
   ⟨some 73, .bin .add false (.t 70) (.t 72), none⟩,
   ⟨some 74, .mov (.t 8), none⟩,
   ⟨some 75, .ixa 1 (.t 69) (.t 73), none⟩,
   ⟨none, .store 1 (.t 75) (.t 74), none⟩]))))) (.region false [⟨some 76, .bin .add false (.t 22) (.c (iv 1)), none⟩,
   ⟨some 22, .mov (.t 76), none⟩]))))))) (.seq (.region false [⟨some 77, .mov (.t 5), none⟩,
   ⟨some 4, .mov (.t 77), none⟩]) .ret)))
def R.mul_school : List VRes := [.tmp 4]
theorem K.mul_school : resCode Tryd.prog Tryd.f92.ntmps (Tryd.f92.body.getD .skip) = C.mul_school := by kernel_rfl
theorem Q.mul_school : resResults Tryd.prog Tryd.f92.results.toList = some R.mul_school := by kernel_rfl
theorem E.mul_school : Tryd.prog.funcs[F.mul_school]? = some Tryd.f92 := Tryd.func92
theorem B.mul_school : Tryd.f92.body = some (Tryd.f92.body.getD .skip) := by kernel_rfl
theorem N.mul_school : Tryd.f92.ntmps = 78 := Tryd.ntmps92

def C.mul_addAt : VC :=
  .seq (.region false [⟨some 6, .mov (.c (nv 0)), none⟩]) (.seq (.region false [⟨some 9, .mov (.t 2), none⟩,
   ⟨some 7, .mov (.t 9), none⟩]) (.block 0 (.loop (.seq (.seq (.region false [⟨some 10, .mov (.t 7), none⟩,
   ⟨some 11, .mov (.t 0), none⟩,
   ⟨some 12, .len (.t 11), none⟩,
   ⟨some 13, .bin .lss false (.t 10) (.t 12), none⟩,
   ⟨some 14, .mov (.t 13), none⟩,
   ⟨some 15, .mov (.t 7), some (14, true)⟩,
   ⟨some 16, .mov (.t 2), some (14, true)⟩,
   ⟨some 17, .bin .sub false (.t 15) (.t 16), some (14, true)⟩,
   ⟨some 18, .mov (.t 1), some (14, true)⟩,
   ⟨some 19, .len (.t 18), some (14, true)⟩,
   ⟨some 20, .bin .lss false (.t 17) (.t 19), some (14, true)⟩,
   ⟨some 21, .mov (.t 20), some (14, true)⟩,
   ⟨some 22, .mov (.t 6), some (21, false)⟩,
   ⟨some 23, .bin .gtr false (.t 22) (.c (nv 0)), some (21, false)⟩,
   ⟨some 24, .pick (.t 21) (.c (bv true)) (.t 23), some (14, true)⟩,
   ⟨some 25, .pick (.t 14) (.t 24) (.c (bv false)), none⟩]) (.cond (.t 25) .skip (.exit 0))) (.seq (.block 1 (.seq (.region false [⟨some 8, .mov (.c (nv 0)), none⟩]) (.seq (.seq (.region false [⟨some 28, .mov (.t 7), none⟩,
   ⟨some 29, .mov (.t 2), none⟩,
   ⟨some 30, .bin .sub false (.t 28) (.t 29), none⟩,
   ⟨some 31, .mov (.t 1), none⟩,
   ⟨some 32, .len (.t 31), none⟩,
   ⟨some 33, .bin .lss false (.t 30) (.t 32), none⟩]) (.cond (.t 33) (.region false [⟨some 34, .mov (.t 1), none⟩,
   ⟨some 35, .mov (.t 7), none⟩,
   ⟨some 36, .mov (.t 2), none⟩,
   ⟨some 37, .bin .sub false (.t 35) (.t 36), none⟩,
   ⟨some 38, .ixa 1 (.t 34) (.t 37), none⟩,
   ⟨some 39, .load none (.t 38), none⟩,
   ⟨some 8, .mov (.t 39), none⟩]) .skip)) (.region false [⟨some 41, .mov (.t 0), none⟩,
   ⟨some 42, .mov (.t 7), none⟩,
   ⟨some 43, .mov (.t 0), none⟩,
   ⟨some 44, .mov (.t 7), none⟩,
   ⟨some 45, .ixa 1 (.t 43) (.t 44), none⟩,
   ⟨some 46, .load none (.t 45), none⟩,
   ⟨some 47, .mov (.t 8), none⟩,
   ⟨some 48, .mov (.t 6), none⟩,
   ⟨some 49, .ext64 false (.t 46) (.t 47) (.t 48), none⟩,
   ⟨some 40, .mov (.t 49), none⟩,
   ⟨some 50, .ext (.t 40) 0, none⟩,
   ⟨some 51, .ext (.t 40) 1, none⟩,
   ⟨some 52, .ixa 1 (.t 41) (.t 42), none⟩,
   ⟨none, .store 1 (.t 52) (.t 50), none⟩,
   ⟨some 6, .mov (.t 51), none⟩])))) (.region false [⟨some 26, .mov (.t 7), none⟩,
   ⟨some 27, .bin .add false (.t 26) (.c (iv 1)), none⟩,
   ⟨some 7, .mov (.t 27), none⟩]))))))
def R.mul_addAt : List VRes := []
theorem K.mul_addAt : resCode Tryd.prog Tryd.f93.ntmps (Tryd.f93.body.getD .skip) = C.mul_addAt := by kernel_rfl
theorem Q.mul_addAt : resResults Tryd.prog Tryd.f93.results.toList = some R.mul_addAt := by kernel_rfl
theorem E.mul_addAt : Tryd.prog.funcs[F.mul_addAt]? = some Tryd.f93 := Tryd.func93
theorem B.mul_addAt : Tryd.f93.body = some (Tryd.f93.body.getD .skip) := by kernel_rfl
theorem N.mul_addAt : Tryd.f93.ntmps = 53 := Tryd.ntmps93

def C.mul_part : VC :=
  .seq (.region false [⟨some 6, .mov (.c nil1), none⟩]) (.seq (.region false [⟨some 7, .mov (.t 1), none⟩,
   ⟨some 8, .mov (.t 0), none⟩,
   ⟨some 9, .len (.t 8), none⟩,
   ⟨some 10, .mm false (.t 7) (.t 9), none⟩,
   ⟨some 11, .mov (.t 2), none⟩,
   ⟨some 12, .mov (.t 0), none⟩,
   ⟨some 13, .len (.t 12), none⟩,
   ⟨some 14, .mm false (.t 11) (.t 13), none⟩,
   ⟨some 1, .mov (.t 10), none⟩,
   ⟨some 2, .mov (.t 14), none⟩]) (.seq (.block 0 (.loop (.seq (.seq (.region false [⟨some 15, .mov (.t 2), none⟩,
   ⟨some 16, .mov (.t 1), none⟩,
   ⟨some 17, .bin .gtr false (.t 15) (.t 16), none⟩,
   ⟨some 18, .mov (.t 17), none⟩,
   ⟨some 19, .mov (.t 0), some (18, true)⟩,
   ⟨some 20, .mov (.t 2), some (18, true)⟩,
   ⟨some 21, .bin .sub false (.t 20) (.c (iv 1)), some (18, true)⟩,
   ⟨some 22, .ixa 1 (.t 19) (.t 21), some (18, true)⟩,
   ⟨some 23, .load none (.t 22), some (18, true)⟩,
   ⟨some 24, .bin .eql false (.t 23) (.c (nv 0)), some (18, true)⟩,
   ⟨some 25, .pick (.t 18) (.t 24) (.c (bv false)), none⟩]) (.cond (.t 25) .skip (.exit 0))) (.block 1 (.region false [⟨some 26, .mov (.t 2), none⟩,
   ⟨some 27, .bin .sub false (.t 26) (.c (iv 1)), none⟩,
   ⟨some 2, .mov (.t 27), none⟩]))))) (.seq (.region false [⟨some 28, .mov (.t 0), none⟩,
   ⟨some 29, .mov (.t 1), none⟩,
   ⟨some 30, .mov (.t 2), none⟩,
   ⟨some 31, .slc 1 (.t 28) (some (.t 29)) (some (.t 30)) none, none⟩,
   ⟨some 6, .mov (.t 31), none⟩]) .ret)))
def R.mul_part : List VRes := [.tmp 6]
theorem K.mul_part : resCode Tryd.prog Tryd.f94.ntmps (Tryd.f94.body.getD .skip) = C.mul_part := by kernel_rfl
theorem Q.mul_part : resResults Tryd.prog Tryd.f94.results.toList = some R.mul_part := by kernel_rfl
theorem E.mul_part : Tryd.prog.funcs[F.mul_part]? = some Tryd.f94 := Tryd.func94
theorem B.mul_part : Tryd.f94.body = some (Tryd.f94.body.getD .skip) := by kernel_rfl
theorem N.mul_part : Tryd.f94.ntmps = 32 := Tryd.ntmps94

def C.mul_less : VC :=
  .seq (.region false [⟨some 4, .mov (.c nil1), none⟩]) (.seq (.region false [⟨some 9, .mov (.t 0), none⟩,
   ⟨some 10, .len (.t 9), none⟩,
   ⟨some 11, .mk [.int .u64 0] 8 (.t 10) (.t 10), none⟩,
   ⟨some 5, .mov (.t 11), none⟩]) (.seq (.region false [⟨some 12, .mov (.t 5), none⟩,
   ⟨some 13, .mov (.t 0), none⟩,
   ⟨some 14, .cpy 1 (.t 12) (.t 13), none⟩]) (.seq (.region false [⟨some 6, .mov (.c (nv 0)), none⟩]) (.seq (.seq (.region false [⟨some 15, .mov (.t 5), none⟩,
   ⟨some 16, .len (.t 15), none⟩,
   ⟨some 17, .mov (.c (iv 0)), none⟩]) (.block 0 (.loop (.seq (.region false [⟨some 18, .bin .lss false (.t 17) (.t 16), none⟩]) (.seq (.cond (.t 18) .skip (.exit 0)) (.seq (.block 1 (.seq (.region false [⟨some 19, .mov (.t 17), none⟩,
   ⟨some 7, .mov (.t 19), none⟩]) (.seq (.region false [⟨some 8, .mov (.c (nv 0)), none⟩]) (.seq (.seq (.region false [⟨some 20, .mov (.t 7), none⟩,
   ⟨some 21, .mov (.t 1), none⟩,
   ⟨some 22, .len (.t 21), none⟩,
   ⟨some 23, .bin .lss false (.t 20) (.t 22), none⟩]) (.cond (.t 23) (.region false [⟨some 24, .mov (.t 1), none⟩,
   ⟨some 25, .mov (.t 7), none⟩,
   ⟨some 26, .ixa 1 (.t 24) (.t 25), none⟩,
   ⟨some 27, .load none (.t 26), none⟩,
   ⟨some 8, .mov (.t 27), none⟩]) .skip)) (.region false [⟨some 29, .mov (.t 5), none⟩,
   ⟨some 30, .mov (.t 7), none⟩,
   ⟨some 31, .mov (.t 5), none⟩,
   ⟨some 32, .mov (.t 7), none⟩,
   ⟨some 33, .ixa 1 (.t 31) (.t 32), none⟩,
   ⟨some 34, .load none (.t 33), none⟩,
   ⟨some 35, .mov (.t 8), none⟩,
   ⟨some 36, .mov (.t 6), none⟩,
   ⟨some 37, .ext64 true (.t 34) (.t 35) (.t 36), none⟩,
   ⟨some 28, .mov (.t 37), none⟩,
   ⟨some 38, .ext (.t 28) 0, none⟩,
   ⟨some 39, .ext (.t 28) 1, none⟩,
   ⟨some 40, .ixa 1 (.t 29) (.t 30), none⟩,
   ⟨none, .store 1 (.t 40) (.t 38), none⟩,
   ⟨some 6, .mov (.t 39), none⟩]))))) (.region false [⟨some 41, .bin .add false (.t 17) (.c (iv 1)), none⟩,
   ⟨some 17, .mov (.t 41), none⟩]))))))) (.seq (.region false [⟨some 42, .mov (.t 5), none⟩,
   ⟨some 4, .mov (.t 42), none⟩]) .ret)))))
def R.mul_less : List VRes := [.tmp 4]
theorem K.mul_less : resCode Tryd.prog Tryd.f95.ntmps (Tryd.f95.body.getD .skip) = C.mul_less := by kernel_rfl
theorem Q.mul_less : resResults Tryd.prog Tryd.f95.results.toList = some R.mul_less := by kernel_rfl
theorem E.mul_less : Tryd.prog.funcs[F.mul_less]? = some Tryd.f95 := Tryd.func95
theorem B.mul_less : Tryd.f95.body = some (Tryd.f95.body.getD .skip) := by kernel_rfl
theorem N.mul_less : Tryd.f95.ntmps = 43 := Tryd.ntmps95

def C.mul_sum : VC :=
  .seq (.region false [⟨some 4, .mov (.c nil1), none⟩]) (.seq (.region false [⟨some 6, .mov (.t 0), none⟩,
   ⟨some 7, .len (.t 6), none⟩,
   ⟨some 8, .mov (.t 1), none⟩,
   ⟨some 9, .len (.t 8), none⟩,
   ⟨some 10, .mm true (.t 7) (.t 9), none⟩,
   ⟨some 11, .bin .add false (.t 10) (.c (iv 1)), none⟩,
   ⟨some 12, .mk [.int .u64 0] 8 (.t 11) (.t 11), none⟩,
   ⟨some 5, .mov (.t 12), none⟩]) (.seq (.region false [⟨some 13, .mov (.t 5), none⟩,
   ⟨some 14, .mov (.t 0), none⟩,
   ⟨some 15, .cpy 1 (.t 13) (.t 14), none⟩]) (.seq (.region false [⟨some 16, .mov (.t 5), none⟩,
   ⟨some 17, .mov (.t 1), none⟩,
   ⟨some 18, .call F.mul_addAt [.t 16, .t 17, .c (iv 0)], none⟩]) (.seq (.region false [⟨some 19, .mov (.t 5), none⟩,
   ⟨some 4, .mov (.t 19), none⟩]) .ret))))
def R.mul_sum : List VRes := [.tmp 4]
theorem K.mul_sum : resCode Tryd.prog Tryd.f96.ntmps (Tryd.f96.body.getD .skip) = C.mul_sum := by kernel_rfl
theorem Q.mul_sum : resResults Tryd.prog Tryd.f96.results.toList = some R.mul_sum := by kernel_rfl
theorem E.mul_sum : Tryd.prog.funcs[F.mul_sum]? = some Tryd.f96 := Tryd.func96
theorem B.mul_sum : Tryd.f96.body = some (Tryd.f96.body.getD .skip) := by kernel_rfl
theorem N.mul_sum : Tryd.f96.ntmps = 20 := Tryd.ntmps96

def C.nat_Left : VC :=
  .seq (.region false [⟨some 4, .mov (.c nil1), none⟩,
   ⟨some 5, .mov (.c (iv 0)), none⟩]) (.seq (.seq (.region false [⟨some 11, .mov (.t 1), none⟩,
   ⟨some 12, .bin .lss false (.t 11) (.c (iv 0)), none⟩,
   ⟨some 13, .mov (.t 12), none⟩,
   ⟨some 14, .mov (.t 1), some (13, false)⟩,
   ⟨some 15, .bin .gtr false (.t 14) (.c (iv 1099511627776)), some (13, false)⟩,
   ⟨some 16, .pick (.t 13) (.c (bv true)) (.t 15), none⟩]) (.cond (.t 16) (.seq (.region false [⟨some 4, .mov (.c nil1), none⟩,
   ⟨some 5, .mov (.c (iv 1)), none⟩]) .ret) .skip)) (.seq (.region false [⟨some 17, .mov (.t 0), none⟩,
   ⟨some 18, .call F.nat_trim [.t 17], none⟩,
   ⟨some 0, .mov (.t 18), none⟩]) (.seq (.seq (.region false [⟨some 19, .mov (.t 0), none⟩,
   ⟨some 20, .len (.t 19), none⟩,
   ⟨some 21, .bin .eql false (.t 20) (.c (iv 0)), none⟩]) (.cond (.t 21) (.seq (.region false [⟨some 4, .mov (.c nil1), none⟩,
   ⟨some 5, .mov (.c (iv 0)), none⟩]) .ret) .skip)) (.seq (.seq (.region false [⟨some 22, .mov (.t 0), none⟩,
   ⟨some 23, .call F.nat_Length [.t 22], none⟩,
   ⟨some 24, .mov (.t 1), none⟩,
   ⟨some 25, .bin .add false (.t 23) (.t 24), none⟩,
   ⟨some 26, .bin .gtr false (.t 25) (.c (iv 67108864)), none⟩]) (.cond (.t 26) (.seq (.region false [⟨some 4, .mov (.c nil1), none⟩,
   ⟨some 5, .mov (.c (iv 3)), none⟩]) .ret) .skip)) (.seq (.region false [⟨some 27, .mov (.t 1), none⟩,
   ⟨some 28, .bin .quo false (.t 27) (.c (iv 64)), none⟩,
   ⟨some 29, .mov (.t 1), none⟩,
   ⟨some 30, .bin .rem false (.t 29) (.c (iv 64)), none⟩,
   ⟨some 31, .conv .u64 (.t 30), none⟩,
   ⟨some 6, .mov (.t 28), none⟩,
   ⟨some 7, .mov (.t 31), none⟩]) (.seq (.region false [⟨some 32, .mov (.t 6), none⟩,
   ⟨some 33, .mov (.t 0), none⟩,
   ⟨some 34, .len (.t 33), none⟩,
   ⟨some 35, .bin .add false (.t 32) (.t 34), none⟩,
   ⟨some 36, .bin .add false (.t 35) (.c (iv 1)), none⟩,
   ⟨some 37, .mk [.int .u64 0] 8 (.t 36) (.t 36), none⟩,
   ⟨some 8, .mov (.t 37), none⟩]) (.seq (.seq (.region false [⟨some 38, .mov (.t 0), none⟩,
   ⟨some 39, .len (.t 38), none⟩,
   ⟨some 40, .mov (.c (iv 0)), none⟩]) (.block 0 (.loop (.seq (.region false [⟨some 41, .bin .lss false (.t 40) (.t 39), none⟩]) (.seq (.cond (.t 41) .skip (.exit 0)) (.seq (.block 1 (.seq (.region false [⟨some 42, .mov (.t 40), none⟩,
   ⟨some 43, .ixa 1 (.t 38) (.t 40), none⟩,
   ⟨some 44, .load none (.t 43), none⟩,
   ⟨some 9, .mov (.t 42), none⟩,
   ⟨some 10, .mov (.t 44), none⟩]) (.seq (.region false [⟨some 45, .mov (.t 8), none⟩,
   ⟨some 46, .mov (.t 6), none⟩,
   ⟨some 47, .mov (.t 9), none⟩,
   ⟨some 48, .bin .add false (.t 46) (.t 47), none⟩,
   ⟨some 49, .ixa 1 (.t 45) (.t 48), none⟩,
   ⟨some 50, .load none (.t 49), none⟩,
   ⟨some 51, .mov (.t 10), none⟩,
   ⟨some 52, .mov (.t 7), none⟩,
   ⟨some 53, .bin .shl false (.t 51) (.t 52), none⟩,
   ⟨some 54, .bin .or false (.t 50) (.t 53), none⟩,
   ⟨some 55, .ixa 1 (.t 45) (.t 48), none⟩,
   ⟨none, .store 1 (.t 55) (.t 54), none⟩]) (.region false [⟨some 56, .mov (.t 8), none⟩,
   ⟨some 57, .mov (.t 6), none⟩,
   ⟨some 58, .mov (.t 9), none⟩,
   ⟨some 59, .bin .add false (.t 57) (.t 58), none⟩,
   ⟨some 60, .bin .add false (.t 59) (.c (iv 1)), none⟩,
   ⟨some 61, .ixa 1 (.t 56) (.t 60), none⟩,
   ⟨some 62, .load none (.t 61), none⟩,
   ⟨some 63, .mov (.t 10), none⟩,
   ⟨some 64, .bin .shr false (.t 63) (.c (nv 1)), none⟩,
   ⟨some 65, .mov (.t 7), none⟩,
   ⟨some 66, .bin .sub false (.c (nv 63)) (.t 65), none⟩,
   ⟨some 67, .bin .shr false (.t 64) (.t 66), none⟩,
   ⟨some 68, .bin .or false (.t 62) (.t 67), none⟩,
   ⟨some 69, .ixa 1 (.t 56) (.t 60), none⟩,
   ⟨none, .store 1 (.t 69) (.t 68), none⟩])))) (.region false [⟨some 70, .bin .add false (.t 40) (.c (iv 1)), none⟩,
   ⟨some 40, .mov (.t 70), none⟩]))))))) (.seq (.region false [⟨some 71, .mov (.t 8), none⟩,
   ⟨some 72, .call F.nat_trim [.t 71], none⟩,
   ⟨some 4, .mov (.t 72), none⟩,
   ⟨some 5, .mov (.c (iv 0)), none⟩]) .ret))))))))
def R.nat_Left : List VRes := [.tmp 4, .tmp 5]
theorem K.nat_Left : resCode Tryd.prog Tryd.f97.ntmps (Tryd.f97.body.getD .skip) = C.nat_Left := by kernel_rfl
theorem Q.nat_Left : resResults Tryd.prog Tryd.f97.results.toList = some R.nat_Left := by kernel_rfl
theorem E.nat_Left : Tryd.prog.funcs[F.nat_Left]? = some Tryd.f97 := Tryd.func97
theorem B.nat_Left : Tryd.f97.body = some (Tryd.f97.body.getD .skip) := by kernel_rfl
theorem N.nat_Left : Tryd.f97.ntmps = 73 := Tryd.ntmps97

end Go.Proofs.YtplofcianjnkmabDoor
namespace Go.Proofs.YtplofcianjnkmabDoor
end Go.Proofs.YtplofcianjnkmabDoor
set_option linter.unusedSimpArgs false
set_option linter.unusedVariables false
set_option maxRecDepth 100000
set_option maxHeartbeats 4000000
namespace Go.Proofs.YtplofcianjnkmabDoor
open Go.VM
theorem hm : Tryd.prog.follows .mixedOrders = true := Tryd.checked.mixed
theorem two64 : 2 ≤ 18446744073709551616 := by decide

theorem getD_snoc (m : List Nat) (x : Nat) : (m ++ [x]).getD m.length 0 = x := by simp
theorem take_snoc' (m : List Nat) (x : Nat) : (m ++ [x]).take m.length = m := by simp

theorem trim_spec (t : Tok) (l : List Nat) (c : Nat) (hl : Lim 18446744073709551616 l) (hn : l.length ≤ 4398046511104) : VSpec Tryd.prog F.nat_trim c [nats t l] (fun r _ => r = nats t (digs 18446744073709551616 (val 18446744073709551616 l))) := by
  rw [← trim_digs two64 hl]
  refine spec_mk hm E.nat_trim B.nat_trim K.nat_trim Q.nat_trim (by rw [N.nat_trim]; simp) ?_
  unfold C.nat_trim R.nat_trim
  refine v_reg ?_
  simp only [vm, ite_true, ite_false, eq_self, reduceIte, Nat.reduceEqDiff, Option.map]
  refine vwp_seq (vwp_block (vwp_loop (fun n S => ∃ l', S.ρ 0 = nats t l' ∧ trimL l' = trimL l ∧ l'.length = n ∧ n ≤ l.length ∧ S.σ = noBlk ∧ S.c = c) l.length ⟨l, rfl, rfl, rfl, Nat.le_refl _, rfl, rfl⟩ ?_))
  rintro n ⟨ρ, σ, k⟩ ⟨l', h0, h1, h2, h3, rfl, rfl⟩
  dsimp only at h0
  refine vwp_seq (v_reg ?_)
  rcases snoc_cases l' with rfl | ⟨m, x, rfl⟩
  · have e : ¬ (0 : Int) < ([] : List Nat).length := by simp
    simp only [vm, ite_true, ite_false, eq_self, reduceIte, Nat.reduceEqDiff, Option.map, h0, e]
    refine v_cond ?_
    simp only [vm, ite_true, ite_false, eq_self, reduceIte, Nat.reduceEqDiff, Option.map]
    refine vwp_exit ?_
    simp only [vm, ite_true, ite_false, eq_self, reduceIte, Nat.reduceEqDiff, Option.map]
    refine v_reg ?_
    simp only [vm, ite_true, ite_false, eq_self, reduceIte, Nat.reduceEqDiff, Option.map, h0]
    refine vwp_ret ?_
    simp only [vm, ite_true, ite_false, eq_self, reduceIte, Nat.reduceEqDiff, Option.map]
    exact ⟨Nat.le_refl _, by rw [← h1]; rfl⟩
  · have e : (0 : Int) < (m ++ [x]).length := by simp
    have e1 : ((m ++ [x]).length - 1 : Int).toNat = m.length := by simp
    have e2 : (m ++ [x]).length = m.length + 1 := by simp
    simp only [vm, ite_true, ite_false, eq_self, reduceIte, Nat.reduceEqDiff, Option.map, h0, e, e1, getD_snoc]
    refine ⟨⟨by omega, by omega⟩, ⟨by omega, by omega⟩, by omega, v_cond ?_⟩
    simp only [vm, ite_true, ite_false, eq_self, reduceIte, Nat.reduceEqDiff, Option.map]
    refine ⟨fun g => vwp_skip ?_, fun g => vwp_exit ?_⟩
    · simp only [vm, ite_true, ite_false, eq_self, reduceIte, Nat.reduceEqDiff, Option.map]
      refine vwp_block (v_last ?_)
      simp only [vm, ite_true, ite_false, eq_self, reduceIte, Nat.reduceEqDiff, Option.map, h0, e1, take_snoc']
      refine ⟨by omega, by omega, m.length, by omega, m, rfl, ?_, rfl, by omega⟩
      rw [← h1, g, trimL_zero]
    · simp only [vm, ite_true, ite_false, eq_self, reduceIte, Nat.reduceEqDiff, Option.map]
      refine v_reg ?_
      simp only [vm, ite_true, ite_false, eq_self, reduceIte, Nat.reduceEqDiff, Option.map, h0]
      refine vwp_ret ?_
      simp only [vm, ite_true, ite_false, eq_self, reduceIte, Nat.reduceEqDiff, Option.map]
      exact ⟨Nat.le_refl _, by rw [← h1, trimL_pos _ _ g]⟩

def Tk (c c' : Nat) (t : Tok) : Prop := t = .nil ∨ ∃ i, t = .id i ∧ c ≤ i ∧ i < c'
theorem Tk.mono {c c' d d' : Nat} {t : Tok} (h : Tk c c' t) (h1 : d ≤ c) (h2 : c' ≤ d') : Tk d d' t := by
  rcases h with rfl | ⟨i, rfl, h3, h4⟩
  · exact .inl rfl
  · exact .inr ⟨i, rfl, by omega, by omega⟩
def NatR (c c' n : Nat) (v : V) : Prop := ∃ t, v = nats t (digs 18446744073709551616 n) ∧ Tk c c' t

theorem norm_spec (t : Tok) (l : List Nat) (c : Nat) (hl : Lim 18446744073709551616 l) (hn : l.length ≤ 4398046511104) : VSpec Tryd.prog F.nat_Norm c [nats t l] (fun r c' => NatR c c' (val 18446744073709551616 l) r) := by
  refine spec_mk hm E.nat_Norm B.nat_Norm K.nat_Norm Q.nat_Norm (by rw [N.nat_Norm]; simp) ?_
  unfold C.nat_Norm R.nat_Norm
  refine v_reg ?_
  simp only [vm, ite_true, ite_false, eq_self, reduceIte, Nat.reduceEqDiff, Option.map]
  refine v_reg ?_
  simp only [vm, ite_true, ite_false, eq_self, reduceIte, Nat.reduceEqDiff, Option.map]
  refine s_call (trim_spec t l c hl hn) (by simp only [vm, ite_true, ite_false, eq_self, reduceIte, Nat.reduceEqDiff, Option.map, List.map]) ?_
  rintro v c' hc rfl
  have hlen := digs_len_le two64 hl
  refine s_app0 (t := t) (l := digs 18446744073709551616 (val 18446744073709551616 l)) (by simp only [vm, ite_true, ite_false, eq_self, reduceIte, Nat.reduceEqDiff, Option.map]) (by simp only [vm, ite_true, ite_false, eq_self, reduceIte, Nat.reduceEqDiff, Option.map]) (by omega) (fun e => ?_) (fun e => ?_)
  · simp only [vm, ite_true, ite_false, eq_self, reduceIte, Nat.reduceEqDiff, Option.map]
    refine vwp_ret ?_
    simp only [vm, ite_true, ite_false, eq_self, reduceIte, Nat.reduceEqDiff, Option.map]
    exact ⟨hc, .nil, by rw [e]; rfl, .inl rfl⟩
  · simp only [vm, ite_true, ite_false, eq_self, reduceIte, Nat.reduceEqDiff, Option.map]
    refine v_freeze 2 (l := digs 18446744073709551616 (val 18446744073709551616 l)) rfl (by simp only [vm, ite_true, ite_false, eq_self, reduceIte, Nat.reduceEqDiff, Option.map]) hc (by omega) ?_
    refine vwp_ret ?_
    simp only [vm, ite_true, ite_false, eq_self, reduceIte, Nat.reduceEqDiff, Option.map, List.drop_zero, List.take_length]
    exact ⟨by omega, .id c', rfl, .inr ⟨c', rfl, hc, by omega⟩⟩

theorem from_spec (n c : Nat) (hn : n < 18446744073709551616) : VSpec Tryd.prog F.nat_From c [nv n] (fun r c' => NatR c c' n r) := by
  refine spec_mk hm E.nat_From B.nat_From K.nat_From Q.nat_From (by rw [N.nat_From]; simp) ?_
  unfold C.nat_From R.nat_From
  refine v_reg ?_
  simp only [vm, ite_true, ite_false, eq_self, reduceIte, Nat.reduceEqDiff, Option.map]
  refine vwp_seq (v_reg ?_)
  simp only [vm, ite_true, ite_false, eq_self, reduceIte, Nat.reduceEqDiff, Option.map]
  refine v_cond ?_
  simp only [vm, ite_true, ite_false, eq_self, reduceIte, Nat.reduceEqDiff, Option.map]
  refine ⟨fun g => v_reg ?_, fun g => vwp_skip ?_⟩
  · simp only [vm, ite_true, ite_false, eq_self, reduceIte, Nat.reduceEqDiff, Option.map]
    refine vwp_ret ?_
    simp only [vm, ite_true, ite_false, eq_self, reduceIte, Nat.reduceEqDiff, Option.map]
    exact ⟨Nat.le_refl _, .nil, by subst g; rfl, .inl rfl⟩
  · simp only [vm, ite_true, ite_false, eq_self, reduceIte, Nat.reduceEqDiff, Option.map]
    refine v_reg ?_
    simp only [vm, ite_true, ite_false, eq_self, reduceIte, Nat.reduceEqDiff, Option.map]
    refine s_bsl1 (n := n) (by simp only [vm, ite_true, ite_false, eq_self, reduceIte, Nat.reduceEqDiff, Option.map]) ?_
    simp only [vm, ite_true, ite_false, eq_self, reduceIte, Nat.reduceEqDiff, Option.map]
    refine vwp_ret ?_
    simp only [vm, ite_true, ite_false, eq_self, reduceIte, Nat.reduceEqDiff, Option.map]
    refine ⟨by omega, .id c, ?_, .inr ⟨c, rfl, by omega, by omega⟩⟩
    rw [digs_pos two64 (by omega), Nat.mod_eq_of_lt hn, Nat.div_eq_of_lt hn]; rfl
end Go.Proofs.YtplofcianjnkmabDoor
set_option linter.unusedSimpArgs false
set_option linter.unusedVariables false
set_option maxRecDepth 100000
set_option maxHeartbeats 4000000
namespace Go.Proofs.YtplofcianjnkmabDoor
open Go.VM

theorem len64_spec (x c : Nat) (hx : x < 18446744073709551616) : VSpec Tryd.prog F.bits_Len64 c [nv x] (fun r _ => r = iv (bl x)) := by
  refine spec_mk hm E.bits_Len64 B.bits_Len64 K.bits_Len64 Q.bits_Len64 (by rw [N.bits_Len64]; simp) ?_
  unfold C.bits_Len64 R.bits_Len64
  refine v_reg ?_
  simp only [vm, ite_true, ite_false, eq_self, reduceIte, Nat.reduceEqDiff, Option.map]
  refine v_cut (fun S => ∃ n y : Nat, S.ρ 0 = nv y ∧ S.ρ 2 = iv n ∧ y < 4294967296 ∧ bl x = n + bl y ∧ n ≤ 32 ∧ S.σ = noBlk ∧ S.c = c) ?_ ?_
  · refine v_reg ?_
    simp only [vm, ite_true, ite_false, eq_self, reduceIte, Nat.reduceEqDiff, Option.map]
    refine v_cond ?_
    simp only [vm, ite_true, ite_false, eq_self, reduceIte, Nat.reduceEqDiff, Option.map]
    refine ⟨fun g => v_reg ?_, fun g => vwp_skip ⟨rfl, 0, x, ?_⟩⟩
    · simp only [vm, ite_true, ite_false, eq_self, reduceIte, Nat.reduceEqDiff, Option.map]
      refine v_last ?_
      simp only [vm, ite_true, ite_false, eq_self, reduceIte, Nat.reduceEqDiff, Option.map]
      exact ⟨32, x / 4294967296, rfl, rfl, by omega, bl_shift (k := 32) g, by omega⟩
    · simp only [vm, ite_true, ite_false, eq_self, reduceIte, Nat.reduceEqDiff, Option.map]
      exact ⟨rfl, by omega, by omega⟩
  rintro ⟨ρ, σ, k⟩ ⟨n, y, h0, h2, hy, hb, hn, rfl, rfl⟩
  dsimp only at h0 h2
  refine v_cut (fun S => ∃ n y : Nat, S.ρ 0 = nv y ∧ S.ρ 2 = iv n ∧ y < 65536 ∧ bl x = n + bl y ∧ n ≤ 48 ∧ S.σ = noBlk ∧ S.c = k) ?_ ?_
  · refine v_reg ?_
    simp only [vm, ite_true, ite_false, eq_self, reduceIte, Nat.reduceEqDiff, Option.map, h0, h2]
    refine v_cond ?_
    simp only [vm, ite_true, ite_false, eq_self, reduceIte, Nat.reduceEqDiff, Option.map]
    refine ⟨fun g => v_reg ?_, fun g => vwp_skip ⟨rfl, n, y, ?_⟩⟩
    · simp only [vm, ite_true, ite_false, eq_self, reduceIte, Nat.reduceEqDiff, Option.map, h0, h2]
      refine v_last ?_
      simp only [vm, ite_true, ite_false, eq_self, reduceIte, Nat.reduceEqDiff, Option.map, h0, h2]
      refine ⟨by omega, n + 16, y / 65536, rfl, rfl, by omega, ?_, by omega⟩
      rw [hb, bl_shift (k := 16) g, Nat.add_assoc]
    · simp only [vm, ite_true, ite_false, eq_self, reduceIte, Nat.reduceEqDiff, Option.map, h0, h2]
      exact ⟨by omega, hb, by omega⟩
  rintro ⟨ρ, σ, k⟩ ⟨n, y, h0, h2, hy, hb, hn, rfl, rfl⟩
  dsimp only at h0 h2
  refine v_cut (fun S => ∃ n y : Nat, S.ρ 0 = nv y ∧ S.ρ 2 = iv n ∧ y < 256 ∧ bl x = n + bl y ∧ n ≤ 56 ∧ S.σ = noBlk ∧ S.c = k) ?_ ?_
  · refine v_reg ?_
    simp only [vm, ite_true, ite_false, eq_self, reduceIte, Nat.reduceEqDiff, Option.map, h0, h2]
    refine v_cond ?_
    simp only [vm, ite_true, ite_false, eq_self, reduceIte, Nat.reduceEqDiff, Option.map]
    refine ⟨fun g => v_reg ?_, fun g => vwp_skip ⟨rfl, n, y, ?_⟩⟩
    · simp only [vm, ite_true, ite_false, eq_self, reduceIte, Nat.reduceEqDiff, Option.map, h0, h2]
      refine v_last ?_
      simp only [vm, ite_true, ite_false, eq_self, reduceIte, Nat.reduceEqDiff, Option.map, h0, h2]
      refine ⟨by omega, n + 8, y / 256, rfl, rfl, by omega, ?_, by omega⟩
      rw [hb, bl_shift (k := 8) g, Nat.add_assoc]
    · simp only [vm, ite_true, ite_false, eq_self, reduceIte, Nat.reduceEqDiff, Option.map, h0, h2]
      exact ⟨by omega, hb, by omega⟩
  rintro ⟨ρ, σ, k⟩ ⟨n, y, h0, h2, hy, hb, hn, rfl, rfl⟩
  dsimp only at h0 h2
  have h8 : bl y ≤ 8 := bl_le hy
  refine v_reg ?_
  simp only [vm, ite_true, ite_false, eq_self, reduceIte, Nat.reduceEqDiff, Option.map, h0, h2, Nat.mod_eq_of_lt hy]
  rw [six_tab (blTab_at (by decide +kernel) hy)]
  simp only [vm, ite_true, ite_false, eq_self, reduceIte, Nat.reduceEqDiff, Option.map, h0, h2, c_8i (n := bl y) (by omega)]
  refine ⟨by omega, vwp_ret ?_⟩
  simp only [vm, ite_true, ite_false, eq_self, reduceIte, Nat.reduceEqDiff, Option.map]
  refine ⟨Nat.le_refl _, ?_⟩
  rw [hb]; rfl

theorem length_spec (t : Tok) (l : List Nat) (c : Nat) (hl : Lim 18446744073709551616 l) (hn : l.length ≤ 4398046511104) : VSpec Tryd.prog F.nat_Length c [nats t l] (fun r _ => r = iv (bl (val 18446744073709551616 l))) := by
  refine spec_mk hm E.nat_Length B.nat_Length K.nat_Length Q.nat_Length (by rw [N.nat_Length]; simp) ?_
  unfold C.nat_Length R.nat_Length
  refine v_reg ?_
  simp only [vm, ite_true, ite_false, eq_self, reduceIte, Nat.reduceEqDiff, Option.map]
  refine v_reg ?_
  simp only [vm, ite_true, ite_false, eq_self, reduceIte, Nat.reduceEqDiff, Option.map]
  refine s_call (trim_spec t l c hl hn) (by simp only [vm, ite_true, ite_false, eq_self, reduceIte, Nat.reduceEqDiff, Option.map, List.map]) ?_
  rintro v c' hc rfl
  have hlen := digs_len_le two64 hl
  simp only [vm, ite_true, ite_false, eq_self, reduceIte, Nat.reduceEqDiff, Option.map]
  refine vwp_seq (v_reg ?_)
  simp only [vm, ite_true, ite_false, eq_self, reduceIte, Nat.reduceEqDiff, Option.map]
  refine v_cond ?_
  simp only [vm, ite_true, ite_false, eq_self, reduceIte, Nat.reduceEqDiff, Option.map]
  refine ⟨fun g => v_reg ?_, fun g => vwp_skip ?_⟩
  · simp only [vm, ite_true, ite_false, eq_self, reduceIte, Nat.reduceEqDiff, Option.map]
    refine vwp_ret ?_
    simp only [vm, ite_true, ite_false, eq_self, reduceIte, Nat.reduceEqDiff, Option.map]
    have e : digs 18446744073709551616 (val 18446744073709551616 l) = [] := List.eq_nil_of_length_eq_zero (by omega)
    rw [(digs_eq_nil two64).1 e]
    exact ⟨hc, rfl⟩
  · simp only [vm, ite_true, ite_false, eq_self, reduceIte, Nat.reduceEqDiff, Option.map]
    obtain ⟨m, x, e⟩ := snoc_of_ne (l := digs 18446744073709551616 (val 18446744073709551616 l)) (fun e => g (by rw [e]; rfl))
    obtain ⟨h1, h2, h3⟩ := bl_digs64 e
    rw [e] at hlen ⊢
    have e1 : ((m ++ [x]).length - 1 : Int).toNat = m.length := by simp
    have e2 : (m ++ [x]).length = m.length + 1 := by simp
    refine v_reg ?_
    simp only [vm, ite_true, ite_false, eq_self, reduceIte, Nat.reduceEqDiff, Option.map, e1, getD_snoc]
    refine ⟨by omega, by omega, by omega, by omega, by omega, ?_⟩
    refine s_call (len64_spec x c' h2) (by simp only [vm, ite_true, ite_false, eq_self, reduceIte, Nat.reduceEqDiff, Option.map, List.map]) ?_
    rintro v c2 hc2 rfl
    have h8 : bl x ≤ 64 := bl_le h2
    simp only [vm, ite_true, ite_false, eq_self, reduceIte, Nat.reduceEqDiff, Option.map]
    refine ⟨by omega, vwp_ret ?_⟩
    simp only [vm, ite_true, ite_false, eq_self, reduceIte, Nat.reduceEqDiff, Option.map]
    refine ⟨by omega, ?_⟩
    congr 2
    omega
end Go.Proofs.YtplofcianjnkmabDoor
set_option linter.unusedSimpArgs false
set_option linter.unusedVariables false
set_option maxRecDepth 100000
set_option maxHeartbeats 4000000
namespace Go.Proofs.YtplofcianjnkmabDoor
open Go.VM

theorem lz64_spec (x c : Nat) (hx : x < 18446744073709551616) : VSpec Tryd.prog F.bits_LeadingZeros64 c [nv x] (fun r _ => r = iv (64 - bl x)) := by
  refine spec_mk hm E.bits_LeadingZeros64 B.bits_LeadingZeros64 K.bits_LeadingZeros64 Q.bits_LeadingZeros64 (by rw [N.bits_LeadingZeros64]; simp) ?_
  unfold C.bits_LeadingZeros64 R.bits_LeadingZeros64
  have h8 : bl x ≤ 64 := bl_le hx
  refine v_reg ?_
  simp only [vm, ite_true, ite_false, eq_self, reduceIte, Nat.reduceEqDiff, Option.map]
  refine v_reg ?_
  simp only [vm, ite_true, ite_false, eq_self, reduceIte, Nat.reduceEqDiff, Option.map]
  refine s_call (len64_spec x c hx) (by simp only [vm, ite_true, ite_false, eq_self, reduceIte, Nat.reduceEqDiff, Option.map, List.map]) ?_
  rintro v c2 hc2 rfl
  simp only [vm, ite_true, ite_false, eq_self, reduceIte, Nat.reduceEqDiff, Option.map]
  refine ⟨by omega, vwp_ret ?_⟩
  simp only [vm, ite_true, ite_false, eq_self, reduceIte, Nat.reduceEqDiff, Option.map]
  exact hc2

theorem mul64_spec (x y c : Nat) (hx : x < 18446744073709551616) (hy : y < 18446744073709551616) : VSpec Tryd.prog F.bits_Mul64 c [nv x, nv y] (fun r _ => r = .tup [nv (x * y / 18446744073709551616), nv (x * y % 18446744073709551616)]) := by
  refine spec_mk hm E.bits_Mul64 B.bits_Mul64 K.bits_Mul64 Q.bits_Mul64 (by rw [N.bits_Mul64]; simp) ?_
  unfold C.bits_Mul64 R.bits_Mul64
  obtain ⟨h1, h2, h3, h4⟩ := Go.Lib.mul64_hi x y hx hy
  have hb : x * y < 18446744073709551616 * 18446744073709551616 := Nat.mul_lt_mul'' hx hy
  have h5 : x / 4294967296 * (y / 4294967296) < 18446744073709551616 := by
    have := Go.Lib.half_mul_le (a := x / 4294967296) (b := y / 4294967296) (by omega) (by omega)
    omega
  have h6 : x / 4294967296 * (y % 4294967296) < 18446744073709551616 := by
    have := Go.Lib.half_mul_le (a := x / 4294967296) (b := y % 4294967296) (by omega) (by omega)
    omega
  have h7 : x % 4294967296 * (y / 4294967296) < 18446744073709551616 := by
    have := Go.Lib.half_mul_le (a := x % 4294967296) (b := y / 4294967296) (by omega) (by omega)
    omega
  refine v_reg ?_
  simp only [vm, ite_true, ite_false, eq_self, reduceIte, Nat.reduceEqDiff, Option.map]
  refine v_reg ?_
  simp only [vm, ite_true, ite_false, eq_self, reduceIte, Nat.reduceEqDiff, Option.map]
  refine v_reg ?_
  simp only [vm, ite_true, ite_false, eq_self, reduceIte, Nat.reduceEqDiff, Option.map]
  refine v_reg ?_
  simp only [vm, ite_true, ite_false, eq_self, reduceIte, Nat.reduceEqDiff, Option.map]
  refine v_reg ?_
  simp only [vm, ite_true, ite_false, eq_self, reduceIte, Nat.reduceEqDiff, Option.map]
  refine v_reg ?_
  simp only [vm, ite_true, ite_false, eq_self, reduceIte, Nat.reduceEqDiff, Option.map, Nat.mod_eq_of_lt h1]
  refine v_reg ?_
  simp only [vm, ite_true, ite_false, eq_self, reduceIte, Nat.reduceEqDiff, Option.map, Nat.mod_eq_of_lt h6, Nat.mod_eq_of_lt h2]
  refine v_reg ?_
  simp only [vm, ite_true, ite_false, eq_self, reduceIte, Nat.reduceEqDiff, Option.map]
  refine v_reg ?_
  simp only [vm, ite_true, ite_false, eq_self, reduceIte, Nat.reduceEqDiff, Option.map]
  refine v_reg ?_
  simp only [vm, ite_true, ite_false, eq_self, reduceIte, Nat.reduceEqDiff, Option.map, Nat.mod_eq_of_lt h7, Nat.mod_eq_of_lt h3]
  refine v_reg ?_
  simp only [vm, ite_true, ite_false, eq_self, reduceIte, Nat.reduceEqDiff, Option.map, Nat.mod_eq_of_lt h5]
  refine v_reg ?_
  simp only [vm, ite_true, ite_false, eq_self, reduceIte, Nat.reduceEqDiff, Option.map]
  refine vwp_ret ?_
  simp only [vm, ite_true, ite_false, eq_self, reduceIte, Nat.reduceEqDiff, Option.map]
  refine ⟨Nat.le_refl _, ?_⟩
  rw [Nat.mod_add_mod, h4, Nat.mod_eq_of_lt (by omega)]

theorem told_spec (t : Tok) (l : List Nat) (c : Nat) (hl : Lim 18446744073709551616 l) (hn : l.length ≤ 4398046511104) : VSpec Tryd.prog F.nat_told c [nats t l]
    (fun r _ => r = if bl (val 18446744073709551616 l) ≤ 67108864 then .tup [nats t (digs 18446744073709551616 (val 18446744073709551616 l)), iv 0] else .tup [nil1, iv 3]) := by
  refine spec_mk hm E.nat_told B.nat_told K.nat_told Q.nat_told (by rw [N.nat_told]; simp) ?_
  unfold C.nat_told R.nat_told
  have hlen := digs_len_le two64 hl
  refine v_reg ?_
  simp only [vm, ite_true, ite_false, eq_self, reduceIte, Nat.reduceEqDiff, Option.map]
  refine v_reg ?_
  simp only [vm, ite_true, ite_false, eq_self, reduceIte, Nat.reduceEqDiff, Option.map]
  refine s_call (trim_spec t l c hl hn) (by simp only [vm, ite_true, ite_false, eq_self, reduceIte, Nat.reduceEqDiff, Option.map, List.map]) ?_
  rintro v c' hc rfl
  simp only [vm, ite_true, ite_false, eq_self, reduceIte, Nat.reduceEqDiff, Option.map]
  refine vwp_seq (v_reg ?_)
  simp only [vm, ite_true, ite_false, eq_self, reduceIte, Nat.reduceEqDiff, Option.map]
  refine s_call (length_spec t (digs 18446744073709551616 (val 18446744073709551616 l)) c' (lim_digs two64 _) (by omega)) (by simp only [vm, ite_true, ite_false, eq_self, reduceIte, Nat.reduceEqDiff, Option.map, List.map]) ?_
  rintro v c2 hc2 rfl
  simp only [vm, ite_true, ite_false, eq_self, reduceIte, Nat.reduceEqDiff, Option.map, val_digs two64]
  refine v_cond ?_
  simp only [vm, ite_true, ite_false, eq_self, reduceIte, Nat.reduceEqDiff, Option.map]
  refine ⟨fun g => v_reg ?_, fun g => vwp_skip ?_⟩
  · simp only [vm, ite_true, ite_false, eq_self, reduceIte, Nat.reduceEqDiff, Option.map]
    refine vwp_ret ?_
    simp only [vm, ite_true, ite_false, eq_self, reduceIte, Nat.reduceEqDiff, Option.map]
    exact ⟨by omega, by rw [if_neg (by omega)]⟩
  · simp only [vm, ite_true, ite_false, eq_self, reduceIte, Nat.reduceEqDiff, Option.map]
    refine v_reg ?_
    simp only [vm, ite_true, ite_false, eq_self, reduceIte, Nat.reduceEqDiff, Option.map]
    refine vwp_ret ?_
    simp only [vm, ite_true, ite_false, eq_self, reduceIte, Nat.reduceEqDiff, Option.map]
    exact ⟨by omega, by rw [if_pos (by omega)]⟩

def cmpI (a b : Nat) : Int := if a < b then -1 else if a = b then 0 else 1

theorem compare_spec (t u : Tok) (a b : List Nat) (c : Nat) (ha : Lim 18446744073709551616 a) (hb : Lim 18446744073709551616 b) (hna : a.length ≤ 1099511627776) (hnb : b.length ≤ 1099511627776) : VSpec Tryd.prog F.nat_Compare c [nats t a, nats u b] (fun r _ => r = iv (cmpI (val 18446744073709551616 a) (val 18446744073709551616 b))) := by
  refine spec_mk hm E.nat_Compare B.nat_Compare K.nat_Compare Q.nat_Compare (by rw [N.nat_Compare]; simp) ?_
  unfold C.nat_Compare R.nat_Compare
  have hla := digs_len_le two64 ha
  have hlb := digs_len_le two64 hb
  have hda := lim_digs two64 (val 18446744073709551616 a)
  have hdb := lim_digs two64 (val 18446744073709551616 b)
  refine v_reg ?_
  simp only [vm, ite_true, ite_false, eq_self, reduceIte, Nat.reduceEqDiff, Option.map]
  refine v_reg ?_
  simp only [vm, ite_true, ite_false, eq_self, reduceIte, Nat.reduceEqDiff, Option.map]
  refine s_call (trim_spec t a c ha (by omega)) (by simp only [vm, ite_true, ite_false, eq_self, reduceIte, Nat.reduceEqDiff, Option.map, List.map]) ?_
  rintro v c' hc rfl
  simp only [vm, ite_true, ite_false, eq_self, reduceIte, Nat.reduceEqDiff, Option.map]
  refine s_call (trim_spec u b c' hb (by omega)) (by simp only [vm, ite_true, ite_false, eq_self, reduceIte, Nat.reduceEqDiff, Option.map, List.map]) ?_
  rintro v c2 hc2 rfl
  have va := val_digs two64 (val 18446744073709551616 a)
  have vb := val_digs two64 (val 18446744073709551616 b)
  have hlt := lt_of_len two64 (m := val 18446744073709551616 a) (n := val 18446744073709551616 b)
  have hgt := lt_of_len two64 (m := val 18446744073709551616 b) (n := val 18446744073709551616 a)
  generalize digs 18446744073709551616 (val 18446744073709551616 a) = x at *
  generalize digs 18446744073709551616 (val 18446744073709551616 b) = y at *
  generalize val 18446744073709551616 a = m at *
  generalize val 18446744073709551616 b = n at *
  simp only [vm, ite_true, ite_false, eq_self, reduceIte, Nat.reduceEqDiff, Option.map]
  refine vwp_seq (v_reg ?_)
  simp only [vm, ite_true, ite_false, eq_self, reduceIte, Nat.reduceEqDiff, Option.map]
  refine v_cond ?_
  simp only [vm, ite_true, ite_false, eq_self, reduceIte, Nat.reduceEqDiff, Option.map]
  refine ⟨fun g => vwp_seq (v_reg ?_), fun g => vwp_skip ?_⟩
  · simp only [vm, ite_true, ite_false, eq_self, reduceIte, Nat.reduceEqDiff, Option.map]
    refine v_cond ?_
    simp only [vm, ite_true, ite_false, eq_self, reduceIte, Nat.reduceEqDiff, Option.map]
    refine ⟨fun g2 => v_reg ?_, fun g2 => vwp_skip ?_⟩
    · simp only [vm, ite_true, ite_false, eq_self, reduceIte, Nat.reduceEqDiff, Option.map]
      refine vwp_ret ?_
      simp only [vm, ite_true, ite_false, eq_self, reduceIte, Nat.reduceEqDiff, Option.map]
      exact ⟨by omega, by rw [cmpI, if_pos (hlt (by omega))]⟩
    · simp only [vm, ite_true, ite_false, eq_self, reduceIte, Nat.reduceEqDiff, Option.map]
      refine v_reg ?_
      simp only [vm, ite_true, ite_false, eq_self, reduceIte, Nat.reduceEqDiff, Option.map]
      refine vwp_ret ?_
      simp only [vm, ite_true, ite_false, eq_self, reduceIte, Nat.reduceEqDiff, Option.map]
      have := hgt (by omega)
      exact ⟨by omega, by rw [cmpI, if_neg (by omega), if_neg (by omega)]⟩
  · simp only [vm, ite_true, ite_false, eq_self, reduceIte, Nat.reduceEqDiff, Option.map]
    have hxy : x.length = y.length := by omega
    refine vwp_seq (v_reg ?_)
    simp only [vm, ite_true, ite_false, eq_self, reduceIte, Nat.reduceEqDiff, Option.map]
    refine ⟨by omega, vwp_block (vwp_loop (fun k S => S.ρ 0 = nats t x ∧ S.ρ 1 = nats u y ∧ S.ρ 5 = iv ((k : Int) - 1) ∧ k ≤ x.length ∧ val 18446744073709551616 (x.drop k) = val 18446744073709551616 (y.drop k) ∧ S.σ = noBlk ∧ S.c = c2) x.length ⟨rfl, rfl, rfl, Nat.le_refl _, ?_, rfl, rfl⟩ ?_)⟩
    · rw [List.drop_of_length_le (Nat.le_refl _), hxy, List.drop_of_length_le (Nat.le_refl _)]
    rintro k ⟨ρ, σ, c3⟩ ⟨h0, h1, h5, hk, hv, hσ, hc3⟩
    dsimp only at h0 h1 h5 hσ hc3
    subst hσ hc3
    refine xGF (jn h0 (jn h1 h5)) ?_
    refine xG ?_
    refine ⟨fun g3 => ?_, fun g3 => ?_⟩
    · refine xG ?_
      obtain ⟨i, rfl⟩ : ∃ i, k = i + 1 := ⟨k - 1, by omega⟩
      have e1 : (((i + 1 : Nat) : Int) - 1).toNat = i := by omega
      refine xGF (jn h0 (jn h1 (jn h5 e1))) ?_
      refine ⟨by omega, by omega, by omega, by omega, ?_⟩
      refine xG ?_
      refine ⟨fun g4 => ?_, fun g4 => ?_⟩
      · refine xG ?_
        refine xG ?_
        have := val_lt_of_top two64 hda hdb (i := i) (by omega) (by omega) hxy hv g4
        exact ⟨by omega, by rw [cmpI, if_pos (by omega)]⟩
      · refine xG ?_
        refine xGF (jn h0 (jn h1 (jn h5 e1))) ?_
        refine ⟨by omega, by omega, by omega, by omega, ?_⟩
        refine xG ?_
        refine ⟨fun g5 => ?_, fun g5 => ?_⟩
        · refine xG ?_
          refine xG ?_
          have := val_lt_of_top two64 hdb hda (i := i) (by omega) (by omega) hxy.symm hv.symm g5
          exact ⟨by omega, by rw [cmpI, if_neg (by omega), if_neg (by omega)]⟩
        · refine xG ?_
          refine xGF (jn h0 (jn h1 h5)) ?_
          refine ⟨by omega, i, by omega, congrArg iv (by omega), by omega, ?_⟩
          rw [val_drop (l := x) (i := i) (by omega), val_drop (l := y) (i := i) (by omega), hv, show x.getD i 0 = y.getD i 0 by omega]
    · refine xG ?_
      refine xG ?_
      refine xG ?_
      have hk0 : k = 0 := by omega
      subst hk0
      rw [List.drop_zero, List.drop_zero] at hv
      exact ⟨by omega, by rw [cmpI, if_neg (by omega), if_pos (by omega)]⟩
end Go.Proofs.YtplofcianjnkmabDoor
set_option linter.unusedVariables false
namespace Go.Proofs.YtplofcianjnkmabDoor
open Go.VM

structure Dy where
  neg : Bool
  m : Nat
  e : Int
def dy0 : Dy := ⟨false, 0, 0⟩
def dyOf (neg : Bool) (n : Nat) (e : Int) : Dy := if n = 0 then dy0 else ⟨neg, od n, e + (tz n : Int)⟩
structure Dy.Ok (d : Dy) : Prop where
  odd : d.m = 0 ∨ d.m % 2 = 1
  zero : d.m = 0 → d = dy0
theorem dyOf_ok (neg : Bool) (n : Nat) (e : Int) : (dyOf neg n e).Ok := by
  unfold dyOf
  split
  · exact ⟨.inl rfl, fun _ => rfl⟩
  · rename_i h
    exact ⟨.inr (tz_od h).2, fun h2 => absurd h2 (Nat.ne_of_gt (od_pos h))⟩
theorem od_le (n : Nat) : od n ≤ n := Nat.div_le_self _ _
theorem dyOf_le (neg : Bool) (n : Nat) (e : Int) : (dyOf neg n e).m ≤ n := by
  unfold dyOf
  split
  · exact Nat.zero_le _
  · exact od_le n
theorem tz_le_bl (n : Nat) : tz n ≤ bl n := by
  by_cases h : n = 0
  · rw [h, tz_zero]; exact Nat.zero_le _
  · exact Nat.le_of_lt (tz_lt h (lt_bl n))
def Dy.sg (d : Dy) : Int := if d.m = 0 then 0 else if d.neg = true then -1 else 1
def Dy.top (d : Dy) : Int := d.e + (bl d.m : Int) - 1
theorem bl_shl {x k : Nat} (h : x ≠ 0) : bl (x * 2 ^ k) = bl x + k := by
  have h1 : 2 ^ (bl x - 1) ≤ x := by
    rcases Nat.lt_or_ge x (2 ^ (bl x - 1)) with g | g
    · have := bl_le g
      have := bl_pos (Nat.pos_of_ne_zero h)
      omega
    · exact g
  have h2 := lt_bl x
  have hp : 0 < 2 ^ k := Nat.two_pow_pos k
  have h3 := bl_pos (Nat.pos_of_ne_zero h)
  have e := bl_eq (n := x * 2 ^ k) (k := bl x + k - 1) (by
    rw [show bl x + k - 1 = (bl x - 1) + k by omega, Nat.pow_add]
    exact Nat.mul_le_mul_right _ h1) (by
    rw [show bl x + k - 1 + 1 = bl x + k by omega, Nat.pow_add]
    exact (Nat.mul_lt_mul_right hp).2 h2)
  omega
end Go.Proofs.YtplofcianjnkmabDoor
set_option linter.unusedVariables false
namespace Go.Proofs.YtplofcianjnkmabDoor
open Go.VM

def zv (E : Int) (d : Dy) : Int := d.sg * ((d.m * 2 ^ (d.e - E).toNat : Nat) : Int)
end Go.Proofs.YtplofcianjnkmabDoor
set_option linter.unusedVariables false
set_option linter.unusedSimpArgs false
namespace Go.Proofs.YtplofcianjnkmabDoor
open Go.VM

def fitE (e : Int) : Prop := -1099511627776 ≤ e ∧ e ≤ 1099511627776
instance (e : Int) : Decidable (fitE e) := by unfold fitE; infer_instance
def tE (d : Dy) : Int := if 67108864 < bl d.m then 3 else if fitE d.e then 0 else 80
def worstE (e f : Int) : Int := if e = 3 ∨ f = 3 then 3 else if e ≠ 0 then e else f
end Go.Proofs.YtplofcianjnkmabDoor
set_option linter.unusedVariables false
set_option linter.unusedSimpArgs false
namespace Go.Proofs.YtplofcianjnkmabDoor
open Go.VM

def beh (P R : Nat) : Nat := if P % R = 0 then 0 else if 2 * (P % R) < R then 1 else if 2 * (P % R) = R then 2 else 3
def upB (mode : Int) (neg : Bool) (Q b : Nat) : Bool := if mode = 0 then neg && decide (0 < b) else if mode = 1 then !neg && decide (0 < b) else decide (b = 3) || (decide (b = 2) && decide (Q % 2 = 1))
def rndU (mode : Int) (neg : Bool) (Q b : Nat) : Nat := Q + (if upB mode neg Q b = true then 1 else 0)
def rnd (mode : Int) (neg : Bool) (P R : Nat) : Nat := rndU mode neg (P / R) (beh P R)
theorem rndU_le (mode : Int) (neg : Bool) (Q b : Nat) : rndU mode neg Q b ≤ Q + 1 := by unfold rndU; split <;> omega
def rtOf (d : Dy) : Rt := rScale (mkR d.neg d.m 1) d.e
theorem rtOf_rv (neg : Bool) (N : Nat) (e : Int) : RV (rtOf (dyOf neg N e)) (sz neg N) 1 e := by
  have h1 := (mkR_rv (dyOf neg N e).neg (n := (dyOf neg N e).m) (d := 1) (by decide)).scale (dyOf neg N e).e
  unfold rtOf
  by_cases g : N = 0
  · have ed : dyOf neg N e = dy0 := if_pos g
    rw [ed] at h1 ⊢
    refine h1.to (by decide) (0 - e).toNat (-(0 - e)).toNat (by simp only [dy0]; omega) ?_
    subst g
    rw [sz_zero]
    show sz false 0 * _ * _ = _
    rw [sz_zero]; simp
  · have ed : dyOf neg N e = ⟨neg, od N, e + (tz N : Int)⟩ := if_neg g
    rw [ed] at h1 ⊢
    refine h1.to (by decide) (tz N) 0 (by dsimp only; omega) ?_
    obtain ⟨h2, _⟩ := tz_od g
    have h3 : sz neg N = sz neg (od N) * ((2 ^ tz N : Nat) : Int) := by
      rw [← sz_mul, Nat.mul_comm, ← h2]
    rw [h3]; simp

def oneQ : Rt := ⟨false, 1, 1⟩
theorem up0 (neg : Bool) (Q b : Nat) : upB 0 neg Q b = (neg && decide (0 < b)) := if_pos rfl
theorem up1 (neg : Bool) (Q b : Nat) : upB 1 neg Q b = (!neg && decide (0 < b)) := rfl
theorem up2 (neg : Bool) (Q b : Nat) : upB 2 neg Q b = (decide (b = 3) || (decide (b = 2) && decide (Q % 2 = 1))) := rfl
structure Sides (neg : Bool) (P R : Nat) : Prop where
  lo : sz neg (rnd 0 neg P R) * (R : Int) ≤ sz neg P
  hi : sz neg P ≤ sz neg (rnd 1 neg P R) * (R : Int)
  near : sz neg (rnd 2 neg P R) = sz neg (rnd 0 neg P R) ∨ sz neg (rnd 2 neg P R) = sz neg (rnd 1 neg P R)
  half : (sz neg (rnd 2 neg P R) * (R : Int) - sz neg P).natAbs * 2 ≤ R
  gap : (sz neg (rnd 0 neg P R) * (R : Int) = sz neg P ∧ sz neg (rnd 1 neg P R) = sz neg (rnd 0 neg P R)) ∨ (sz neg (rnd 0 neg P R) * (R : Int) ≠ sz neg P ∧ sz neg (rnd 1 neg P R) = sz neg (rnd 0 neg P R) + 1)
structure SidesR (l h n q : Rt) (pos : Int) : Prop where
  lo : rCmp l q = -1 ∨ rCmp l q = 0
  hi : rCmp q h = -1 ∨ rCmp q h = 0
  near : rCmp n l = 0 ∨ rCmp n h = 0
  half : rCmp (rScale (rAbs (rSub n q)) (1 - pos)) oneQ = -1 ∨ rCmp (rScale (rAbs (rSub n q)) (1 - pos)) oneQ = 0
  gap : (rCmp l q = 0 ∧ rSg (rScale (rSub h l) (-pos)) = 0) ∨ (rCmp l q = -1 ∧ rCmp (rScale (rSub h l) (-pos)) oneQ = 0)
end Go.Proofs.YtplofcianjnkmabDoor
set_option linter.unusedSimpArgs false
set_option linter.unusedVariables false
set_option maxRecDepth 100000
set_option maxHeartbeats 8000000
namespace Go.Proofs.YtplofcianjnkmabDoor
open Go.VM

structure RowS (σ : Nat → Option Blk) (tL : Nat) (ds : List (Option (Nat × Nat))) : Prop where
  hd : σ tL = some ⟨ds.map rowOf, true⟩
  row : ∀ (i t n : Nat), ds[i]? = some (some (t, n)) → t ≠ tL ∧ n ≤ 4398046511200 ∧ ∃ cells, σ t = some ⟨cells, true⟩ ∧ n ≤ cells.length
  inj : ∀ (i j t n m : Nat), ds[i]? = some (some (t, n)) → ds[j]? = some (some (t, m)) → i = j
def Holds (σ : Nat → Option Blk) (d : Option (Nat × Nat)) (f : Nat → Nat) : Prop := ∀ t n, d = some (t, n) → ∃ cells, σ t = some ⟨cells, true⟩ ∧ ∀ k, k < n → cells[k]? = some (nv (f k))
theorem Holds.none {σ : Nat → Option Blk} {f : Nat → Nat} : Holds σ none f := fun t n h => by cases h
theorem Holds.congr {σ : Nat → Option Blk} {d : Option (Nat × Nat)} {f g : Nat → Nat} (h : Holds σ d f) (e : ∀ t n, d = some (t, n) → ∀ k, k < n → f k = g k) : Holds σ d g := fun t n hd => by
  obtain ⟨cells, h1, h2⟩ := h t n hd
  exact ⟨cells, h1, fun k hk => by rw [h2 k hk, e t n hd k hk]⟩
theorem Holds.put {σ : Nat → Option Blk} {d : Option (Nat × Nat)} {f : Nat → Nat} (h : Holds σ d f) {t : Nat} {b : Option Blk} (ht : ∀ n, d ≠ some (t, n)) : Holds (supd σ t b) d f := fun u n hd => by
  obtain ⟨cells, h1, h2⟩ := h u n hd
  refine ⟨cells, ?_, h2⟩
  rw [supd_app, if_neg (fun e => ht n (by rw [← e]; exact hd))]
  exact h1
theorem RowS.put {σ : Nat → Option Blk} {tL : Nat} {ds : List (Option (Nat × Nat))} (h : RowS σ tL ds) {t : Nat} {cells : List V} (ht : t ≠ tL) (hn : ∀ (i n : Nat), ds[i]? = some (some (t, n)) → n ≤ cells.length) : RowS (supd σ t (some ⟨cells, true⟩)) tL ds := by
  refine ⟨?_, fun i u n hi => ?_, h.inj⟩
  · rw [supd_app, if_neg (Ne.symm ht)]; exact h.hd
  · obtain ⟨h1, h2, cs, h3, h4⟩ := h.row i u n hi
    refine ⟨h1, h2, ?_⟩
    by_cases e : u = t
    · subst e
      exact ⟨cells, supd_same _ _ _, hn i n hi⟩
    · exact ⟨cs, by rw [supd_app, if_neg e]; exact h3, h4⟩
theorem RowS.len {σ : Nat → Option Blk} {tL : Nat} {ds : List (Option (Nat × Nat))} (h : RowS σ tL ds) {i : Nat} {d : Option (Nat × Nat)} (hi : ds[i]? = some d) : (ds.map rowOf)[i]? = some (rowOf d) := by
  rw [List.getElem?_map, hi]; rfl

section
variable {P : Program} {dr : Bool} {c0 : Nat} {ρ : Nat → V} {σ : Nat → Option Blk} {c i : Nat} {r : List VO} {K : VS → Prop}
end
theorem killed_buf {t u o n sz : Nat} {cp : Option Nat} (h : u ≠ t) : killV t (.buf u o n cp sz) = .buf u o n cp sz := by simp [killV, h]
theorem killσ_at {t : Nat} {σ : Nat → Option Blk} {u : Nat} {cs : List V} {b : Bool} (h : σ u = some ⟨cs, b⟩) : killσ t σ u = some ⟨cs.map (killV t), b⟩ := by simp [killσ, h]

theorem Holds.kill {σ : Nat → Option Blk} {d : Option (Nat × Nat)} {f : Nat → Nat} (h : Holds σ d f) (t : Nat) : Holds (killσ t σ) d f := fun u n hd => by
  obtain ⟨cells, h1, h2⟩ := h u n hd
  exact ⟨_, killσ_at h1, fun k hk => by rw [List.getElem?_map, h2 k hk]; rfl⟩

theorem set_get {ds : List (Option (Nat × Nat))} {i j : Nat} {d x : Option (Nat × Nat)} (h : (ds.set i x)[j]? = some d) : (j = i ∧ d = x) ∨ (j ≠ i ∧ ds[j]? = some d) := by
  rw [List.getElem?_set] at h
  split at h
  · rename_i e
    split at h
    · exact .inl ⟨e.symm, by cases h; rfl⟩
    · cases h
  · rename_i e; exact .inr ⟨fun q => e q.symm, h⟩

theorem RowS.grow {σ : Nat → Option Blk} {tL : Nat} {ds : List (Option (Nat × Nat))} (h : RowS σ tL ds) {i t m : Nat} (hi : ds[i]? = some (some (t, m))) {cs ys : List V} (hn : (m + 5 ≤ cs.length)) (hm2 : m + 5 ≤ 4398046511200) :
    RowS (supd (supd (killσ t σ) t (some ⟨cs, true⟩)) tL (some ⟨((ds.map rowOf).map (killV t)).set i (.buf t 0 (m + 5) none 1), true⟩)) tL (ds.set i (some (t, m + 5))) := by
  have hne := (h.row i t m hi).1
  have hil : i < ds.length := (List.getElem?_eq_some_iff.1 hi).1
  refine ⟨?_, fun j u n hj => ?_, fun j k u n n' hj hk => ?_⟩
  · rw [supd_same]
    refine congrArg some (congrArg (fun l => (⟨l, true⟩ : Blk)) ?_)
    refine List.ext_getElem? fun j => ?_
    rw [List.map_set, List.getElem?_set, List.getElem?_set]
    simp only [List.length_map]
    by_cases e : i = j
    · subst e; rw [if_pos rfl, if_pos rfl]; rfl
    · rw [if_neg e, if_neg e, List.getElem?_map, List.getElem?_map]
      cases hj : ds[j]? with
      | none => rfl
      | some d =>
        cases d with
        | none => rfl
        | some q =>
          obtain ⟨u, n⟩ := q
          have : u ≠ t := by rintro rfl; exact e (h.inj i j u m n hi hj)
          simp only [Option.map, rowOf, killed_buf this]
  · rcases set_get hj with ⟨rfl, e⟩ | ⟨e, hj2⟩
    · cases e
      exact ⟨hne, hm2, cs, by rw [supd_ne _ _ _ _ hne, supd_same], hn⟩
    · obtain ⟨q1, q2, cells, q3, q4⟩ := h.row j u n hj2
      have : u ≠ t := by rintro rfl; exact e (h.inj j i u n m hj2 hi)
      exact ⟨q1, q2, _, by rw [supd_ne _ _ _ _ q1, supd_ne _ _ _ _ this]; exact killσ_at q3, by simpa using q4⟩
  · rcases set_get hj with ⟨rfl, e⟩ | ⟨e, hj2⟩ <;> rcases set_get hk with ⟨rfl, e'⟩ | ⟨e', hk2⟩
    · rfl
    · cases e; exact absurd (h.inj _ _ _ _ _ hk2 hi) e'
    · cases e'; exact absurd (h.inj _ _ _ _ _ hj2 hi) e
    · exact h.inj _ _ _ _ _ hj2 hk2
theorem RowS.fresh {σ : Nat → Option Blk} {tL : Nat} {ds : List (Option (Nat × Nat))} (h : RowS σ tL ds) {i t : Nat} (hi : ds[i]? = some none) {cs : List V} (hn : (5 ≤ cs.length)) (hd : ∀ u k, σ u = some k → u < t) :
    RowS (supd (supd σ t (some ⟨cs, true⟩)) tL (some ⟨(ds.map rowOf).set i (.buf t 0 5 none 1), true⟩)) tL (ds.set i (some (t, 5))) := by
  have hne : t ≠ tL := fun e => by have := hd tL _ h.hd; omega
  have hil : i < ds.length := (List.getElem?_eq_some_iff.1 hi).1
  have hnew : ∀ (j u n : Nat), ds[j]? = some (some (u, n)) → u ≠ t := fun j u n hj e => by
    obtain ⟨_, _, cells, q, _⟩ := h.row j u n hj
    have := hd u _ q
    omega
  refine ⟨?_, fun j u n hj => ?_, fun j k u n n' hj hk => ?_⟩
  · rw [supd_same]
    refine congrArg some (congrArg (fun l => (⟨l, true⟩ : Blk)) ?_)
    rw [List.map_set]; rfl
  · rcases set_get hj with ⟨rfl, e⟩ | ⟨e, hj2⟩
    · cases e
      exact ⟨hne, by omega, cs, by rw [supd_ne _ _ _ _ hne, supd_same], hn⟩
    · obtain ⟨q1, q2, cells, q3, q4⟩ := h.row j u n hj2
      exact ⟨q1, q2, cells, by rw [supd_ne _ _ _ _ q1, supd_ne _ _ _ _ (hnew j u n hj2)]; exact q3, q4⟩
  · rcases set_get hj with ⟨rfl, e⟩ | ⟨e, hj2⟩ <;> rcases set_get hk with ⟨rfl, e'⟩ | ⟨e', hk2⟩
    · rfl
    · cases e; exact absurd rfl (hnew _ _ _ hk2)
    · cases e'; exact absurd rfl (hnew _ _ _ hj2)
    · exact h.inj _ _ _ _ _ hj2 hk2

def f1 (j : Nat) : Nat → Nat := fun _ => j % 251 + 1
def f2 (j m : Nat) : Nat → Nat := fun k => if k < m then j % 251 + 1 else 300 + 5 * j + (k - m)
def Dom (σ : Nat → Option Blk) (c : Nat) : Prop := ∀ t k, σ t = some k → t < c
theorem Dom.put {σ : Nat → Option Blk} {c : Nat} (h : Dom σ c) {t : Nat} {b : Option Blk} (ht : t < c) : Dom (supd σ t b) c := fun u k hk => by
  rw [supd_app] at hk
  split at hk
  · rename_i e; rw [e]; exact ht
  · exact h u k hk

end Go.Proofs.YtplofcianjnkmabDoor
