/- Texts of a claim, merged: what they prove is told at the last one's head. -/
import Derived.Test.YtacodmnlnlbahabDoorNamM2
import Derived.Test.YtacodmnlnlbahabDoorProg
import Derived.Test.YtacodmnlnlbahabDoorChecked
import Derived.Lib.Mul64
set_option linter.unusedVariables false
namespace Go.Proofs.YtacodmnlnlbahabDoor
open Go.VM

abbrev F.surdlaw09_RoundedNames : FuncId := 3
abbrev F.surdlaw09_RoundedSides : FuncId := 4
abbrev F.surdlaw09_RoundedRoots : FuncId := 5
abbrev F.surdlaw09_lives : FuncId := 6
abbrev F.surdlaw09_value : FuncId := 7
abbrev F.surdref07_R_Sign : FuncId := 8
abbrev F.rounded_Quo : FuncId := 9
abbrev F.surdref07_Quo : FuncId := 10
abbrev F.surdlaw09_answer : FuncId := 11
abbrev F.surdref07_Cmp : FuncId := 12
abbrev F.surdref07_Scale : FuncId := 13
abbrev F.surdref07_Sub : FuncId := 14
abbrev F.surdref07_Abs : FuncId := 15
abbrev F.surdref07_Int : FuncId := 16
abbrev F.rounded_Sqrt : FuncId := 17
abbrev F.surdref07_Mul : FuncId := 18
abbrev F.surdlaw09_same : FuncId := 19
abbrev F.surdref01_Int : FuncId := 20
abbrev F.surdref01_Of : FuncId := 21
abbrev F.surdref01_Num_Len : FuncId := 22
abbrev F.surdref07_Make : FuncId := 23
abbrev F.surdref01_Num_Zero : FuncId := 24
abbrev F.rounded_read : FuncId := 25
abbrev F.rounded_asked : FuncId := 26
abbrev F.rounded_quotient : FuncId := 27
abbrev F.surdref01_Mul : FuncId := 28
abbrev F.surdref01_Cmp : FuncId := 29
abbrev F.surdref01_Num_Tail : FuncId := 30
abbrev F.surdref01_Shl : FuncId := 31
abbrev F.surdref01_Shr : FuncId := 32
abbrev F.surdref07_Add : FuncId := 33
abbrev F.surdref07_Neg : FuncId := 34
abbrev F.nat_Length : FuncId := 35
abbrev F.rounded_finish : FuncId := 36
abbrev F.rounded_left : FuncId := 37
abbrev F.nat_Tail : FuncId := 38
abbrev F.rounded_right : FuncId := 39
abbrev F.roots_Sqrt : FuncId := 40
abbrev F.nat_Bit : FuncId := 41
abbrev F.surdref01_Num_Is : FuncId := 42
abbrev F.surdref01_norm : FuncId := 43
abbrev F.surdref01_Gcd : FuncId := 44
abbrev F.surdref01_Div : FuncId := 45
abbrev F.nat_Norm : FuncId := 46
abbrev F.div_Quo : FuncId := 47
abbrev F.rounded_minus : FuncId := 48
abbrev F.rounded_times : FuncId := 49
abbrev F.nat_Compare : FuncId := 50
abbrev F.surdref01_Num_Bit : FuncId := 51
abbrev F.surdref01_Num_at : FuncId := 52
abbrev F.surdref01_Add : FuncId := 53
abbrev F.surdref01_Sub : FuncId := 54
abbrev F.nat_trim : FuncId := 55
abbrev F.bits_Len64 : FuncId := 56
abbrev F.rounded_way : FuncId := 57
abbrev F.nat_Add : FuncId := 58
abbrev F.nat_From : FuncId := 59
abbrev F.bits_TrailingZeros64 : FuncId := 60
abbrev F.roots_Root : FuncId := 61
abbrev F.surdref01_Num_Limbs : FuncId := 62
abbrev F.div_divide : FuncId := 63
abbrev F.mul_Mul : FuncId := 64
abbrev F.rounded_plus : FuncId := 65
abbrev F.rounded_way_1 : FuncId := 66
abbrev F.rounded_way_2 : FuncId := 67
abbrev F.rounded_way_3 : FuncId := 68
abbrev F.nat_told : FuncId := 70
abbrev F.roots_fits : FuncId := 71
abbrev F.roots_newton : FuncId := 72
abbrev F.mul_Pow : FuncId := 73
abbrev F.roots_less : FuncId := 74
abbrev F.bits_Div64 : FuncId := 75
abbrev F.bits_LeadingZeros64 : FuncId := 76
abbrev F.div_up : FuncId := 77
abbrev F.div_guess : FuncId := 78
abbrev F.div_down : FuncId := 79
abbrev F.mul_product : FuncId := 80
abbrev F.mul_Mul_1 : FuncId := 81
abbrev F.mul_halved : FuncId := 82
abbrev F.roots_power : FuncId := 83
abbrev F.nat_Times : FuncId := 84
abbrev F.nat_Through : FuncId := 85
abbrev F.mul_Square : FuncId := 86
abbrev F.nat_Sub : FuncId := 87
abbrev F.bits_Mul64 : FuncId := 88
abbrev F.mul_great : FuncId := 90
abbrev F.mul_fits : FuncId := 91
abbrev F.mul_school : FuncId := 92
abbrev F.mul_addAt : FuncId := 93
abbrev F.mul_part : FuncId := 94
abbrev F.mul_less : FuncId := 95
abbrev F.mul_sum : FuncId := 96
abbrev F.nat_Left : FuncId := 97
def C.surdlaw09_RoundedNames : VC :=
  .seq (.region false [⟨some 0, .mov (.c (bv false)), none⟩]) (.seq (.region false [⟨some 1, .mov (.c (bv true)), none⟩,
   ⟨some 2, .call F.surdlaw09_lives [], some (1, true)⟩,
   ⟨some 3, .pick (.t 1) (.t 2) (.c (bv false)), none⟩,
   ⟨some 0, .mov (.t 3), none⟩]) .ret)
def R.surdlaw09_RoundedNames : List VRes := [.tmp 0]
theorem K.surdlaw09_RoundedNames : resCode Tryd.prog Tryd.f3.ntmps (Tryd.f3.body.getD .skip) = C.surdlaw09_RoundedNames := by kernel_rfl
theorem Q.surdlaw09_RoundedNames : resResults Tryd.prog Tryd.f3.results.toList = some R.surdlaw09_RoundedNames := by kernel_rfl
theorem E.surdlaw09_RoundedNames : Tryd.prog.funcs[F.surdlaw09_RoundedNames]? = some Tryd.f3 := Tryd.func3
theorem B.surdlaw09_RoundedNames : Tryd.f3.body = some (Tryd.f3.body.getD .skip) := by kernel_rfl
theorem N.surdlaw09_RoundedNames : Tryd.f3.ntmps = 4 := Tryd.ntmps3

def C.surdlaw09_lives : VC :=
  .seq (.region false [⟨some 0, .mov (.c (bv false)), none⟩]) (.seq (.region false [⟨some 6, .bsl true 1 1 [.int .u64 0] [(0, (1, .c (nv 1)))], none⟩,
   ⟨some 7, .build [.bool false, .slice none 0 0] [(1, (1, .t 6))], none⟩,
   ⟨some 8, .build [.bool false, .slice none 0 0, .int .i64 0] [(0, (2, .t 7))], none⟩,
   ⟨some 9, .bsl true 1 1 [.int .u64 0] [(0, (1, .c (nv 3)))], none⟩,
   ⟨some 10, .build [.bool false, .slice none 0 0] [(1, (1, .t 9))], none⟩,
   ⟨some 11, .build [.bool false, .slice none 0 0, .int .i64 0] [(0, (2, .t 10))], none⟩,
   ⟨some 12, .call F.rounded_Quo [.t 8, .t 11, .c (iv (-4)), .c (iv 1)], none⟩,
   ⟨some 5, .mov (.t 12), none⟩,
   ⟨some 13, .ext (.t 5) 0, none⟩,
   ⟨some 14, .ext (.t 5) 1, none⟩,
   ⟨some 1, .alloc [.bool false, .slice none 0 0, .int .i64 0], none⟩,
   ⟨none, .store 3 (.t 1) (.t 13), none⟩,
   ⟨some 2, .mov (.t 14), none⟩]) (.seq (.region false [⟨some 16, .bsl true 1 1 [.int .u64 0] [(0, (1, .c (nv 2)))], none⟩,
   ⟨some 17, .build [.bool false, .slice none 0 0] [(1, (1, .t 16))], none⟩,
   ⟨some 18, .build [.bool false, .slice none 0 0, .int .i64 0] [(0, (2, .t 17))], none⟩,
   ⟨some 19, .call F.rounded_Sqrt [.t 18, .c (iv (-4)), .c (iv 0)], none⟩,
   ⟨some 15, .mov (.t 19), none⟩,
   ⟨some 20, .ext (.t 15) 0, none⟩,
   ⟨some 21, .ext (.t 15) 1, none⟩,
   ⟨some 3, .alloc [.bool false, .slice none 0 0, .int .i64 0], none⟩,
   ⟨none, .store 3 (.t 3) (.t 20), none⟩,
   ⟨some 4, .mov (.t 21), none⟩]) (.seq (.region true [⟨some 22, .load (some 3) (.t 1), none⟩,
   ⟨some 23, .mov (.t 2), none⟩,
   ⟨some 24, .call F.surdref01_Int [.c (iv 3)], none⟩,
   ⟨some 25, .build [.bool false, .slice none 0 0, .int .i64 0] [(1, (1, .t 24)), (2, (1, .c (iv (-3))))], none⟩,
   ⟨some 26, .call F.surdlaw09_same [.t 22, .t 23, .t 25, .c (iv 0)], none⟩,
   ⟨some 27, .mov (.t 26), none⟩,
   ⟨some 28, .load (some 3) (.t 3), some (27, true)⟩,
   ⟨some 29, .mov (.t 4), some (27, true)⟩,
   ⟨some 30, .call F.surdref01_Int [.c (iv 11)], some (27, true)⟩,
   ⟨some 31, .build [.bool false, .slice none 0 0, .int .i64 0] [(1, (1, .t 30)), (2, (1, .c (iv (-3))))], some (27, true)⟩,
   ⟨some 32, .call F.surdlaw09_same [.t 28, .t 29, .t 31, .c (iv 0)], some (27, true)⟩,
   ⟨some 33, .pick (.t 27) (.t 32) (.c (bv false)), none⟩,
   ⟨some 0, .mov (.t 33), none⟩]) .ret)))
def R.surdlaw09_lives : List VRes := [.tmp 0]
theorem K.surdlaw09_lives : resCode Tryd.prog Tryd.f6.ntmps (Tryd.f6.body.getD .skip) = C.surdlaw09_lives := by kernel_rfl
theorem Q.surdlaw09_lives : resResults Tryd.prog Tryd.f6.results.toList = some R.surdlaw09_lives := by kernel_rfl
theorem E.surdlaw09_lives : Tryd.prog.funcs[F.surdlaw09_lives]? = some Tryd.f6 := Tryd.func6
theorem B.surdlaw09_lives : Tryd.f6.body = some (Tryd.f6.body.getD .skip) := by kernel_rfl
theorem N.surdlaw09_lives : Tryd.f6.ntmps = 34 := Tryd.ntmps6

def C.rounded_Quo : VC :=
  .seq (.region false [⟨some 4, .box (.t 0), none⟩,
   ⟨some 5, .box (.t 1), none⟩,
   ⟨some 8, .alloc [.bool false, .slice none 0 0, .int .i64 0], none⟩,
   ⟨some 9, .mov (.c (iv 0)), none⟩]) (.seq (.region false [⟨some 15, .load (some 3) (.t 4), none⟩,
   ⟨some 16, .call F.rounded_read [.t 15], none⟩,
   ⟨some 14, .mov (.t 16), none⟩,
   ⟨some 17, .ext (.t 14) 0, none⟩,
   ⟨some 18, .ext (.t 14) 1, none⟩,
   ⟨some 10, .alloc [.bool false, .slice none 0 0, .int .i64 0], none⟩,
   ⟨none, .store 3 (.t 10) (.t 17), none⟩,
   ⟨some 11, .mov (.t 18), none⟩]) (.seq (.seq (.region false [⟨some 19, .mov (.t 11), none⟩,
   ⟨some 20, .bin .neq false (.t 19) (.c (iv 0)), none⟩]) (.cond (.t 20) (.seq (.region false [⟨some 21, .build [.bool false, .slice none 0 0, .int .i64 0] [], none⟩,
   ⟨some 22, .mov (.t 11), none⟩,
   ⟨none, .store 3 (.t 8) (.t 21), none⟩,
   ⟨some 9, .mov (.t 22), none⟩]) .ret) .skip)) (.seq (.region false [⟨some 24, .load (some 3) (.t 5), none⟩,
   ⟨some 25, .call F.rounded_read [.t 24], none⟩,
   ⟨some 23, .mov (.t 25), none⟩,
   ⟨some 26, .ext (.t 23) 0, none⟩,
   ⟨some 27, .ext (.t 23) 1, none⟩,
   ⟨some 12, .alloc [.bool false, .slice none 0 0, .int .i64 0], none⟩,
   ⟨none, .store 3 (.t 12) (.t 26), none⟩,
   ⟨some 11, .mov (.t 27), none⟩]) (.seq (.seq (.region false [⟨some 28, .mov (.t 11), none⟩,
   ⟨some 29, .bin .neq false (.t 28) (.c (iv 0)), none⟩]) (.cond (.t 29) (.seq (.region false [⟨some 30, .build [.bool false, .slice none 0 0, .int .i64 0] [], none⟩,
   ⟨some 31, .mov (.t 11), none⟩,
   ⟨none, .store 3 (.t 8) (.t 30), none⟩,
   ⟨some 9, .mov (.t 31), none⟩]) .ret) .skip)) (.seq (.seq (.region false [⟨some 32, .mov (.t 2), none⟩,
   ⟨some 33, .mov (.t 3), none⟩,
   ⟨some 34, .call F.rounded_asked [.t 32, .t 33], none⟩,
   ⟨some 13, .mov (.t 34), none⟩]) (.seq (.region false [⟨some 35, .mov (.t 13), none⟩,
   ⟨some 36, .bin .neq false (.t 35) (.c (iv 0)), none⟩]) (.cond (.t 36) (.seq (.region false [⟨some 37, .build [.bool false, .slice none 0 0, .int .i64 0] [], none⟩,
   ⟨some 38, .mov (.t 13), none⟩,
   ⟨none, .store 3 (.t 8) (.t 37), none⟩,
   ⟨some 9, .mov (.t 38), none⟩]) .ret) .skip))) (.seq (.seq (.region false [⟨some 39, .fa 1 (.t 12), none⟩,
   ⟨some 40, .load none (.t 39), none⟩,
   ⟨some 41, .len (.t 40), none⟩,
   ⟨some 42, .bin .eql false (.t 41) (.c (iv 0)), none⟩]) (.cond (.t 42) (.seq (.region false [⟨some 43, .build [.bool false, .slice none 0 0, .int .i64 0] [], none⟩,
   ⟨none, .store 3 (.t 8) (.t 43), none⟩,
   ⟨some 9, .mov (.c (iv 90)), none⟩]) .ret) .skip)) (.seq (.region false [⟨some 44, .fa 0 (.t 10), none⟩,
   ⟨some 45, .load none (.t 44), none⟩,
   ⟨some 46, .fa 0 (.t 12), none⟩,
   ⟨some 47, .load none (.t 46), none⟩,
   ⟨some 48, .bin .neq true (.t 45) (.t 47), none⟩,
   ⟨some 49, .fa 1 (.t 10), none⟩,
   ⟨some 50, .load none (.t 49), none⟩,
   ⟨some 51, .fa 1 (.t 12), none⟩,
   ⟨some 52, .load none (.t 51), none⟩,
   ⟨some 53, .fa 2 (.t 10), none⟩,
   ⟨some 54, .load none (.t 53), none⟩,
   ⟨some 55, .fa 2 (.t 12), none⟩,
   ⟨some 56, .load none (.t 55), none⟩,
   ⟨some 57, .bin .sub false (.t 54) (.t 56), none⟩,
   ⟨some 58, .mov (.t 2), none⟩,
   ⟨some 59, .mov (.t 3), none⟩,
   ⟨some 60, .call F.rounded_quotient [.t 48, .t 50, .t 52, .t 57, .t 58, .t 59], none⟩,
   ⟨some 61, .ext (.t 60) 0, none⟩,
   ⟨some 62, .ext (.t 60) 1, none⟩,
   ⟨none, .store 3 (.t 8) (.t 61), none⟩,
   ⟨some 9, .mov (.t 62), none⟩]) .ret)))))))
def R.rounded_Quo : List VRes := [.cell 8 (some 3), .tmp 9]
theorem K.rounded_Quo : resCode Tryd.prog Tryd.f9.ntmps (Tryd.f9.body.getD .skip) = C.rounded_Quo := by kernel_rfl
theorem Q.rounded_Quo : resResults Tryd.prog Tryd.f9.results.toList = some R.rounded_Quo := by kernel_rfl
theorem E.rounded_Quo : Tryd.prog.funcs[F.rounded_Quo]? = some Tryd.f9 := Tryd.func9
theorem B.rounded_Quo : Tryd.f9.body = some (Tryd.f9.body.getD .skip) := by kernel_rfl
theorem N.rounded_Quo : Tryd.f9.ntmps = 63 := Tryd.ntmps9

def C.rounded_Sqrt : VC :=
  .seq (.region false [⟨some 3, .box (.t 0), none⟩,
   ⟨some 6, .alloc [.bool false, .slice none 0 0, .int .i64 0], none⟩,
   ⟨some 7, .mov (.c (iv 0)), none⟩]) (.seq (.region false [⟨some 20, .load (some 3) (.t 3), none⟩,
   ⟨some 21, .call F.rounded_read [.t 20], none⟩,
   ⟨some 19, .mov (.t 21), none⟩,
   ⟨some 22, .ext (.t 19) 0, none⟩,
   ⟨some 23, .ext (.t 19) 1, none⟩,
   ⟨some 8, .alloc [.bool false, .slice none 0 0, .int .i64 0], none⟩,
   ⟨none, .store 3 (.t 8) (.t 22), none⟩,
   ⟨some 9, .mov (.t 23), none⟩]) (.seq (.seq (.region false [⟨some 24, .mov (.t 9), none⟩,
   ⟨some 25, .bin .neq false (.t 24) (.c (iv 0)), none⟩]) (.cond (.t 25) (.seq (.region false [⟨some 26, .build [.bool false, .slice none 0 0, .int .i64 0] [], none⟩,
   ⟨some 27, .mov (.t 9), none⟩,
   ⟨none, .store 3 (.t 6) (.t 26), none⟩,
   ⟨some 7, .mov (.t 27), none⟩]) .ret) .skip)) (.seq (.seq (.region false [⟨some 28, .mov (.t 1), none⟩,
   ⟨some 29, .mov (.t 2), none⟩,
   ⟨some 30, .call F.rounded_asked [.t 28, .t 29], none⟩,
   ⟨some 10, .mov (.t 30), none⟩]) (.seq (.region false [⟨some 31, .mov (.t 10), none⟩,
   ⟨some 32, .bin .neq false (.t 31) (.c (iv 0)), none⟩]) (.cond (.t 32) (.seq (.region false [⟨some 33, .build [.bool false, .slice none 0 0, .int .i64 0] [], none⟩,
   ⟨some 34, .mov (.t 10), none⟩,
   ⟨none, .store 3 (.t 6) (.t 33), none⟩,
   ⟨some 7, .mov (.t 34), none⟩]) .ret) .skip))) (.seq (.seq (.region false [⟨some 35, .fa 1 (.t 8), none⟩,
   ⟨some 36, .load none (.t 35), none⟩,
   ⟨some 37, .len (.t 36), none⟩,
   ⟨some 38, .bin .eql false (.t 37) (.c (iv 0)), none⟩]) (.cond (.t 38) (.seq (.region false [⟨some 39, .build [.bool false, .slice none 0 0, .int .i64 0] [], none⟩,
   ⟨none, .store 3 (.t 6) (.t 39), none⟩,
   ⟨some 7, .mov (.c (iv 0)), none⟩]) .ret) .skip)) (.seq (.seq (.region false [⟨some 40, .fa 0 (.t 8), none⟩,
   ⟨some 41, .load none (.t 40), none⟩]) (.cond (.t 41) (.seq (.region false [⟨some 42, .build [.bool false, .slice none 0 0, .int .i64 0] [], none⟩,
   ⟨none, .store 3 (.t 6) (.t 42), none⟩,
   ⟨some 7, .mov (.c (iv 91)), none⟩]) .ret) .skip)) (.seq (.region false [⟨some 43, .fa 2 (.t 8), none⟩,
   ⟨some 44, .load none (.t 43), none⟩,
   ⟨some 45, .mov (.t 1), none⟩,
   ⟨some 46, .bin .mul false (.c (iv 2)) (.t 45), none⟩,
   ⟨some 47, .bin .sub false (.t 44) (.t 46), none⟩,
   ⟨some 11, .mov (.t 47), none⟩]) (.seq (.seq (.region false [⟨some 48, .fa 1 (.t 8), none⟩,
   ⟨some 49, .load none (.t 48), none⟩,
   ⟨some 50, .call F.nat_Length [.t 49], none⟩,
   ⟨some 51, .mov (.t 11), none⟩,
   ⟨some 52, .bin .add false (.t 50) (.t 51), none⟩,
   ⟨some 53, .bin .gtr false (.t 52) (.c (iv 134217730)), none⟩]) (.cond (.t 53) (.seq (.region false [⟨some 54, .build [.bool false, .slice none 0 0, .int .i64 0] [], none⟩,
   ⟨none, .store 3 (.t 6) (.t 54), none⟩,
   ⟨some 7, .mov (.c (iv 3)), none⟩]) .ret) .skip)) (.seq (.seq (.region false [⟨some 55, .fa 1 (.t 8), none⟩,
   ⟨some 56, .load none (.t 55), none⟩,
   ⟨some 57, .call F.nat_Length [.t 56], none⟩,
   ⟨some 58, .mov (.t 11), none⟩,
   ⟨some 59, .bin .add false (.t 57) (.t 58), none⟩,
   ⟨some 60, .bin .lss false (.t 59) (.c (iv (-4))), none⟩]) (.cond (.t 60) (.seq (.region false [⟨some 61, .mov (.t 1), none⟩,
   ⟨some 62, .mov (.t 2), none⟩,
   ⟨some 63, .call F.rounded_finish [.c (bv false), .c nil1, .c (iv 1), .t 61, .t 62], none⟩,
   ⟨some 64, .ext (.t 63) 0, none⟩,
   ⟨some 65, .ext (.t 63) 1, none⟩,
   ⟨none, .store 3 (.t 6) (.t 64), none⟩,
   ⟨some 7, .mov (.t 65), none⟩]) .ret) .skip)) (.seq (.region false [⟨some 66, .mov (.t 11), none⟩,
   ⟨some 67, .bin .add false (.t 66) (.c (iv 2)), none⟩,
   ⟨some 11, .mov (.t 67), none⟩]) (.seq (.region false [⟨some 12, .mov (.c (bv false)), none⟩]) (.seq (.region false [⟨some 68, .fa 1 (.t 8), none⟩,
   ⟨some 69, .load none (.t 68), none⟩,
   ⟨some 13, .mov (.t 69), none⟩]) (.seq (.seq (.region false [⟨some 70, .mov (.t 11), none⟩,
   ⟨some 71, .bin .geq false (.t 70) (.c (iv 0)), none⟩]) (.cond (.t 71) (.region false [⟨some 72, .mov (.t 13), none⟩,
   ⟨some 73, .mov (.t 11), none⟩,
   ⟨some 74, .call F.rounded_left [.t 72, .t 73], none⟩,
   ⟨some 13, .mov (.t 74), none⟩]) (.seq (.region false [⟨some 75, .mov (.t 13), none⟩,
   ⟨some 76, .call F.nat_Tail [.t 75], none⟩,
   ⟨some 77, .mov (.t 11), none⟩,
   ⟨some 78, .un .neg (.t 77), none⟩,
   ⟨some 79, .bin .lss false (.t 76) (.t 78), none⟩,
   ⟨some 12, .mov (.t 79), none⟩]) (.region false [⟨some 80, .mov (.t 13), none⟩,
   ⟨some 81, .mov (.t 11), none⟩,
   ⟨some 82, .un .neg (.t 81), none⟩,
   ⟨some 83, .call F.rounded_right [.t 80, .t 82], none⟩,
   ⟨some 13, .mov (.t 83), none⟩])))) (.seq (.region false [⟨some 85, .mov (.t 13), none⟩,
   ⟨some 86, .call F.roots_Sqrt [.t 85], none⟩,
   ⟨some 84, .mov (.t 86), none⟩,
   ⟨some 87, .ext (.t 84) 0, none⟩,
   ⟨some 88, .ext (.t 84) 1, none⟩,
   ⟨some 89, .ext (.t 84) 2, none⟩,
   ⟨some 14, .mov (.t 87), none⟩,
   ⟨some 15, .mov (.t 88), none⟩,
   ⟨some 9, .mov (.t 89), none⟩]) (.seq (.seq (.region false [⟨some 90, .mov (.t 9), none⟩,
   ⟨some 91, .bin .neq false (.t 90) (.c (iv 0)), none⟩]) (.cond (.t 91) (.seq (.region false [⟨some 92, .build [.bool false, .slice none 0 0, .int .i64 0] [], none⟩,
   ⟨some 93, .mov (.t 9), none⟩,
   ⟨none, .store 3 (.t 6) (.t 92), none⟩,
   ⟨some 7, .mov (.t 93), none⟩]) .ret) .skip)) (.seq (.region false [⟨some 94, .mov (.t 14), none⟩,
   ⟨some 95, .call F.rounded_right [.t 94, .c (iv 1)], none⟩,
   ⟨some 16, .mov (.t 95), none⟩]) (.seq (.region false [⟨some 96, .mov (.t 12), none⟩,
   ⟨some 97, .mov (.t 96), none⟩,
   ⟨some 98, .mov (.t 15), some (97, false)⟩,
   ⟨some 99, .len (.t 98), some (97, false)⟩,
   ⟨some 100, .bin .gtr false (.t 99) (.c (iv 0)), some (97, false)⟩,
   ⟨some 101, .pick (.t 97) (.c (bv true)) (.t 100), none⟩,
   ⟨some 17, .mov (.t 101), none⟩]) (.seq (.region false [⟨some 18, .mov (.c (iv 0)), none⟩]) (.seq (.block 0 (.seq (.region false [⟨some 103, .mov (.t 14), none⟩,
   ⟨some 104, .call F.nat_Bit [.t 103, .c (iv 0)], none⟩,
   ⟨some 105, .bin .eql false (.t 104) (.c (iv 1)), none⟩,
   ⟨some 106, .mov (.t 105), none⟩,
   ⟨some 107, .mov (.t 17), some (106, true)⟩,
   ⟨some 108, .pick (.t 106) (.t 107) (.c (bv false)), none⟩,
   ⟨some 102, .mov (.t 108), none⟩]) (.cond (.t 102) (.region false [⟨some 18, .mov (.c (iv 3)), none⟩]) (.seq (.region false [⟨some 110, .mov (.t 14), none⟩,
   ⟨some 111, .call F.nat_Bit [.t 110, .c (iv 0)], none⟩,
   ⟨some 112, .bin .eql false (.t 111) (.c (iv 1)), none⟩,
   ⟨some 109, .mov (.t 112), none⟩]) (.cond (.t 109) (.region false [⟨some 18, .mov (.c (iv 2)), none⟩]) (.seq (.region false [⟨some 114, .mov (.t 17), none⟩,
   ⟨some 113, .mov (.t 114), none⟩]) (.cond (.t 113) (.region false [⟨some 18, .mov (.c (iv 1)), none⟩]) .skip))))))) (.seq (.region false [⟨some 115, .mov (.t 16), none⟩,
   ⟨some 116, .mov (.t 18), none⟩,
   ⟨some 117, .mov (.t 1), none⟩,
   ⟨some 118, .mov (.t 2), none⟩,
   ⟨some 119, .call F.rounded_finish [.c (bv false), .t 115, .t 116, .t 117, .t 118], none⟩,
   ⟨some 120, .ext (.t 119) 0, none⟩,
   ⟨some 121, .ext (.t 119) 1, none⟩,
   ⟨none, .store 3 (.t 6) (.t 120), none⟩,
   ⟨some 7, .mov (.t 121), none⟩]) .ret)))))))))))))))))))
def R.rounded_Sqrt : List VRes := [.cell 6 (some 3), .tmp 7]
theorem K.rounded_Sqrt : resCode Tryd.prog Tryd.f17.ntmps (Tryd.f17.body.getD .skip) = C.rounded_Sqrt := by kernel_rfl
theorem Q.rounded_Sqrt : resResults Tryd.prog Tryd.f17.results.toList = some R.rounded_Sqrt := by kernel_rfl
theorem E.rounded_Sqrt : Tryd.prog.funcs[F.rounded_Sqrt]? = some Tryd.f17 := Tryd.func17
theorem B.rounded_Sqrt : Tryd.f17.body = some (Tryd.f17.body.getD .skip) := by kernel_rfl
theorem N.rounded_Sqrt : Tryd.f17.ntmps = 122 := Tryd.ntmps17

def C.surdlaw09_same : VC :=
  .seq (.region false [⟨some 4, .box (.t 0), none⟩,
   ⟨some 6, .box (.t 2), none⟩,
   ⟨some 8, .mov (.c (bv false)), none⟩]) (.seq (.seq (.region false [⟨some 9, .mov (.t 3), none⟩,
   ⟨some 10, .bin .neq false (.t 9) (.c (iv 0)), none⟩]) (.cond (.t 10) (.seq (.region false [⟨some 11, .mov (.t 1), none⟩,
   ⟨some 12, .mov (.t 3), none⟩,
   ⟨some 13, .bin .eql false (.t 11) (.t 12), none⟩,
   ⟨some 14, .mov (.t 13), none⟩,
   ⟨some 15, .fa 0 (.t 4), some (14, true)⟩,
   ⟨some 16, .fa 0 (.t 15), some (14, true)⟩,
   ⟨some 17, .load none (.t 16), some (14, true)⟩,
   ⟨some 18, .un .not (.t 17), some (14, true)⟩,
   ⟨some 19, .pick (.t 14) (.t 18) (.c (bv false)), none⟩,
   ⟨some 20, .mov (.t 19), none⟩,
   ⟨some 21, .fa 0 (.t 4), some (20, true)⟩,
   ⟨some 22, .fa 1 (.t 21), some (20, true)⟩,
   ⟨some 23, .load none (.t 22), some (20, true)⟩,
   ⟨some 24, .len (.t 23), some (20, true)⟩,
   ⟨some 25, .bin .eql false (.t 24) (.c (iv 0)), some (20, true)⟩,
   ⟨some 26, .pick (.t 20) (.t 25) (.c (bv false)), none⟩,
   ⟨some 27, .mov (.t 26), none⟩,
   ⟨some 28, .fa 2 (.t 4), some (27, true)⟩,
   ⟨some 29, .load none (.t 28), some (27, true)⟩,
   ⟨some 30, .bin .eql false (.t 29) (.c (iv 0)), some (27, true)⟩,
   ⟨some 31, .pick (.t 27) (.t 30) (.c (bv false)), none⟩,
   ⟨some 8, .mov (.t 31), none⟩]) .ret) .skip)) (.seq (.region false [⟨some 32, .mov (.t 1), none⟩,
   ⟨some 33, .bin .eql false (.t 32) (.c (iv 0)), none⟩,
   ⟨some 34, .mov (.t 33), none⟩,
   ⟨some 35, .fa 0 (.t 4), some (34, true)⟩,
   ⟨some 36, .fa 0 (.t 35), some (34, true)⟩,
   ⟨some 37, .load none (.t 36), some (34, true)⟩,
   ⟨some 38, .fa 0 (.t 6), some (34, true)⟩,
   ⟨some 39, .load none (.t 38), some (34, true)⟩,
   ⟨some 40, .bin .eql true (.t 37) (.t 39), some (34, true)⟩,
   ⟨some 41, .pick (.t 34) (.t 40) (.c (bv false)), none⟩,
   ⟨some 42, .mov (.t 41), none⟩,
   ⟨some 43, .fa 2 (.t 4), some (42, true)⟩,
   ⟨some 44, .load none (.t 43), some (42, true)⟩,
   ⟨some 45, .fa 2 (.t 6), some (42, true)⟩,
   ⟨some 46, .load none (.t 45), some (42, true)⟩,
   ⟨some 47, .bin .eql false (.t 44) (.t 46), some (42, true)⟩,
   ⟨some 48, .pick (.t 42) (.t 47) (.c (bv false)), none⟩,
   ⟨some 49, .mov (.t 48), none⟩,
   ⟨some 50, .fa 1 (.t 6), some (49, true)⟩,
   ⟨some 51, .load none (.t 50), some (49, true)⟩,
   ⟨some 52, .fa 0 (.t 4), some (49, true)⟩,
   ⟨some 53, .fa 1 (.t 52), some (49, true)⟩,
   ⟨some 54, .load none (.t 53), some (49, true)⟩,
   ⟨some 55, .call F.surdref01_Num_Is [.t 51, .t 54], some (49, true)⟩,
   ⟨some 56, .pick (.t 49) (.t 55) (.c (bv false)), none⟩,
   ⟨some 8, .mov (.t 56), none⟩]) .ret))
def R.surdlaw09_same : List VRes := [.tmp 8]
theorem K.surdlaw09_same : resCode Tryd.prog Tryd.f19.ntmps (Tryd.f19.body.getD .skip) = C.surdlaw09_same := by kernel_rfl
theorem Q.surdlaw09_same : resResults Tryd.prog Tryd.f19.results.toList = some R.surdlaw09_same := by kernel_rfl
theorem E.surdlaw09_same : Tryd.prog.funcs[F.surdlaw09_same]? = some Tryd.f19 := Tryd.func19
theorem B.surdlaw09_same : Tryd.f19.body = some (Tryd.f19.body.getD .skip) := by kernel_rfl
theorem N.surdlaw09_same : Tryd.f19.ntmps = 57 := Tryd.ntmps19

def C.surdref01_Int : VC :=
  .seq (.region false [⟨some 2, .mov (.c nil1), none⟩]) (.seq (.region false [⟨some 3, .mov (.t 0), none⟩,
   ⟨some 4, .conv .u64 (.t 3), none⟩,
   ⟨some 5, .bsl true 1 1 [.int .u64 0] [(0, (1, .t 4))], none⟩,
   ⟨some 6, .call F.surdref01_Of [.t 5], none⟩,
   ⟨some 2, .mov (.t 6), none⟩]) .ret)
def R.surdref01_Int : List VRes := [.tmp 2]
theorem K.surdref01_Int : resCode Tryd.prog Tryd.f20.ntmps (Tryd.f20.body.getD .skip) = C.surdref01_Int := by kernel_rfl
theorem Q.surdref01_Int : resResults Tryd.prog Tryd.f20.results.toList = some R.surdref01_Int := by kernel_rfl
theorem E.surdref01_Int : Tryd.prog.funcs[F.surdref01_Int]? = some Tryd.f20 := Tryd.func20
theorem B.surdref01_Int : Tryd.f20.body = some (Tryd.f20.body.getD .skip) := by kernel_rfl
theorem N.surdref01_Int : Tryd.f20.ntmps = 7 := Tryd.ntmps20

def C.surdref01_Of : VC :=
  .seq (.region false [⟨some 2, .mov (.c nil1), none⟩]) (.seq (.region false [⟨some 6, .mov (.t 0), none⟩,
   ⟨some 7, .len (.t 6), none⟩,
   ⟨some 8, .bin .mul false (.c (iv 2)) (.t 7), none⟩,
   ⟨some 9, .mk [.int .u64 0] 8 (.c (iv 0)) (.t 8), none⟩,
   ⟨some 3, .mov (.t 9), none⟩]) (.seq (.seq (.region false [⟨some 10, .mov (.t 0), none⟩,
   ⟨some 11, .len (.t 10), none⟩,
   ⟨some 12, .mov (.c (iv 0)), none⟩]) (.block 0 (.loop (.seq (.region false [⟨some 13, .bin .lss false (.t 12) (.t 11), none⟩]) (.seq (.cond (.t 13) .skip (.exit 0)) (.seq (.block 1 (.seq (.region false [⟨some 14, .ixa 1 (.t 10) (.t 12), none⟩,
   ⟨some 15, .load none (.t 14), none⟩,
   ⟨some 5, .mov (.t 15), none⟩]) (.region false [⟨some 16, .mov (.t 3), none⟩,
   ⟨some 17, .mov (.t 5), none⟩,
   ⟨some 18, .bin .rem false (.t 17) (.c (nv 4294967296)), none⟩,
   ⟨some 19, .mov (.t 5), none⟩,
   ⟨some 20, .bin .quo false (.t 19) (.c (nv 4294967296)), none⟩,
   ⟨some 21, .bsl true 1 2 [.int .u64 0] [(0, (1, .t 18)), (1, (1, .t 20))], none⟩,
   ⟨some 22, .app 1 8 [.int .u64 0] (.t 16) (.t 21), none⟩,
   ⟨some 3, .mov (.t 22), none⟩]))) (.region false [⟨some 23, .bin .add false (.t 12) (.c (iv 1)), none⟩,
   ⟨some 12, .mov (.t 23), none⟩]))))))) (.seq (.region false [⟨some 24, .mov (.t 3), none⟩,
   ⟨some 25, .call F.surdref01_norm [.t 24], none⟩,
   ⟨some 2, .mov (.t 25), none⟩]) .ret)))
def R.surdref01_Of : List VRes := [.tmp 2]
theorem K.surdref01_Of : resCode Tryd.prog Tryd.f21.ntmps (Tryd.f21.body.getD .skip) = C.surdref01_Of := by kernel_rfl
theorem Q.surdref01_Of : resResults Tryd.prog Tryd.f21.results.toList = some R.surdref01_Of := by kernel_rfl
theorem E.surdref01_Of : Tryd.prog.funcs[F.surdref01_Of]? = some Tryd.f21 := Tryd.func21
theorem B.surdref01_Of : Tryd.f21.body = some (Tryd.f21.body.getD .skip) := by kernel_rfl
theorem N.surdref01_Of : Tryd.f21.ntmps = 26 := Tryd.ntmps21

def C.rounded_read : VC :=
  .seq (.region false [⟨some 1, .box (.t 0), none⟩,
   ⟨some 2, .alloc [.bool false, .slice none 0 0, .int .i64 0], none⟩,
   ⟨some 3, .mov (.c (iv 0)), none⟩]) (.seq (.seq (.region false [⟨some 6, .fa 2 (.t 1), none⟩,
   ⟨some 7, .load none (.t 6), none⟩,
   ⟨some 8, .bin .lss false (.t 7) (.c (iv (-1099511627776))), none⟩,
   ⟨some 9, .mov (.t 8), none⟩,
   ⟨some 10, .fa 2 (.t 1), some (9, false)⟩,
   ⟨some 11, .load none (.t 10), some (9, false)⟩,
   ⟨some 12, .bin .gtr false (.t 11) (.c (iv 1099511627776)), some (9, false)⟩,
   ⟨some 13, .pick (.t 9) (.c (bv true)) (.t 12), none⟩]) (.cond (.t 13) (.seq (.region false [⟨some 14, .build [.bool false, .slice none 0 0, .int .i64 0] [], none⟩,
   ⟨none, .store 3 (.t 2) (.t 14), none⟩,
   ⟨some 3, .mov (.c (iv 80)), none⟩]) .ret) .skip)) (.seq (.region false [⟨some 15, .fa 0 (.t 1), none⟩,
   ⟨some 16, .fa 1 (.t 15), none⟩,
   ⟨some 17, .load none (.t 16), none⟩,
   ⟨some 18, .call F.nat_Norm [.t 17], none⟩,
   ⟨some 4, .mov (.t 18), none⟩]) (.seq (.seq (.region false [⟨some 19, .mov (.t 4), none⟩,
   ⟨some 20, .len (.t 19), none⟩,
   ⟨some 21, .bin .eql false (.t 20) (.c (iv 0)), none⟩]) (.cond (.t 21) (.seq (.region false [⟨some 22, .build [.bool false, .slice none 0 0, .int .i64 0] [], none⟩,
   ⟨none, .store 3 (.t 2) (.t 22), none⟩,
   ⟨some 3, .mov (.c (iv 0)), none⟩]) .ret) .skip)) (.seq (.region false [⟨some 23, .mov (.t 4), none⟩,
   ⟨some 24, .call F.nat_Tail [.t 23], none⟩,
   ⟨some 5, .mov (.t 24), none⟩]) (.seq (.region true [⟨some 25, .fa 0 (.t 1), none⟩,
   ⟨some 26, .fa 0 (.t 25), none⟩,
   ⟨some 27, .load none (.t 26), none⟩,
   ⟨some 28, .mov (.t 4), none⟩,
   ⟨some 29, .mov (.t 5), none⟩,
   ⟨some 30, .call F.rounded_right [.t 28, .t 29], none⟩,
   ⟨some 31, .fa 2 (.t 1), none⟩,
   ⟨some 32, .load none (.t 31), none⟩,
   ⟨some 33, .mov (.t 5), none⟩,
   ⟨some 34, .bin .add false (.t 32) (.t 33), none⟩,
   ⟨some 35, .build [.bool false, .slice none 0 0, .int .i64 0] [(0, (1, .t 27)), (1, (1, .t 30)), (2, (1, .t 34))], none⟩,
   ⟨none, .store 3 (.t 2) (.t 35), none⟩,
   ⟨some 3, .mov (.c (iv 0)), none⟩]) .ret)))))
def R.rounded_read : List VRes := [.cell 2 (some 3), .tmp 3]
theorem K.rounded_read : resCode Tryd.prog Tryd.f25.ntmps (Tryd.f25.body.getD .skip) = C.rounded_read := by kernel_rfl
theorem Q.rounded_read : resResults Tryd.prog Tryd.f25.results.toList = some R.rounded_read := by kernel_rfl
theorem E.rounded_read : Tryd.prog.funcs[F.rounded_read]? = some Tryd.f25 := Tryd.func25
theorem B.rounded_read : Tryd.f25.body = some (Tryd.f25.body.getD .skip) := by kernel_rfl
theorem N.rounded_read : Tryd.f25.ntmps = 36 := Tryd.ntmps25

def C.rounded_asked : VC :=
  .seq (.region false [⟨some 4, .mov (.c (iv 0)), none⟩]) (.seq (.block 0 (.seq (.region false [⟨some 6, .mov (.t 0), none⟩,
   ⟨some 7, .bin .lss false (.t 6) (.c (iv (-1099511627776))), none⟩,
   ⟨some 8, .mov (.t 7), none⟩,
   ⟨some 9, .mov (.t 0), some (8, false)⟩,
   ⟨some 10, .bin .gtr false (.t 9) (.c (iv 1099511627776)), some (8, false)⟩,
   ⟨some 11, .pick (.t 8) (.c (bv true)) (.t 10), none⟩,
   ⟨some 5, .mov (.t 11), none⟩]) (.cond (.t 5) (.seq (.region false [⟨some 4, .mov (.c (iv 1)), none⟩]) .ret) (.seq (.region false [⟨some 13, .mov (.t 1), none⟩,
   ⟨some 14, .bin .lss false (.t 13) (.c (iv 0)), none⟩,
   ⟨some 15, .mov (.t 14), none⟩,
   ⟨some 16, .mov (.t 1), some (15, false)⟩,
   ⟨some 17, .bin .gtr false (.t 16) (.c (iv 2)), some (15, false)⟩,
   ⟨some 18, .pick (.t 15) (.c (bv true)) (.t 17), none⟩,
   ⟨some 12, .mov (.t 18), none⟩]) (.cond (.t 12) (.seq (.region false [⟨some 4, .mov (.c (iv 81)), none⟩]) .ret) .skip))))) (.seq (.region false [⟨some 4, .mov (.c (iv 0)), none⟩]) .ret))
def R.rounded_asked : List VRes := [.tmp 4]
theorem K.rounded_asked : resCode Tryd.prog Tryd.f26.ntmps (Tryd.f26.body.getD .skip) = C.rounded_asked := by kernel_rfl
theorem Q.rounded_asked : resResults Tryd.prog Tryd.f26.results.toList = some R.rounded_asked := by kernel_rfl
theorem E.rounded_asked : Tryd.prog.funcs[F.rounded_asked]? = some Tryd.f26 := Tryd.func26
theorem B.rounded_asked : Tryd.f26.body = some (Tryd.f26.body.getD .skip) := by kernel_rfl
theorem N.rounded_asked : Tryd.f26.ntmps = 19 := Tryd.ntmps26

def C.rounded_quotient : VC :=
  .seq (.region false [⟨some 12, .alloc [.bool false, .slice none 0 0, .int .i64 0], none⟩,
   ⟨some 13, .mov (.c (iv 0)), none⟩]) (.seq (.seq (.region false [⟨some 22, .mov (.t 1), none⟩,
   ⟨some 23, .len (.t 22), none⟩,
   ⟨some 24, .bin .eql false (.t 23) (.c (iv 0)), none⟩]) (.cond (.t 24) (.seq (.region false [⟨some 25, .build [.bool false, .slice none 0 0, .int .i64 0] [], none⟩,
   ⟨none, .store 3 (.t 12) (.t 25), none⟩,
   ⟨some 13, .mov (.c (iv 0)), none⟩]) .ret) .skip)) (.seq (.region false [⟨some 26, .mov (.t 3), none⟩,
   ⟨some 27, .mov (.t 4), none⟩,
   ⟨some 28, .bin .sub false (.t 26) (.t 27), none⟩,
   ⟨some 14, .mov (.t 28), none⟩]) (.seq (.region false [⟨some 29, .mov (.t 1), none⟩,
   ⟨some 30, .call F.nat_Length [.t 29], none⟩,
   ⟨some 31, .mov (.t 2), none⟩,
   ⟨some 32, .call F.nat_Length [.t 31], none⟩,
   ⟨some 33, .bin .sub false (.t 30) (.t 32), none⟩,
   ⟨some 34, .mov (.t 14), none⟩,
   ⟨some 35, .bin .add false (.t 33) (.t 34), none⟩,
   ⟨some 15, .mov (.t 35), none⟩]) (.seq (.seq (.region false [⟨some 36, .mov (.t 15), none⟩,
   ⟨some 37, .bin .gtr false (.t 36) (.c (iv 67108865)), none⟩]) (.cond (.t 37) (.seq (.region false [⟨some 38, .build [.bool false, .slice none 0 0, .int .i64 0] [], none⟩,
   ⟨none, .store 3 (.t 12) (.t 38), none⟩,
   ⟨some 13, .mov (.c (iv 3)), none⟩]) .ret) .skip)) (.seq (.seq (.region false [⟨some 39, .mov (.t 15), none⟩,
   ⟨some 40, .bin .lss false (.t 39) (.c (iv (-2))), none⟩]) (.cond (.t 40) (.seq (.region false [⟨some 41, .mov (.t 0), none⟩,
   ⟨some 42, .mov (.t 4), none⟩,
   ⟨some 43, .mov (.t 5), none⟩,
   ⟨some 44, .call F.rounded_finish [.t 41, .c nil1, .c (iv 1), .t 42, .t 43], none⟩,
   ⟨some 45, .ext (.t 44) 0, none⟩,
   ⟨some 46, .ext (.t 44) 1, none⟩,
   ⟨none, .store 3 (.t 12) (.t 45), none⟩,
   ⟨some 13, .mov (.t 46), none⟩]) .ret) .skip)) (.seq (.seq (.region false [⟨some 47, .mov (.t 14), none⟩,
   ⟨some 48, .bin .geq false (.t 47) (.c (iv 0)), none⟩]) (.cond (.t 48) (.seq (.region false [⟨some 49, .mov (.t 14), none⟩,
   ⟨some 50, .mov (.t 2), none⟩,
   ⟨some 51, .call F.nat_Tail [.t 50], none⟩,
   ⟨some 52, .mm false (.t 49) (.t 51), none⟩,
   ⟨some 16, .mov (.t 52), none⟩]) (.region false [⟨some 53, .mov (.t 1), none⟩,
   ⟨some 54, .mov (.t 14), none⟩,
   ⟨some 55, .mov (.t 16), none⟩,
   ⟨some 56, .bin .sub false (.t 54) (.t 55), none⟩,
   ⟨some 57, .call F.rounded_left [.t 53, .t 56], none⟩,
   ⟨some 58, .mov (.t 2), none⟩,
   ⟨some 59, .mov (.t 16), none⟩,
   ⟨some 60, .call F.rounded_right [.t 58, .t 59], none⟩,
   ⟨some 1, .mov (.t 57), none⟩,
   ⟨some 2, .mov (.t 60), none⟩])) (.seq (.region false [⟨some 61, .mov (.t 14), none⟩,
   ⟨some 62, .un .neg (.t 61), none⟩,
   ⟨some 63, .mov (.t 1), none⟩,
   ⟨some 64, .call F.nat_Tail [.t 63], none⟩,
   ⟨some 65, .mm false (.t 62) (.t 64), none⟩,
   ⟨some 17, .mov (.t 65), none⟩]) (.region false [⟨some 66, .mov (.t 1), none⟩,
   ⟨some 67, .mov (.t 17), none⟩,
   ⟨some 68, .call F.rounded_right [.t 66, .t 67], none⟩,
   ⟨some 69, .mov (.t 2), none⟩,
   ⟨some 70, .mov (.t 14), none⟩,
   ⟨some 71, .un .neg (.t 70), none⟩,
   ⟨some 72, .mov (.t 17), none⟩,
   ⟨some 73, .bin .sub false (.t 71) (.t 72), none⟩,
   ⟨some 74, .call F.rounded_left [.t 69, .t 73], none⟩,
   ⟨some 1, .mov (.t 68), none⟩,
   ⟨some 2, .mov (.t 74), none⟩])))) (.seq (.region false [⟨some 76, .mov (.t 1), none⟩,
   ⟨some 77, .mov (.t 2), none⟩,
   ⟨some 78, .call F.div_Quo [.t 76, .t 77], none⟩,
   ⟨some 75, .mov (.t 78), none⟩,
   ⟨some 79, .ext (.t 75) 0, none⟩,
   ⟨some 80, .ext (.t 75) 1, none⟩,
   ⟨some 18, .mov (.t 79), none⟩,
   ⟨some 19, .mov (.t 80), none⟩]) (.seq (.seq (.region false [⟨some 81, .mov (.t 19), none⟩,
   ⟨some 82, .bin .neq false (.t 81) (.c (iv 0)), none⟩]) (.cond (.t 82) (.seq (.region false [⟨some 83, .build [.bool false, .slice none 0 0, .int .i64 0] [], none⟩,
   ⟨some 84, .mov (.t 19), none⟩,
   ⟨none, .store 3 (.t 12) (.t 83), none⟩,
   ⟨some 13, .mov (.t 84), none⟩]) .ret) .skip)) (.seq (.region false [⟨some 85, .mov (.t 1), none⟩,
   ⟨some 86, .mov (.t 18), none⟩,
   ⟨some 87, .mov (.t 2), none⟩,
   ⟨some 88, .call F.rounded_times [.t 86, .t 87], none⟩,
   ⟨some 89, .call F.rounded_minus [.t 85, .t 88], none⟩,
   ⟨some 20, .mov (.t 89), none⟩]) (.seq (.region false [⟨some 21, .mov (.c (iv 0)), none⟩]) (.seq (.seq (.region false [⟨some 90, .mov (.t 20), none⟩,
   ⟨some 91, .len (.t 90), none⟩,
   ⟨some 92, .bin .gtr false (.t 91) (.c (iv 0)), none⟩]) (.cond (.t 92) (.region false [⟨some 93, .mov (.t 20), none⟩,
   ⟨some 94, .call F.rounded_left [.t 93, .c (iv 1)], none⟩,
   ⟨some 95, .mov (.t 2), none⟩,
   ⟨some 96, .call F.nat_Compare [.t 94, .t 95], none⟩,
   ⟨some 97, .bin .add false (.c (iv 2)) (.t 96), none⟩,
   ⟨some 21, .mov (.t 97), none⟩]) .skip)) (.seq (.region false [⟨some 98, .mov (.t 0), none⟩,
   ⟨some 99, .mov (.t 18), none⟩,
   ⟨some 100, .mov (.t 21), none⟩,
   ⟨some 101, .mov (.t 4), none⟩,
   ⟨some 102, .mov (.t 5), none⟩,
   ⟨some 103, .call F.rounded_finish [.t 98, .t 99, .t 100, .t 101, .t 102], none⟩,
   ⟨some 104, .ext (.t 103) 0, none⟩,
   ⟨some 105, .ext (.t 103) 1, none⟩,
   ⟨none, .store 3 (.t 12) (.t 104), none⟩,
   ⟨some 13, .mov (.t 105), none⟩]) .ret))))))))))))
def R.rounded_quotient : List VRes := [.cell 12 (some 3), .tmp 13]
theorem K.rounded_quotient : resCode Tryd.prog Tryd.f27.ntmps (Tryd.f27.body.getD .skip) = C.rounded_quotient := by kernel_rfl
theorem Q.rounded_quotient : resResults Tryd.prog Tryd.f27.results.toList = some R.rounded_quotient := by kernel_rfl
theorem E.rounded_quotient : Tryd.prog.funcs[F.rounded_quotient]? = some Tryd.f27 := Tryd.func27
theorem B.rounded_quotient : Tryd.f27.body = some (Tryd.f27.body.getD .skip) := by kernel_rfl
theorem N.rounded_quotient : Tryd.f27.ntmps = 106 := Tryd.ntmps27

def C.nat_Length : VC :=
  .seq (.region false [⟨some 2, .mov (.c (iv 0)), none⟩]) (.seq (.region false [⟨some 3, .mov (.t 0), none⟩,
   ⟨some 4, .call F.nat_trim [.t 3], none⟩,
   ⟨some 0, .mov (.t 4), none⟩]) (.seq (.seq (.region false [⟨some 5, .mov (.t 0), none⟩,
   ⟨some 6, .len (.t 5), none⟩,
   ⟨some 7, .bin .eql false (.t 6) (.c (iv 0)), none⟩]) (.cond (.t 7) (.seq (.region false [⟨some 2, .mov (.c (iv 0)), none⟩]) .ret) .skip)) (.seq (.region false [⟨some 8, .mov (.t 0), none⟩,
   ⟨some 9, .len (.t 8), none⟩,
   ⟨some 10, .bin .sub false (.t 9) (.c (iv 1)), none⟩,
   ⟨some 11, .bin .mul false (.c (iv 64)) (.t 10), none⟩,
   ⟨some 12, .mov (.t 0), none⟩,
   ⟨some 13, .mov (.t 0), none⟩,
   ⟨some 14, .len (.t 13), none⟩,
   ⟨some 15, .bin .sub false (.t 14) (.c (iv 1)), none⟩,
   ⟨some 16, .ixa 1 (.t 12) (.t 15), none⟩,
   ⟨some 17, .load none (.t 16), none⟩,
   ⟨some 18, .call F.bits_Len64 [.t 17], none⟩,
   ⟨some 19, .bin .add false (.t 11) (.t 18), none⟩,
   ⟨some 2, .mov (.t 19), none⟩]) .ret)))
def R.nat_Length : List VRes := [.tmp 2]
theorem K.nat_Length : resCode Tryd.prog Tryd.f35.ntmps (Tryd.f35.body.getD .skip) = C.nat_Length := by kernel_rfl
theorem Q.nat_Length : resResults Tryd.prog Tryd.f35.results.toList = some R.nat_Length := by kernel_rfl
theorem E.nat_Length : Tryd.prog.funcs[F.nat_Length]? = some Tryd.f35 := Tryd.func35
theorem B.nat_Length : Tryd.f35.body = some (Tryd.f35.body.getD .skip) := by kernel_rfl
theorem N.nat_Length : Tryd.f35.ntmps = 20 := Tryd.ntmps35

def C.rounded_finish : VC :=
  .seq (.region false [⟨some 10, .alloc [.bool false, .slice none 0 0, .int .i64 0], none⟩,
   ⟨some 11, .mov (.c (iv 0)), none⟩]) (.seq (.seq (.region false [⟨some 14, .mov (.t 4), none⟩,
   ⟨some 15, .call F.rounded_way [.t 14], none⟩,
   ⟨some 16, .mov (.t 0), none⟩,
   ⟨some 17, .mov (.t 1), none⟩,
   ⟨some 18, .mov (.t 2), none⟩,
   ⟨some 19, .callv (.t 15) [.t 16, .t 17, .t 18], none⟩]) (.cond (.t 19) (.seq (.region false [⟨some 12, .mov (.c (iv 0)), none⟩]) (.seq (.region false [⟨some 21, .mov (.t 1), none⟩,
   ⟨some 22, .call F.nat_From [.c (nv 1)], none⟩,
   ⟨some 23, .call F.nat_Add [.t 21, .t 22], none⟩,
   ⟨some 20, .mov (.t 23), none⟩,
   ⟨some 24, .ext (.t 20) 0, none⟩,
   ⟨some 25, .ext (.t 20) 1, none⟩,
   ⟨some 1, .mov (.t 24), none⟩,
   ⟨some 12, .mov (.t 25), none⟩]) (.seq (.region false [⟨some 26, .mov (.t 12), none⟩,
   ⟨some 27, .bin .neq false (.t 26) (.c (iv 0)), none⟩]) (.cond (.t 27) (.seq (.region false [⟨some 28, .build [.bool false, .slice none 0 0, .int .i64 0] [], none⟩,
   ⟨some 29, .mov (.t 12), none⟩,
   ⟨none, .store 3 (.t 10) (.t 28), none⟩,
   ⟨some 11, .mov (.t 29), none⟩]) .ret) .skip)))) .skip)) (.seq (.seq (.region false [⟨some 30, .mov (.t 1), none⟩,
   ⟨some 31, .call F.nat_Length [.t 30], none⟩,
   ⟨some 32, .bin .gtr false (.t 31) (.c (iv 67108864)), none⟩]) (.cond (.t 32) (.seq (.region false [⟨some 33, .build [.bool false, .slice none 0 0, .int .i64 0] [], none⟩,
   ⟨none, .store 3 (.t 10) (.t 33), none⟩,
   ⟨some 11, .mov (.c (iv 3)), none⟩]) .ret) .skip)) (.seq (.seq (.region false [⟨some 34, .mov (.t 1), none⟩,
   ⟨some 35, .len (.t 34), none⟩,
   ⟨some 36, .bin .eql false (.t 35) (.c (iv 0)), none⟩]) (.cond (.t 36) (.seq (.region false [⟨some 37, .build [.bool false, .slice none 0 0, .int .i64 0] [], none⟩,
   ⟨none, .store 3 (.t 10) (.t 37), none⟩,
   ⟨some 11, .mov (.c (iv 0)), none⟩]) .ret) .skip)) (.seq (.region false [⟨some 38, .mov (.t 1), none⟩,
   ⟨some 39, .call F.nat_Tail [.t 38], none⟩,
   ⟨some 13, .mov (.t 39), none⟩]) (.seq (.seq (.region false [⟨some 40, .mov (.t 3), none⟩,
   ⟨some 41, .mov (.t 13), none⟩,
   ⟨some 42, .bin .add false (.t 40) (.t 41), none⟩,
   ⟨some 43, .bin .gtr false (.t 42) (.c (iv 1099511627776)), none⟩]) (.cond (.t 43) (.seq (.region false [⟨some 44, .build [.bool false, .slice none 0 0, .int .i64 0] [], none⟩,
   ⟨none, .store 3 (.t 10) (.t 44), none⟩,
   ⟨some 11, .mov (.c (iv 80)), none⟩]) .ret) .skip)) (.seq (.region false [⟨some 45, .mov (.t 0), none⟩,
   ⟨some 46, .mov (.t 1), none⟩,
   ⟨some 47, .mov (.t 13), none⟩,
   ⟨some 48, .call F.rounded_right [.t 46, .t 47], none⟩,
   ⟨some 49, .build [.bool false, .slice none 0 0] [(0, (1, .t 45)), (1, (1, .t 48))], none⟩,
   ⟨some 50, .mov (.t 3), none⟩,
   ⟨some 51, .mov (.t 13), none⟩,
   ⟨some 52, .bin .add false (.t 50) (.t 51), none⟩,
   ⟨some 53, .build [.bool false, .slice none 0 0, .int .i64 0] [(0, (2, .t 49)), (2, (1, .t 52))], none⟩,
   ⟨none, .store 3 (.t 10) (.t 53), none⟩,
   ⟨some 11, .mov (.c (iv 0)), none⟩]) .ret))))))
def R.rounded_finish : List VRes := [.cell 10 (some 3), .tmp 11]
theorem K.rounded_finish : resCode Tryd.prog Tryd.f36.ntmps (Tryd.f36.body.getD .skip) = C.rounded_finish := by kernel_rfl
theorem Q.rounded_finish : resResults Tryd.prog Tryd.f36.results.toList = some R.rounded_finish := by kernel_rfl
theorem E.rounded_finish : Tryd.prog.funcs[F.rounded_finish]? = some Tryd.f36 := Tryd.func36
theorem B.rounded_finish : Tryd.f36.body = some (Tryd.f36.body.getD .skip) := by kernel_rfl
theorem N.rounded_finish : Tryd.f36.ntmps = 54 := Tryd.ntmps36

def C.rounded_left : VC :=
  .seq (.region false [⟨some 4, .mov (.c nil1), none⟩]) (.seq (.seq (.region false [⟨some 8, .mov (.t 0), none⟩,
   ⟨some 9, .len (.t 8), none⟩,
   ⟨some 10, .bin .eql false (.t 9) (.c (iv 0)), none⟩]) (.cond (.t 10) (.seq (.region false [⟨some 4, .mov (.c nil1), none⟩]) .ret) .skip)) (.seq (.region false [⟨some 11, .mov (.t 1), none⟩,
   ⟨some 12, .bin .quo false (.t 11) (.c (iv 64)), none⟩,
   ⟨some 13, .mov (.t 0), none⟩,
   ⟨some 14, .len (.t 13), none⟩,
   ⟨some 15, .bin .add false (.t 12) (.t 14), none⟩,
   ⟨some 16, .bin .add false (.t 15) (.c (iv 1)), none⟩,
   ⟨some 17, .mk [.int .u64 0] 8 (.t 16) (.t 16), none⟩,
   ⟨some 5, .mov (.t 17), none⟩]) (.seq (.seq (.region false [⟨some 18, .mov (.t 0), none⟩,
   ⟨some 19, .len (.t 18), none⟩,
   ⟨some 20, .mov (.c (iv 0)), none⟩]) (.block 0 (.loop (.seq (.region false [⟨some 21, .bin .lss false (.t 20) (.t 19), none⟩]) (.seq (.cond (.t 21) .skip (.exit 0)) (.seq (.block 1 (.seq (.region false [⟨some 22, .mov (.t 20), none⟩,
   ⟨some 23, .ixa 1 (.t 18) (.t 20), none⟩,
   ⟨some 24, .load none (.t 23), none⟩,
   ⟨some 6, .mov (.t 22), none⟩,
   ⟨some 7, .mov (.t 24), none⟩]) (.seq (.region false [⟨some 25, .mov (.t 5), none⟩,
   ⟨some 26, .mov (.t 1), none⟩,
   ⟨some 27, .bin .quo false (.t 26) (.c (iv 64)), none⟩,
   ⟨some 28, .mov (.t 6), none⟩,
   ⟨some 29, .bin .add false (.t 27) (.t 28), none⟩,
   ⟨some 30, .ixa 1 (.t 25) (.t 29), none⟩,
   ⟨some 31, .load none (.t 30), none⟩,
   ⟨some 32, .mov (.t 7), none⟩,
   ⟨some 33, .mov (.t 1), none⟩,
   ⟨some 34, .bin .rem false (.t 33) (.c (iv 64)), none⟩,
   ⟨some 35, .conv .u64 (.t 34), none⟩,
   ⟨some 36, .bin .shl false (.t 32) (.t 35), none⟩,
   ⟨some 37, .bin .or false (.t 31) (.t 36), none⟩,
   ⟨some 38, .ixa 1 (.t 25) (.t 29), none⟩,
   ⟨none, .store 1 (.t 38) (.t 37), none⟩]) (.region false [⟨some 39, .mov (.t 5), none⟩,
   ⟨some 40, .mov (.t 1), none⟩,
   ⟨some 41, .bin .quo false (.t 40) (.c (iv 64)), none⟩,
   ⟨some 42, .mov (.t 6), none⟩,
   ⟨some 43, .bin .add false (.t 41) (.t 42), none⟩,
   ⟨some 44, .bin .add false (.t 43) (.c (iv 1)), none⟩,
   ⟨some 45, .ixa 1 (.t 39) (.t 44), none⟩,
   ⟨some 46, .load none (.t 45), none⟩,
   ⟨some 47, .mov (.t 7), none⟩,
   ⟨some 48, .bin .shr false (.t 47) (.c (nv 1)), none⟩,
   ⟨some 49, .mov (.t 1), none⟩,
   ⟨some 50, .bin .rem false (.t 49) (.c (iv 64)), none⟩,
   ⟨some 51, .bin .sub false (.c (iv 63)) (.t 50), none⟩,
   ⟨some 52, .conv .u64 (.t 51), none⟩,
   ⟨some 53, .bin .shr false (.t 48) (.t 52), none⟩,
   ⟨some 54, .bin .or false (.t 46) (.t 53), none⟩,
   ⟨some 55, .ixa 1 (.t 39) (.t 44), none⟩,
   ⟨none, .store 1 (.t 55) (.t 54), none⟩])))) (.region false [⟨some 56, .bin .add false (.t 20) (.c (iv 1)), none⟩,
   ⟨some 20, .mov (.t 56), none⟩]))))))) (.seq (.region false [⟨some 57, .mov (.t 5), none⟩,
   ⟨some 58, .call F.nat_Norm [.t 57], none⟩,
   ⟨some 4, .mov (.t 58), none⟩]) .ret))))
def R.rounded_left : List VRes := [.tmp 4]
theorem K.rounded_left : resCode Tryd.prog Tryd.f37.ntmps (Tryd.f37.body.getD .skip) = C.rounded_left := by kernel_rfl
theorem Q.rounded_left : resResults Tryd.prog Tryd.f37.results.toList = some R.rounded_left := by kernel_rfl
theorem E.rounded_left : Tryd.prog.funcs[F.rounded_left]? = some Tryd.f37 := Tryd.func37
theorem B.rounded_left : Tryd.f37.body = some (Tryd.f37.body.getD .skip) := by kernel_rfl
theorem N.rounded_left : Tryd.f37.ntmps = 59 := Tryd.ntmps37

def C.nat_Tail : VC :=
  .seq (.region false [⟨some 2, .mov (.c (iv 0)), none⟩]) (.seq (.seq (.region false [⟨some 5, .mov (.t 0), none⟩,
   ⟨some 6, .len (.t 5), none⟩,
   ⟨some 7, .mov (.c (iv 0)), none⟩]) (.block 0 (.loop (.seq (.region false [⟨some 8, .bin .lss false (.t 7) (.t 6), none⟩]) (.seq (.cond (.t 8) .skip (.exit 0)) (.seq (.block 1 (.seq (.region false [⟨some 9, .mov (.t 7), none⟩,
   ⟨some 10, .ixa 1 (.t 5) (.t 7), none⟩,
   ⟨some 11, .load none (.t 10), none⟩,
   ⟨some 3, .mov (.t 9), none⟩,
   ⟨some 4, .mov (.t 11), none⟩]) (.seq (.region false [⟨some 12, .mov (.t 4), none⟩,
   ⟨some 13, .bin .neq false (.t 12) (.c (nv 0)), none⟩]) (.cond (.t 13) (.seq (.region false [⟨some 14, .mov (.t 3), none⟩,
   ⟨some 15, .bin .mul false (.c (iv 64)) (.t 14), none⟩,
   ⟨some 16, .mov (.t 4), none⟩,
   ⟨some 17, .call F.bits_TrailingZeros64 [.t 16], none⟩,
   ⟨some 18, .bin .add false (.t 15) (.t 17), none⟩,
   ⟨some 2, .mov (.t 18), none⟩]) .ret) .skip)))) (.region false [⟨some 19, .bin .add false (.t 7) (.c (iv 1)), none⟩,
   ⟨some 7, .mov (.t 19), none⟩]))))))) (.seq (.region false [⟨some 2, .mov (.c (iv 0)), none⟩]) .ret))
def R.nat_Tail : List VRes := [.tmp 2]
theorem K.nat_Tail : resCode Tryd.prog Tryd.f38.ntmps (Tryd.f38.body.getD .skip) = C.nat_Tail := by kernel_rfl
theorem Q.nat_Tail : resResults Tryd.prog Tryd.f38.results.toList = some R.nat_Tail := by kernel_rfl
theorem E.nat_Tail : Tryd.prog.funcs[F.nat_Tail]? = some Tryd.f38 := Tryd.func38
theorem B.nat_Tail : Tryd.f38.body = some (Tryd.f38.body.getD .skip) := by kernel_rfl
theorem N.nat_Tail : Tryd.f38.ntmps = 20 := Tryd.ntmps38

def C.rounded_right : VC :=
  .seq (.region false [⟨some 4, .mov (.c nil1), none⟩]) (.seq (.seq (.region false [⟨some 7, .mov (.t 1), none⟩,
   ⟨some 8, .bin .quo false (.t 7) (.c (iv 64)), none⟩,
   ⟨some 9, .mov (.t 0), none⟩,
   ⟨some 10, .len (.t 9), none⟩,
   ⟨some 11, .bin .geq false (.t 8) (.t 10), none⟩]) (.cond (.t 11) (.seq (.region false [⟨some 4, .mov (.c nil1), none⟩]) .ret) .skip)) (.seq (.region false [⟨some 12, .mov (.t 0), none⟩,
   ⟨some 13, .mov (.t 1), none⟩,
   ⟨some 14, .bin .quo false (.t 13) (.c (iv 64)), none⟩,
   ⟨some 15, .slc 1 (.t 12) (some (.t 14)) none none, none⟩,
   ⟨some 16, .app 1 8 [.int .u64 0] (.c nil1) (.t 15), none⟩,
   ⟨some 5, .mov (.t 16), none⟩]) (.seq (.seq (.region false [⟨some 17, .mov (.t 5), none⟩,
   ⟨some 18, .len (.t 17), none⟩,
   ⟨some 19, .mov (.c (iv 0)), none⟩]) (.block 0 (.loop (.seq (.region false [⟨some 20, .bin .lss false (.t 19) (.t 18), none⟩]) (.seq (.cond (.t 20) .skip (.exit 0)) (.seq (.block 1 (.seq (.region false [⟨some 21, .mov (.t 19), none⟩,
   ⟨some 6, .mov (.t 21), none⟩]) (.seq (.region false [⟨some 22, .mov (.t 5), none⟩,
   ⟨some 23, .mov (.t 6), none⟩,
   ⟨some 24, .ixa 1 (.t 22) (.t 23), none⟩,
   ⟨some 25, .load none (.t 24), none⟩,
   ⟨some 26, .mov (.t 1), none⟩,
   ⟨some 27, .bin .rem false (.t 26) (.c (iv 64)), none⟩,
   ⟨some 28, .conv .u64 (.t 27), none⟩,
   ⟨some 29, .bin .shr false (.t 25) (.t 28), none⟩,
   ⟨some 30, .ixa 1 (.t 22) (.t 23), none⟩,
   ⟨none, .store 1 (.t 30) (.t 29), none⟩]) (.seq (.region false [⟨some 31, .mov (.t 6), none⟩,
   ⟨some 32, .bin .add false (.t 31) (.c (iv 1)), none⟩,
   ⟨some 33, .mov (.t 5), none⟩,
   ⟨some 34, .len (.t 33), none⟩,
   ⟨some 35, .bin .lss false (.t 32) (.t 34), none⟩]) (.cond (.t 35) (.region true [⟨some 36, .mov (.t 5), none⟩,
   ⟨some 37, .mov (.t 6), none⟩,
   ⟨some 38, .ixa 1 (.t 36) (.t 37), none⟩,
   ⟨some 39, .load none (.t 38), none⟩,
   ⟨some 40, .mov (.t 5), none⟩,
   ⟨some 41, .mov (.t 6), none⟩,
   ⟨some 42, .bin .add false (.t 41) (.c (iv 1)), none⟩,
   ⟨some 43, .ixa 1 (.t 40) (.t 42), none⟩,
   ⟨some 44, .load none (.t 43), none⟩,
   ⟨some 45, .bin .shl false (.t 44) (.c (nv 1)), none⟩,
   ⟨some 46, .mov (.t 1), none⟩,
   ⟨some 47, .bin .rem false (.t 46) (.c (iv 64)), none⟩,
   ⟨some 48, .bin .sub false (.c (iv 63)) (.t 47), none⟩,
   ⟨some 49, .conv .u64 (.t 48), none⟩,
   ⟨some 50, .bin .shl false (.t 45) (.t 49), none⟩,
   ⟨some 51, .bin .or false (.t 39) (.t 50), none⟩,
   ⟨some 52, .ixa 1 (.t 36) (.t 37), none⟩,
   ⟨none, .store 1 (.t 52) (.t 51), none⟩]) .skip))))) (.region false [⟨some 53, .bin .add false (.t 19) (.c (iv 1)), none⟩,
   ⟨some 19, .mov (.t 53), none⟩]))))))) (.seq (.region false [⟨some 54, .mov (.t 5), none⟩,
   ⟨some 55, .call F.nat_Norm [.t 54], none⟩,
   ⟨some 4, .mov (.t 55), none⟩]) .ret))))
def R.rounded_right : List VRes := [.tmp 4]
theorem K.rounded_right : resCode Tryd.prog Tryd.f39.ntmps (Tryd.f39.body.getD .skip) = C.rounded_right := by kernel_rfl
theorem Q.rounded_right : resResults Tryd.prog Tryd.f39.results.toList = some R.rounded_right := by kernel_rfl
theorem E.rounded_right : Tryd.prog.funcs[F.rounded_right]? = some Tryd.f39 := Tryd.func39
theorem B.rounded_right : Tryd.f39.body = some (Tryd.f39.body.getD .skip) := by kernel_rfl
theorem N.rounded_right : Tryd.f39.ntmps = 56 := Tryd.ntmps39

def C.roots_Sqrt : VC :=
  .seq (.region false [⟨some 2, .mov (.c nil1), none⟩,
   ⟨some 3, .mov (.c nil1), none⟩,
   ⟨some 4, .mov (.c (iv 0)), none⟩]) (.seq (.region false [⟨some 5, .mov (.t 0), none⟩,
   ⟨some 6, .call F.roots_Root [.t 5, .c (iv 2)], none⟩,
   ⟨some 7, .ext (.t 6) 0, none⟩,
   ⟨some 8, .ext (.t 6) 1, none⟩,
   ⟨some 9, .ext (.t 6) 2, none⟩,
   ⟨some 2, .mov (.t 7), none⟩,
   ⟨some 3, .mov (.t 8), none⟩,
   ⟨some 4, .mov (.t 9), none⟩]) .ret)
def R.roots_Sqrt : List VRes := [.tmp 2, .tmp 3, .tmp 4]
theorem K.roots_Sqrt : resCode Tryd.prog Tryd.f40.ntmps (Tryd.f40.body.getD .skip) = C.roots_Sqrt := by kernel_rfl
theorem Q.roots_Sqrt : resResults Tryd.prog Tryd.f40.results.toList = some R.roots_Sqrt := by kernel_rfl
theorem E.roots_Sqrt : Tryd.prog.funcs[F.roots_Sqrt]? = some Tryd.f40 := Tryd.func40
theorem B.roots_Sqrt : Tryd.f40.body = some (Tryd.f40.body.getD .skip) := by kernel_rfl
theorem N.roots_Sqrt : Tryd.f40.ntmps = 10 := Tryd.ntmps40

def C.nat_Bit : VC :=
  .seq (.region false [⟨some 4, .mov (.c (iv 0)), none⟩]) (.seq (.seq (.region false [⟨some 5, .mov (.t 1), none⟩,
   ⟨some 6, .bin .lss false (.t 5) (.c (iv 0)), none⟩,
   ⟨some 7, .mov (.t 6), none⟩,
   ⟨some 8, .mov (.t 1), some (7, false)⟩,
   ⟨some 9, .bin .quo false (.t 8) (.c (iv 64)), some (7, false)⟩,
   ⟨some 10, .mov (.t 0), some (7, false)⟩,
   ⟨some 11, .len (.t 10), some (7, false)⟩,
   ⟨some 12, .bin .geq false (.t 9) (.t 11), some (7, false)⟩,
   ⟨some 13, .pick (.t 7) (.c (bv true)) (.t 12), none⟩]) (.cond (.t 13) (.seq (.region false [⟨some 4, .mov (.c (iv 0)), none⟩]) .ret) .skip)) (.seq (.region false [⟨some 14, .mov (.t 0), none⟩,
   ⟨some 15, .mov (.t 1), none⟩,
   ⟨some 16, .bin .quo false (.t 15) (.c (iv 64)), none⟩,
   ⟨some 17, .ixa 1 (.t 14) (.t 16), none⟩,
   ⟨some 18, .load none (.t 17), none⟩,
   ⟨some 19, .mov (.t 1), none⟩,
   ⟨some 20, .bin .rem false (.t 19) (.c (iv 64)), none⟩,
   ⟨some 21, .conv .u64 (.t 20), none⟩,
   ⟨some 22, .bin .shr false (.t 18) (.t 21), none⟩,
   ⟨some 23, .bin .and false (.t 22) (.c (nv 1)), none⟩,
   ⟨some 24, .conv .i64 (.t 23), none⟩,
   ⟨some 4, .mov (.t 24), none⟩]) .ret))
def R.nat_Bit : List VRes := [.tmp 4]
theorem K.nat_Bit : resCode Tryd.prog Tryd.f41.ntmps (Tryd.f41.body.getD .skip) = C.nat_Bit := by kernel_rfl
theorem Q.nat_Bit : resResults Tryd.prog Tryd.f41.results.toList = some R.nat_Bit := by kernel_rfl
theorem E.nat_Bit : Tryd.prog.funcs[F.nat_Bit]? = some Tryd.f41 := Tryd.func41
theorem B.nat_Bit : Tryd.f41.body = some (Tryd.f41.body.getD .skip) := by kernel_rfl
theorem N.nat_Bit : Tryd.f41.ntmps = 25 := Tryd.ntmps41

def C.surdref01_Num_Is : VC :=
  .seq (.region false [⟨some 4, .mov (.c (bv false)), none⟩]) (.seq (.region false [⟨some 7, .mov (.t 0), none⟩,
   ⟨some 8, .call F.surdref01_Num_Limbs [.t 7], none⟩,
   ⟨some 5, .mov (.t 8), none⟩]) (.seq (.seq (.region false [⟨some 9, .mov (.t 5), none⟩,
   ⟨some 10, .len (.t 9), none⟩,
   ⟨some 11, .mov (.t 1), none⟩,
   ⟨some 12, .len (.t 11), none⟩,
   ⟨some 13, .bin .neq false (.t 10) (.t 12), none⟩]) (.cond (.t 13) (.seq (.region false [⟨some 4, .mov (.c (bv false)), none⟩]) .ret) .skip)) (.seq (.seq (.region false [⟨some 14, .mov (.t 5), none⟩,
   ⟨some 15, .len (.t 14), none⟩,
   ⟨some 16, .mov (.c (iv 0)), none⟩]) (.block 0 (.loop (.seq (.region false [⟨some 17, .bin .lss false (.t 16) (.t 15), none⟩]) (.seq (.cond (.t 17) .skip (.exit 0)) (.seq (.block 1 (.seq (.region false [⟨some 18, .mov (.t 16), none⟩,
   ⟨some 6, .mov (.t 18), none⟩]) (.seq (.region true [⟨some 19, .mov (.t 5), none⟩,
   ⟨some 20, .mov (.t 6), none⟩,
   ⟨some 21, .ixa 1 (.t 19) (.t 20), none⟩,
   ⟨some 22, .load none (.t 21), none⟩,
   ⟨some 23, .mov (.t 1), none⟩,
   ⟨some 24, .mov (.t 6), none⟩,
   ⟨some 25, .ixa 1 (.t 23) (.t 24), none⟩,
   ⟨some 26, .load none (.t 25), none⟩,
   ⟨some 27, .bin .neq false (.t 22) (.t 26), none⟩]) (.cond (.t 27) (.seq (.region false [⟨some 4, .mov (.c (bv false)), none⟩]) .ret) .skip)))) (.region false [⟨some 28, .bin .add false (.t 16) (.c (iv 1)), none⟩,
   ⟨some 16, .mov (.t 28), none⟩]))))))) (.seq (.region false [⟨some 4, .mov (.c (bv true)), none⟩]) .ret))))
def R.surdref01_Num_Is : List VRes := [.tmp 4]
theorem K.surdref01_Num_Is : resCode Tryd.prog Tryd.f42.ntmps (Tryd.f42.body.getD .skip) = C.surdref01_Num_Is := by kernel_rfl
theorem Q.surdref01_Num_Is : resResults Tryd.prog Tryd.f42.results.toList = some R.surdref01_Num_Is := by kernel_rfl
theorem E.surdref01_Num_Is : Tryd.prog.funcs[F.surdref01_Num_Is]? = some Tryd.f42 := Tryd.func42
theorem B.surdref01_Num_Is : Tryd.f42.body = some (Tryd.f42.body.getD .skip) := by kernel_rfl
theorem N.surdref01_Num_Is : Tryd.f42.ntmps = 29 := Tryd.ntmps42

def C.surdref01_norm : VC :=
  .seq (.region false [⟨some 2, .mov (.c nil1), none⟩]) (.seq (.region false [⟨some 4, .mov (.t 0), none⟩,
   ⟨some 5, .len (.t 4), none⟩,
   ⟨some 3, .mov (.t 5), none⟩]) (.seq (.block 0 (.loop (.seq (.seq (.region false [⟨some 6, .mov (.t 3), none⟩,
   ⟨some 7, .bin .gtr false (.t 6) (.c (iv 0)), none⟩,
   ⟨some 8, .mov (.t 7), none⟩,
   ⟨some 9, .mov (.t 0), some (8, true)⟩,
   ⟨some 10, .mov (.t 3), some (8, true)⟩,
   ⟨some 11, .bin .sub false (.t 10) (.c (iv 1)), some (8, true)⟩,
   ⟨some 12, .ixa 1 (.t 9) (.t 11), some (8, true)⟩,
   ⟨some 13, .load none (.t 12), some (8, true)⟩,
   ⟨some 14, .bin .eql false (.t 13) (.c (nv 0)), some (8, true)⟩,
   ⟨some 15, .pick (.t 8) (.t 14) (.c (bv false)), none⟩]) (.cond (.t 15) .skip (.exit 0))) (.block 1 (.region false [⟨some 16, .mov (.t 3), none⟩,
   ⟨some 17, .bin .sub false (.t 16) (.c (iv 1)), none⟩,
   ⟨some 3, .mov (.t 17), none⟩]))))) (.seq (.region false [⟨some 18, .mov (.t 0), none⟩,
   ⟨some 19, .mov (.t 3), none⟩,
   ⟨some 20, .mov (.t 3), none⟩,
   ⟨some 21, .slc 1 (.t 18) none (some (.t 19)) (some (.t 20)), none⟩,
   ⟨some 2, .mov (.t 21), none⟩]) .ret)))
def R.surdref01_norm : List VRes := [.tmp 2]
theorem K.surdref01_norm : resCode Tryd.prog Tryd.f43.ntmps (Tryd.f43.body.getD .skip) = C.surdref01_norm := by kernel_rfl
theorem Q.surdref01_norm : resResults Tryd.prog Tryd.f43.results.toList = some R.surdref01_norm := by kernel_rfl
theorem E.surdref01_norm : Tryd.prog.funcs[F.surdref01_norm]? = some Tryd.f43 := Tryd.func43
theorem B.surdref01_norm : Tryd.f43.body = some (Tryd.f43.body.getD .skip) := by kernel_rfl
theorem N.surdref01_norm : Tryd.f43.ntmps = 22 := Tryd.ntmps43

def C.nat_Norm : VC :=
  .seq (.region false [⟨some 2, .mov (.c nil1), none⟩]) (.seq (.region false [⟨some 3, .mov (.t 0), none⟩,
   ⟨some 4, .call F.nat_trim [.t 3], none⟩,
   ⟨some 5, .app 1 8 [.int .u64 0] (.c nil1) (.t 4), none⟩,
   ⟨some 2, .mov (.t 5), none⟩]) .ret)
def R.nat_Norm : List VRes := [.tmp 2]
theorem K.nat_Norm : resCode Tryd.prog Tryd.f46.ntmps (Tryd.f46.body.getD .skip) = C.nat_Norm := by kernel_rfl
theorem Q.nat_Norm : resResults Tryd.prog Tryd.f46.results.toList = some R.nat_Norm := by kernel_rfl
theorem E.nat_Norm : Tryd.prog.funcs[F.nat_Norm]? = some Tryd.f46 := Tryd.func46
theorem B.nat_Norm : Tryd.f46.body = some (Tryd.f46.body.getD .skip) := by kernel_rfl
theorem N.nat_Norm : Tryd.f46.ntmps = 6 := Tryd.ntmps46

def C.div_Quo : VC :=
  .seq (.region false [⟨some 4, .mov (.c nil1), none⟩,
   ⟨some 5, .mov (.c (iv 0)), none⟩]) (.seq (.region false [⟨some 8, .mov (.t 0), none⟩,
   ⟨some 9, .call F.nat_Norm [.t 8], none⟩,
   ⟨some 10, .mov (.t 1), none⟩,
   ⟨some 11, .call F.nat_Norm [.t 10], none⟩,
   ⟨some 0, .mov (.t 9), none⟩,
   ⟨some 1, .mov (.t 11), none⟩]) (.seq (.seq (.region false [⟨some 12, .mov (.t 1), none⟩,
   ⟨some 13, .len (.t 12), none⟩,
   ⟨some 14, .bin .eql false (.t 13) (.c (iv 0)), none⟩]) (.cond (.t 14) (.seq (.region false [⟨some 4, .mov (.c nil1), none⟩,
   ⟨some 5, .mov (.c (iv 30)), none⟩]) .ret) .skip)) (.seq (.region false [⟨some 16, .mov (.t 0), none⟩,
   ⟨some 17, .mov (.t 1), none⟩,
   ⟨some 18, .call F.div_divide [.t 16, .t 17], none⟩,
   ⟨some 15, .mov (.t 18), none⟩,
   ⟨some 19, .ext (.t 15) 0, none⟩,
   ⟨some 20, .ext (.t 15) 1, none⟩,
   ⟨some 6, .mov (.t 19), none⟩,
   ⟨some 7, .mov (.t 20), none⟩]) (.seq (.seq (.region false [⟨some 21, .mov (.t 6), none⟩,
   ⟨some 22, .call F.nat_Length [.t 21], none⟩,
   ⟨some 23, .bin .gtr false (.t 22) (.c (iv 67108864)), none⟩]) (.cond (.t 23) (.seq (.region false [⟨some 4, .mov (.c nil1), none⟩,
   ⟨some 5, .mov (.c (iv 3)), none⟩]) .ret) .skip)) (.seq (.region false [⟨some 24, .mov (.t 6), none⟩,
   ⟨some 4, .mov (.t 24), none⟩,
   ⟨some 5, .mov (.c (iv 0)), none⟩]) .ret)))))
def R.div_Quo : List VRes := [.tmp 4, .tmp 5]
theorem K.div_Quo : resCode Tryd.prog Tryd.f47.ntmps (Tryd.f47.body.getD .skip) = C.div_Quo := by kernel_rfl
theorem Q.div_Quo : resResults Tryd.prog Tryd.f47.results.toList = some R.div_Quo := by kernel_rfl
theorem E.div_Quo : Tryd.prog.funcs[F.div_Quo]? = some Tryd.f47 := Tryd.func47
theorem B.div_Quo : Tryd.f47.body = some (Tryd.f47.body.getD .skip) := by kernel_rfl
theorem N.div_Quo : Tryd.f47.ntmps = 25 := Tryd.ntmps47

def C.rounded_minus : VC :=
  .seq (.region false [⟨some 4, .mov (.c nil1), none⟩]) (.seq (.region false [⟨some 10, .mov (.t 0), none⟩,
   ⟨some 11, .app 1 8 [.int .u64 0] (.c nil1) (.t 10), none⟩,
   ⟨some 5, .mov (.t 11), none⟩]) (.seq (.region false [⟨some 6, .mov (.c (nv 0)), none⟩]) (.seq (.seq (.region false [⟨some 12, .mov (.t 5), none⟩,
   ⟨some 13, .len (.t 12), none⟩,
   ⟨some 14, .mov (.c (iv 0)), none⟩]) (.block 0 (.loop (.seq (.region false [⟨some 15, .bin .lss false (.t 14) (.t 13), none⟩]) (.seq (.cond (.t 15) .skip (.exit 0)) (.seq (.block 1 (.seq (.region false [⟨some 16, .mov (.t 14), none⟩,
   ⟨some 7, .mov (.t 16), none⟩]) (.seq (.region false [⟨some 8, .mov (.c (nv 0)), none⟩]) (.seq (.seq (.region false [⟨some 17, .mov (.t 7), none⟩,
   ⟨some 18, .mov (.t 1), none⟩,
   ⟨some 19, .len (.t 18), none⟩,
   ⟨some 20, .bin .lss false (.t 17) (.t 19), none⟩]) (.cond (.t 20) (.region false [⟨some 21, .mov (.t 1), none⟩,
   ⟨some 22, .mov (.t 7), none⟩,
   ⟨some 23, .ixa 1 (.t 21) (.t 22), none⟩,
   ⟨some 24, .load none (.t 23), none⟩,
   ⟨some 8, .mov (.t 24), none⟩]) .skip)) (.seq (.region false [⟨some 25, .mov (.t 5), none⟩,
   ⟨some 26, .mov (.t 7), none⟩,
   ⟨some 27, .ixa 1 (.t 25) (.t 26), none⟩,
   ⟨some 28, .load none (.t 27), none⟩,
   ⟨some 9, .mov (.t 28), none⟩]) (.seq (.region false [⟨some 29, .mov (.t 5), none⟩,
   ⟨some 30, .mov (.t 7), none⟩,
   ⟨some 31, .mov (.t 9), none⟩,
   ⟨some 32, .mov (.t 8), none⟩,
   ⟨some 33, .bin .sub false (.t 31) (.t 32), none⟩,
   ⟨some 34, .mov (.t 6), none⟩,
   ⟨some 35, .bin .sub false (.t 33) (.t 34), none⟩,
   ⟨some 36, .ixa 1 (.t 29) (.t 30), none⟩,
   ⟨none, .store 1 (.t 36) (.t 35), none⟩]) (.seq (.region false [⟨some 37, .mov (.t 9), none⟩,
   ⟨some 38, .mov (.t 8), none⟩,
   ⟨some 39, .bin .lss false (.t 37) (.t 38), none⟩,
   ⟨some 40, .mov (.t 39), none⟩,
   ⟨some 41, .mov (.t 9), some (40, false)⟩,
   ⟨some 42, .mov (.t 8), some (40, false)⟩,
   ⟨some 43, .bin .eql false (.t 41) (.t 42), some (40, false)⟩,
   ⟨some 44, .mov (.t 43), some (40, false)⟩,
   ⟨some 45, .mov (.t 6), some (44, true)⟩,
   ⟨some 46, .bin .eql false (.t 45) (.c (nv 1)), some (44, true)⟩,
   ⟨some 47, .pick (.t 44) (.t 46) (.c (bv false)), some (40, false)⟩,
   ⟨some 48, .pick (.t 40) (.c (bv true)) (.t 47), none⟩]) (.cond (.t 48) (.region false [⟨some 6, .mov (.c (nv 1)), none⟩]) (.region false [⟨some 6, .mov (.c (nv 0)), none⟩]))))))))) (.region false [⟨some 49, .bin .add false (.t 14) (.c (iv 1)), none⟩,
   ⟨some 14, .mov (.t 49), none⟩]))))))) (.seq (.region false [⟨some 50, .mov (.t 5), none⟩,
   ⟨some 51, .call F.nat_Norm [.t 50], none⟩,
   ⟨some 4, .mov (.t 51), none⟩]) .ret))))
def R.rounded_minus : List VRes := [.tmp 4]
theorem K.rounded_minus : resCode Tryd.prog Tryd.f48.ntmps (Tryd.f48.body.getD .skip) = C.rounded_minus := by kernel_rfl
theorem Q.rounded_minus : resResults Tryd.prog Tryd.f48.results.toList = some R.rounded_minus := by kernel_rfl
theorem E.rounded_minus : Tryd.prog.funcs[F.rounded_minus]? = some Tryd.f48 := Tryd.func48
theorem B.rounded_minus : Tryd.f48.body = some (Tryd.f48.body.getD .skip) := by kernel_rfl
theorem N.rounded_minus : Tryd.f48.ntmps = 52 := Tryd.ntmps48

def C.rounded_times : VC :=
  .seq (.region false [⟨some 4, .mov (.c nil1), none⟩]) (.seq (.region false [⟨some 12, .mov (.t 0), none⟩,
   ⟨some 13, .mov (.t 1), none⟩,
   ⟨some 14, .call F.mul_Mul [.t 12, .t 13], none⟩,
   ⟨some 11, .mov (.t 14), none⟩,
   ⟨some 15, .ext (.t 11) 0, none⟩,
   ⟨some 16, .ext (.t 11) 1, none⟩,
   ⟨some 5, .mov (.t 15), none⟩,
   ⟨some 6, .mov (.t 16), none⟩]) (.seq (.seq (.region false [⟨some 17, .mov (.t 6), none⟩,
   ⟨some 18, .bin .eql false (.t 17) (.c (iv 0)), none⟩]) (.cond (.t 18) (.seq (.region false [⟨some 19, .mov (.t 5), none⟩,
   ⟨some 4, .mov (.t 19), none⟩]) .ret) .skip)) (.seq (.region false [⟨some 7, .mov (.c nil1), none⟩]) (.seq (.seq (.region false [⟨some 20, .mov (.t 1), none⟩,
   ⟨some 21, .len (.t 20), none⟩,
   ⟨some 22, .bin .sub false (.t 21) (.c (iv 1)), none⟩,
   ⟨some 8, .mov (.t 22), none⟩]) (.block 0 (.loop (.seq (.seq (.region false [⟨some 23, .mov (.t 8), none⟩,
   ⟨some 24, .bin .geq false (.t 23) (.c (iv 0)), none⟩]) (.cond (.t 24) .skip (.exit 0))) (.seq (.block 1 (.seq (.region false [⟨some 27, .mov (.t 7), none⟩,
   ⟨some 28, .call F.rounded_left [.t 27, .c (iv 64)], none⟩,
   ⟨some 7, .mov (.t 28), none⟩]) (.seq (.region false [⟨some 30, .mov (.t 0), none⟩,
   ⟨some 31, .mov (.t 1), none⟩,
   ⟨some 32, .mov (.t 8), none⟩,
   ⟨some 33, .ixa 1 (.t 31) (.t 32), none⟩,
   ⟨some 34, .load none (.t 33), none⟩,
   ⟨some 35, .call F.nat_From [.t 34], none⟩,
   ⟨some 36, .call F.mul_Mul [.t 30, .t 35], none⟩,
   ⟨some 29, .mov (.t 36), none⟩,
   ⟨some 37, .ext (.t 29) 0, none⟩,
   ⟨some 38, .ext (.t 29) 1, none⟩,
   ⟨some 9, .mov (.t 37), none⟩,
   ⟨some 10, .mov (.t 38), none⟩]) (.region false [⟨some 39, .mov (.t 7), none⟩,
   ⟨some 40, .mov (.t 9), none⟩,
   ⟨some 41, .call F.rounded_plus [.t 39, .t 40], none⟩,
   ⟨some 7, .mov (.t 41), none⟩])))) (.region false [⟨some 25, .mov (.t 8), none⟩,
   ⟨some 26, .bin .sub false (.t 25) (.c (iv 1)), none⟩,
   ⟨some 8, .mov (.t 26), none⟩])))))) (.seq (.region false [⟨some 42, .mov (.t 7), none⟩,
   ⟨some 4, .mov (.t 42), none⟩]) .ret)))))
def R.rounded_times : List VRes := [.tmp 4]
theorem K.rounded_times : resCode Tryd.prog Tryd.f49.ntmps (Tryd.f49.body.getD .skip) = C.rounded_times := by kernel_rfl
theorem Q.rounded_times : resResults Tryd.prog Tryd.f49.results.toList = some R.rounded_times := by kernel_rfl
theorem E.rounded_times : Tryd.prog.funcs[F.rounded_times]? = some Tryd.f49 := Tryd.func49
theorem B.rounded_times : Tryd.f49.body = some (Tryd.f49.body.getD .skip) := by kernel_rfl
theorem N.rounded_times : Tryd.f49.ntmps = 43 := Tryd.ntmps49

def C.nat_Compare : VC :=
  .seq (.region false [⟨some 4, .mov (.c (iv 0)), none⟩]) (.seq (.region false [⟨some 6, .mov (.t 0), none⟩,
   ⟨some 7, .call F.nat_trim [.t 6], none⟩,
   ⟨some 8, .mov (.t 1), none⟩,
   ⟨some 9, .call F.nat_trim [.t 8], none⟩,
   ⟨some 0, .mov (.t 7), none⟩,
   ⟨some 1, .mov (.t 9), none⟩]) (.seq (.seq (.region false [⟨some 10, .mov (.t 0), none⟩,
   ⟨some 11, .len (.t 10), none⟩,
   ⟨some 12, .mov (.t 1), none⟩,
   ⟨some 13, .len (.t 12), none⟩,
   ⟨some 14, .bin .neq false (.t 11) (.t 13), none⟩]) (.cond (.t 14) (.seq (.seq (.region false [⟨some 15, .mov (.t 0), none⟩,
   ⟨some 16, .len (.t 15), none⟩,
   ⟨some 17, .mov (.t 1), none⟩,
   ⟨some 18, .len (.t 17), none⟩,
   ⟨some 19, .bin .lss false (.t 16) (.t 18), none⟩]) (.cond (.t 19) (.seq (.region false [⟨some 4, .mov (.c (iv (-1))), none⟩]) .ret) .skip)) (.seq (.region false [⟨some 4, .mov (.c (iv 1)), none⟩]) .ret)) .skip)) (.seq (.seq (.region false [⟨some 20, .mov (.t 0), none⟩,
   ⟨some 21, .len (.t 20), none⟩,
   ⟨some 22, .bin .sub false (.t 21) (.c (iv 1)), none⟩,
   ⟨some 5, .mov (.t 22), none⟩]) (.block 0 (.loop (.seq (.seq (.region false [⟨some 23, .mov (.t 5), none⟩,
   ⟨some 24, .bin .geq false (.t 23) (.c (iv 0)), none⟩]) (.cond (.t 24) .skip (.exit 0))) (.seq (.block 1 (.seq (.seq (.region true [⟨some 27, .mov (.t 0), none⟩,
   ⟨some 28, .mov (.t 5), none⟩,
   ⟨some 29, .ixa 1 (.t 27) (.t 28), none⟩,
   ⟨some 30, .load none (.t 29), none⟩,
   ⟨some 31, .mov (.t 1), none⟩,
   ⟨some 32, .mov (.t 5), none⟩,
   ⟨some 33, .ixa 1 (.t 31) (.t 32), none⟩,
   ⟨some 34, .load none (.t 33), none⟩,
   ⟨some 35, .bin .lss false (.t 30) (.t 34), none⟩]) (.cond (.t 35) (.seq (.region false [⟨some 4, .mov (.c (iv (-1))), none⟩]) .ret) .skip)) (.seq (.region true [⟨some 36, .mov (.t 0), none⟩,
   ⟨some 37, .mov (.t 5), none⟩,
   ⟨some 38, .ixa 1 (.t 36) (.t 37), none⟩,
   ⟨some 39, .load none (.t 38), none⟩,
   ⟨some 40, .mov (.t 1), none⟩,
   ⟨some 41, .mov (.t 5), none⟩,
   ⟨some 42, .ixa 1 (.t 40) (.t 41), none⟩,
   ⟨some 43, .load none (.t 42), none⟩,
   ⟨some 44, .bin .gtr false (.t 39) (.t 43), none⟩]) (.cond (.t 44) (.seq (.region false [⟨some 4, .mov (.c (iv 1)), none⟩]) .ret) .skip)))) (.region false [⟨some 25, .mov (.t 5), none⟩,
   ⟨some 26, .bin .sub false (.t 25) (.c (iv 1)), none⟩,
   ⟨some 5, .mov (.t 26), none⟩])))))) (.seq (.region false [⟨some 4, .mov (.c (iv 0)), none⟩]) .ret))))
def R.nat_Compare : List VRes := [.tmp 4]
theorem K.nat_Compare : resCode Tryd.prog Tryd.f50.ntmps (Tryd.f50.body.getD .skip) = C.nat_Compare := by kernel_rfl
theorem Q.nat_Compare : resResults Tryd.prog Tryd.f50.results.toList = some R.nat_Compare := by kernel_rfl
theorem E.nat_Compare : Tryd.prog.funcs[F.nat_Compare]? = some Tryd.f50 := Tryd.func50
theorem B.nat_Compare : Tryd.f50.body = some (Tryd.f50.body.getD .skip) := by kernel_rfl
theorem N.nat_Compare : Tryd.f50.ntmps = 45 := Tryd.ntmps50

def C.nat_trim : VC :=
  .seq (.region false [⟨some 2, .mov (.c nil1), none⟩]) (.seq (.block 0 (.loop (.seq (.seq (.region false [⟨some 3, .mov (.t 0), none⟩,
   ⟨some 4, .len (.t 3), none⟩,
   ⟨some 5, .bin .gtr false (.t 4) (.c (iv 0)), none⟩,
   ⟨some 6, .mov (.t 5), none⟩,
   ⟨some 7, .mov (.t 0), some (6, true)⟩,
   ⟨some 8, .mov (.t 0), some (6, true)⟩,
   ⟨some 9, .len (.t 8), some (6, true)⟩,
   ⟨some 10, .bin .sub false (.t 9) (.c (iv 1)), some (6, true)⟩,
   ⟨some 11, .ixa 1 (.t 7) (.t 10), some (6, true)⟩,
   ⟨some 12, .load none (.t 11), some (6, true)⟩,
   ⟨some 13, .bin .eql false (.t 12) (.c (nv 0)), some (6, true)⟩,
   ⟨some 14, .pick (.t 6) (.t 13) (.c (bv false)), none⟩]) (.cond (.t 14) .skip (.exit 0))) (.block 1 (.region false [⟨some 15, .mov (.t 0), none⟩,
   ⟨some 16, .mov (.t 0), none⟩,
   ⟨some 17, .len (.t 16), none⟩,
   ⟨some 18, .bin .sub false (.t 17) (.c (iv 1)), none⟩,
   ⟨some 19, .slc 1 (.t 15) none (some (.t 18)) none, none⟩,
   ⟨some 0, .mov (.t 19), none⟩]))))) (.seq (.region false [⟨some 20, .mov (.t 0), none⟩,
   ⟨some 2, .mov (.t 20), none⟩]) .ret))
def R.nat_trim : List VRes := [.tmp 2]
theorem K.nat_trim : resCode Tryd.prog Tryd.f55.ntmps (Tryd.f55.body.getD .skip) = C.nat_trim := by kernel_rfl
theorem Q.nat_trim : resResults Tryd.prog Tryd.f55.results.toList = some R.nat_trim := by kernel_rfl
theorem E.nat_trim : Tryd.prog.funcs[F.nat_trim]? = some Tryd.f55 := Tryd.func55
theorem B.nat_trim : Tryd.f55.body = some (Tryd.f55.body.getD .skip) := by kernel_rfl
theorem N.nat_trim : Tryd.f55.ntmps = 21 := Tryd.ntmps55

def C.bits_Len64 : VC :=
  .seq (.region false [⟨some 2, .mov (.c (iv 0)), none⟩]) (.seq (.seq (.region false [⟨some 3, .mov (.t 0), none⟩,
   ⟨some 4, .bin .geq false (.t 3) (.c (nv 4294967296)), none⟩]) (.cond (.t 4) (.seq (.region false [⟨some 5, .mov (.t 0), none⟩,
   ⟨some 6, .bin .shr false (.t 5) (.c (nv 32)), none⟩,
   ⟨some 0, .mov (.t 6), none⟩]) (.region false [⟨some 2, .mov (.c (iv 32)), none⟩])) .skip)) (.seq (.seq (.region false [⟨some 7, .mov (.t 0), none⟩,
   ⟨some 8, .bin .geq false (.t 7) (.c (nv 65536)), none⟩]) (.cond (.t 8) (.seq (.region false [⟨some 9, .mov (.t 0), none⟩,
   ⟨some 10, .bin .shr false (.t 9) (.c (nv 16)), none⟩,
   ⟨some 0, .mov (.t 10), none⟩]) (.region false [⟨some 11, .mov (.t 2), none⟩,
   ⟨some 12, .bin .add false (.t 11) (.c (iv 16)), none⟩,
   ⟨some 2, .mov (.t 12), none⟩])) .skip)) (.seq (.seq (.region false [⟨some 13, .mov (.t 0), none⟩,
   ⟨some 14, .bin .geq false (.t 13) (.c (nv 256)), none⟩]) (.cond (.t 14) (.seq (.region false [⟨some 15, .mov (.t 0), none⟩,
   ⟨some 16, .bin .shr false (.t 15) (.c (nv 8)), none⟩,
   ⟨some 0, .mov (.t 16), none⟩]) (.region false [⟨some 17, .mov (.t 2), none⟩,
   ⟨some 18, .bin .add false (.t 17) (.c (iv 8)), none⟩,
   ⟨some 2, .mov (.t 18), none⟩])) .skip)) (.seq (.region false [⟨some 19, .mov (.t 2), none⟩,
   ⟨some 20, .mov (.t 0), none⟩,
   ⟨some 21, .conv .u8 (.t 20), none⟩,
   ⟨some 22, .six (.c (.lit (.string ⟨#[0, 1, 2, 2, 3, 3, 3, 3, 4, 4, 4, 4, 4, 4, 4, 4, 5, 5, 5, 5, 5, 5, 5, 5, 5, 5, 5, 5, 5, 5, 5, 5, 6, 6, 6, 6, 6, 6, 6, 6, 6, 6, 6, 6, 6, 6, 6, 6, 6, 6, 6, 6, 6, 6, 6, 6, 6, 6, 6, 6, 6, 6, 6, 6, 7, 7, 7, 7, 7, 7, 7, 7, 7, 7, 7, 7, 7, 7, 7, 7, 7, 7, 7, 7, 7, 7, 7, 7, 7, 7, 7, 7, 7, 7, 7, 7, 7, 7, 7, 7, 7, 7, 7, 7, 7, 7, 7, 7, 7, 7, 7, 7, 7, 7, 7, 7, 7, 7, 7, 7, 7, 7, 7, 7, 7, 7, 7, 7, 8, 8, 8, 8, 8, 8, 8, 8, 8, 8, 8, 8, 8, 8, 8, 8, 8, 8, 8, 8, 8, 8, 8, 8, 8, 8, 8, 8, 8, 8, 8, 8, 8, 8, 8, 8, 8, 8, 8, 8, 8, 8, 8, 8, 8, 8, 8, 8, 8, 8, 8, 8, 8, 8, 8, 8, 8, 8, 8, 8, 8, 8, 8, 8, 8, 8, 8, 8, 8, 8, 8, 8, 8, 8, 8, 8, 8, 8, 8, 8, 8, 8, 8, 8, 8, 8, 8, 8, 8, 8, 8, 8, 8, 8, 8, 8, 8, 8, 8, 8, 8, 8, 8, 8, 8, 8, 8, 8, 8, 8, 8, 8, 8, 8, 8, 8, 8, 8, 8, 8, 8, 8, 8, 8, 8, 8, 8, 8]⟩))) (.t 21), none⟩,
   ⟨some 23, .conv .i64 (.t 22), none⟩,
   ⟨some 24, .bin .add false (.t 19) (.t 23), none⟩,
   ⟨some 2, .mov (.t 24), none⟩]) .ret))))
def R.bits_Len64 : List VRes := [.tmp 2]
theorem K.bits_Len64 : resCode Tryd.prog Tryd.f56.ntmps (Tryd.f56.body.getD .skip) = C.bits_Len64 := by kernel_rfl
theorem Q.bits_Len64 : resResults Tryd.prog Tryd.f56.results.toList = some R.bits_Len64 := by kernel_rfl
theorem E.bits_Len64 : Tryd.prog.funcs[F.bits_Len64]? = some Tryd.f56 := Tryd.func56
theorem B.bits_Len64 : Tryd.f56.body = some (Tryd.f56.body.getD .skip) := by kernel_rfl
theorem N.bits_Len64 : Tryd.f56.ntmps = 25 := Tryd.ntmps56

def C.rounded_way : VC :=
  .seq (.region false [⟨some 2, .mov (.c (.lit .nilFunc)), none⟩]) (.seq (.seq (.region false [⟨some 3, .mov (.t 0), none⟩]) (.block 0 (.seq (.region false [⟨some 5, .bin .eql false (.t 3) (.c (iv 0)), none⟩,
   ⟨some 4, .mov (.t 5), none⟩]) (.cond (.t 4) (.seq (.region false [⟨some 2, .mov (.c (.lit (.func (.func F.rounded_way_1) #[] #[]))), none⟩]) .ret) (.seq (.region false [⟨some 7, .bin .eql false (.t 3) (.c (iv 1)), none⟩,
   ⟨some 6, .mov (.t 7), none⟩]) (.cond (.t 6) (.seq (.region false [⟨some 2, .mov (.c (.lit (.func (.func F.rounded_way_2) #[] #[]))), none⟩]) .ret) .skip)))))) (.seq (.region false [⟨some 2, .mov (.c (.lit (.func (.func F.rounded_way_3) #[] #[]))), none⟩]) .ret))
def R.rounded_way : List VRes := [.tmp 2]
theorem K.rounded_way : resCode Tryd.prog Tryd.f57.ntmps (Tryd.f57.body.getD .skip) = C.rounded_way := by kernel_rfl
theorem Q.rounded_way : resResults Tryd.prog Tryd.f57.results.toList = some R.rounded_way := by kernel_rfl
theorem E.rounded_way : Tryd.prog.funcs[F.rounded_way]? = some Tryd.f57 := Tryd.func57
theorem B.rounded_way : Tryd.f57.body = some (Tryd.f57.body.getD .skip) := by kernel_rfl
theorem N.rounded_way : Tryd.f57.ntmps = 8 := Tryd.ntmps57

def C.nat_Add : VC :=
  .seq (.region false [⟨some 4, .mov (.c nil1), none⟩,
   ⟨some 5, .mov (.c (iv 0)), none⟩]) (.seq (.region false [⟨some 10, .mov (.t 0), none⟩,
   ⟨some 11, .call F.nat_trim [.t 10], none⟩,
   ⟨some 12, .mov (.t 1), none⟩,
   ⟨some 13, .call F.nat_trim [.t 12], none⟩,
   ⟨some 0, .mov (.t 11), none⟩,
   ⟨some 1, .mov (.t 13), none⟩]) (.seq (.seq (.region false [⟨some 14, .mov (.t 0), none⟩,
   ⟨some 15, .len (.t 14), none⟩,
   ⟨some 16, .mov (.t 1), none⟩,
   ⟨some 17, .len (.t 16), none⟩,
   ⟨some 18, .bin .lss false (.t 15) (.t 17), none⟩]) (.cond (.t 18) (.region false [⟨some 19, .mov (.t 1), none⟩,
   ⟨some 20, .mov (.t 0), none⟩,
   ⟨some 0, .mov (.t 19), none⟩,
   ⟨some 1, .mov (.t 20), none⟩]) .skip)) (.seq (.region false [⟨some 21, .mov (.t 0), none⟩,
   ⟨some 22, .len (.t 21), none⟩,
   ⟨some 23, .bin .add false (.t 22) (.c (iv 1)), none⟩,
   ⟨some 24, .mk [.int .u64 0] 8 (.t 23) (.t 23), none⟩,
   ⟨some 6, .mov (.t 24), none⟩]) (.seq (.region false [⟨some 7, .mov (.c (nv 0)), none⟩]) (.seq (.seq (.region false [⟨some 25, .mov (.t 0), none⟩,
   ⟨some 26, .len (.t 25), none⟩,
   ⟨some 27, .mov (.c (iv 0)), none⟩]) (.block 0 (.loop (.seq (.region false [⟨some 28, .bin .lss false (.t 27) (.t 26), none⟩]) (.seq (.cond (.t 28) .skip (.exit 0)) (.seq (.block 1 (.seq (.region false [⟨some 29, .mov (.t 27), none⟩,
   ⟨some 8, .mov (.t 29), none⟩]) (.seq (.region false [⟨some 9, .mov (.c (nv 0)), none⟩]) (.seq (.seq (.region false [⟨some 30, .mov (.t 8), none⟩,
   ⟨some 31, .mov (.t 1), none⟩,
   ⟨some 32, .len (.t 31), none⟩,
   ⟨some 33, .bin .lss false (.t 30) (.t 32), none⟩]) (.cond (.t 33) (.region false [⟨some 34, .mov (.t 1), none⟩,
   ⟨some 35, .mov (.t 8), none⟩,
   ⟨some 36, .ixa 1 (.t 34) (.t 35), none⟩,
   ⟨some 37, .load none (.t 36), none⟩,
   ⟨some 9, .mov (.t 37), none⟩]) .skip)) (.region false [⟨some 39, .mov (.t 6), none⟩,
   ⟨some 40, .mov (.t 8), none⟩,
   ⟨some 41, .mov (.t 0), none⟩,
   ⟨some 42, .mov (.t 8), none⟩,
   ⟨some 43, .ixa 1 (.t 41) (.t 42), none⟩,
   ⟨some 44, .load none (.t 43), none⟩,
   ⟨some 45, .mov (.t 9), none⟩,
   ⟨some 46, .mov (.t 7), none⟩,
   ⟨some 47, .ext64 false (.t 44) (.t 45) (.t 46), none⟩,
   ⟨some 38, .mov (.t 47), none⟩,
   ⟨some 48, .ext (.t 38) 0, none⟩,
   ⟨some 49, .ext (.t 38) 1, none⟩,
   ⟨some 50, .ixa 1 (.t 39) (.t 40), none⟩,
   ⟨none, .store 1 (.t 50) (.t 48), none⟩,
   ⟨some 7, .mov (.t 49), none⟩]))))) (.region false [⟨some 51, .bin .add false (.t 27) (.c (iv 1)), none⟩,
   ⟨some 27, .mov (.t 51), none⟩]))))))) (.seq (.region false [⟨some 52, .mov (.t 6), none⟩,
   ⟨some 53, .mov (.t 0), none⟩,
   ⟨some 54, .len (.t 53), none⟩,
   ⟨some 55, .mov (.t 7), none⟩,
   ⟨some 56, .ixa 1 (.t 52) (.t 54), none⟩,
   ⟨none, .store 1 (.t 56) (.t 55), none⟩]) (.seq (.region false [⟨some 57, .mov (.t 6), none⟩,
   ⟨some 58, .call F.nat_told [.t 57], none⟩,
   ⟨some 59, .ext (.t 58) 0, none⟩,
   ⟨some 60, .ext (.t 58) 1, none⟩,
   ⟨some 4, .mov (.t 59), none⟩,
   ⟨some 5, .mov (.t 60), none⟩]) .ret)))))))
def R.nat_Add : List VRes := [.tmp 4, .tmp 5]
theorem K.nat_Add : resCode Tryd.prog Tryd.f58.ntmps (Tryd.f58.body.getD .skip) = C.nat_Add := by kernel_rfl
theorem Q.nat_Add : resResults Tryd.prog Tryd.f58.results.toList = some R.nat_Add := by kernel_rfl
theorem E.nat_Add : Tryd.prog.funcs[F.nat_Add]? = some Tryd.f58 := Tryd.func58
theorem B.nat_Add : Tryd.f58.body = some (Tryd.f58.body.getD .skip) := by kernel_rfl
theorem N.nat_Add : Tryd.f58.ntmps = 61 := Tryd.ntmps58

def C.nat_From : VC :=
  .seq (.region false [⟨some 2, .mov (.c nil1), none⟩]) (.seq (.seq (.region false [⟨some 3, .mov (.t 0), none⟩,
   ⟨some 4, .bin .eql false (.t 3) (.c (nv 0)), none⟩]) (.cond (.t 4) (.seq (.region false [⟨some 2, .mov (.c nil1), none⟩]) .ret) .skip)) (.seq (.region false [⟨some 5, .mov (.t 0), none⟩,
   ⟨some 6, .bsl true 1 1 [.int .u64 0] [(0, (1, .t 5))], none⟩,
   ⟨some 2, .mov (.t 6), none⟩]) .ret))
def R.nat_From : List VRes := [.tmp 2]
theorem K.nat_From : resCode Tryd.prog Tryd.f59.ntmps (Tryd.f59.body.getD .skip) = C.nat_From := by kernel_rfl
theorem Q.nat_From : resResults Tryd.prog Tryd.f59.results.toList = some R.nat_From := by kernel_rfl
theorem E.nat_From : Tryd.prog.funcs[F.nat_From]? = some Tryd.f59 := Tryd.func59
theorem B.nat_From : Tryd.f59.body = some (Tryd.f59.body.getD .skip) := by kernel_rfl
theorem N.nat_From : Tryd.f59.ntmps = 7 := Tryd.ntmps59

def C.bits_TrailingZeros64 : VC :=
  .seq (.region false [⟨some 2, .mov (.c (iv 0)), none⟩]) (.seq (.seq (.region false [⟨some 3, .mov (.t 0), none⟩,
   ⟨some 4, .bin .eql false (.t 3) (.c (nv 0)), none⟩]) (.cond (.t 4) (.seq (.region false [⟨some 2, .mov (.c (iv 64)), none⟩]) .ret) .skip)) (.seq (.region false [⟨some 5, .mov (.t 0), none⟩,
   ⟨some 6, .mov (.t 0), none⟩,
   ⟨some 7, .un .neg (.t 6), none⟩,
   ⟨some 8, .bin .and false (.t 5) (.t 7), none⟩,
   ⟨some 9, .bin .mul false (.t 8) (.c (nv 285870213051353865)), none⟩,
   ⟨some 10, .bin .shr false (.t 9) (.c (nv 58)), none⟩,
   ⟨some 11, .axa 64 1 (.c (.gptr 0 0)) (.t 10), none⟩,
   ⟨some 12, .load none (.t 11), none⟩,
   ⟨some 13, .conv .i64 (.t 12), none⟩,
   ⟨some 2, .mov (.t 13), none⟩]) .ret))
def R.bits_TrailingZeros64 : List VRes := [.tmp 2]
theorem K.bits_TrailingZeros64 : resCode Tryd.prog Tryd.f60.ntmps (Tryd.f60.body.getD .skip) = C.bits_TrailingZeros64 := by kernel_rfl
theorem Q.bits_TrailingZeros64 : resResults Tryd.prog Tryd.f60.results.toList = some R.bits_TrailingZeros64 := by kernel_rfl
theorem E.bits_TrailingZeros64 : Tryd.prog.funcs[F.bits_TrailingZeros64]? = some Tryd.f60 := Tryd.func60
theorem B.bits_TrailingZeros64 : Tryd.f60.body = some (Tryd.f60.body.getD .skip) := by kernel_rfl
theorem N.bits_TrailingZeros64 : Tryd.f60.ntmps = 14 := Tryd.ntmps60

def C.roots_Root : VC :=
  .seq (.region false [⟨some 4, .mov (.c nil1), none⟩,
   ⟨some 5, .mov (.c nil1), none⟩,
   ⟨some 6, .mov (.c (iv 0)), none⟩]) (.seq (.seq (.region false [⟨some 11, .mov (.t 1), none⟩,
   ⟨some 12, .bin .lss false (.t 11) (.c (iv 1)), none⟩]) (.cond (.t 12) (.seq (.region false [⟨some 4, .mov (.c nil1), none⟩,
   ⟨some 5, .mov (.c nil1), none⟩,
   ⟨some 6, .mov (.c (iv 40)), none⟩]) .ret) .skip)) (.seq (.region false [⟨some 14, .mov (.t 0), none⟩,
   ⟨some 15, .call F.roots_fits [.t 14], none⟩,
   ⟨some 13, .mov (.t 15), none⟩,
   ⟨some 16, .ext (.t 13) 0, none⟩,
   ⟨some 17, .ext (.t 13) 1, none⟩,
   ⟨some 0, .mov (.t 16), none⟩,
   ⟨some 7, .mov (.t 17), none⟩]) (.seq (.seq (.region false [⟨some 18, .mov (.t 7), none⟩,
   ⟨some 19, .bin .neq false (.t 18) (.c (iv 0)), none⟩]) (.cond (.t 19) (.seq (.region false [⟨some 20, .mov (.t 7), none⟩,
   ⟨some 4, .mov (.c nil1), none⟩,
   ⟨some 5, .mov (.c nil1), none⟩,
   ⟨some 6, .mov (.t 20), none⟩]) .ret) .skip)) (.seq (.seq (.region false [⟨some 21, .mov (.t 1), none⟩,
   ⟨some 22, .bin .eql false (.t 21) (.c (iv 1)), none⟩,
   ⟨some 23, .mov (.t 22), none⟩,
   ⟨some 24, .mov (.t 0), some (23, false)⟩,
   ⟨some 25, .call F.nat_Length [.t 24], some (23, false)⟩,
   ⟨some 26, .bin .eql false (.t 25) (.c (iv 0)), some (23, false)⟩,
   ⟨some 27, .pick (.t 23) (.c (bv true)) (.t 26), none⟩]) (.cond (.t 27) (.seq (.region false [⟨some 28, .mov (.t 0), none⟩,
   ⟨some 4, .mov (.t 28), none⟩,
   ⟨some 5, .mov (.c nil1), none⟩,
   ⟨some 6, .mov (.c (iv 0)), none⟩]) .ret) .skip)) (.seq (.region false [⟨some 29, .mov (.t 0), none⟩,
   ⟨some 30, .mov (.t 1), none⟩,
   ⟨some 31, .call F.roots_newton [.t 29, .t 30], none⟩,
   ⟨some 8, .mov (.t 31), none⟩]) (.seq (.region false [⟨some 33, .mov (.t 8), none⟩,
   ⟨some 34, .mov (.t 1), none⟩,
   ⟨some 35, .call F.mul_Pow [.t 33, .t 34], none⟩,
   ⟨some 32, .mov (.t 35), none⟩,
   ⟨some 36, .ext (.t 32) 0, none⟩,
   ⟨some 37, .ext (.t 32) 1, none⟩,
   ⟨some 9, .mov (.t 36), none⟩,
   ⟨some 10, .mov (.t 37), none⟩]) (.seq (.region false [⟨some 38, .mov (.t 8), none⟩,
   ⟨some 39, .mov (.t 0), none⟩,
   ⟨some 40, .mov (.t 9), none⟩,
   ⟨some 41, .call F.roots_less [.t 39, .t 40], none⟩,
   ⟨some 4, .mov (.t 38), none⟩,
   ⟨some 5, .mov (.t 41), none⟩,
   ⟨some 6, .mov (.c (iv 0)), none⟩]) .ret)))))))
def R.roots_Root : List VRes := [.tmp 4, .tmp 5, .tmp 6]
theorem K.roots_Root : resCode Tryd.prog Tryd.f61.ntmps (Tryd.f61.body.getD .skip) = C.roots_Root := by kernel_rfl
theorem Q.roots_Root : resResults Tryd.prog Tryd.f61.results.toList = some R.roots_Root := by kernel_rfl
theorem E.roots_Root : Tryd.prog.funcs[F.roots_Root]? = some Tryd.f61 := Tryd.func61
theorem B.roots_Root : Tryd.f61.body = some (Tryd.f61.body.getD .skip) := by kernel_rfl
theorem N.roots_Root : Tryd.f61.ntmps = 42 := Tryd.ntmps61

def C.surdref01_Num_Limbs : VC :=
  .seq (.region false [⟨some 2, .mov (.c nil1), none⟩]) (.seq (.region false [⟨some 3, .mov (.c nil1), none⟩]) (.seq (.seq (.region false [⟨some 4, .mov (.c (iv 0)), none⟩]) (.block 0 (.loop (.seq (.seq (.region false [⟨some 6, .mov (.t 4), none⟩,
   ⟨some 7, .mov (.t 0), none⟩,
   ⟨some 8, .len (.t 7), none⟩,
   ⟨some 9, .bin .lss false (.t 6) (.t 8), none⟩]) (.cond (.t 9) .skip (.exit 0))) (.seq (.block 1 (.seq (.region false [⟨some 12, .mov (.t 0), none⟩,
   ⟨some 13, .mov (.t 4), none⟩,
   ⟨some 14, .ixa 1 (.t 12) (.t 13), none⟩,
   ⟨some 15, .load none (.t 14), none⟩,
   ⟨some 5, .mov (.t 15), none⟩]) (.seq (.seq (.region false [⟨some 16, .mov (.t 4), none⟩,
   ⟨some 17, .bin .add false (.t 16) (.c (iv 1)), none⟩,
   ⟨some 18, .mov (.t 0), none⟩,
   ⟨some 19, .len (.t 18), none⟩,
   ⟨some 20, .bin .lss false (.t 17) (.t 19), none⟩]) (.cond (.t 20) (.region false [⟨some 21, .mov (.t 5), none⟩,
   ⟨some 22, .mov (.t 0), none⟩,
   ⟨some 23, .mov (.t 4), none⟩,
   ⟨some 24, .bin .add false (.t 23) (.c (iv 1)), none⟩,
   ⟨some 25, .ixa 1 (.t 22) (.t 24), none⟩,
   ⟨some 26, .load none (.t 25), none⟩,
   ⟨some 27, .bin .mul false (.t 26) (.c (nv 4294967296)), none⟩,
   ⟨some 28, .bin .add false (.t 21) (.t 27), none⟩,
   ⟨some 5, .mov (.t 28), none⟩]) .skip)) (.region false [⟨some 29, .mov (.t 3), none⟩,
   ⟨some 30, .mov (.t 5), none⟩,
   ⟨some 31, .bsl true 1 1 [.int .u64 0] [(0, (1, .t 30))], none⟩,
   ⟨some 32, .app 1 8 [.int .u64 0] (.t 29) (.t 31), none⟩,
   ⟨some 3, .mov (.t 32), none⟩])))) (.region false [⟨some 10, .mov (.t 4), none⟩,
   ⟨some 11, .bin .add false (.t 10) (.c (iv 2)), none⟩,
   ⟨some 4, .mov (.t 11), none⟩])))))) (.seq (.region false [⟨some 33, .mov (.t 3), none⟩,
   ⟨some 2, .mov (.t 33), none⟩]) .ret)))
def R.surdref01_Num_Limbs : List VRes := [.tmp 2]
theorem K.surdref01_Num_Limbs : resCode Tryd.prog Tryd.f62.ntmps (Tryd.f62.body.getD .skip) = C.surdref01_Num_Limbs := by kernel_rfl
theorem Q.surdref01_Num_Limbs : resResults Tryd.prog Tryd.f62.results.toList = some R.surdref01_Num_Limbs := by kernel_rfl
theorem E.surdref01_Num_Limbs : Tryd.prog.funcs[F.surdref01_Num_Limbs]? = some Tryd.f62 := Tryd.func62
theorem B.surdref01_Num_Limbs : Tryd.f62.body = some (Tryd.f62.body.getD .skip) := by kernel_rfl
theorem N.surdref01_Num_Limbs : Tryd.f62.ntmps = 34 := Tryd.ntmps62

def C.div_divide : VC :=
  .seq (.region false [⟨some 4, .mov (.c nil1), none⟩,
   ⟨some 5, .mov (.c nil1), none⟩]) (.seq (.seq (.region false [⟨some 15, .mov (.t 0), none⟩,
   ⟨some 16, .mov (.t 1), none⟩,
   ⟨some 17, .call F.nat_Compare [.t 15, .t 16], none⟩,
   ⟨some 18, .bin .lss false (.t 17) (.c (iv 0)), none⟩]) (.cond (.t 18) (.seq (.region false [⟨some 19, .mov (.t 0), none⟩,
   ⟨some 4, .mov (.c nil1), none⟩,
   ⟨some 5, .mov (.t 19), none⟩]) .ret) .skip)) (.seq (.seq (.region false [⟨some 20, .mov (.t 1), none⟩,
   ⟨some 21, .len (.t 20), none⟩,
   ⟨some 22, .bin .eql false (.t 21) (.c (iv 1)), none⟩]) (.cond (.t 22) (.seq (.region false [⟨some 23, .mov (.t 0), none⟩,
   ⟨some 24, .len (.t 23), none⟩,
   ⟨some 25, .mk [.int .u64 0] 8 (.t 24) (.t 24), none⟩,
   ⟨some 6, .mov (.t 25), none⟩,
   ⟨some 7, .mov (.c (nv 0)), none⟩]) (.seq (.seq (.region false [⟨some 26, .mov (.t 0), none⟩,
   ⟨some 27, .len (.t 26), none⟩,
   ⟨some 28, .bin .sub false (.t 27) (.c (iv 1)), none⟩,
   ⟨some 8, .mov (.t 28), none⟩]) (.block 0 (.loop (.seq (.seq (.region false [⟨some 29, .mov (.t 8), none⟩,
   ⟨some 30, .bin .geq false (.t 29) (.c (iv 0)), none⟩]) (.cond (.t 30) .skip (.exit 0))) (.seq (.block 1 (.region true [⟨some 34, .mov (.t 6), none⟩,
   ⟨some 35, .mov (.t 8), none⟩,
   ⟨some 36, .mov (.t 7), none⟩,
   ⟨some 37, .mov (.t 0), none⟩,
   ⟨some 38, .mov (.t 8), none⟩,
   ⟨some 39, .ixa 1 (.t 37) (.t 38), none⟩,
   ⟨some 40, .load none (.t 39), none⟩,
   ⟨some 41, .mov (.t 1), none⟩,
   ⟨some 42, .ixa 1 (.t 41) (.c (iv 0)), none⟩,
   ⟨some 43, .load none (.t 42), none⟩,
   ⟨some 44, .call F.bits_Div64 [.t 36, .t 40, .t 43], none⟩,
   ⟨some 33, .mov (.t 44), none⟩,
   ⟨some 45, .ext (.t 33) 0, none⟩,
   ⟨some 46, .ext (.t 33) 1, none⟩,
   ⟨some 47, .ixa 1 (.t 34) (.t 35), none⟩,
   ⟨none, .store 1 (.t 47) (.t 45), none⟩,
   ⟨some 7, .mov (.t 46), none⟩])) (.region false [⟨some 31, .mov (.t 8), none⟩,
   ⟨some 32, .bin .sub false (.t 31) (.c (iv 1)), none⟩,
   ⟨some 8, .mov (.t 32), none⟩])))))) (.seq (.region false [⟨some 48, .mov (.t 6), none⟩,
   ⟨some 49, .call F.nat_Norm [.t 48], none⟩,
   ⟨some 50, .mov (.t 7), none⟩,
   ⟨some 51, .call F.nat_From [.t 50], none⟩,
   ⟨some 4, .mov (.t 49), none⟩,
   ⟨some 5, .mov (.t 51), none⟩]) .ret))) .skip)) (.seq (.region false [⟨some 52, .mov (.t 1), none⟩,
   ⟨some 53, .mov (.t 1), none⟩,
   ⟨some 54, .len (.t 53), none⟩,
   ⟨some 55, .bin .sub false (.t 54) (.c (iv 1)), none⟩,
   ⟨some 56, .ixa 1 (.t 52) (.t 55), none⟩,
   ⟨some 57, .load none (.t 56), none⟩,
   ⟨some 58, .call F.bits_LeadingZeros64 [.t 57], none⟩,
   ⟨some 59, .conv .u64 (.t 58), none⟩,
   ⟨some 9, .mov (.t 59), none⟩]) (.seq (.region true [⟨some 60, .mov (.t 0), none⟩,
   ⟨some 61, .mov (.t 9), none⟩,
   ⟨some 62, .call F.div_up [.t 60, .t 61], none⟩,
   ⟨some 63, .mov (.t 1), none⟩,
   ⟨some 64, .mov (.t 9), none⟩,
   ⟨some 65, .call F.div_up [.t 63, .t 64], none⟩,
   ⟨some 66, .mov (.t 1), none⟩,
   ⟨some 67, .len (.t 66), none⟩,
   ⟨some 68, .slc 1 (.t 65) none (some (.t 67)) none, none⟩,
   ⟨some 10, .mov (.t 62), none⟩,
   ⟨some 11, .mov (.t 68), none⟩]) (.seq (.region false [⟨some 69, .mov (.t 11), none⟩,
   ⟨some 70, .len (.t 69), none⟩,
   ⟨some 12, .mov (.t 70), none⟩]) (.seq (.region false [⟨some 71, .mov (.t 0), none⟩,
   ⟨some 72, .len (.t 71), none⟩,
   ⟨some 73, .mov (.t 12), none⟩,
   ⟨some 74, .bin .sub false (.t 72) (.t 73), none⟩,
   ⟨some 75, .bin .add false (.t 74) (.c (iv 1)), none⟩,
   ⟨some 76, .mk [.int .u64 0] 8 (.t 75) (.t 75), none⟩,
   ⟨some 13, .mov (.t 76), none⟩]) (.seq (.seq (.region false [⟨some 77, .mov (.t 0), none⟩,
   ⟨some 78, .len (.t 77), none⟩,
   ⟨some 79, .mov (.t 12), none⟩,
   ⟨some 80, .bin .sub false (.t 78) (.t 79), none⟩,
   ⟨some 14, .mov (.t 80), none⟩]) (.block 2 (.loop (.seq (.seq (.region false [⟨some 81, .mov (.t 14), none⟩,
   ⟨some 82, .bin .geq false (.t 81) (.c (iv 0)), none⟩]) (.cond (.t 82) .skip (.exit 2))) (.seq (.block 3 (.region false [⟨some 85, .mov (.t 13), none⟩,
   ⟨some 86, .mov (.t 14), none⟩,
   ⟨some 87, .mov (.t 10), none⟩,
   ⟨some 88, .mov (.t 14), none⟩,
   ⟨some 89, .mov (.t 14), none⟩,
   ⟨some 90, .mov (.t 12), none⟩,
   ⟨some 91, .bin .add false (.t 89) (.t 90), none⟩,
   ⟨some 92, .bin .add false (.t 91) (.c (iv 1)), none⟩,
   ⟨some 93, .slc 1 (.t 87) (some (.t 88)) (some (.t 92)) none, none⟩,
   ⟨some 94, .mov (.t 11), none⟩,
   ⟨some 95, .call F.div_guess [.t 93, .t 94], none⟩,
   ⟨some 96, .ixa 1 (.t 85) (.t 86), none⟩,
   ⟨none, .store 1 (.t 96) (.t 95), none⟩])) (.region false [⟨some 83, .mov (.t 14), none⟩,
   ⟨some 84, .bin .sub false (.t 83) (.c (iv 1)), none⟩,
   ⟨some 14, .mov (.t 84), none⟩])))))) (.seq (.region true [⟨some 97, .mov (.t 13), none⟩,
   ⟨some 98, .call F.nat_Norm [.t 97], none⟩,
   ⟨some 99, .mov (.t 10), none⟩,
   ⟨some 100, .mov (.t 12), none⟩,
   ⟨some 101, .slc 1 (.t 99) none (some (.t 100)) none, none⟩,
   ⟨some 102, .mov (.t 9), none⟩,
   ⟨some 103, .call F.div_down [.t 101, .t 102], none⟩,
   ⟨some 4, .mov (.t 98), none⟩,
   ⟨some 5, .mov (.t 103), none⟩]) .ret))))))))
def R.div_divide : List VRes := [.tmp 4, .tmp 5]
theorem K.div_divide : resCode Tryd.prog Tryd.f63.ntmps (Tryd.f63.body.getD .skip) = C.div_divide := by kernel_rfl
theorem Q.div_divide : resResults Tryd.prog Tryd.f63.results.toList = some R.div_divide := by kernel_rfl
theorem E.div_divide : Tryd.prog.funcs[F.div_divide]? = some Tryd.f63 := Tryd.func63
theorem B.div_divide : Tryd.f63.body = some (Tryd.f63.body.getD .skip) := by kernel_rfl
theorem N.div_divide : Tryd.f63.ntmps = 104 := Tryd.ntmps63

def C.mul_Mul : VC :=
  .seq (.region false [⟨some 4, .mov (.c nil1), none⟩,
   ⟨some 5, .mov (.c (iv 0)), none⟩]) (.seq (.region false [⟨some 6, .mov (.t 0), none⟩,
   ⟨some 7, .mov (.t 1), none⟩,
   ⟨some 8, .call F.mul_product [.t 6, .t 7, .c (.lit (.func (.func F.mul_Mul_1) #[] #[]))], none⟩,
   ⟨some 9, .ext (.t 8) 0, none⟩,
   ⟨some 10, .ext (.t 8) 1, none⟩,
   ⟨some 4, .mov (.t 9), none⟩,
   ⟨some 5, .mov (.t 10), none⟩]) .ret)
def R.mul_Mul : List VRes := [.tmp 4, .tmp 5]
theorem K.mul_Mul : resCode Tryd.prog Tryd.f64.ntmps (Tryd.f64.body.getD .skip) = C.mul_Mul := by kernel_rfl
theorem Q.mul_Mul : resResults Tryd.prog Tryd.f64.results.toList = some R.mul_Mul := by kernel_rfl
theorem E.mul_Mul : Tryd.prog.funcs[F.mul_Mul]? = some Tryd.f64 := Tryd.func64
theorem B.mul_Mul : Tryd.f64.body = some (Tryd.f64.body.getD .skip) := by kernel_rfl
theorem N.mul_Mul : Tryd.f64.ntmps = 11 := Tryd.ntmps64

def C.rounded_plus : VC :=
  .seq (.region false [⟨some 4, .mov (.c nil1), none⟩]) (.seq (.region false [⟨some 10, .mov (.t 0), none⟩,
   ⟨some 11, .len (.t 10), none⟩,
   ⟨some 12, .mov (.t 1), none⟩,
   ⟨some 13, .len (.t 12), none⟩,
   ⟨some 14, .mm true (.t 11) (.t 13), none⟩,
   ⟨some 15, .bin .add false (.t 14) (.c (iv 1)), none⟩,
   ⟨some 16, .mk [.int .u64 0] 8 (.t 15) (.t 15), none⟩,
   ⟨some 5, .mov (.t 16), none⟩]) (.seq (.region false [⟨some 6, .mov (.c (nv 0)), none⟩]) (.seq (.seq (.region false [⟨some 17, .mov (.t 5), none⟩,
   ⟨some 18, .len (.t 17), none⟩,
   ⟨some 19, .mov (.c (iv 0)), none⟩]) (.block 0 (.loop (.seq (.region false [⟨some 20, .bin .lss false (.t 19) (.t 18), none⟩]) (.seq (.cond (.t 20) .skip (.exit 0)) (.seq (.block 1 (.seq (.region false [⟨some 21, .mov (.t 19), none⟩,
   ⟨some 7, .mov (.t 21), none⟩]) (.seq (.region false [⟨some 8, .mov (.c (nv 0)), none⟩,
   ⟨some 9, .mov (.c (nv 0)), none⟩]) (.seq (.seq (.region false [⟨some 22, .mov (.t 7), none⟩,
   ⟨some 23, .mov (.t 0), none⟩,
   ⟨some 24, .len (.t 23), none⟩,
   ⟨some 25, .bin .lss false (.t 22) (.t 24), none⟩]) (.cond (.t 25) (.region false [⟨some 26, .mov (.t 0), none⟩,
   ⟨some 27, .mov (.t 7), none⟩,
   ⟨some 28, .ixa 1 (.t 26) (.t 27), none⟩,
   ⟨some 29, .load none (.t 28), none⟩,
   ⟨some 8, .mov (.t 29), none⟩]) .skip)) (.seq (.seq (.region false [⟨some 30, .mov (.t 7), none⟩,
   ⟨some 31, .mov (.t 1), none⟩,
   ⟨some 32, .len (.t 31), none⟩,
   ⟨some 33, .bin .lss false (.t 30) (.t 32), none⟩]) (.cond (.t 33) (.region false [⟨some 34, .mov (.t 1), none⟩,
   ⟨some 35, .mov (.t 7), none⟩,
   ⟨some 36, .ixa 1 (.t 34) (.t 35), none⟩,
   ⟨some 37, .load none (.t 36), none⟩,
   ⟨some 9, .mov (.t 37), none⟩]) .skip)) (.region false [⟨some 39, .mov (.t 5), none⟩,
   ⟨some 40, .mov (.t 7), none⟩,
   ⟨some 41, .mov (.t 8), none⟩,
   ⟨some 42, .mov (.t 9), none⟩,
   ⟨some 43, .mov (.t 6), none⟩,
   ⟨some 44, .ext64 false (.t 41) (.t 42) (.t 43), none⟩,
   ⟨some 38, .mov (.t 44), none⟩,
   ⟨some 45, .ext (.t 38) 0, none⟩,
   ⟨some 46, .ext (.t 38) 1, none⟩,
   ⟨some 47, .ixa 1 (.t 39) (.t 40), none⟩,
   ⟨none, .store 1 (.t 47) (.t 45), none⟩,
   ⟨some 6, .mov (.t 46), none⟩])))))) (.region false [⟨some 48, .bin .add false (.t 19) (.c (iv 1)), none⟩,
   ⟨some 19, .mov (.t 48), none⟩]))))))) (.seq (.region false [⟨some 49, .mov (.t 5), none⟩,
   ⟨some 50, .call F.nat_Norm [.t 49], none⟩,
   ⟨some 4, .mov (.t 50), none⟩]) .ret))))
def R.rounded_plus : List VRes := [.tmp 4]
theorem K.rounded_plus : resCode Tryd.prog Tryd.f65.ntmps (Tryd.f65.body.getD .skip) = C.rounded_plus := by kernel_rfl
theorem Q.rounded_plus : resResults Tryd.prog Tryd.f65.results.toList = some R.rounded_plus := by kernel_rfl
theorem E.rounded_plus : Tryd.prog.funcs[F.rounded_plus]? = some Tryd.f65 := Tryd.func65
theorem B.rounded_plus : Tryd.f65.body = some (Tryd.f65.body.getD .skip) := by kernel_rfl
theorem N.rounded_plus : Tryd.f65.ntmps = 51 := Tryd.ntmps65

def C.rounded_way_1 : VC :=
  .seq (.region false [⟨some 6, .mov (.c (bv false)), none⟩]) (.seq (.region false [⟨some 7, .mov (.t 0), none⟩,
   ⟨some 8, .mov (.t 7), none⟩,
   ⟨some 9, .mov (.t 2), some (8, true)⟩,
   ⟨some 10, .bin .gtr false (.t 9) (.c (iv 0)), some (8, true)⟩,
   ⟨some 11, .pick (.t 8) (.t 10) (.c (bv false)), none⟩,
   ⟨some 6, .mov (.t 11), none⟩]) .ret)
def R.rounded_way_1 : List VRes := [.tmp 6]
theorem K.rounded_way_1 : resCode Tryd.prog Tryd.f66.ntmps (Tryd.f66.body.getD .skip) = C.rounded_way_1 := by kernel_rfl
theorem Q.rounded_way_1 : resResults Tryd.prog Tryd.f66.results.toList = some R.rounded_way_1 := by kernel_rfl
theorem E.rounded_way_1 : Tryd.prog.funcs[F.rounded_way_1]? = some Tryd.f66 := Tryd.func66
theorem B.rounded_way_1 : Tryd.f66.body = some (Tryd.f66.body.getD .skip) := by kernel_rfl
theorem N.rounded_way_1 : Tryd.f66.ntmps = 12 := Tryd.ntmps66

def C.rounded_way_2 : VC :=
  .seq (.region false [⟨some 6, .mov (.c (bv false)), none⟩]) (.seq (.region false [⟨some 7, .mov (.t 0), none⟩,
   ⟨some 8, .un .not (.t 7), none⟩,
   ⟨some 9, .mov (.t 8), none⟩,
   ⟨some 10, .mov (.t 2), some (9, true)⟩,
   ⟨some 11, .bin .gtr false (.t 10) (.c (iv 0)), some (9, true)⟩,
   ⟨some 12, .pick (.t 9) (.t 11) (.c (bv false)), none⟩,
   ⟨some 6, .mov (.t 12), none⟩]) .ret)
def R.rounded_way_2 : List VRes := [.tmp 6]
theorem K.rounded_way_2 : resCode Tryd.prog Tryd.f67.ntmps (Tryd.f67.body.getD .skip) = C.rounded_way_2 := by kernel_rfl
theorem Q.rounded_way_2 : resResults Tryd.prog Tryd.f67.results.toList = some R.rounded_way_2 := by kernel_rfl
theorem E.rounded_way_2 : Tryd.prog.funcs[F.rounded_way_2]? = some Tryd.f67 := Tryd.func67
theorem B.rounded_way_2 : Tryd.f67.body = some (Tryd.f67.body.getD .skip) := by kernel_rfl
theorem N.rounded_way_2 : Tryd.f67.ntmps = 13 := Tryd.ntmps67

def C.rounded_way_3 : VC :=
  .seq (.region false [⟨some 6, .mov (.c (bv false)), none⟩]) (.seq (.region false [⟨some 7, .mov (.t 2), none⟩,
   ⟨some 8, .bin .eql false (.t 7) (.c (iv 3)), none⟩,
   ⟨some 9, .mov (.t 8), none⟩,
   ⟨some 10, .mov (.t 2), some (9, false)⟩,
   ⟨some 11, .bin .eql false (.t 10) (.c (iv 2)), some (9, false)⟩,
   ⟨some 12, .mov (.t 11), some (9, false)⟩,
   ⟨some 13, .mov (.t 1), some (12, true)⟩,
   ⟨some 14, .call F.nat_Bit [.t 13, .c (iv 0)], some (12, true)⟩,
   ⟨some 15, .bin .eql false (.t 14) (.c (iv 1)), some (12, true)⟩,
   ⟨some 16, .pick (.t 12) (.t 15) (.c (bv false)), some (9, false)⟩,
   ⟨some 17, .pick (.t 9) (.c (bv true)) (.t 16), none⟩,
   ⟨some 6, .mov (.t 17), none⟩]) .ret)
def R.rounded_way_3 : List VRes := [.tmp 6]
theorem K.rounded_way_3 : resCode Tryd.prog Tryd.f68.ntmps (Tryd.f68.body.getD .skip) = C.rounded_way_3 := by kernel_rfl
theorem Q.rounded_way_3 : resResults Tryd.prog Tryd.f68.results.toList = some R.rounded_way_3 := by kernel_rfl
theorem E.rounded_way_3 : Tryd.prog.funcs[F.rounded_way_3]? = some Tryd.f68 := Tryd.func68
theorem B.rounded_way_3 : Tryd.f68.body = some (Tryd.f68.body.getD .skip) := by kernel_rfl
theorem N.rounded_way_3 : Tryd.f68.ntmps = 18 := Tryd.ntmps68

def C.nat_told : VC :=
  .seq (.region false [⟨some 2, .mov (.c nil1), none⟩,
   ⟨some 3, .mov (.c (iv 0)), none⟩]) (.seq (.region false [⟨some 4, .mov (.t 0), none⟩,
   ⟨some 5, .call F.nat_trim [.t 4], none⟩,
   ⟨some 0, .mov (.t 5), none⟩]) (.seq (.seq (.region false [⟨some 6, .mov (.t 0), none⟩,
   ⟨some 7, .call F.nat_Length [.t 6], none⟩,
   ⟨some 8, .bin .gtr false (.t 7) (.c (iv 67108864)), none⟩]) (.cond (.t 8) (.seq (.region false [⟨some 2, .mov (.c nil1), none⟩,
   ⟨some 3, .mov (.c (iv 3)), none⟩]) .ret) .skip)) (.seq (.region false [⟨some 9, .mov (.t 0), none⟩,
   ⟨some 2, .mov (.t 9), none⟩,
   ⟨some 3, .mov (.c (iv 0)), none⟩]) .ret)))
def R.nat_told : List VRes := [.tmp 2, .tmp 3]
theorem K.nat_told : resCode Tryd.prog Tryd.f70.ntmps (Tryd.f70.body.getD .skip) = C.nat_told := by kernel_rfl
theorem Q.nat_told : resResults Tryd.prog Tryd.f70.results.toList = some R.nat_told := by kernel_rfl
theorem E.nat_told : Tryd.prog.funcs[F.nat_told]? = some Tryd.f70 := Tryd.func70
theorem B.nat_told : Tryd.f70.body = some (Tryd.f70.body.getD .skip) := by kernel_rfl
theorem N.nat_told : Tryd.f70.ntmps = 10 := Tryd.ntmps70

def C.roots_fits : VC :=
  .seq (.region false [⟨some 2, .mov (.c nil1), none⟩,
   ⟨some 3, .mov (.c (iv 0)), none⟩]) (.seq (.seq (.region false [⟨some 4, .mov (.t 0), none⟩,
   ⟨some 5, .call F.nat_Length [.t 4], none⟩,
   ⟨some 6, .bin .gtr false (.t 5) (.c (iv 67108864)), none⟩]) (.cond (.t 6) (.seq (.region false [⟨some 2, .mov (.c nil1), none⟩,
   ⟨some 3, .mov (.c (iv 3)), none⟩]) .ret) .skip)) (.seq (.region false [⟨some 7, .mov (.t 0), none⟩,
   ⟨some 8, .call F.nat_Norm [.t 7], none⟩,
   ⟨some 2, .mov (.t 8), none⟩,
   ⟨some 3, .mov (.c (iv 0)), none⟩]) .ret))
def R.roots_fits : List VRes := [.tmp 2, .tmp 3]
theorem K.roots_fits : resCode Tryd.prog Tryd.f71.ntmps (Tryd.f71.body.getD .skip) = C.roots_fits := by kernel_rfl
theorem Q.roots_fits : resResults Tryd.prog Tryd.f71.results.toList = some R.roots_fits := by kernel_rfl
theorem E.roots_fits : Tryd.prog.funcs[F.roots_fits]? = some Tryd.f71 := Tryd.func71
theorem B.roots_fits : Tryd.f71.body = some (Tryd.f71.body.getD .skip) := by kernel_rfl
theorem N.roots_fits : Tryd.f71.ntmps = 9 := Tryd.ntmps71

def C.roots_newton : VC :=
  .seq (.region false [⟨some 4, .mov (.c nil1), none⟩]) (.seq (.region false [⟨some 18, .mov (.t 0), none⟩,
   ⟨some 19, .call F.nat_Length [.t 18], none⟩,
   ⟨some 5, .mov (.t 19), none⟩]) (.seq (.seq (.region false [⟨some 20, .mov (.t 1), none⟩,
   ⟨some 21, .mov (.t 5), none⟩,
   ⟨some 22, .bin .geq false (.t 20) (.t 21), none⟩]) (.cond (.t 22) (.seq (.region false [⟨some 23, .call F.nat_From [.c (nv 1)], none⟩,
   ⟨some 4, .mov (.t 23), none⟩]) .ret) .skip)) (.seq (.region false [⟨some 24, .mov (.t 5), none⟩,
   ⟨some 25, .mov (.t 1), none⟩,
   ⟨some 26, .bin .add false (.t 24) (.t 25), none⟩,
   ⟨some 27, .bin .sub false (.t 26) (.c (iv 1)), none⟩,
   ⟨some 28, .mov (.t 1), none⟩,
   ⟨some 29, .bin .quo false (.t 27) (.t 28), none⟩,
   ⟨some 30, .call F.roots_power [.t 29], none⟩,
   ⟨some 6, .mov (.t 30), none⟩]) (.block 0 (.loop (.block 1 (.seq (.region false [⟨some 32, .mov (.t 6), none⟩,
   ⟨some 33, .mov (.t 1), none⟩,
   ⟨some 34, .bin .sub false (.t 33) (.c (iv 1)), none⟩,
   ⟨some 35, .call F.mul_Pow [.t 32, .t 34], none⟩,
   ⟨some 31, .mov (.t 35), none⟩,
   ⟨some 36, .ext (.t 31) 0, none⟩,
   ⟨some 37, .ext (.t 31) 1, none⟩,
   ⟨some 7, .mov (.t 36), none⟩,
   ⟨some 8, .mov (.t 37), none⟩]) (.seq (.region false [⟨some 39, .mov (.t 0), none⟩,
   ⟨some 40, .mov (.t 7), none⟩,
   ⟨some 41, .call F.div_Quo [.t 39, .t 40], none⟩,
   ⟨some 38, .mov (.t 41), none⟩,
   ⟨some 42, .ext (.t 38) 0, none⟩,
   ⟨some 43, .ext (.t 38) 1, none⟩,
   ⟨some 9, .mov (.t 42), none⟩,
   ⟨some 10, .mov (.t 43), none⟩]) (.seq (.region false [⟨some 45, .mov (.t 6), none⟩,
   ⟨some 46, .mov (.t 1), none⟩,
   ⟨some 47, .bin .sub false (.t 46) (.c (iv 1)), none⟩,
   ⟨some 48, .conv .u64 (.t 47), none⟩,
   ⟨some 49, .call F.nat_Times [.t 45, .t 48], none⟩,
   ⟨some 44, .mov (.t 49), none⟩,
   ⟨some 50, .ext (.t 44) 0, none⟩,
   ⟨some 51, .ext (.t 44) 1, none⟩,
   ⟨some 11, .mov (.t 50), none⟩,
   ⟨some 12, .mov (.t 51), none⟩]) (.seq (.region false [⟨some 53, .mov (.t 11), none⟩,
   ⟨some 54, .mov (.t 9), none⟩,
   ⟨some 55, .call F.nat_Add [.t 53, .t 54], none⟩,
   ⟨some 52, .mov (.t 55), none⟩,
   ⟨some 56, .ext (.t 52) 0, none⟩,
   ⟨some 57, .ext (.t 52) 1, none⟩,
   ⟨some 13, .mov (.t 56), none⟩,
   ⟨some 14, .mov (.t 57), none⟩]) (.seq (.region false [⟨some 59, .mov (.t 13), none⟩,
   ⟨some 60, .mov (.t 1), none⟩,
   ⟨some 61, .conv .u64 (.t 60), none⟩,
   ⟨some 62, .call F.nat_Through [.t 59, .t 61], none⟩,
   ⟨some 58, .mov (.t 62), none⟩,
   ⟨some 63, .ext (.t 58) 0, none⟩,
   ⟨some 64, .ext (.t 58) 1, none⟩,
   ⟨some 65, .ext (.t 58) 2, none⟩,
   ⟨some 15, .mov (.t 63), none⟩,
   ⟨some 16, .mov (.t 64), none⟩,
   ⟨some 17, .mov (.t 65), none⟩]) (.seq (.seq (.region false [⟨some 66, .mov (.t 15), none⟩,
   ⟨some 67, .mov (.t 6), none⟩,
   ⟨some 68, .call F.nat_Compare [.t 66, .t 67], none⟩,
   ⟨some 69, .bin .geq false (.t 68) (.c (iv 0)), none⟩]) (.cond (.t 69) (.seq (.region false [⟨some 70, .mov (.t 6), none⟩,
   ⟨some 4, .mov (.t 70), none⟩]) .ret) .skip)) (.region false [⟨some 71, .mov (.t 15), none⟩,
   ⟨some 6, .mov (.t 71), none⟩])))))))))))))
def R.roots_newton : List VRes := [.tmp 4]
theorem K.roots_newton : resCode Tryd.prog Tryd.f72.ntmps (Tryd.f72.body.getD .skip) = C.roots_newton := by kernel_rfl
theorem Q.roots_newton : resResults Tryd.prog Tryd.f72.results.toList = some R.roots_newton := by kernel_rfl
theorem E.roots_newton : Tryd.prog.funcs[F.roots_newton]? = some Tryd.f72 := Tryd.func72
theorem B.roots_newton : Tryd.f72.body = some (Tryd.f72.body.getD .skip) := by kernel_rfl
theorem N.roots_newton : Tryd.f72.ntmps = 72 := Tryd.ntmps72

def C.mul_Pow : VC :=
  .seq (.region false [⟨some 4, .mov (.c nil1), none⟩,
   ⟨some 5, .mov (.c (iv 0)), none⟩]) (.seq (.seq (.region false [⟨some 10, .mov (.t 1), none⟩,
   ⟨some 11, .bin .lss false (.t 10) (.c (iv 0)), none⟩]) (.cond (.t 11) (.seq (.region false [⟨some 4, .mov (.c nil1), none⟩,
   ⟨some 5, .mov (.c (iv 1)), none⟩]) .ret) .skip)) (.seq (.region false [⟨some 12, .mov (.t 0), none⟩,
   ⟨some 13, .call F.nat_Norm [.t 12], none⟩,
   ⟨some 0, .mov (.t 13), none⟩]) (.seq (.seq (.region false [⟨some 14, .mov (.t 1), none⟩,
   ⟨some 15, .bin .eql false (.t 14) (.c (iv 0)), none⟩]) (.cond (.t 15) (.seq (.region false [⟨some 16, .call F.nat_From [.c (nv 1)], none⟩,
   ⟨some 4, .mov (.t 16), none⟩,
   ⟨some 5, .mov (.c (iv 0)), none⟩]) .ret) .skip)) (.seq (.region false [⟨some 17, .mov (.t 0), none⟩,
   ⟨some 18, .call F.nat_Length [.t 17], none⟩,
   ⟨some 6, .mov (.t 18), none⟩]) (.seq (.seq (.region false [⟨some 19, .mov (.t 6), none⟩,
   ⟨some 20, .bin .leq false (.t 19) (.c (iv 1)), none⟩]) (.cond (.t 20) (.seq (.region false [⟨some 21, .mov (.t 0), none⟩,
   ⟨some 4, .mov (.t 21), none⟩,
   ⟨some 5, .mov (.c (iv 0)), none⟩]) .ret) .skip)) (.seq (.seq (.region false [⟨some 22, .mov (.t 1), none⟩,
   ⟨some 23, .bin .gtr false (.t 22) (.c (iv 67108864)), none⟩,
   ⟨some 24, .mov (.t 23), none⟩,
   ⟨some 25, .mov (.t 6), some (24, false)⟩,
   ⟨some 26, .bin .sub false (.t 25) (.c (iv 1)), some (24, false)⟩,
   ⟨some 27, .mov (.t 1), some (24, false)⟩,
   ⟨some 28, .bin .mul false (.t 26) (.t 27), some (24, false)⟩,
   ⟨some 29, .bin .add false (.t 28) (.c (iv 1)), some (24, false)⟩,
   ⟨some 30, .bin .gtr false (.t 29) (.c (iv 67108864)), some (24, false)⟩,
   ⟨some 31, .pick (.t 24) (.c (bv true)) (.t 30), none⟩]) (.cond (.t 31) (.seq (.region false [⟨some 4, .mov (.c nil1), none⟩,
   ⟨some 5, .mov (.c (iv 3)), none⟩]) .ret) .skip)) (.seq (.region false [⟨some 32, .call F.nat_From [.c (nv 1)], none⟩,
   ⟨some 7, .mov (.t 32), none⟩]) (.seq (.seq (.region false [⟨some 8, .mov (.c (iv 62)), none⟩]) (.block 0 (.loop (.seq (.seq (.region false [⟨some 33, .mov (.t 8), none⟩,
   ⟨some 34, .bin .geq false (.t 33) (.c (iv 0)), none⟩]) (.cond (.t 34) .skip (.exit 0))) (.seq (.block 1 (.seq (.region false [⟨some 9, .mov (.c (iv 0)), none⟩]) (.seq (.seq (.region false [⟨some 37, .mov (.t 7), none⟩,
   ⟨some 38, .len (.t 37), none⟩,
   ⟨some 39, .bin .gtr false (.t 38) (.c (iv 0)), none⟩]) (.cond (.t 39) (.seq (.region false [⟨some 41, .mov (.t 7), none⟩,
   ⟨some 42, .call F.mul_Square [.t 41], none⟩,
   ⟨some 40, .mov (.t 42), none⟩,
   ⟨some 43, .ext (.t 40) 0, none⟩,
   ⟨some 44, .ext (.t 40) 1, none⟩,
   ⟨some 7, .mov (.t 43), none⟩,
   ⟨some 9, .mov (.t 44), none⟩]) (.seq (.region false [⟨some 45, .mov (.t 9), none⟩,
   ⟨some 46, .bin .neq false (.t 45) (.c (iv 0)), none⟩]) (.cond (.t 46) (.seq (.region false [⟨some 47, .mov (.t 9), none⟩,
   ⟨some 4, .mov (.c nil1), none⟩,
   ⟨some 5, .mov (.t 47), none⟩]) .ret) .skip))) .skip)) (.seq (.region false [⟨some 48, .mov (.t 1), none⟩,
   ⟨some 49, .mov (.t 8), none⟩,
   ⟨some 50, .bin .shr false (.t 48) (.t 49), none⟩,
   ⟨some 51, .bin .and false (.t 50) (.c (iv 1)), none⟩,
   ⟨some 52, .bin .eql false (.t 51) (.c (iv 1)), none⟩]) (.cond (.t 52) (.seq (.region false [⟨some 54, .mov (.t 7), none⟩,
   ⟨some 55, .mov (.t 0), none⟩,
   ⟨some 56, .call F.mul_Mul [.t 54, .t 55], none⟩,
   ⟨some 53, .mov (.t 56), none⟩,
   ⟨some 57, .ext (.t 53) 0, none⟩,
   ⟨some 58, .ext (.t 53) 1, none⟩,
   ⟨some 7, .mov (.t 57), none⟩,
   ⟨some 9, .mov (.t 58), none⟩]) (.seq (.region false [⟨some 59, .mov (.t 9), none⟩,
   ⟨some 60, .bin .neq false (.t 59) (.c (iv 0)), none⟩]) (.cond (.t 60) (.seq (.region false [⟨some 61, .mov (.t 9), none⟩,
   ⟨some 4, .mov (.c nil1), none⟩,
   ⟨some 5, .mov (.t 61), none⟩]) .ret) .skip))) .skip))))) (.region false [⟨some 35, .mov (.t 8), none⟩,
   ⟨some 36, .bin .sub false (.t 35) (.c (iv 1)), none⟩,
   ⟨some 8, .mov (.t 36), none⟩])))))) (.seq (.region false [⟨some 62, .mov (.t 7), none⟩,
   ⟨some 4, .mov (.t 62), none⟩,
   ⟨some 5, .mov (.c (iv 0)), none⟩]) .ret)))))))))
def R.mul_Pow : List VRes := [.tmp 4, .tmp 5]
theorem K.mul_Pow : resCode Tryd.prog Tryd.f73.ntmps (Tryd.f73.body.getD .skip) = C.mul_Pow := by kernel_rfl
theorem Q.mul_Pow : resResults Tryd.prog Tryd.f73.results.toList = some R.mul_Pow := by kernel_rfl
theorem E.mul_Pow : Tryd.prog.funcs[F.mul_Pow]? = some Tryd.f73 := Tryd.func73
theorem B.mul_Pow : Tryd.f73.body = some (Tryd.f73.body.getD .skip) := by kernel_rfl
theorem N.mul_Pow : Tryd.f73.ntmps = 63 := Tryd.ntmps73

def C.roots_less : VC :=
  .seq (.region false [⟨some 4, .mov (.c nil1), none⟩]) (.seq (.region false [⟨some 8, .mov (.t 0), none⟩,
   ⟨some 9, .mov (.t 1), none⟩,
   ⟨some 10, .call F.nat_Sub [.t 8, .t 9], none⟩,
   ⟨some 7, .mov (.t 10), none⟩,
   ⟨some 11, .ext (.t 7) 0, none⟩,
   ⟨some 12, .ext (.t 7) 1, none⟩,
   ⟨some 5, .mov (.t 11), none⟩,
   ⟨some 6, .mov (.t 12), none⟩]) (.seq (.region false [⟨some 13, .mov (.t 5), none⟩,
   ⟨some 4, .mov (.t 13), none⟩]) .ret))
def R.roots_less : List VRes := [.tmp 4]
theorem K.roots_less : resCode Tryd.prog Tryd.f74.ntmps (Tryd.f74.body.getD .skip) = C.roots_less := by kernel_rfl
theorem Q.roots_less : resResults Tryd.prog Tryd.f74.results.toList = some R.roots_less := by kernel_rfl
theorem E.roots_less : Tryd.prog.funcs[F.roots_less]? = some Tryd.f74 := Tryd.func74
theorem B.roots_less : Tryd.f74.body = some (Tryd.f74.body.getD .skip) := by kernel_rfl
theorem N.roots_less : Tryd.f74.ntmps = 14 := Tryd.ntmps74

def C.bits_Div64 : VC :=
  .seq (.region false [⟨some 6, .mov (.c (nv 0)), none⟩,
   ⟨some 7, .mov (.c (nv 0)), none⟩]) (.seq (.seq (.region false [⟨some 19, .mov (.t 2), none⟩,
   ⟨some 20, .bin .eql false (.t 19) (.c (nv 0)), none⟩]) (.cond (.t 20) (.region false [⟨some 21, .load none (.c (.gptr 1 0)), none⟩,
   ⟨none, .bad, none⟩]) .skip)) (.seq (.seq (.region false [⟨some 22, .mov (.t 2), none⟩,
   ⟨some 23, .mov (.t 0), none⟩,
   ⟨some 24, .bin .leq false (.t 22) (.t 23), none⟩]) (.cond (.t 24) (.region false [⟨some 25, .load none (.c (.gptr 2 0)), none⟩,
   ⟨none, .bad, none⟩]) .skip)) (.seq (.seq (.region false [⟨some 26, .mov (.t 0), none⟩,
   ⟨some 27, .bin .eql false (.t 26) (.c (nv 0)), none⟩]) (.cond (.t 27) (.seq (.region true [⟨some 28, .mov (.t 1), none⟩,
   ⟨some 29, .mov (.t 2), none⟩,
   ⟨some 30, .bin .quo false (.t 28) (.t 29), none⟩,
   ⟨some 31, .mov (.t 1), none⟩,
   ⟨some 32, .mov (.t 2), none⟩,
   ⟨some 33, .bin .rem false (.t 31) (.t 32), none⟩,
   ⟨some 6, .mov (.t 30), none⟩,
   ⟨some 7, .mov (.t 33), none⟩]) .ret) .skip)) (.seq (.region false [⟨some 34, .mov (.t 2), none⟩,
   ⟨some 35, .call F.bits_LeadingZeros64 [.t 34], none⟩,
   ⟨some 36, .conv .u64 (.t 35), none⟩,
   ⟨some 8, .mov (.t 36), none⟩]) (.seq (.region false [⟨some 37, .mov (.t 2), none⟩,
   ⟨some 38, .mov (.t 8), none⟩,
   ⟨some 39, .bin .shl false (.t 37) (.t 38), none⟩,
   ⟨some 2, .mov (.t 39), none⟩]) (.seq (.region false [⟨some 40, .mov (.t 2), none⟩,
   ⟨some 41, .bin .shr false (.t 40) (.c (nv 32)), none⟩,
   ⟨some 9, .mov (.t 41), none⟩]) (.seq (.region false [⟨some 42, .mov (.t 2), none⟩,
   ⟨some 43, .bin .and false (.t 42) (.c (nv 4294967295)), none⟩,
   ⟨some 10, .mov (.t 43), none⟩]) (.seq (.region false [⟨some 44, .mov (.t 0), none⟩,
   ⟨some 45, .mov (.t 8), none⟩,
   ⟨some 46, .bin .shl false (.t 44) (.t 45), none⟩,
   ⟨some 47, .mov (.t 1), none⟩,
   ⟨some 48, .mov (.t 8), none⟩,
   ⟨some 49, .bin .sub false (.c (nv 64)) (.t 48), none⟩,
   ⟨some 50, .bin .shr false (.t 47) (.t 49), none⟩,
   ⟨some 51, .bin .or false (.t 46) (.t 50), none⟩,
   ⟨some 11, .mov (.t 51), none⟩]) (.seq (.region false [⟨some 52, .mov (.t 1), none⟩,
   ⟨some 53, .mov (.t 8), none⟩,
   ⟨some 54, .bin .shl false (.t 52) (.t 53), none⟩,
   ⟨some 12, .mov (.t 54), none⟩]) (.seq (.region false [⟨some 55, .mov (.t 12), none⟩,
   ⟨some 56, .bin .shr false (.t 55) (.c (nv 32)), none⟩,
   ⟨some 13, .mov (.t 56), none⟩]) (.seq (.region false [⟨some 57, .mov (.t 12), none⟩,
   ⟨some 58, .bin .and false (.t 57) (.c (nv 4294967295)), none⟩,
   ⟨some 14, .mov (.t 58), none⟩]) (.seq (.region false [⟨some 59, .mov (.t 11), none⟩,
   ⟨some 60, .mov (.t 9), none⟩,
   ⟨some 61, .bin .quo false (.t 59) (.t 60), none⟩,
   ⟨some 15, .mov (.t 61), none⟩]) (.seq (.region false [⟨some 62, .mov (.t 11), none⟩,
   ⟨some 63, .mov (.t 15), none⟩,
   ⟨some 64, .mov (.t 9), none⟩,
   ⟨some 65, .bin .mul false (.t 63) (.t 64), none⟩,
   ⟨some 66, .bin .sub false (.t 62) (.t 65), none⟩,
   ⟨some 16, .mov (.t 66), none⟩]) (.seq (.block 0 (.loop (.seq (.seq (.region false [⟨some 67, .mov (.t 15), none⟩,
   ⟨some 68, .bin .geq false (.t 67) (.c (nv 4294967296)), none⟩,
   ⟨some 69, .mov (.t 68), none⟩,
   ⟨some 70, .mov (.t 15), some (69, false)⟩,
   ⟨some 71, .mov (.t 10), some (69, false)⟩,
   ⟨some 72, .bin .mul false (.t 70) (.t 71), some (69, false)⟩,
   ⟨some 73, .mov (.t 16), some (69, false)⟩,
   ⟨some 74, .bin .mul false (.c (nv 4294967296)) (.t 73), some (69, false)⟩,
   ⟨some 75, .mov (.t 13), some (69, false)⟩,
   ⟨some 76, .bin .add false (.t 74) (.t 75), some (69, false)⟩,
   ⟨some 77, .bin .gtr false (.t 72) (.t 76), some (69, false)⟩,
   ⟨some 78, .pick (.t 69) (.c (bv true)) (.t 77), none⟩]) (.cond (.t 78) .skip (.exit 0))) (.block 1 (.seq (.region false [⟨some 79, .mov (.t 15), none⟩,
   ⟨some 80, .bin .sub false (.t 79) (.c (nv 1)), none⟩,
   ⟨some 15, .mov (.t 80), none⟩]) (.seq (.region false [⟨some 81, .mov (.t 16), none⟩,
   ⟨some 82, .mov (.t 9), none⟩,
   ⟨some 83, .bin .add false (.t 81) (.t 82), none⟩,
   ⟨some 16, .mov (.t 83), none⟩]) (.seq (.region false [⟨some 84, .mov (.t 16), none⟩,
   ⟨some 85, .bin .geq false (.t 84) (.c (nv 4294967296)), none⟩]) (.cond (.t 85) (.exit 0) .skip)))))))) (.seq (.region false [⟨some 86, .mov (.t 11), none⟩,
   ⟨some 87, .bin .mul false (.t 86) (.c (nv 4294967296)), none⟩,
   ⟨some 88, .mov (.t 13), none⟩,
   ⟨some 89, .bin .add false (.t 87) (.t 88), none⟩,
   ⟨some 90, .mov (.t 15), none⟩,
   ⟨some 91, .mov (.t 2), none⟩,
   ⟨some 92, .bin .mul false (.t 90) (.t 91), none⟩,
   ⟨some 93, .bin .sub false (.t 89) (.t 92), none⟩,
   ⟨some 17, .mov (.t 93), none⟩]) (.seq (.region false [⟨some 94, .mov (.t 17), none⟩,
   ⟨some 95, .mov (.t 9), none⟩,
   ⟨some 96, .bin .quo false (.t 94) (.t 95), none⟩,
   ⟨some 18, .mov (.t 96), none⟩]) (.seq (.region false [⟨some 97, .mov (.t 17), none⟩,
   ⟨some 98, .mov (.t 18), none⟩,
   ⟨some 99, .mov (.t 9), none⟩,
   ⟨some 100, .bin .mul false (.t 98) (.t 99), none⟩,
   ⟨some 101, .bin .sub false (.t 97) (.t 100), none⟩,
   ⟨some 16, .mov (.t 101), none⟩]) (.seq (.block 2 (.loop (.seq (.seq (.region false [⟨some 102, .mov (.t 18), none⟩,
   ⟨some 103, .bin .geq false (.t 102) (.c (nv 4294967296)), none⟩,
   ⟨some 104, .mov (.t 103), none⟩,
   ⟨some 105, .mov (.t 18), some (104, false)⟩,
   ⟨some 106, .mov (.t 10), some (104, false)⟩,
   ⟨some 107, .bin .mul false (.t 105) (.t 106), some (104, false)⟩,
   ⟨some 108, .mov (.t 16), some (104, false)⟩,
   ⟨some 109, .bin .mul false (.c (nv 4294967296)) (.t 108), some (104, false)⟩,
   ⟨some 110, .mov (.t 14), some (104, false)⟩,
   ⟨some 111, .bin .add false (.t 109) (.t 110), some (104, false)⟩,
   ⟨some 112, .bin .gtr false (.t 107) (.t 111), some (104, false)⟩,
   ⟨some 113, .pick (.t 104) (.c (bv true)) (.t 112), none⟩]) (.cond (.t 113) .skip (.exit 2))) (.block 3 (.seq (.region false [⟨some 114, .mov (.t 18), none⟩,
   ⟨some 115, .bin .sub false (.t 114) (.c (nv 1)), none⟩,
   ⟨some 18, .mov (.t 115), none⟩]) (.seq (.region false [⟨some 116, .mov (.t 16), none⟩,
   ⟨some 117, .mov (.t 9), none⟩,
   ⟨some 118, .bin .add false (.t 116) (.t 117), none⟩,
   ⟨some 16, .mov (.t 118), none⟩]) (.seq (.region false [⟨some 119, .mov (.t 16), none⟩,
   ⟨some 120, .bin .geq false (.t 119) (.c (nv 4294967296)), none⟩]) (.cond (.t 120) (.exit 2) .skip)))))))) (.seq (.region false [⟨some 121, .mov (.t 15), none⟩,
   ⟨some 122, .bin .mul false (.t 121) (.c (nv 4294967296)), none⟩,
   ⟨some 123, .mov (.t 18), none⟩,
   ⟨some 124, .bin .add false (.t 122) (.t 123), none⟩,
   ⟨some 125, .mov (.t 17), none⟩,
   ⟨some 126, .bin .mul false (.t 125) (.c (nv 4294967296)), none⟩,
   ⟨some 127, .mov (.t 14), none⟩,
   ⟨some 128, .bin .add false (.t 126) (.t 127), none⟩,
   ⟨some 129, .mov (.t 18), none⟩,
   ⟨some 130, .mov (.t 2), none⟩,
   ⟨some 131, .bin .mul false (.t 129) (.t 130), none⟩,
   ⟨some 132, .bin .sub false (.t 128) (.t 131), none⟩,
   ⟨some 133, .mov (.t 8), none⟩,
   ⟨some 134, .bin .shr false (.t 132) (.t 133), none⟩,
   ⟨some 6, .mov (.t 124), none⟩,
   ⟨some 7, .mov (.t 134), none⟩]) .ret)))))))))))))))))))
def R.bits_Div64 : List VRes := [.tmp 6, .tmp 7]
theorem K.bits_Div64 : resCode Tryd.prog Tryd.f75.ntmps (Tryd.f75.body.getD .skip) = C.bits_Div64 := by kernel_rfl
theorem Q.bits_Div64 : resResults Tryd.prog Tryd.f75.results.toList = some R.bits_Div64 := by kernel_rfl
theorem E.bits_Div64 : Tryd.prog.funcs[F.bits_Div64]? = some Tryd.f75 := Tryd.func75
theorem B.bits_Div64 : Tryd.f75.body = some (Tryd.f75.body.getD .skip) := by kernel_rfl
theorem N.bits_Div64 : Tryd.f75.ntmps = 135 := Tryd.ntmps75

def C.bits_LeadingZeros64 : VC :=
  .seq (.region false [⟨some 2, .mov (.c (iv 0)), none⟩]) (.seq (.region false [⟨some 3, .mov (.t 0), none⟩,
   ⟨some 4, .call F.bits_Len64 [.t 3], none⟩,
   ⟨some 5, .bin .sub false (.c (iv 64)) (.t 4), none⟩,
   ⟨some 2, .mov (.t 5), none⟩]) .ret)
def R.bits_LeadingZeros64 : List VRes := [.tmp 2]
theorem K.bits_LeadingZeros64 : resCode Tryd.prog Tryd.f76.ntmps (Tryd.f76.body.getD .skip) = C.bits_LeadingZeros64 := by kernel_rfl
theorem Q.bits_LeadingZeros64 : resResults Tryd.prog Tryd.f76.results.toList = some R.bits_LeadingZeros64 := by kernel_rfl
theorem E.bits_LeadingZeros64 : Tryd.prog.funcs[F.bits_LeadingZeros64]? = some Tryd.f76 := Tryd.func76
theorem B.bits_LeadingZeros64 : Tryd.f76.body = some (Tryd.f76.body.getD .skip) := by kernel_rfl
theorem N.bits_LeadingZeros64 : Tryd.f76.ntmps = 6 := Tryd.ntmps76

def C.div_up : VC :=
  .seq (.region false [⟨some 4, .mov (.c nil1), none⟩]) (.seq (.region false [⟨some 8, .mov (.t 0), none⟩,
   ⟨some 9, .len (.t 8), none⟩,
   ⟨some 10, .bin .add false (.t 9) (.c (iv 1)), none⟩,
   ⟨some 11, .mk [.int .u64 0] 8 (.t 10) (.t 10), none⟩,
   ⟨some 5, .mov (.t 11), none⟩]) (.seq (.seq (.region false [⟨some 12, .mov (.t 0), none⟩,
   ⟨some 13, .len (.t 12), none⟩,
   ⟨some 14, .mov (.c (iv 0)), none⟩]) (.block 0 (.loop (.seq (.region false [⟨some 15, .bin .lss false (.t 14) (.t 13), none⟩]) (.seq (.cond (.t 15) .skip (.exit 0)) (.seq (.block 1 (.seq (.region false [⟨some 16, .mov (.t 14), none⟩,
   ⟨some 17, .ixa 1 (.t 12) (.t 14), none⟩,
   ⟨some 18, .load none (.t 17), none⟩,
   ⟨some 6, .mov (.t 16), none⟩,
   ⟨some 7, .mov (.t 18), none⟩]) (.seq (.region false [⟨some 19, .mov (.t 5), none⟩,
   ⟨some 20, .mov (.t 6), none⟩,
   ⟨some 21, .ixa 1 (.t 19) (.t 20), none⟩,
   ⟨some 22, .load none (.t 21), none⟩,
   ⟨some 23, .mov (.t 7), none⟩,
   ⟨some 24, .mov (.t 1), none⟩,
   ⟨some 25, .bin .shl false (.t 23) (.t 24), none⟩,
   ⟨some 26, .bin .or false (.t 22) (.t 25), none⟩,
   ⟨some 27, .ixa 1 (.t 19) (.t 20), none⟩,
   ⟨none, .store 1 (.t 27) (.t 26), none⟩]) (.region false [⟨some 28, .mov (.t 5), none⟩,
   ⟨some 29, .mov (.t 6), none⟩,
   ⟨some 30, .bin .add false (.t 29) (.c (iv 1)), none⟩,
   ⟨some 31, .mov (.t 7), none⟩,
   ⟨some 32, .bin .shr false (.t 31) (.c (nv 1)), none⟩,
   ⟨some 33, .mov (.t 1), none⟩,
   ⟨some 34, .bin .sub false (.c (nv 63)) (.t 33), none⟩,
   ⟨some 35, .bin .shr false (.t 32) (.t 34), none⟩,
   ⟨some 36, .ixa 1 (.t 28) (.t 30), none⟩,
   ⟨none, .store 1 (.t 36) (.t 35), none⟩])))) (.region false [⟨some 37, .bin .add false (.t 14) (.c (iv 1)), none⟩,
   ⟨some 14, .mov (.t 37), none⟩]))))))) (.seq (.region false [⟨some 38, .mov (.t 5), none⟩,
   ⟨some 4, .mov (.t 38), none⟩]) .ret)))
def R.div_up : List VRes := [.tmp 4]
theorem K.div_up : resCode Tryd.prog Tryd.f77.ntmps (Tryd.f77.body.getD .skip) = C.div_up := by kernel_rfl
theorem Q.div_up : resResults Tryd.prog Tryd.f77.results.toList = some R.div_up := by kernel_rfl
theorem E.div_up : Tryd.prog.funcs[F.div_up]? = some Tryd.f77 := Tryd.func77
theorem B.div_up : Tryd.f77.body = some (Tryd.f77.body.getD .skip) := by kernel_rfl
theorem N.div_up : Tryd.f77.ntmps = 39 := Tryd.ntmps77

def C.div_guess : VC :=
  .seq (.region false [⟨some 4, .mov (.c (nv 0)), none⟩]) (.seq (.region false [⟨some 24, .mov (.t 1), none⟩,
   ⟨some 25, .len (.t 24), none⟩,
   ⟨some 5, .mov (.t 25), none⟩]) (.seq (.region false [⟨some 6, .mov (.c (nv 0)), none⟩,
   ⟨some 7, .mov (.c (nv 0)), none⟩]) (.seq (.region false [⟨some 8, .mov (.c (bv false)), none⟩]) (.seq (.seq (.region true [⟨some 26, .mov (.t 0), none⟩,
   ⟨some 27, .mov (.t 5), none⟩,
   ⟨some 28, .ixa 1 (.t 26) (.t 27), none⟩,
   ⟨some 29, .load none (.t 28), none⟩,
   ⟨some 30, .mov (.t 1), none⟩,
   ⟨some 31, .mov (.t 5), none⟩,
   ⟨some 32, .bin .sub false (.t 31) (.c (iv 1)), none⟩,
   ⟨some 33, .ixa 1 (.t 30) (.t 32), none⟩,
   ⟨some 34, .load none (.t 33), none⟩,
   ⟨some 35, .bin .geq false (.t 29) (.t 34), none⟩]) (.cond (.t 35) (.seq (.region false [⟨some 6, .mov (.c (nv 18446744073709551615)), none⟩]) (.seq (.region false [⟨some 9, .mov (.c (nv 0)), none⟩]) (.seq (.region true [⟨some 37, .mov (.t 0), none⟩,
   ⟨some 38, .mov (.t 5), none⟩,
   ⟨some 39, .bin .sub false (.t 38) (.c (iv 1)), none⟩,
   ⟨some 40, .ixa 1 (.t 37) (.t 39), none⟩,
   ⟨some 41, .load none (.t 40), none⟩,
   ⟨some 42, .mov (.t 1), none⟩,
   ⟨some 43, .mov (.t 5), none⟩,
   ⟨some 44, .bin .sub false (.t 43) (.c (iv 1)), none⟩,
   ⟨some 45, .ixa 1 (.t 42) (.t 44), none⟩,
   ⟨some 46, .load none (.t 45), none⟩,
   ⟨some 47, .ext64 false (.t 41) (.t 46) (.c (nv 0)), none⟩,
   ⟨some 36, .mov (.t 47), none⟩,
   ⟨some 48, .ext (.t 36) 0, none⟩,
   ⟨some 49, .ext (.t 36) 1, none⟩,
   ⟨some 7, .mov (.t 48), none⟩,
   ⟨some 9, .mov (.t 49), none⟩]) (.region false [⟨some 50, .mov (.t 9), none⟩,
   ⟨some 51, .bin .neq false (.t 50) (.c (nv 0)), none⟩,
   ⟨some 8, .mov (.t 51), none⟩])))) (.region true [⟨some 53, .mov (.t 0), none⟩,
   ⟨some 54, .mov (.t 5), none⟩,
   ⟨some 55, .ixa 1 (.t 53) (.t 54), none⟩,
   ⟨some 56, .load none (.t 55), none⟩,
   ⟨some 57, .mov (.t 0), none⟩,
   ⟨some 58, .mov (.t 5), none⟩,
   ⟨some 59, .bin .sub false (.t 58) (.c (iv 1)), none⟩,
   ⟨some 60, .ixa 1 (.t 57) (.t 59), none⟩,
   ⟨some 61, .load none (.t 60), none⟩,
   ⟨some 62, .mov (.t 1), none⟩,
   ⟨some 63, .mov (.t 5), none⟩,
   ⟨some 64, .bin .sub false (.t 63) (.c (iv 1)), none⟩,
   ⟨some 65, .ixa 1 (.t 62) (.t 64), none⟩,
   ⟨some 66, .load none (.t 65), none⟩,
   ⟨some 67, .call F.bits_Div64 [.t 56, .t 61, .t 66], none⟩,
   ⟨some 52, .mov (.t 67), none⟩,
   ⟨some 68, .ext (.t 52) 0, none⟩,
   ⟨some 69, .ext (.t 52) 1, none⟩,
   ⟨some 6, .mov (.t 68), none⟩,
   ⟨some 7, .mov (.t 69), none⟩]))) (.seq (.block 0 (.loop (.seq (.seq (.region false [⟨some 70, .mov (.t 8), none⟩,
   ⟨some 71, .un .not (.t 70), none⟩]) (.cond (.t 71) .skip (.exit 0))) (.block 1 (.seq (.region false [⟨some 73, .mov (.t 6), none⟩,
   ⟨some 74, .mov (.t 1), none⟩,
   ⟨some 75, .mov (.t 5), none⟩,
   ⟨some 76, .bin .sub false (.t 75) (.c (iv 2)), none⟩,
   ⟨some 77, .ixa 1 (.t 74) (.t 76), none⟩,
   ⟨some 78, .load none (.t 77), none⟩,
   ⟨some 79, .call F.bits_Mul64 [.t 73, .t 78], none⟩,
   ⟨some 72, .mov (.t 79), none⟩,
   ⟨some 80, .ext (.t 72) 0, none⟩,
   ⟨some 81, .ext (.t 72) 1, none⟩,
   ⟨some 10, .mov (.t 80), none⟩,
   ⟨some 11, .mov (.t 81), none⟩]) (.seq (.seq (.region false [⟨some 82, .mov (.t 10), none⟩,
   ⟨some 83, .mov (.t 7), none⟩,
   ⟨some 84, .bin .lss false (.t 82) (.t 83), none⟩,
   ⟨some 85, .mov (.t 84), none⟩,
   ⟨some 86, .mov (.t 10), some (85, false)⟩,
   ⟨some 87, .mov (.t 7), some (85, false)⟩,
   ⟨some 88, .bin .eql false (.t 86) (.t 87), some (85, false)⟩,
   ⟨some 89, .mov (.t 88), some (85, false)⟩,
   ⟨some 90, .mov (.t 11), some (89, true)⟩,
   ⟨some 91, .mov (.t 0), some (89, true)⟩,
   ⟨some 92, .mov (.t 5), some (89, true)⟩,
   ⟨some 93, .bin .sub false (.t 92) (.c (iv 2)), some (89, true)⟩,
   ⟨some 94, .ixa 1 (.t 91) (.t 93), some (89, true)⟩,
   ⟨some 95, .load none (.t 94), some (89, true)⟩,
   ⟨some 96, .bin .leq false (.t 90) (.t 95), some (89, true)⟩,
   ⟨some 97, .pick (.t 89) (.t 96) (.c (bv false)), some (85, false)⟩,
   ⟨some 98, .pick (.t 85) (.c (bv true)) (.t 97), none⟩]) (.cond (.t 98) (.exit 0) .skip)) (.seq (.region false [⟨some 99, .mov (.t 6), none⟩,
   ⟨some 100, .bin .sub false (.t 99) (.c (nv 1)), none⟩,
   ⟨some 6, .mov (.t 100), none⟩]) (.seq (.region false [⟨some 12, .mov (.c (nv 0)), none⟩]) (.seq (.region false [⟨some 102, .mov (.t 7), none⟩,
   ⟨some 103, .mov (.t 1), none⟩,
   ⟨some 104, .mov (.t 5), none⟩,
   ⟨some 105, .bin .sub false (.t 104) (.c (iv 1)), none⟩,
   ⟨some 106, .ixa 1 (.t 103) (.t 105), none⟩,
   ⟨some 107, .load none (.t 106), none⟩,
   ⟨some 108, .ext64 false (.t 102) (.t 107) (.c (nv 0)), none⟩,
   ⟨some 101, .mov (.t 108), none⟩,
   ⟨some 109, .ext (.t 101) 0, none⟩,
   ⟨some 110, .ext (.t 101) 1, none⟩,
   ⟨some 7, .mov (.t 109), none⟩,
   ⟨some 12, .mov (.t 110), none⟩]) (.seq (.region false [⟨some 111, .mov (.t 12), none⟩,
   ⟨some 112, .bin .neq false (.t 111) (.c (nv 0)), none⟩]) (.cond (.t 112) (.exit 0) .skip))))))))))) (.seq (.region false [⟨some 13, .mov (.c (nv 0)), none⟩,
   ⟨some 14, .mov (.c (nv 0)), none⟩]) (.seq (.seq (.region false [⟨some 113, .mov (.t 1), none⟩,
   ⟨some 114, .len (.t 113), none⟩,
   ⟨some 115, .mov (.c (iv 0)), none⟩]) (.block 2 (.loop (.seq (.region false [⟨some 116, .bin .lss false (.t 115) (.t 114), none⟩]) (.seq (.cond (.t 116) .skip (.exit 2)) (.seq (.block 3 (.seq (.region false [⟨some 117, .mov (.t 115), none⟩,
   ⟨some 118, .ixa 1 (.t 113) (.t 115), none⟩,
   ⟨some 119, .load none (.t 118), none⟩,
   ⟨some 15, .mov (.t 117), none⟩,
   ⟨some 16, .mov (.t 119), none⟩]) (.seq (.region false [⟨some 121, .mov (.t 16), none⟩,
   ⟨some 122, .mov (.t 6), none⟩,
   ⟨some 123, .call F.bits_Mul64 [.t 121, .t 122], none⟩,
   ⟨some 120, .mov (.t 123), none⟩,
   ⟨some 124, .ext (.t 120) 0, none⟩,
   ⟨some 125, .ext (.t 120) 1, none⟩,
   ⟨some 17, .mov (.t 124), none⟩,
   ⟨some 18, .mov (.t 125), none⟩]) (.seq (.region false [⟨some 127, .mov (.t 18), none⟩,
   ⟨some 128, .mov (.t 13), none⟩,
   ⟨some 129, .ext64 false (.t 127) (.t 128) (.c (nv 0)), none⟩,
   ⟨some 126, .mov (.t 129), none⟩,
   ⟨some 130, .ext (.t 126) 0, none⟩,
   ⟨some 131, .ext (.t 126) 1, none⟩,
   ⟨some 19, .mov (.t 130), none⟩,
   ⟨some 20, .mov (.t 131), none⟩]) (.seq (.region false [⟨some 132, .mov (.t 17), none⟩,
   ⟨some 133, .mov (.t 20), none⟩,
   ⟨some 134, .bin .add false (.t 132) (.t 133), none⟩,
   ⟨some 13, .mov (.t 134), none⟩]) (.region false [⟨some 136, .mov (.t 0), none⟩,
   ⟨some 137, .mov (.t 15), none⟩,
   ⟨some 138, .mov (.t 0), none⟩,
   ⟨some 139, .mov (.t 15), none⟩,
   ⟨some 140, .ixa 1 (.t 138) (.t 139), none⟩,
   ⟨some 141, .load none (.t 140), none⟩,
   ⟨some 142, .mov (.t 19), none⟩,
   ⟨some 143, .mov (.t 14), none⟩,
   ⟨some 144, .ext64 true (.t 141) (.t 142) (.t 143), none⟩,
   ⟨some 135, .mov (.t 144), none⟩,
   ⟨some 145, .ext (.t 135) 0, none⟩,
   ⟨some 146, .ext (.t 135) 1, none⟩,
   ⟨some 147, .ixa 1 (.t 136) (.t 137), none⟩,
   ⟨none, .store 1 (.t 147) (.t 145), none⟩,
   ⟨some 14, .mov (.t 146), none⟩])))))) (.region false [⟨some 148, .bin .add false (.t 115) (.c (iv 1)), none⟩,
   ⟨some 115, .mov (.t 148), none⟩]))))))) (.seq (.region false [⟨some 150, .mov (.t 0), none⟩,
   ⟨some 151, .mov (.t 5), none⟩,
   ⟨some 152, .mov (.t 0), none⟩,
   ⟨some 153, .mov (.t 5), none⟩,
   ⟨some 154, .ixa 1 (.t 152) (.t 153), none⟩,
   ⟨some 155, .load none (.t 154), none⟩,
   ⟨some 156, .mov (.t 13), none⟩,
   ⟨some 157, .mov (.t 14), none⟩,
   ⟨some 158, .ext64 true (.t 155) (.t 156) (.t 157), none⟩,
   ⟨some 149, .mov (.t 158), none⟩,
   ⟨some 159, .ext (.t 149) 0, none⟩,
   ⟨some 160, .ext (.t 149) 1, none⟩,
   ⟨some 161, .ixa 1 (.t 150) (.t 151), none⟩,
   ⟨none, .store 1 (.t 161) (.t 159), none⟩,
   ⟨some 14, .mov (.t 160), none⟩]) (.seq (.seq (.region false [⟨some 162, .mov (.t 14), none⟩,
   ⟨some 163, .bin .neq false (.t 162) (.c (nv 0)), none⟩]) (.cond (.t 163) (.seq (.region false [⟨some 164, .mov (.t 6), none⟩,
   ⟨some 165, .bin .sub false (.t 164) (.c (nv 1)), none⟩,
   ⟨some 6, .mov (.t 165), none⟩]) (.seq (.region false [⟨some 21, .mov (.c (nv 0)), none⟩]) (.seq (.seq (.region false [⟨some 166, .mov (.t 1), none⟩,
   ⟨some 167, .len (.t 166), none⟩,
   ⟨some 168, .mov (.c (iv 0)), none⟩]) (.block 4 (.loop (.seq (.region false [⟨some 169, .bin .lss false (.t 168) (.t 167), none⟩]) (.seq (.cond (.t 169) .skip (.exit 4)) (.seq (.block 5 (.seq (.region false [⟨some 170, .mov (.t 168), none⟩,
   ⟨some 171, .ixa 1 (.t 166) (.t 168), none⟩,
   ⟨some 172, .load none (.t 171), none⟩,
   ⟨some 22, .mov (.t 170), none⟩,
   ⟨some 23, .mov (.t 172), none⟩]) (.region false [⟨some 174, .mov (.t 0), none⟩,
   ⟨some 175, .mov (.t 22), none⟩,
   ⟨some 176, .mov (.t 0), none⟩,
   ⟨some 177, .mov (.t 22), none⟩,
   ⟨some 178, .ixa 1 (.t 176) (.t 177), none⟩,
   ⟨some 179, .load none (.t 178), none⟩,
   ⟨some 180, .mov (.t 23), none⟩,
   ⟨some 181, .mov (.t 21), none⟩,
   ⟨some 182, .ext64 false (.t 179) (.t 180) (.t 181), none⟩,
   ⟨some 173, .mov (.t 182), none⟩,
   ⟨some 183, .ext (.t 173) 0, none⟩,
   ⟨some 184, .ext (.t 173) 1, none⟩,
   ⟨some 185, .ixa 1 (.t 174) (.t 175), none⟩,
   ⟨none, .store 1 (.t 185) (.t 183), none⟩,
   ⟨some 21, .mov (.t 184), none⟩]))) (.region false [⟨some 186, .bin .add false (.t 168) (.c (iv 1)), none⟩,
   ⟨some 168, .mov (.t 186), none⟩]))))))) (.region false [⟨some 187, .mov (.t 0), none⟩,
   ⟨some 188, .mov (.t 5), none⟩,
   ⟨some 189, .ixa 1 (.t 187) (.t 188), none⟩,
   ⟨some 190, .load none (.t 189), none⟩,
   ⟨some 191, .mov (.t 21), none⟩,
   ⟨some 192, .bin .add false (.t 190) (.t 191), none⟩,
   ⟨some 193, .ixa 1 (.t 187) (.t 188), none⟩,
   ⟨none, .store 1 (.t 193) (.t 192), none⟩])))) .skip)) (.seq (.region false [⟨some 194, .mov (.t 6), none⟩,
   ⟨some 4, .mov (.t 194), none⟩]) .ret))))))))))
def R.div_guess : List VRes := [.tmp 4]
theorem K.div_guess : resCode Tryd.prog Tryd.f78.ntmps (Tryd.f78.body.getD .skip) = C.div_guess := by kernel_rfl
theorem Q.div_guess : resResults Tryd.prog Tryd.f78.results.toList = some R.div_guess := by kernel_rfl
theorem E.div_guess : Tryd.prog.funcs[F.div_guess]? = some Tryd.f78 := Tryd.func78
theorem B.div_guess : Tryd.f78.body = some (Tryd.f78.body.getD .skip) := by kernel_rfl
theorem N.div_guess : Tryd.f78.ntmps = 195 := Tryd.ntmps78

def C.div_down : VC :=
  .seq (.region false [⟨some 4, .mov (.c nil1), none⟩]) (.seq (.region false [⟨some 8, .mov (.t 0), none⟩,
   ⟨some 9, .len (.t 8), none⟩,
   ⟨some 10, .mk [.int .u64 0] 8 (.t 9) (.t 9), none⟩,
   ⟨some 5, .mov (.t 10), none⟩]) (.seq (.seq (.region false [⟨some 11, .mov (.t 0), none⟩,
   ⟨some 12, .len (.t 11), none⟩,
   ⟨some 13, .mov (.c (iv 0)), none⟩]) (.block 0 (.loop (.seq (.region false [⟨some 14, .bin .lss false (.t 13) (.t 12), none⟩]) (.seq (.cond (.t 14) .skip (.exit 0)) (.seq (.block 1 (.seq (.region false [⟨some 15, .mov (.t 13), none⟩,
   ⟨some 16, .ixa 1 (.t 11) (.t 13), none⟩,
   ⟨some 17, .load none (.t 16), none⟩,
   ⟨some 6, .mov (.t 15), none⟩,
   ⟨some 7, .mov (.t 17), none⟩]) (.seq (.region false [⟨some 18, .mov (.t 5), none⟩,
   ⟨some 19, .mov (.t 6), none⟩,
   ⟨some 20, .mov (.t 7), none⟩,
   ⟨some 21, .mov (.t 1), none⟩,
   ⟨some 22, .bin .shr false (.t 20) (.t 21), none⟩,
   ⟨some 23, .ixa 1 (.t 18) (.t 19), none⟩,
   ⟨none, .store 1 (.t 23) (.t 22), none⟩]) (.seq (.region false [⟨some 24, .mov (.t 6), none⟩,
   ⟨some 25, .bin .add false (.t 24) (.c (iv 1)), none⟩,
   ⟨some 26, .mov (.t 0), none⟩,
   ⟨some 27, .len (.t 26), none⟩,
   ⟨some 28, .bin .lss false (.t 25) (.t 27), none⟩]) (.cond (.t 28) (.region true [⟨some 29, .mov (.t 5), none⟩,
   ⟨some 30, .mov (.t 6), none⟩,
   ⟨some 31, .ixa 1 (.t 29) (.t 30), none⟩,
   ⟨some 32, .load none (.t 31), none⟩,
   ⟨some 33, .mov (.t 0), none⟩,
   ⟨some 34, .mov (.t 6), none⟩,
   ⟨some 35, .bin .add false (.t 34) (.c (iv 1)), none⟩,
   ⟨some 36, .ixa 1 (.t 33) (.t 35), none⟩,
   ⟨some 37, .load none (.t 36), none⟩,
   ⟨some 38, .bin .shl false (.t 37) (.c (nv 1)), none⟩,
   ⟨some 39, .mov (.t 1), none⟩,
   ⟨some 40, .bin .sub false (.c (nv 63)) (.t 39), none⟩,
   ⟨some 41, .bin .shl false (.t 38) (.t 40), none⟩,
   ⟨some 42, .bin .or false (.t 32) (.t 41), none⟩,
   ⟨some 43, .ixa 1 (.t 29) (.t 30), none⟩,
   ⟨none, .store 1 (.t 43) (.t 42), none⟩]) .skip))))) (.region false [⟨some 44, .bin .add false (.t 13) (.c (iv 1)), none⟩,
   ⟨some 13, .mov (.t 44), none⟩]))))))) (.seq (.region false [⟨some 45, .mov (.t 5), none⟩,
   ⟨some 46, .call F.nat_Norm [.t 45], none⟩,
   ⟨some 4, .mov (.t 46), none⟩]) .ret)))
def R.div_down : List VRes := [.tmp 4]
theorem K.div_down : resCode Tryd.prog Tryd.f79.ntmps (Tryd.f79.body.getD .skip) = C.div_down := by kernel_rfl
theorem Q.div_down : resResults Tryd.prog Tryd.f79.results.toList = some R.div_down := by kernel_rfl
theorem E.div_down : Tryd.prog.funcs[F.div_down]? = some Tryd.f79 := Tryd.func79
theorem B.div_down : Tryd.f79.body = some (Tryd.f79.body.getD .skip) := by kernel_rfl
theorem N.div_down : Tryd.f79.ntmps = 47 := Tryd.ntmps79

def C.mul_product : VC :=
  .seq (.region false [⟨some 6, .mov (.c nil1), none⟩,
   ⟨some 7, .mov (.c (iv 0)), none⟩]) (.seq (.region false [⟨some 8, .mov (.t 0), none⟩,
   ⟨some 9, .call F.nat_Norm [.t 8], none⟩,
   ⟨some 10, .mov (.t 1), none⟩,
   ⟨some 11, .call F.nat_Norm [.t 10], none⟩,
   ⟨some 0, .mov (.t 9), none⟩,
   ⟨some 1, .mov (.t 11), none⟩]) (.seq (.seq (.region false [⟨some 12, .mov (.t 0), none⟩,
   ⟨some 13, .mov (.t 1), none⟩,
   ⟨some 14, .call F.mul_great [.t 12, .t 13], none⟩]) (.cond (.t 14) (.seq (.region false [⟨some 6, .mov (.c nil1), none⟩,
   ⟨some 7, .mov (.c (iv 3)), none⟩]) .ret) .skip)) (.seq (.region false [⟨some 15, .mov (.t 2), none⟩,
   ⟨some 16, .mov (.t 0), none⟩,
   ⟨some 17, .mov (.t 1), none⟩,
   ⟨some 18, .callv (.t 15) [.t 16, .t 17], none⟩,
   ⟨some 19, .call F.mul_fits [.t 18], none⟩,
   ⟨some 20, .ext (.t 19) 0, none⟩,
   ⟨some 21, .ext (.t 19) 1, none⟩,
   ⟨some 6, .mov (.t 20), none⟩,
   ⟨some 7, .mov (.t 21), none⟩]) .ret)))
def R.mul_product : List VRes := [.tmp 6, .tmp 7]
theorem K.mul_product : resCode Tryd.prog Tryd.f80.ntmps (Tryd.f80.body.getD .skip) = C.mul_product := by kernel_rfl
theorem Q.mul_product : resResults Tryd.prog Tryd.f80.results.toList = some R.mul_product := by kernel_rfl
theorem E.mul_product : Tryd.prog.funcs[F.mul_product]? = some Tryd.f80 := Tryd.func80
theorem B.mul_product : Tryd.f80.body = some (Tryd.f80.body.getD .skip) := by kernel_rfl
theorem N.mul_product : Tryd.f80.ntmps = 22 := Tryd.ntmps80

def C.mul_Mul_1 : VC :=
  .seq (.region false [⟨some 4, .mov (.c nil1), none⟩]) (.seq (.region false [⟨some 5, .mov (.t 0), none⟩,
   ⟨some 6, .mov (.t 1), none⟩,
   ⟨some 7, .call F.mul_halved [.t 5, .t 6, .c (iv 40)], none⟩,
   ⟨some 4, .mov (.t 7), none⟩]) .ret)
def R.mul_Mul_1 : List VRes := [.tmp 4]
theorem K.mul_Mul_1 : resCode Tryd.prog Tryd.f81.ntmps (Tryd.f81.body.getD .skip) = C.mul_Mul_1 := by kernel_rfl
theorem Q.mul_Mul_1 : resResults Tryd.prog Tryd.f81.results.toList = some R.mul_Mul_1 := by kernel_rfl
theorem E.mul_Mul_1 : Tryd.prog.funcs[F.mul_Mul_1]? = some Tryd.f81 := Tryd.func81
theorem B.mul_Mul_1 : Tryd.f81.body = some (Tryd.f81.body.getD .skip) := by kernel_rfl
theorem N.mul_Mul_1 : Tryd.f81.ntmps = 8 := Tryd.ntmps81

def C.mul_halved : VC :=
  .seq (.region false [⟨some 6, .mov (.c nil1), none⟩]) (.seq (.seq (.region false [⟨some 17, .mov (.t 0), none⟩,
   ⟨some 18, .len (.t 17), none⟩,
   ⟨some 19, .mov (.t 1), none⟩,
   ⟨some 20, .len (.t 19), none⟩,
   ⟨some 21, .bin .lss false (.t 18) (.t 20), none⟩]) (.cond (.t 21) (.region false [⟨some 22, .mov (.t 1), none⟩,
   ⟨some 23, .mov (.t 0), none⟩,
   ⟨some 0, .mov (.t 22), none⟩,
   ⟨some 1, .mov (.t 23), none⟩]) .skip)) (.seq (.seq (.region false [⟨some 24, .mov (.t 1), none⟩,
   ⟨some 25, .len (.t 24), none⟩,
   ⟨some 26, .mov (.t 2), none⟩,
   ⟨some 27, .bin .lss false (.t 25) (.t 26), none⟩]) (.cond (.t 27) (.seq (.region false [⟨some 28, .mov (.t 0), none⟩,
   ⟨some 29, .mov (.t 1), none⟩,
   ⟨some 30, .call F.mul_school [.t 28, .t 29], none⟩,
   ⟨some 6, .mov (.t 30), none⟩]) .ret) .skip)) (.seq (.region false [⟨some 31, .mov (.t 0), none⟩,
   ⟨some 32, .len (.t 31), none⟩,
   ⟨some 33, .bin .add false (.t 32) (.c (iv 1)), none⟩,
   ⟨some 34, .bin .quo false (.t 33) (.c (iv 2)), none⟩,
   ⟨some 7, .mov (.t 34), none⟩]) (.seq (.seq (.region false [⟨some 35, .mov (.t 1), none⟩,
   ⟨some 36, .len (.t 35), none⟩,
   ⟨some 37, .mov (.t 7), none⟩,
   ⟨some 38, .bin .leq false (.t 36) (.t 37), none⟩]) (.cond (.t 38) (.seq (.region false [⟨some 39, .mov (.t 0), none⟩,
   ⟨some 40, .len (.t 39), none⟩,
   ⟨some 41, .mov (.t 1), none⟩,
   ⟨some 42, .len (.t 41), none⟩,
   ⟨some 43, .bin .add false (.t 40) (.t 42), none⟩,
   ⟨some 44, .bin .add false (.t 43) (.c (iv 1)), none⟩,
   ⟨some 45, .mk [.int .u64 0] 8 (.t 44) (.t 44), none⟩,
   ⟨some 8, .mov (.t 45), none⟩]) (.seq (.region false [⟨some 46, .mov (.t 8), none⟩,
   ⟨some 47, .mov (.t 0), none⟩,
   ⟨some 48, .mov (.t 7), none⟩,
   ⟨some 49, .call F.mul_part [.t 47, .c (iv 0), .t 48], none⟩,
   ⟨some 50, .mov (.t 1), none⟩,
   ⟨some 51, .mov (.t 2), none⟩,
   ⟨some 52, .call F.mul_halved [.t 49, .t 50, .t 51], none⟩,
   ⟨some 53, .call F.mul_addAt [.t 46, .t 52, .c (iv 0)], none⟩]) (.seq (.region false [⟨some 54, .mov (.t 8), none⟩,
   ⟨some 55, .mov (.t 0), none⟩,
   ⟨some 56, .mov (.t 7), none⟩,
   ⟨some 57, .mov (.t 0), none⟩,
   ⟨some 58, .len (.t 57), none⟩,
   ⟨some 59, .call F.mul_part [.t 55, .t 56, .t 58], none⟩,
   ⟨some 60, .mov (.t 1), none⟩,
   ⟨some 61, .mov (.t 2), none⟩,
   ⟨some 62, .call F.mul_halved [.t 59, .t 60, .t 61], none⟩,
   ⟨some 63, .mov (.t 7), none⟩,
   ⟨some 64, .call F.mul_addAt [.t 54, .t 62, .t 63], none⟩]) (.seq (.region false [⟨some 65, .mov (.t 8), none⟩,
   ⟨some 6, .mov (.t 65), none⟩]) .ret)))) .skip)) (.seq (.region false [⟨some 66, .mov (.t 0), none⟩,
   ⟨some 67, .mov (.t 7), none⟩,
   ⟨some 68, .call F.mul_part [.t 66, .c (iv 0), .t 67], none⟩,
   ⟨some 69, .mov (.t 0), none⟩,
   ⟨some 70, .mov (.t 7), none⟩,
   ⟨some 71, .mov (.t 0), none⟩,
   ⟨some 72, .len (.t 71), none⟩,
   ⟨some 73, .call F.mul_part [.t 69, .t 70, .t 72], none⟩,
   ⟨some 74, .mov (.t 1), none⟩,
   ⟨some 75, .mov (.t 7), none⟩,
   ⟨some 76, .call F.mul_part [.t 74, .c (iv 0), .t 75], none⟩,
   ⟨some 77, .mov (.t 1), none⟩,
   ⟨some 78, .mov (.t 7), none⟩,
   ⟨some 79, .mov (.t 1), none⟩,
   ⟨some 80, .len (.t 79), none⟩,
   ⟨some 81, .call F.mul_part [.t 77, .t 78, .t 80], none⟩,
   ⟨some 9, .mov (.t 68), none⟩,
   ⟨some 10, .mov (.t 73), none⟩,
   ⟨some 11, .mov (.t 76), none⟩,
   ⟨some 12, .mov (.t 81), none⟩]) (.seq (.region false [⟨some 82, .mov (.t 9), none⟩,
   ⟨some 83, .mov (.t 11), none⟩,
   ⟨some 84, .mov (.t 2), none⟩,
   ⟨some 85, .call F.mul_halved [.t 82, .t 83, .t 84], none⟩,
   ⟨some 86, .mov (.t 10), none⟩,
   ⟨some 87, .mov (.t 12), none⟩,
   ⟨some 88, .mov (.t 2), none⟩,
   ⟨some 89, .call F.mul_halved [.t 86, .t 87, .t 88], none⟩,
   ⟨some 13, .mov (.t 85), none⟩,
   ⟨some 14, .mov (.t 89), none⟩]) (.seq (.region false [⟨some 90, .mov (.t 9), none⟩,
   ⟨some 91, .mov (.t 10), none⟩,
   ⟨some 92, .call F.mul_sum [.t 90, .t 91], none⟩,
   ⟨some 93, .call F.nat_Norm [.t 92], none⟩,
   ⟨some 94, .mov (.t 11), none⟩,
   ⟨some 95, .mov (.t 12), none⟩,
   ⟨some 96, .call F.mul_sum [.t 94, .t 95], none⟩,
   ⟨some 97, .call F.nat_Norm [.t 96], none⟩,
   ⟨some 98, .mov (.t 2), none⟩,
   ⟨some 99, .call F.mul_halved [.t 93, .t 97, .t 98], none⟩,
   ⟨some 100, .mov (.t 13), none⟩,
   ⟨some 101, .call F.mul_less [.t 99, .t 100], none⟩,
   ⟨some 102, .mov (.t 14), none⟩,
   ⟨some 103, .call F.mul_less [.t 101, .t 102], none⟩,
   ⟨some 15, .mov (.t 103), none⟩]) (.seq (.region false [⟨some 104, .mov (.t 0), none⟩,
   ⟨some 105, .len (.t 104), none⟩,
   ⟨some 106, .mov (.t 1), none⟩,
   ⟨some 107, .len (.t 106), none⟩,
   ⟨some 108, .bin .add false (.t 105) (.t 107), none⟩,
   ⟨some 109, .bin .add false (.t 108) (.c (iv 1)), none⟩,
   ⟨some 110, .mk [.int .u64 0] 8 (.t 109) (.t 109), none⟩,
   ⟨some 16, .mov (.t 110), none⟩]) (.seq (.region false [⟨some 111, .mov (.t 16), none⟩,
   ⟨some 112, .mov (.t 13), none⟩,
   ⟨some 113, .call F.mul_addAt [.t 111, .t 112, .c (iv 0)], none⟩]) (.seq (.region false [⟨some 114, .mov (.t 16), none⟩,
   ⟨some 115, .mov (.t 15), none⟩,
   ⟨some 116, .mov (.t 7), none⟩,
   ⟨some 117, .call F.mul_addAt [.t 114, .t 115, .t 116], none⟩]) (.seq (.region false [⟨some 118, .mov (.t 16), none⟩,
   ⟨some 119, .mov (.t 14), none⟩,
   ⟨some 120, .mov (.t 7), none⟩,
   ⟨some 121, .bin .mul false (.c (iv 2)) (.t 120), none⟩,
   ⟨some 122, .call F.mul_addAt [.t 118, .t 119, .t 121], none⟩]) (.seq (.region false [⟨some 123, .mov (.t 16), none⟩,
   ⟨some 6, .mov (.t 123), none⟩]) .ret))))))))))))
def R.mul_halved : List VRes := [.tmp 6]
theorem K.mul_halved : resCode Tryd.prog Tryd.f82.ntmps (Tryd.f82.body.getD .skip) = C.mul_halved := by kernel_rfl
theorem Q.mul_halved : resResults Tryd.prog Tryd.f82.results.toList = some R.mul_halved := by kernel_rfl
theorem E.mul_halved : Tryd.prog.funcs[F.mul_halved]? = some Tryd.f82 := Tryd.func82
theorem B.mul_halved : Tryd.f82.body = some (Tryd.f82.body.getD .skip) := by kernel_rfl
theorem N.mul_halved : Tryd.f82.ntmps = 124 := Tryd.ntmps82

def C.roots_power : VC :=
  .seq (.region false [⟨some 2, .mov (.c nil1), none⟩]) (.seq (.region false [⟨some 6, .call F.nat_From [.c (nv 1)], none⟩,
   ⟨some 7, .mov (.t 0), none⟩,
   ⟨some 8, .call F.nat_Left [.t 6, .t 7], none⟩,
   ⟨some 5, .mov (.t 8), none⟩,
   ⟨some 9, .ext (.t 5) 0, none⟩,
   ⟨some 10, .ext (.t 5) 1, none⟩,
   ⟨some 3, .mov (.t 9), none⟩,
   ⟨some 4, .mov (.t 10), none⟩]) (.seq (.region false [⟨some 11, .mov (.t 3), none⟩,
   ⟨some 2, .mov (.t 11), none⟩]) .ret))
def R.roots_power : List VRes := [.tmp 2]
theorem K.roots_power : resCode Tryd.prog Tryd.f83.ntmps (Tryd.f83.body.getD .skip) = C.roots_power := by kernel_rfl
theorem Q.roots_power : resResults Tryd.prog Tryd.f83.results.toList = some R.roots_power := by kernel_rfl
theorem E.roots_power : Tryd.prog.funcs[F.roots_power]? = some Tryd.f83 := Tryd.func83
theorem B.roots_power : Tryd.f83.body = some (Tryd.f83.body.getD .skip) := by kernel_rfl
theorem N.roots_power : Tryd.f83.ntmps = 12 := Tryd.ntmps83

def C.nat_Times : VC :=
  .seq (.region false [⟨some 4, .mov (.c nil1), none⟩,
   ⟨some 5, .mov (.c (iv 0)), none⟩]) (.seq (.region false [⟨some 14, .mov (.t 0), none⟩,
   ⟨some 15, .call F.nat_trim [.t 14], none⟩,
   ⟨some 0, .mov (.t 15), none⟩]) (.seq (.region false [⟨some 16, .mov (.t 0), none⟩,
   ⟨some 17, .len (.t 16), none⟩,
   ⟨some 18, .bin .add false (.t 17) (.c (iv 1)), none⟩,
   ⟨some 19, .mk [.int .u64 0] 8 (.t 18) (.t 18), none⟩,
   ⟨some 6, .mov (.t 19), none⟩]) (.seq (.region false [⟨some 7, .mov (.c (nv 0)), none⟩]) (.seq (.seq (.region false [⟨some 20, .mov (.t 0), none⟩,
   ⟨some 21, .len (.t 20), none⟩,
   ⟨some 22, .mov (.c (iv 0)), none⟩]) (.block 0 (.loop (.seq (.region false [⟨some 23, .bin .lss false (.t 22) (.t 21), none⟩]) (.seq (.cond (.t 23) .skip (.exit 0)) (.seq (.block 1 (.seq (.region false [⟨some 24, .mov (.t 22), none⟩,
   ⟨some 25, .ixa 1 (.t 20) (.t 22), none⟩,
   ⟨some 26, .load none (.t 25), none⟩,
   ⟨some 8, .mov (.t 24), none⟩,
   ⟨some 9, .mov (.t 26), none⟩]) (.seq (.region false [⟨some 28, .mov (.t 9), none⟩,
   ⟨some 29, .mov (.t 1), none⟩,
   ⟨some 30, .call F.bits_Mul64 [.t 28, .t 29], none⟩,
   ⟨some 27, .mov (.t 30), none⟩,
   ⟨some 31, .ext (.t 27) 0, none⟩,
   ⟨some 32, .ext (.t 27) 1, none⟩,
   ⟨some 10, .mov (.t 31), none⟩,
   ⟨some 11, .mov (.t 32), none⟩]) (.seq (.region false [⟨some 34, .mov (.t 11), none⟩,
   ⟨some 35, .mov (.t 7), none⟩,
   ⟨some 36, .ext64 false (.t 34) (.t 35) (.c (nv 0)), none⟩,
   ⟨some 33, .mov (.t 36), none⟩,
   ⟨some 37, .ext (.t 33) 0, none⟩,
   ⟨some 38, .ext (.t 33) 1, none⟩,
   ⟨some 12, .mov (.t 37), none⟩,
   ⟨some 13, .mov (.t 38), none⟩]) (.seq (.region false [⟨some 39, .mov (.t 6), none⟩,
   ⟨some 40, .mov (.t 8), none⟩,
   ⟨some 41, .mov (.t 12), none⟩,
   ⟨some 42, .ixa 1 (.t 39) (.t 40), none⟩,
   ⟨none, .store 1 (.t 42) (.t 41), none⟩]) (.region false [⟨some 43, .mov (.t 10), none⟩,
   ⟨some 44, .mov (.t 13), none⟩,
   ⟨some 45, .bin .add false (.t 43) (.t 44), none⟩,
   ⟨some 7, .mov (.t 45), none⟩])))))) (.region false [⟨some 46, .bin .add false (.t 22) (.c (iv 1)), none⟩,
   ⟨some 22, .mov (.t 46), none⟩]))))))) (.seq (.region false [⟨some 47, .mov (.t 6), none⟩,
   ⟨some 48, .mov (.t 0), none⟩,
   ⟨some 49, .len (.t 48), none⟩,
   ⟨some 50, .mov (.t 7), none⟩,
   ⟨some 51, .ixa 1 (.t 47) (.t 49), none⟩,
   ⟨none, .store 1 (.t 51) (.t 50), none⟩]) (.seq (.region false [⟨some 52, .mov (.t 6), none⟩,
   ⟨some 53, .call F.nat_told [.t 52], none⟩,
   ⟨some 54, .ext (.t 53) 0, none⟩,
   ⟨some 55, .ext (.t 53) 1, none⟩,
   ⟨some 4, .mov (.t 54), none⟩,
   ⟨some 5, .mov (.t 55), none⟩]) .ret))))))
def R.nat_Times : List VRes := [.tmp 4, .tmp 5]
theorem K.nat_Times : resCode Tryd.prog Tryd.f84.ntmps (Tryd.f84.body.getD .skip) = C.nat_Times := by kernel_rfl
theorem Q.nat_Times : resResults Tryd.prog Tryd.f84.results.toList = some R.nat_Times := by kernel_rfl
theorem E.nat_Times : Tryd.prog.funcs[F.nat_Times]? = some Tryd.f84 := Tryd.func84
theorem B.nat_Times : Tryd.f84.body = some (Tryd.f84.body.getD .skip) := by kernel_rfl
theorem N.nat_Times : Tryd.f84.ntmps = 56 := Tryd.ntmps84

def C.nat_Through : VC :=
  .seq (.region false [⟨some 4, .mov (.c nil1), none⟩,
   ⟨some 5, .mov (.c (nv 0)), none⟩,
   ⟨some 6, .mov (.c (iv 0)), none⟩]) (.seq (.seq (.region false [⟨some 11, .mov (.t 1), none⟩,
   ⟨some 12, .bin .eql false (.t 11) (.c (nv 0)), none⟩]) (.cond (.t 12) (.seq (.region false [⟨some 4, .mov (.c nil1), none⟩,
   ⟨some 5, .mov (.c (nv 0)), none⟩,
   ⟨some 6, .mov (.c (iv 1)), none⟩]) .ret) .skip)) (.seq (.region false [⟨some 13, .mov (.t 0), none⟩,
   ⟨some 14, .call F.nat_trim [.t 13], none⟩,
   ⟨some 0, .mov (.t 14), none⟩]) (.seq (.region false [⟨some 15, .mov (.t 0), none⟩,
   ⟨some 16, .len (.t 15), none⟩,
   ⟨some 17, .mk [.int .u64 0] 8 (.t 16) (.t 16), none⟩,
   ⟨some 7, .mov (.t 17), none⟩]) (.seq (.region false [⟨some 8, .mov (.c (nv 0)), none⟩]) (.seq (.seq (.region false [⟨some 18, .mov (.t 0), none⟩,
   ⟨some 19, .len (.t 18), none⟩,
   ⟨some 20, .bin .sub false (.t 19) (.c (iv 1)), none⟩,
   ⟨some 9, .mov (.t 20), none⟩]) (.block 0 (.loop (.seq (.seq (.region false [⟨some 21, .mov (.t 9), none⟩,
   ⟨some 22, .bin .geq false (.t 21) (.c (iv 0)), none⟩]) (.cond (.t 22) .skip (.exit 0))) (.seq (.block 1 (.region false [⟨some 26, .mov (.t 7), none⟩,
   ⟨some 27, .mov (.t 9), none⟩,
   ⟨some 28, .mov (.t 8), none⟩,
   ⟨some 29, .mov (.t 0), none⟩,
   ⟨some 30, .mov (.t 9), none⟩,
   ⟨some 31, .ixa 1 (.t 29) (.t 30), none⟩,
   ⟨some 32, .load none (.t 31), none⟩,
   ⟨some 33, .mov (.t 1), none⟩,
   ⟨some 34, .call F.bits_Div64 [.t 28, .t 32, .t 33], none⟩,
   ⟨some 25, .mov (.t 34), none⟩,
   ⟨some 35, .ext (.t 25) 0, none⟩,
   ⟨some 36, .ext (.t 25) 1, none⟩,
   ⟨some 37, .ixa 1 (.t 26) (.t 27), none⟩,
   ⟨none, .store 1 (.t 37) (.t 35), none⟩,
   ⟨some 8, .mov (.t 36), none⟩])) (.region false [⟨some 23, .mov (.t 9), none⟩,
   ⟨some 24, .bin .sub false (.t 23) (.c (iv 1)), none⟩,
   ⟨some 9, .mov (.t 24), none⟩])))))) (.seq (.region false [⟨some 39, .mov (.t 7), none⟩,
   ⟨some 40, .call F.nat_told [.t 39], none⟩,
   ⟨some 38, .mov (.t 40), none⟩,
   ⟨some 41, .ext (.t 38) 0, none⟩,
   ⟨some 42, .ext (.t 38) 1, none⟩,
   ⟨some 7, .mov (.t 41), none⟩,
   ⟨some 10, .mov (.t 42), none⟩]) (.seq (.seq (.region false [⟨some 43, .mov (.t 10), none⟩,
   ⟨some 44, .bin .neq false (.t 43) (.c (iv 0)), none⟩]) (.cond (.t 44) (.seq (.region false [⟨some 45, .mov (.t 10), none⟩,
   ⟨some 4, .mov (.c nil1), none⟩,
   ⟨some 5, .mov (.c (nv 0)), none⟩,
   ⟨some 6, .mov (.t 45), none⟩]) .ret) .skip)) (.seq (.region false [⟨some 46, .mov (.t 7), none⟩,
   ⟨some 47, .mov (.t 8), none⟩,
   ⟨some 4, .mov (.t 46), none⟩,
   ⟨some 5, .mov (.t 47), none⟩,
   ⟨some 6, .mov (.c (iv 0)), none⟩]) .ret))))))))
def R.nat_Through : List VRes := [.tmp 4, .tmp 5, .tmp 6]
theorem K.nat_Through : resCode Tryd.prog Tryd.f85.ntmps (Tryd.f85.body.getD .skip) = C.nat_Through := by kernel_rfl
theorem Q.nat_Through : resResults Tryd.prog Tryd.f85.results.toList = some R.nat_Through := by kernel_rfl
theorem E.nat_Through : Tryd.prog.funcs[F.nat_Through]? = some Tryd.f85 := Tryd.func85
theorem B.nat_Through : Tryd.f85.body = some (Tryd.f85.body.getD .skip) := by kernel_rfl
theorem N.nat_Through : Tryd.f85.ntmps = 48 := Tryd.ntmps85

def C.mul_Square : VC :=
  .seq (.region false [⟨some 2, .mov (.c nil1), none⟩,
   ⟨some 3, .mov (.c (iv 0)), none⟩]) (.seq (.region false [⟨some 4, .mov (.t 0), none⟩,
   ⟨some 5, .mov (.t 0), none⟩,
   ⟨some 6, .call F.mul_Mul [.t 4, .t 5], none⟩,
   ⟨some 7, .ext (.t 6) 0, none⟩,
   ⟨some 8, .ext (.t 6) 1, none⟩,
   ⟨some 2, .mov (.t 7), none⟩,
   ⟨some 3, .mov (.t 8), none⟩]) .ret)
def R.mul_Square : List VRes := [.tmp 2, .tmp 3]
theorem K.mul_Square : resCode Tryd.prog Tryd.f86.ntmps (Tryd.f86.body.getD .skip) = C.mul_Square := by kernel_rfl
theorem Q.mul_Square : resResults Tryd.prog Tryd.f86.results.toList = some R.mul_Square := by kernel_rfl
theorem E.mul_Square : Tryd.prog.funcs[F.mul_Square]? = some Tryd.f86 := Tryd.func86
theorem B.mul_Square : Tryd.f86.body = some (Tryd.f86.body.getD .skip) := by kernel_rfl
theorem N.mul_Square : Tryd.f86.ntmps = 9 := Tryd.ntmps86

def C.nat_Sub : VC :=
  .seq (.region false [⟨some 4, .mov (.c nil1), none⟩,
   ⟨some 5, .mov (.c (iv 0)), none⟩]) (.seq (.seq (.region false [⟨some 10, .mov (.t 0), none⟩,
   ⟨some 11, .mov (.t 1), none⟩,
   ⟨some 12, .call F.nat_Compare [.t 10, .t 11], none⟩,
   ⟨some 13, .bin .lss false (.t 12) (.c (iv 0)), none⟩]) (.cond (.t 13) (.seq (.region false [⟨some 4, .mov (.c nil1), none⟩,
   ⟨some 5, .mov (.c (iv 10)), none⟩]) .ret) .skip)) (.seq (.region false [⟨some 14, .mov (.t 0), none⟩,
   ⟨some 15, .call F.nat_trim [.t 14], none⟩,
   ⟨some 16, .mov (.t 1), none⟩,
   ⟨some 17, .call F.nat_trim [.t 16], none⟩,
   ⟨some 0, .mov (.t 15), none⟩,
   ⟨some 1, .mov (.t 17), none⟩]) (.seq (.region false [⟨some 18, .mov (.t 0), none⟩,
   ⟨some 19, .len (.t 18), none⟩,
   ⟨some 20, .mk [.int .u64 0] 8 (.t 19) (.t 19), none⟩,
   ⟨some 6, .mov (.t 20), none⟩]) (.seq (.region false [⟨some 7, .mov (.c (nv 0)), none⟩]) (.seq (.seq (.region false [⟨some 21, .mov (.t 0), none⟩,
   ⟨some 22, .len (.t 21), none⟩,
   ⟨some 23, .mov (.c (iv 0)), none⟩]) (.block 0 (.loop (.seq (.region false [⟨some 24, .bin .lss false (.t 23) (.t 22), none⟩]) (.seq (.cond (.t 24) .skip (.exit 0)) (.seq (.block 1 (.seq (.region false [⟨some 25, .mov (.t 23), none⟩,
   ⟨some 8, .mov (.t 25), none⟩]) (.seq (.region false [⟨some 9, .mov (.c (nv 0)), none⟩]) (.seq (.seq (.region false [⟨some 26, .mov (.t 8), none⟩,
   ⟨some 27, .mov (.t 1), none⟩,
   ⟨some 28, .len (.t 27), none⟩,
   ⟨some 29, .bin .lss false (.t 26) (.t 28), none⟩]) (.cond (.t 29) (.region false [⟨some 30, .mov (.t 1), none⟩,
   ⟨some 31, .mov (.t 8), none⟩,
   ⟨some 32, .ixa 1 (.t 30) (.t 31), none⟩,
   ⟨some 33, .load none (.t 32), none⟩,
   ⟨some 9, .mov (.t 33), none⟩]) .skip)) (.region false [⟨some 35, .mov (.t 6), none⟩,
   ⟨some 36, .mov (.t 8), none⟩,
   ⟨some 37, .mov (.t 0), none⟩,
   ⟨some 38, .mov (.t 8), none⟩,
   ⟨some 39, .ixa 1 (.t 37) (.t 38), none⟩,
   ⟨some 40, .load none (.t 39), none⟩,
   ⟨some 41, .mov (.t 9), none⟩,
   ⟨some 42, .mov (.t 7), none⟩,
   ⟨some 43, .ext64 true (.t 40) (.t 41) (.t 42), none⟩,
   ⟨some 34, .mov (.t 43), none⟩,
   ⟨some 44, .ext (.t 34) 0, none⟩,
   ⟨some 45, .ext (.t 34) 1, none⟩,
   ⟨some 46, .ixa 1 (.t 35) (.t 36), none⟩,
   ⟨none, .store 1 (.t 46) (.t 44), none⟩,
   ⟨some 7, .mov (.t 45), none⟩]))))) (.region false [⟨some 47, .bin .add false (.t 23) (.c (iv 1)), none⟩,
   ⟨some 23, .mov (.t 47), none⟩]))))))) (.seq (.region false [⟨some 48, .mov (.t 6), none⟩,
   ⟨some 49, .call F.nat_told [.t 48], none⟩,
   ⟨some 50, .ext (.t 49) 0, none⟩,
   ⟨some 51, .ext (.t 49) 1, none⟩,
   ⟨some 4, .mov (.t 50), none⟩,
   ⟨some 5, .mov (.t 51), none⟩]) .ret))))))
def R.nat_Sub : List VRes := [.tmp 4, .tmp 5]
theorem K.nat_Sub : resCode Tryd.prog Tryd.f87.ntmps (Tryd.f87.body.getD .skip) = C.nat_Sub := by kernel_rfl
theorem Q.nat_Sub : resResults Tryd.prog Tryd.f87.results.toList = some R.nat_Sub := by kernel_rfl
theorem E.nat_Sub : Tryd.prog.funcs[F.nat_Sub]? = some Tryd.f87 := Tryd.func87
theorem B.nat_Sub : Tryd.f87.body = some (Tryd.f87.body.getD .skip) := by kernel_rfl
theorem N.nat_Sub : Tryd.f87.ntmps = 52 := Tryd.ntmps87

def C.bits_Mul64 : VC :=
  .seq (.region false [⟨some 4, .mov (.c (nv 0)), none⟩,
   ⟨some 5, .mov (.c (nv 0)), none⟩]) (.seq (.region false [⟨some 14, .mov (.t 0), none⟩,
   ⟨some 15, .bin .and false (.t 14) (.c (nv 4294967295)), none⟩,
   ⟨some 6, .mov (.t 15), none⟩]) (.seq (.region false [⟨some 16, .mov (.t 0), none⟩,
   ⟨some 17, .bin .shr false (.t 16) (.c (nv 32)), none⟩,
   ⟨some 7, .mov (.t 17), none⟩]) (.seq (.region false [⟨some 18, .mov (.t 1), none⟩,
   ⟨some 19, .bin .and false (.t 18) (.c (nv 4294967295)), none⟩,
   ⟨some 8, .mov (.t 19), none⟩]) (.seq (.region false [⟨some 20, .mov (.t 1), none⟩,
   ⟨some 21, .bin .shr false (.t 20) (.c (nv 32)), none⟩,
   ⟨some 9, .mov (.t 21), none⟩]) (.seq (.region false [⟨some 22, .mov (.t 6), none⟩,
   ⟨some 23, .mov (.t 8), none⟩,
   ⟨some 24, .bin .mul false (.t 22) (.t 23), none⟩,
   ⟨some 10, .mov (.t 24), none⟩]) (.seq (.region false [⟨some 25, .mov (.t 7), none⟩,
   ⟨some 26, .mov (.t 8), none⟩,
   ⟨some 27, .bin .mul false (.t 25) (.t 26), none⟩,
   ⟨some 28, .mov (.t 10), none⟩,
   ⟨some 29, .bin .shr false (.t 28) (.c (nv 32)), none⟩,
   ⟨some 30, .bin .add false (.t 27) (.t 29), none⟩,
   ⟨some 11, .mov (.t 30), none⟩]) (.seq (.region false [⟨some 31, .mov (.t 11), none⟩,
   ⟨some 32, .bin .and false (.t 31) (.c (nv 4294967295)), none⟩,
   ⟨some 12, .mov (.t 32), none⟩]) (.seq (.region false [⟨some 33, .mov (.t 11), none⟩,
   ⟨some 34, .bin .shr false (.t 33) (.c (nv 32)), none⟩,
   ⟨some 13, .mov (.t 34), none⟩]) (.seq (.region false [⟨some 35, .mov (.t 12), none⟩,
   ⟨some 36, .mov (.t 6), none⟩,
   ⟨some 37, .mov (.t 9), none⟩,
   ⟨some 38, .bin .mul false (.t 36) (.t 37), none⟩,
   ⟨some 39, .bin .add false (.t 35) (.t 38), none⟩,
   ⟨some 12, .mov (.t 39), none⟩]) (.seq (.region false [⟨some 40, .mov (.t 7), none⟩,
   ⟨some 41, .mov (.t 9), none⟩,
   ⟨some 42, .bin .mul false (.t 40) (.t 41), none⟩,
   ⟨some 43, .mov (.t 13), none⟩,
   ⟨some 44, .bin .add false (.t 42) (.t 43), none⟩,
   ⟨some 45, .mov (.t 12), none⟩,
   ⟨some 46, .bin .shr false (.t 45) (.c (nv 32)), none⟩,
   ⟨some 47, .bin .add false (.t 44) (.t 46), none⟩,
   ⟨some 4, .mov (.t 47), none⟩]) (.seq (.region false [⟨some 48, .mov (.t 0), none⟩,
   ⟨some 49, .mov (.t 1), none⟩,
   ⟨some 50, .bin .mul false (.t 48) (.t 49), none⟩,
   ⟨some 5, .mov (.t 50), none⟩]) .ret)))))))))))
def R.bits_Mul64 : List VRes := [.tmp 4, .tmp 5]
theorem K.bits_Mul64 : resCode Tryd.prog Tryd.f88.ntmps (Tryd.f88.body.getD .skip) = C.bits_Mul64 := by kernel_rfl
theorem Q.bits_Mul64 : resResults Tryd.prog Tryd.f88.results.toList = some R.bits_Mul64 := by kernel_rfl
theorem E.bits_Mul64 : Tryd.prog.funcs[F.bits_Mul64]? = some Tryd.f88 := Tryd.func88
theorem B.bits_Mul64 : Tryd.f88.body = some (Tryd.f88.body.getD .skip) := by kernel_rfl
theorem N.bits_Mul64 : Tryd.f88.ntmps = 51 := Tryd.ntmps88

def C.mul_great : VC :=
  .seq (.region false [⟨some 4, .mov (.c (bv false)), none⟩]) (.seq (.region false [⟨some 7, .mov (.t 0), none⟩,
   ⟨some 8, .call F.nat_Length [.t 7], none⟩,
   ⟨some 9, .mov (.t 1), none⟩,
   ⟨some 10, .call F.nat_Length [.t 9], none⟩,
   ⟨some 5, .mov (.t 8), none⟩,
   ⟨some 6, .mov (.t 10), none⟩]) (.seq (.region false [⟨some 11, .mov (.t 5), none⟩,
   ⟨some 12, .bin .gtr false (.t 11) (.c (iv 0)), none⟩,
   ⟨some 13, .mov (.t 12), none⟩,
   ⟨some 14, .mov (.t 6), some (13, true)⟩,
   ⟨some 15, .bin .gtr false (.t 14) (.c (iv 0)), some (13, true)⟩,
   ⟨some 16, .pick (.t 13) (.t 15) (.c (bv false)), none⟩,
   ⟨some 17, .mov (.t 16), none⟩,
   ⟨some 18, .mov (.t 5), some (17, true)⟩,
   ⟨some 19, .mov (.t 6), some (17, true)⟩,
   ⟨some 20, .bin .add false (.t 18) (.t 19), some (17, true)⟩,
   ⟨some 21, .bin .sub false (.t 20) (.c (iv 1)), some (17, true)⟩,
   ⟨some 22, .bin .gtr false (.t 21) (.c (iv 67108864)), some (17, true)⟩,
   ⟨some 23, .pick (.t 17) (.t 22) (.c (bv false)), none⟩,
   ⟨some 4, .mov (.t 23), none⟩]) .ret))
def R.mul_great : List VRes := [.tmp 4]
theorem K.mul_great : resCode Tryd.prog Tryd.f90.ntmps (Tryd.f90.body.getD .skip) = C.mul_great := by kernel_rfl
theorem Q.mul_great : resResults Tryd.prog Tryd.f90.results.toList = some R.mul_great := by kernel_rfl
theorem E.mul_great : Tryd.prog.funcs[F.mul_great]? = some Tryd.f90 := Tryd.func90
theorem B.mul_great : Tryd.f90.body = some (Tryd.f90.body.getD .skip) := by kernel_rfl
theorem N.mul_great : Tryd.f90.ntmps = 24 := Tryd.ntmps90

def C.mul_fits : VC :=
  .seq (.region false [⟨some 2, .mov (.c nil1), none⟩,
   ⟨some 3, .mov (.c (iv 0)), none⟩]) (.seq (.region false [⟨some 4, .mov (.t 0), none⟩,
   ⟨some 5, .call F.nat_Norm [.t 4], none⟩,
   ⟨some 0, .mov (.t 5), none⟩]) (.seq (.seq (.region false [⟨some 6, .mov (.t 0), none⟩,
   ⟨some 7, .call F.nat_Length [.t 6], none⟩,
   ⟨some 8, .bin .gtr false (.t 7) (.c (iv 67108864)), none⟩]) (.cond (.t 8) (.seq (.region false [⟨some 2, .mov (.c nil1), none⟩,
   ⟨some 3, .mov (.c (iv 3)), none⟩]) .ret) .skip)) (.seq (.region false [⟨some 9, .mov (.t 0), none⟩,
   ⟨some 2, .mov (.t 9), none⟩,
   ⟨some 3, .mov (.c (iv 0)), none⟩]) .ret)))
def R.mul_fits : List VRes := [.tmp 2, .tmp 3]
theorem K.mul_fits : resCode Tryd.prog Tryd.f91.ntmps (Tryd.f91.body.getD .skip) = C.mul_fits := by kernel_rfl
theorem Q.mul_fits : resResults Tryd.prog Tryd.f91.results.toList = some R.mul_fits := by kernel_rfl
theorem E.mul_fits : Tryd.prog.funcs[F.mul_fits]? = some Tryd.f91 := Tryd.func91
theorem B.mul_fits : Tryd.f91.body = some (Tryd.f91.body.getD .skip) := by kernel_rfl
theorem N.mul_fits : Tryd.f91.ntmps = 10 := Tryd.ntmps91

def C.mul_school : VC :=
  .seq (.region false [⟨some 4, .mov (.c nil1), none⟩]) (.seq (.region false [⟨some 14, .mov (.t 0), none⟩,
   ⟨some 15, .len (.t 14), none⟩,
   ⟨some 16, .mov (.t 1), none⟩,
   ⟨some 17, .len (.t 16), none⟩,
   ⟨some 18, .bin .add false (.t 15) (.t 17), none⟩,
   ⟨some 19, .mk [.int .u64 0] 8 (.t 18) (.t 18), none⟩,
   ⟨some 5, .mov (.t 19), none⟩]) (.seq (.seq (.region false [⟨some 20, .mov (.t 0), none⟩,
   ⟨some 21, .len (.t 20), none⟩,
   ⟨some 22, .mov (.c (iv 0)), none⟩]) (.block 0 (.loop (.seq (.region false [⟨some 23, .bin .lss false (.t 22) (.t 21), none⟩]) (.seq (.cond (.t 23) .skip (.exit 0)) (.seq (.block 1 (.seq (.region false [⟨some 24, .mov (.t 22), none⟩,
   ⟨some 25, .ixa 1 (.t 20) (.t 22), none⟩,
   ⟨some 26, .load none (.t 25), none⟩,
   ⟨some 6, .mov (.t 24), none⟩,
   ⟨some 7, .mov (.t 26), none⟩]) (.seq (.region false [⟨some 8, .mov (.c (nv 0)), none⟩]) (.seq (.seq (.region false [⟨some 27, .mov (.t 1), none⟩,
   ⟨some 28, .len (.t 27), none⟩,
   ⟨some 29, .mov (.c (iv 0)), none⟩]) (.block 2 (.loop (.seq (.region false [⟨some 30, .bin .lss false (.t 29) (.t 28), none⟩]) (.seq (.cond (.t 30) .skip (.exit 2)) (.seq (.block 3 (.seq (.region false [⟨some 31, .mov (.t 29), none⟩,
   ⟨some 32, .ixa 1 (.t 27) (.t 29), none⟩,
   ⟨some 33, .load none (.t 32), none⟩,
   ⟨some 9, .mov (.t 31), none⟩,
   ⟨some 10, .mov (.t 33), none⟩]) (.seq (.region false [⟨some 35, .mov (.t 7), none⟩,
   ⟨some 36, .mov (.t 10), none⟩,
   ⟨some 37, .call F.bits_Mul64 [.t 35, .t 36], none⟩,
   ⟨some 34, .mov (.t 37), none⟩,
   ⟨some 38, .ext (.t 34) 0, none⟩,
   ⟨some 39, .ext (.t 34) 1, none⟩,
   ⟨some 11, .mov (.t 38), none⟩,
   ⟨some 12, .mov (.t 39), none⟩]) (.seq (.region false [⟨some 13, .mov (.c (nv 0)), none⟩]) (.seq (.region false [⟨some 41, .mov (.t 12), none⟩,
   ⟨some 42, .mov (.t 8), none⟩,
   ⟨some 43, .ext64 false (.t 41) (.t 42) (.c (nv 0)), none⟩,
   ⟨some 40, .mov (.t 43), none⟩,
   ⟨some 44, .ext (.t 40) 0, none⟩,
   ⟨some 45, .ext (.t 40) 1, none⟩,
   ⟨some 12, .mov (.t 44), none⟩,
   ⟨some 13, .mov (.t 45), none⟩]) (.seq (.region false [⟨some 46, .mov (.t 11), none⟩,
   ⟨some 47, .mov (.t 13), none⟩,
   ⟨some 48, .bin .add false (.t 46) (.t 47), none⟩,
   ⟨some 11, .mov (.t 48), none⟩]) (.seq (.region false [⟨some 50, .mov (.t 5), none⟩,
   ⟨some 51, .mov (.t 6), none⟩,
   ⟨some 52, .mov (.t 9), none⟩,
   ⟨some 53, .bin .add false (.t 51) (.t 52), none⟩,
   ⟨some 54, .mov (.t 5), none⟩,
   ⟨some 55, .mov (.t 6), none⟩,
   ⟨some 56, .mov (.t 9), none⟩,
   ⟨some 57, .bin .add false (.t 55) (.t 56), none⟩,
   ⟨some 58, .ixa 1 (.t 54) (.t 57), none⟩,
   ⟨some 59, .load none (.t 58), none⟩,
   ⟨some 60, .mov (.t 12), none⟩,
   ⟨some 61, .ext64 false (.t 59) (.t 60) (.c (nv 0)), none⟩,
   ⟨some 49, .mov (.t 61), none⟩,
   ⟨some 62, .ext (.t 49) 0, none⟩,
   ⟨some 63, .ext (.t 49) 1, none⟩,
   ⟨some 64, .ixa 1 (.t 50) (.t 53), none⟩,
   ⟨none, .store 1 (.t 64) (.t 62), none⟩,
   ⟨some 13, .mov (.t 63), none⟩]) (.region false [⟨some 65, .mov (.t 11), none⟩,
   ⟨some 66, .mov (.t 13), none⟩,
   ⟨some 67, .bin .add false (.t 65) (.t 66), none⟩,
   ⟨some 8, .mov (.t 67), none⟩])))))))) (.region false [⟨some 68, .bin .add false (.t 29) (.c (iv 1)), none⟩,
   ⟨some 29, .mov (.t 68), none⟩]))))))) (.region false [⟨some 69, .mov (.t 5), none⟩,
   ⟨some 70, .mov (.t 6), none⟩,
   ⟨some 71, .mov (.t 1), none⟩,
   ⟨some 72, .len (.t 71), none⟩,
   ⟨some 73, .bin .add false (.t 70) (.t 72), none⟩,
   ⟨some 74, .mov (.t 8), none⟩,
   ⟨some 75, .ixa 1 (.t 69) (.t 73), none⟩,
   ⟨none, .store 1 (.t 75) (.t 74), none⟩]))))) (.region false [⟨some 76, .bin .add false (.t 22) (.c (iv 1)), none⟩,
   ⟨some 22, .mov (.t 76), none⟩]))))))) (.seq (.region false [⟨some 77, .mov (.t 5), none⟩,
   ⟨some 4, .mov (.t 77), none⟩]) .ret)))
def R.mul_school : List VRes := [.tmp 4]
theorem K.mul_school : resCode Tryd.prog Tryd.f92.ntmps (Tryd.f92.body.getD .skip) = C.mul_school := by kernel_rfl
theorem Q.mul_school : resResults Tryd.prog Tryd.f92.results.toList = some R.mul_school := by kernel_rfl
theorem E.mul_school : Tryd.prog.funcs[F.mul_school]? = some Tryd.f92 := Tryd.func92
theorem B.mul_school : Tryd.f92.body = some (Tryd.f92.body.getD .skip) := by kernel_rfl
theorem N.mul_school : Tryd.f92.ntmps = 78 := Tryd.ntmps92

def C.mul_addAt : VC :=
  .seq (.region false [⟨some 6, .mov (.c (nv 0)), none⟩]) (.seq (.region false [⟨some 9, .mov (.t 2), none⟩,
   ⟨some 7, .mov (.t 9), none⟩]) (.block 0 (.loop (.seq (.seq (.region false [⟨some 10, .mov (.t 7), none⟩,
   ⟨some 11, .mov (.t 0), none⟩,
   ⟨some 12, .len (.t 11), none⟩,
   ⟨some 13, .bin .lss false (.t 10) (.t 12), none⟩,
   ⟨some 14, .mov (.t 13), none⟩,
   ⟨some 15, .mov (.t 7), some (14, true)⟩,
   ⟨some 16, .mov (.t 2), some (14, true)⟩,
   ⟨some 17, .bin .sub false (.t 15) (.t 16), some (14, true)⟩,
   ⟨some 18, .mov (.t 1), some (14, true)⟩,
   ⟨some 19, .len (.t 18), some (14, true)⟩,
   ⟨some 20, .bin .lss false (.t 17) (.t 19), some (14, true)⟩,
   ⟨some 21, .mov (.t 20), some (14, true)⟩,
   ⟨some 22, .mov (.t 6), some (21, false)⟩,
   ⟨some 23, .bin .gtr false (.t 22) (.c (nv 0)), some (21, false)⟩,
   ⟨some 24, .pick (.t 21) (.c (bv true)) (.t 23), some (14, true)⟩,
   ⟨some 25, .pick (.t 14) (.t 24) (.c (bv false)), none⟩]) (.cond (.t 25) .skip (.exit 0))) (.seq (.block 1 (.seq (.region false [⟨some 8, .mov (.c (nv 0)), none⟩]) (.seq (.seq (.region false [⟨some 28, .mov (.t 7), none⟩,
   ⟨some 29, .mov (.t 2), none⟩,
   ⟨some 30, .bin .sub false (.t 28) (.t 29), none⟩,
   ⟨some 31, .mov (.t 1), none⟩,
   ⟨some 32, .len (.t 31), none⟩,
   ⟨some 33, .bin .lss false (.t 30) (.t 32), none⟩]) (.cond (.t 33) (.region false [⟨some 34, .mov (.t 1), none⟩,
   ⟨some 35, .mov (.t 7), none⟩,
   ⟨some 36, .mov (.t 2), none⟩,
   ⟨some 37, .bin .sub false (.t 35) (.t 36), none⟩,
   ⟨some 38, .ixa 1 (.t 34) (.t 37), none⟩,
   ⟨some 39, .load none (.t 38), none⟩,
   ⟨some 8, .mov (.t 39), none⟩]) .skip)) (.region false [⟨some 41, .mov (.t 0), none⟩,
   ⟨some 42, .mov (.t 7), none⟩,
   ⟨some 43, .mov (.t 0), none⟩,
   ⟨some 44, .mov (.t 7), none⟩,
   ⟨some 45, .ixa 1 (.t 43) (.t 44), none⟩,
   ⟨some 46, .load none (.t 45), none⟩,
   ⟨some 47, .mov (.t 8), none⟩,
   ⟨some 48, .mov (.t 6), none⟩,
   ⟨some 49, .ext64 false (.t 46) (.t 47) (.t 48), none⟩,
   ⟨some 40, .mov (.t 49), none⟩,
   ⟨some 50, .ext (.t 40) 0, none⟩,
   ⟨some 51, .ext (.t 40) 1, none⟩,
   ⟨some 52, .ixa 1 (.t 41) (.t 42), none⟩,
   ⟨none, .store 1 (.t 52) (.t 50), none⟩,
   ⟨some 6, .mov (.t 51), none⟩])))) (.region false [⟨some 26, .mov (.t 7), none⟩,
   ⟨some 27, .bin .add false (.t 26) (.c (iv 1)), none⟩,
   ⟨some 7, .mov (.t 27), none⟩]))))))
def R.mul_addAt : List VRes := []
theorem K.mul_addAt : resCode Tryd.prog Tryd.f93.ntmps (Tryd.f93.body.getD .skip) = C.mul_addAt := by kernel_rfl
theorem Q.mul_addAt : resResults Tryd.prog Tryd.f93.results.toList = some R.mul_addAt := by kernel_rfl
theorem E.mul_addAt : Tryd.prog.funcs[F.mul_addAt]? = some Tryd.f93 := Tryd.func93
theorem B.mul_addAt : Tryd.f93.body = some (Tryd.f93.body.getD .skip) := by kernel_rfl
theorem N.mul_addAt : Tryd.f93.ntmps = 53 := Tryd.ntmps93

def C.mul_part : VC :=
  .seq (.region false [⟨some 6, .mov (.c nil1), none⟩]) (.seq (.region false [⟨some 7, .mov (.t 1), none⟩,
   ⟨some 8, .mov (.t 0), none⟩,
   ⟨some 9, .len (.t 8), none⟩,
   ⟨some 10, .mm false (.t 7) (.t 9), none⟩,
   ⟨some 11, .mov (.t 2), none⟩,
   ⟨some 12, .mov (.t 0), none⟩,
   ⟨some 13, .len (.t 12), none⟩,
   ⟨some 14, .mm false (.t 11) (.t 13), none⟩,
   ⟨some 1, .mov (.t 10), none⟩,
   ⟨some 2, .mov (.t 14), none⟩]) (.seq (.block 0 (.loop (.seq (.seq (.region false [⟨some 15, .mov (.t 2), none⟩,
   ⟨some 16, .mov (.t 1), none⟩,
   ⟨some 17, .bin .gtr false (.t 15) (.t 16), none⟩,
   ⟨some 18, .mov (.t 17), none⟩,
   ⟨some 19, .mov (.t 0), some (18, true)⟩,
   ⟨some 20, .mov (.t 2), some (18, true)⟩,
   ⟨some 21, .bin .sub false (.t 20) (.c (iv 1)), some (18, true)⟩,
   ⟨some 22, .ixa 1 (.t 19) (.t 21), some (18, true)⟩,
   ⟨some 23, .load none (.t 22), some (18, true)⟩,
   ⟨some 24, .bin .eql false (.t 23) (.c (nv 0)), some (18, true)⟩,
   ⟨some 25, .pick (.t 18) (.t 24) (.c (bv false)), none⟩]) (.cond (.t 25) .skip (.exit 0))) (.block 1 (.region false [⟨some 26, .mov (.t 2), none⟩,
   ⟨some 27, .bin .sub false (.t 26) (.c (iv 1)), none⟩,
   ⟨some 2, .mov (.t 27), none⟩]))))) (.seq (.region false [⟨some 28, .mov (.t 0), none⟩,
   ⟨some 29, .mov (.t 1), none⟩,
   ⟨some 30, .mov (.t 2), none⟩,
   ⟨some 31, .slc 1 (.t 28) (some (.t 29)) (some (.t 30)) none, none⟩,
   ⟨some 6, .mov (.t 31), none⟩]) .ret)))
def R.mul_part : List VRes := [.tmp 6]
theorem K.mul_part : resCode Tryd.prog Tryd.f94.ntmps (Tryd.f94.body.getD .skip) = C.mul_part := by kernel_rfl
theorem Q.mul_part : resResults Tryd.prog Tryd.f94.results.toList = some R.mul_part := by kernel_rfl
theorem E.mul_part : Tryd.prog.funcs[F.mul_part]? = some Tryd.f94 := Tryd.func94
theorem B.mul_part : Tryd.f94.body = some (Tryd.f94.body.getD .skip) := by kernel_rfl
theorem N.mul_part : Tryd.f94.ntmps = 32 := Tryd.ntmps94

def C.mul_less : VC :=
  .seq (.region false [⟨some 4, .mov (.c nil1), none⟩]) (.seq (.region false [⟨some 9, .mov (.t 0), none⟩,
   ⟨some 10, .len (.t 9), none⟩,
   ⟨some 11, .mk [.int .u64 0] 8 (.t 10) (.t 10), none⟩,
   ⟨some 5, .mov (.t 11), none⟩]) (.seq (.region false [⟨some 12, .mov (.t 5), none⟩,
   ⟨some 13, .mov (.t 0), none⟩,
   ⟨some 14, .cpy 1 (.t 12) (.t 13), none⟩]) (.seq (.region false [⟨some 6, .mov (.c (nv 0)), none⟩]) (.seq (.seq (.region false [⟨some 15, .mov (.t 5), none⟩,
   ⟨some 16, .len (.t 15), none⟩,
   ⟨some 17, .mov (.c (iv 0)), none⟩]) (.block 0 (.loop (.seq (.region false [⟨some 18, .bin .lss false (.t 17) (.t 16), none⟩]) (.seq (.cond (.t 18) .skip (.exit 0)) (.seq (.block 1 (.seq (.region false [⟨some 19, .mov (.t 17), none⟩,
   ⟨some 7, .mov (.t 19), none⟩]) (.seq (.region false [⟨some 8, .mov (.c (nv 0)), none⟩]) (.seq (.seq (.region false [⟨some 20, .mov (.t 7), none⟩,
   ⟨some 21, .mov (.t 1), none⟩,
   ⟨some 22, .len (.t 21), none⟩,
   ⟨some 23, .bin .lss false (.t 20) (.t 22), none⟩]) (.cond (.t 23) (.region false [⟨some 24, .mov (.t 1), none⟩,
   ⟨some 25, .mov (.t 7), none⟩,
   ⟨some 26, .ixa 1 (.t 24) (.t 25), none⟩,
   ⟨some 27, .load none (.t 26), none⟩,
   ⟨some 8, .mov (.t 27), none⟩]) .skip)) (.region false [⟨some 29, .mov (.t 5), none⟩,
   ⟨some 30, .mov (.t 7), none⟩,
   ⟨some 31, .mov (.t 5), none⟩,
   ⟨some 32, .mov (.t 7), none⟩,
   ⟨some 33, .ixa 1 (.t 31) (.t 32), none⟩,
   ⟨some 34, .load none (.t 33), none⟩,
   ⟨some 35, .mov (.t 8), none⟩,
   ⟨some 36, .mov (.t 6), none⟩,
   ⟨some 37, .ext64 true (.t 34) (.t 35) (.t 36), none⟩,
   ⟨some 28, .mov (.t 37), none⟩,
   ⟨some 38, .ext (.t 28) 0, none⟩,
   ⟨some 39, .ext (.t 28) 1, none⟩,
   ⟨some 40, .ixa 1 (.t 29) (.t 30), none⟩,
   ⟨none, .store 1 (.t 40) (.t 38), none⟩,
   ⟨some 6, .mov (.t 39), none⟩]))))) (.region false [⟨some 41, .bin .add false (.t 17) (.c (iv 1)), none⟩,
   ⟨some 17, .mov (.t 41), none⟩]))))))) (.seq (.region false [⟨some 42, .mov (.t 5), none⟩,
   ⟨some 4, .mov (.t 42), none⟩]) .ret)))))
def R.mul_less : List VRes := [.tmp 4]
theorem K.mul_less : resCode Tryd.prog Tryd.f95.ntmps (Tryd.f95.body.getD .skip) = C.mul_less := by kernel_rfl
theorem Q.mul_less : resResults Tryd.prog Tryd.f95.results.toList = some R.mul_less := by kernel_rfl
theorem E.mul_less : Tryd.prog.funcs[F.mul_less]? = some Tryd.f95 := Tryd.func95
theorem B.mul_less : Tryd.f95.body = some (Tryd.f95.body.getD .skip) := by kernel_rfl
theorem N.mul_less : Tryd.f95.ntmps = 43 := Tryd.ntmps95

def C.mul_sum : VC :=
  .seq (.region false [⟨some 4, .mov (.c nil1), none⟩]) (.seq (.region false [⟨some 6, .mov (.t 0), none⟩,
   ⟨some 7, .len (.t 6), none⟩,
   ⟨some 8, .mov (.t 1), none⟩,
   ⟨some 9, .len (.t 8), none⟩,
   ⟨some 10, .mm true (.t 7) (.t 9), none⟩,
   ⟨some 11, .bin .add false (.t 10) (.c (iv 1)), none⟩,
   ⟨some 12, .mk [.int .u64 0] 8 (.t 11) (.t 11), none⟩,
   ⟨some 5, .mov (.t 12), none⟩]) (.seq (.region false [⟨some 13, .mov (.t 5), none⟩,
   ⟨some 14, .mov (.t 0), none⟩,
   ⟨some 15, .cpy 1 (.t 13) (.t 14), none⟩]) (.seq (.region false [⟨some 16, .mov (.t 5), none⟩,
   ⟨some 17, .mov (.t 1), none⟩,
   ⟨some 18, .call F.mul_addAt [.t 16, .t 17, .c (iv 0)], none⟩]) (.seq (.region false [⟨some 19, .mov (.t 5), none⟩,
   ⟨some 4, .mov (.t 19), none⟩]) .ret))))
def R.mul_sum : List VRes := [.tmp 4]
theorem K.mul_sum : resCode Tryd.prog Tryd.f96.ntmps (Tryd.f96.body.getD .skip) = C.mul_sum := by kernel_rfl
theorem Q.mul_sum : resResults Tryd.prog Tryd.f96.results.toList = some R.mul_sum := by kernel_rfl
theorem E.mul_sum : Tryd.prog.funcs[F.mul_sum]? = some Tryd.f96 := Tryd.func96
theorem B.mul_sum : Tryd.f96.body = some (Tryd.f96.body.getD .skip) := by kernel_rfl
theorem N.mul_sum : Tryd.f96.ntmps = 20 := Tryd.ntmps96

def C.nat_Left : VC :=
  .seq (.region false [⟨some 4, .mov (.c nil1), none⟩,
   ⟨some 5, .mov (.c (iv 0)), none⟩]) (.seq (.seq (.region false [⟨some 11, .mov (.t 1), none⟩,
   ⟨some 12, .bin .lss false (.t 11) (.c (iv 0)), none⟩,
   ⟨some 13, .mov (.t 12), none⟩,
   ⟨some 14, .mov (.t 1), some (13, false)⟩,
   ⟨some 15, .bin .gtr false (.t 14) (.c (iv 1099511627776)), some (13, false)⟩,
   ⟨some 16, .pick (.t 13) (.c (bv true)) (.t 15), none⟩]) (.cond (.t 16) (.seq (.region false [⟨some 4, .mov (.c nil1), none⟩,
   ⟨some 5, .mov (.c (iv 1)), none⟩]) .ret) .skip)) (.seq (.region false [⟨some 17, .mov (.t 0), none⟩,
   ⟨some 18, .call F.nat_trim [.t 17], none⟩,
   ⟨some 0, .mov (.t 18), none⟩]) (.seq (.seq (.region false [⟨some 19, .mov (.t 0), none⟩,
   ⟨some 20, .len (.t 19), none⟩,
   ⟨some 21, .bin .eql false (.t 20) (.c (iv 0)), none⟩]) (.cond (.t 21) (.seq (.region false [⟨some 4, .mov (.c nil1), none⟩,
   ⟨some 5, .mov (.c (iv 0)), none⟩]) .ret) .skip)) (.seq (.seq (.region false [⟨some 22, .mov (.t 0), none⟩,
   ⟨some 23, .call F.nat_Length [.t 22], none⟩,
   ⟨some 24, .mov (.t 1), none⟩,
   ⟨some 25, .bin .add false (.t 23) (.t 24), none⟩,
   ⟨some 26, .bin .gtr false (.t 25) (.c (iv 67108864)), none⟩]) (.cond (.t 26) (.seq (.region false [⟨some 4, .mov (.c nil1), none⟩,
   ⟨some 5, .mov (.c (iv 3)), none⟩]) .ret) .skip)) (.seq (.region false [⟨some 27, .mov (.t 1), none⟩,
   ⟨some 28, .bin .quo false (.t 27) (.c (iv 64)), none⟩,
   ⟨some 29, .mov (.t 1), none⟩,
   ⟨some 30, .bin .rem false (.t 29) (.c (iv 64)), none⟩,
   ⟨some 31, .conv .u64 (.t 30), none⟩,
   ⟨some 6, .mov (.t 28), none⟩,
   ⟨some 7, .mov (.t 31), none⟩]) (.seq (.region false [⟨some 32, .mov (.t 6), none⟩,
   ⟨some 33, .mov (.t 0), none⟩,
   ⟨some 34, .len (.t 33), none⟩,
   ⟨some 35, .bin .add false (.t 32) (.t 34), none⟩,
   ⟨some 36, .bin .add false (.t 35) (.c (iv 1)), none⟩,
   ⟨some 37, .mk [.int .u64 0] 8 (.t 36) (.t 36), none⟩,
   ⟨some 8, .mov (.t 37), none⟩]) (.seq (.seq (.region false [⟨some 38, .mov (.t 0), none⟩,
   ⟨some 39, .len (.t 38), none⟩,
   ⟨some 40, .mov (.c (iv 0)), none⟩]) (.block 0 (.loop (.seq (.region false [⟨some 41, .bin .lss false (.t 40) (.t 39), none⟩]) (.seq (.cond (.t 41) .skip (.exit 0)) (.seq (.block 1 (.seq (.region false [⟨some 42, .mov (.t 40), none⟩,
   ⟨some 43, .ixa 1 (.t 38) (.t 40), none⟩,
   ⟨some 44, .load none (.t 43), none⟩,
   ⟨some 9, .mov (.t 42), none⟩,
   ⟨some 10, .mov (.t 44), none⟩]) (.seq (.region false [⟨some 45, .mov (.t 8), none⟩,
   ⟨some 46, .mov (.t 6), none⟩,
   ⟨some 47, .mov (.t 9), none⟩,
   ⟨some 48, .bin .add false (.t 46) (.t 47), none⟩,
   ⟨some 49, .ixa 1 (.t 45) (.t 48), none⟩,
   ⟨some 50, .load none (.t 49), none⟩,
   ⟨some 51, .mov (.t 10), none⟩,
   ⟨some 52, .mov (.t 7), none⟩,
   ⟨some 53, .bin .shl false (.t 51) (.t 52), none⟩,
   ⟨some 54, .bin .or false (.t 50) (.t 53), none⟩,
   ⟨some 55, .ixa 1 (.t 45) (.t 48), none⟩,
   ⟨none, .store 1 (.t 55) (.t 54), none⟩]) (.region false [⟨some 56, .mov (.t 8), none⟩,
   ⟨some 57, .mov (.t 6), none⟩,
   ⟨some 58, .mov (.t 9), none⟩,
   ⟨some 59, .bin .add false (.t 57) (.t 58), none⟩,
   ⟨some 60, .bin .add false (.t 59) (.c (iv 1)), none⟩,
   ⟨some 61, .ixa 1 (.t 56) (.t 60), none⟩,
   ⟨some 62, .load none (.t 61), none⟩,
   ⟨some 63, .mov (.t 10), none⟩,
   ⟨some 64, .bin .shr false (.t 63) (.c (nv 1)), none⟩,
   ⟨some 65, .mov (.t 7), none⟩,
   ⟨some 66, .bin .sub false (.c (nv 63)) (.t 65), none⟩,
   ⟨some 67, .bin .shr false (.t 64) (.t 66), none⟩,
   ⟨some 68, .bin .or false (.t 62) (.t 67), none⟩,
   ⟨some 69, .ixa 1 (.t 56) (.t 60), none⟩,
   ⟨none, .store 1 (.t 69) (.t 68), none⟩])))) (.region false [⟨some 70, .bin .add false (.t 40) (.c (iv 1)), none⟩,
   ⟨some 40, .mov (.t 70), none⟩]))))))) (.seq (.region false [⟨some 71, .mov (.t 8), none⟩,
   ⟨some 72, .call F.nat_trim [.t 71], none⟩,
   ⟨some 4, .mov (.t 72), none⟩,
   ⟨some 5, .mov (.c (iv 0)), none⟩]) .ret))))))))
def R.nat_Left : List VRes := [.tmp 4, .tmp 5]
theorem K.nat_Left : resCode Tryd.prog Tryd.f97.ntmps (Tryd.f97.body.getD .skip) = C.nat_Left := by kernel_rfl
theorem Q.nat_Left : resResults Tryd.prog Tryd.f97.results.toList = some R.nat_Left := by kernel_rfl
theorem E.nat_Left : Tryd.prog.funcs[F.nat_Left]? = some Tryd.f97 := Tryd.func97
theorem B.nat_Left : Tryd.f97.body = some (Tryd.f97.body.getD .skip) := by kernel_rfl
theorem N.nat_Left : Tryd.f97.ntmps = 73 := Tryd.ntmps97

end Go.Proofs.YtacodmnlnlbahabDoor
set_option linter.unusedSimpArgs false
set_option linter.unusedVariables false
set_option maxRecDepth 100000
set_option maxHeartbeats 4000000
namespace Go.Proofs.YtacodmnlnlbahabDoor
open Go.VM
theorem hm : Tryd.prog.follows .mixedOrders = true := Tryd.checked.mixed
theorem two64 : 2 ≤ 18446744073709551616 := by decide

theorem getD_snoc (m : List Nat) (x : Nat) : (m ++ [x]).getD m.length 0 = x := by simp
theorem take_snoc' (m : List Nat) (x : Nat) : (m ++ [x]).take m.length = m := by simp

theorem trim_spec (t : Tok) (l : List Nat) (c : Nat) (hl : Lim 18446744073709551616 l) (hn : l.length ≤ 4398046511104) : VSpec Tryd.prog F.nat_trim c [nats t l] (fun r _ => r = nats t (digs 18446744073709551616 (val 18446744073709551616 l))) := by
  rw [← trim_digs two64 hl]
  refine spec_mk hm E.nat_trim B.nat_trim K.nat_trim Q.nat_trim (by rw [N.nat_trim]; simp) ?_
  unfold C.nat_trim R.nat_trim
  refine v_reg ?_
  simp only [vm, ite_true, ite_false, eq_self, reduceIte, Nat.reduceEqDiff, Option.map]
  refine vwp_seq (vwp_block (vwp_loop (fun n S => ∃ l', S.ρ 0 = nats t l' ∧ trimL l' = trimL l ∧ l'.length = n ∧ n ≤ l.length ∧ S.σ = noBlk ∧ S.c = c) l.length ⟨l, rfl, rfl, rfl, Nat.le_refl _, rfl, rfl⟩ ?_))
  rintro n ⟨ρ, σ, k⟩ ⟨l', h0, h1, h2, h3, rfl, rfl⟩
  dsimp only at h0
  refine vwp_seq (v_reg ?_)
  rcases snoc_cases l' with rfl | ⟨m, x, rfl⟩
  · have e : ¬ (0 : Int) < ([] : List Nat).length := by simp
    simp only [vm, ite_true, ite_false, eq_self, reduceIte, Nat.reduceEqDiff, Option.map, h0, e]
    refine v_cond ?_
    simp only [vm, ite_true, ite_false, eq_self, reduceIte, Nat.reduceEqDiff, Option.map]
    refine vwp_exit ?_
    simp only [vm, ite_true, ite_false, eq_self, reduceIte, Nat.reduceEqDiff, Option.map]
    refine v_reg ?_
    simp only [vm, ite_true, ite_false, eq_self, reduceIte, Nat.reduceEqDiff, Option.map, h0]
    refine vwp_ret ?_
    simp only [vm, ite_true, ite_false, eq_self, reduceIte, Nat.reduceEqDiff, Option.map]
    exact ⟨Nat.le_refl _, by rw [← h1]; rfl⟩
  · have e : (0 : Int) < (m ++ [x]).length := by simp
    have e1 : ((m ++ [x]).length - 1 : Int).toNat = m.length := by simp
    have e2 : (m ++ [x]).length = m.length + 1 := by simp
    simp only [vm, ite_true, ite_false, eq_self, reduceIte, Nat.reduceEqDiff, Option.map, h0, e, e1, getD_snoc]
    refine ⟨⟨by omega, by omega⟩, ⟨by omega, by omega⟩, by omega, v_cond ?_⟩
    simp only [vm, ite_true, ite_false, eq_self, reduceIte, Nat.reduceEqDiff, Option.map]
    refine ⟨fun g => vwp_skip ?_, fun g => vwp_exit ?_⟩
    · simp only [vm, ite_true, ite_false, eq_self, reduceIte, Nat.reduceEqDiff, Option.map]
      refine vwp_block (v_last ?_)
      simp only [vm, ite_true, ite_false, eq_self, reduceIte, Nat.reduceEqDiff, Option.map, h0, e1, take_snoc']
      refine ⟨by omega, by omega, m.length, by omega, m, rfl, ?_, rfl, by omega⟩
      rw [← h1, g, trimL_zero]
    · simp only [vm, ite_true, ite_false, eq_self, reduceIte, Nat.reduceEqDiff, Option.map]
      refine v_reg ?_
      simp only [vm, ite_true, ite_false, eq_self, reduceIte, Nat.reduceEqDiff, Option.map, h0]
      refine vwp_ret ?_
      simp only [vm, ite_true, ite_false, eq_self, reduceIte, Nat.reduceEqDiff, Option.map]
      exact ⟨Nat.le_refl _, by rw [← h1, trimL_pos _ _ g]⟩

/-- whose memory an answer lies in: none, or its own -/
def Tk (c c' : Nat) (t : Tok) : Prop := t = .nil ∨ ∃ i, t = .id i ∧ c ≤ i ∧ i < c'
theorem Tk.mono {c c' d d' : Nat} {t : Tok} (h : Tk c c' t) (h1 : d ≤ c) (h2 : c' ≤ d') : Tk d d' t := by
  rcases h with rfl | ⟨i, rfl, h3, h4⟩
  · exact .inl rfl
  · exact .inr ⟨i, rfl, by omega, by omega⟩
/-- a number's normal limbs in memory of its own -/
def NatR (c c' n : Nat) (v : V) : Prop := ∃ t, v = nats t (digs 18446744073709551616 n) ∧ Tk c c' t

theorem norm_spec (t : Tok) (l : List Nat) (c : Nat) (hl : Lim 18446744073709551616 l) (hn : l.length ≤ 4398046511104) : VSpec Tryd.prog F.nat_Norm c [nats t l] (fun r c' => NatR c c' (val 18446744073709551616 l) r) := by
  refine spec_mk hm E.nat_Norm B.nat_Norm K.nat_Norm Q.nat_Norm (by rw [N.nat_Norm]; simp) ?_
  unfold C.nat_Norm R.nat_Norm
  refine v_reg ?_
  simp only [vm, ite_true, ite_false, eq_self, reduceIte, Nat.reduceEqDiff, Option.map]
  refine v_reg ?_
  simp only [vm, ite_true, ite_false, eq_self, reduceIte, Nat.reduceEqDiff, Option.map]
  refine s_call (trim_spec t l c hl hn) (by simp only [vm, ite_true, ite_false, eq_self, reduceIte, Nat.reduceEqDiff, Option.map, List.map]) ?_
  rintro v c' hc rfl
  have hlen := digs_len_le two64 hl
  refine s_app0 (t := t) (l := digs 18446744073709551616 (val 18446744073709551616 l)) (by simp only [vm, ite_true, ite_false, eq_self, reduceIte, Nat.reduceEqDiff, Option.map]) (by simp only [vm, ite_true, ite_false, eq_self, reduceIte, Nat.reduceEqDiff, Option.map]) (by omega) (fun e => ?_) (fun e => ?_)
  · simp only [vm, ite_true, ite_false, eq_self, reduceIte, Nat.reduceEqDiff, Option.map]
    refine vwp_ret ?_
    simp only [vm, ite_true, ite_false, eq_self, reduceIte, Nat.reduceEqDiff, Option.map]
    exact ⟨hc, .nil, by rw [e]; rfl, .inl rfl⟩
  · simp only [vm, ite_true, ite_false, eq_self, reduceIte, Nat.reduceEqDiff, Option.map]
    refine v_freeze 2 (l := digs 18446744073709551616 (val 18446744073709551616 l)) rfl (by simp only [vm, ite_true, ite_false, eq_self, reduceIte, Nat.reduceEqDiff, Option.map]) hc (by omega) ?_
    refine vwp_ret ?_
    simp only [vm, ite_true, ite_false, eq_self, reduceIte, Nat.reduceEqDiff, Option.map, List.drop_zero, List.take_length]
    exact ⟨by omega, .id c', rfl, .inr ⟨c', rfl, hc, by omega⟩⟩

theorem from_spec (n c : Nat) (hn : n < 18446744073709551616) : VSpec Tryd.prog F.nat_From c [nv n] (fun r c' => NatR c c' n r) := by
  refine spec_mk hm E.nat_From B.nat_From K.nat_From Q.nat_From (by rw [N.nat_From]; simp) ?_
  unfold C.nat_From R.nat_From
  refine v_reg ?_
  simp only [vm, ite_true, ite_false, eq_self, reduceIte, Nat.reduceEqDiff, Option.map]
  refine vwp_seq (v_reg ?_)
  simp only [vm, ite_true, ite_false, eq_self, reduceIte, Nat.reduceEqDiff, Option.map]
  refine v_cond ?_
  simp only [vm, ite_true, ite_false, eq_self, reduceIte, Nat.reduceEqDiff, Option.map]
  refine ⟨fun g => v_reg ?_, fun g => vwp_skip ?_⟩
  · simp only [vm, ite_true, ite_false, eq_self, reduceIte, Nat.reduceEqDiff, Option.map]
    refine vwp_ret ?_
    simp only [vm, ite_true, ite_false, eq_self, reduceIte, Nat.reduceEqDiff, Option.map]
    exact ⟨Nat.le_refl _, .nil, by subst g; rfl, .inl rfl⟩
  · simp only [vm, ite_true, ite_false, eq_self, reduceIte, Nat.reduceEqDiff, Option.map]
    refine v_reg ?_
    simp only [vm, ite_true, ite_false, eq_self, reduceIte, Nat.reduceEqDiff, Option.map]
    refine s_bsl1 (n := n) (by simp only [vm, ite_true, ite_false, eq_self, reduceIte, Nat.reduceEqDiff, Option.map]) ?_
    simp only [vm, ite_true, ite_false, eq_self, reduceIte, Nat.reduceEqDiff, Option.map]
    refine vwp_ret ?_
    simp only [vm, ite_true, ite_false, eq_self, reduceIte, Nat.reduceEqDiff, Option.map]
    refine ⟨by omega, .id c, ?_, .inr ⟨c, rfl, by omega, by omega⟩⟩
    rw [digs_pos two64 (by omega), Nat.mod_eq_of_lt hn, Nat.div_eq_of_lt hn]; rfl
end Go.Proofs.YtacodmnlnlbahabDoor
set_option linter.unusedSimpArgs false
set_option linter.unusedVariables false
set_option maxRecDepth 100000
set_option maxHeartbeats 4000000
namespace Go.Proofs.YtacodmnlnlbahabDoor
open Go.VM

theorem len64_spec (x c : Nat) (hx : x < 18446744073709551616) : VSpec Tryd.prog F.bits_Len64 c [nv x] (fun r _ => r = iv (bl x)) := by
  refine spec_mk hm E.bits_Len64 B.bits_Len64 K.bits_Len64 Q.bits_Len64 (by rw [N.bits_Len64]; simp) ?_
  unfold C.bits_Len64 R.bits_Len64
  refine v_reg ?_
  simp only [vm, ite_true, ite_false, eq_self, reduceIte, Nat.reduceEqDiff, Option.map]
  refine v_cut (fun S => ∃ n y : Nat, S.ρ 0 = nv y ∧ S.ρ 2 = iv n ∧ y < 4294967296 ∧ bl x = n + bl y ∧ n ≤ 32 ∧ S.σ = noBlk ∧ S.c = c) ?_ ?_
  · refine v_reg ?_
    simp only [vm, ite_true, ite_false, eq_self, reduceIte, Nat.reduceEqDiff, Option.map]
    refine v_cond ?_
    simp only [vm, ite_true, ite_false, eq_self, reduceIte, Nat.reduceEqDiff, Option.map]
    refine ⟨fun g => v_reg ?_, fun g => vwp_skip ⟨rfl, 0, x, ?_⟩⟩
    · simp only [vm, ite_true, ite_false, eq_self, reduceIte, Nat.reduceEqDiff, Option.map]
      refine v_last ?_
      simp only [vm, ite_true, ite_false, eq_self, reduceIte, Nat.reduceEqDiff, Option.map]
      exact ⟨32, x / 4294967296, rfl, rfl, by omega, bl_shift (k := 32) g, by omega⟩
    · simp only [vm, ite_true, ite_false, eq_self, reduceIte, Nat.reduceEqDiff, Option.map]
      exact ⟨rfl, by omega, by omega⟩
  rintro ⟨ρ, σ, k⟩ ⟨n, y, h0, h2, hy, hb, hn, rfl, rfl⟩
  dsimp only at h0 h2
  refine v_cut (fun S => ∃ n y : Nat, S.ρ 0 = nv y ∧ S.ρ 2 = iv n ∧ y < 65536 ∧ bl x = n + bl y ∧ n ≤ 48 ∧ S.σ = noBlk ∧ S.c = k) ?_ ?_
  · refine v_reg ?_
    simp only [vm, ite_true, ite_false, eq_self, reduceIte, Nat.reduceEqDiff, Option.map, h0, h2]
    refine v_cond ?_
    simp only [vm, ite_true, ite_false, eq_self, reduceIte, Nat.reduceEqDiff, Option.map]
    refine ⟨fun g => v_reg ?_, fun g => vwp_skip ⟨rfl, n, y, ?_⟩⟩
    · simp only [vm, ite_true, ite_false, eq_self, reduceIte, Nat.reduceEqDiff, Option.map, h0, h2]
      refine v_last ?_
      simp only [vm, ite_true, ite_false, eq_self, reduceIte, Nat.reduceEqDiff, Option.map, h0, h2]
      refine ⟨by omega, n + 16, y / 65536, rfl, rfl, by omega, ?_, by omega⟩
      rw [hb, bl_shift (k := 16) g, Nat.add_assoc]
    · simp only [vm, ite_true, ite_false, eq_self, reduceIte, Nat.reduceEqDiff, Option.map, h0, h2]
      exact ⟨by omega, hb, by omega⟩
  rintro ⟨ρ, σ, k⟩ ⟨n, y, h0, h2, hy, hb, hn, rfl, rfl⟩
  dsimp only at h0 h2
  refine v_cut (fun S => ∃ n y : Nat, S.ρ 0 = nv y ∧ S.ρ 2 = iv n ∧ y < 256 ∧ bl x = n + bl y ∧ n ≤ 56 ∧ S.σ = noBlk ∧ S.c = k) ?_ ?_
  · refine v_reg ?_
    simp only [vm, ite_true, ite_false, eq_self, reduceIte, Nat.reduceEqDiff, Option.map, h0, h2]
    refine v_cond ?_
    simp only [vm, ite_true, ite_false, eq_self, reduceIte, Nat.reduceEqDiff, Option.map]
    refine ⟨fun g => v_reg ?_, fun g => vwp_skip ⟨rfl, n, y, ?_⟩⟩
    · simp only [vm, ite_true, ite_false, eq_self, reduceIte, Nat.reduceEqDiff, Option.map, h0, h2]
      refine v_last ?_
      simp only [vm, ite_true, ite_false, eq_self, reduceIte, Nat.reduceEqDiff, Option.map, h0, h2]
      refine ⟨by omega, n + 8, y / 256, rfl, rfl, by omega, ?_, by omega⟩
      rw [hb, bl_shift (k := 8) g, Nat.add_assoc]
    · simp only [vm, ite_true, ite_false, eq_self, reduceIte, Nat.reduceEqDiff, Option.map, h0, h2]
      exact ⟨by omega, hb, by omega⟩
  rintro ⟨ρ, σ, k⟩ ⟨n, y, h0, h2, hy, hb, hn, rfl, rfl⟩
  dsimp only at h0 h2
  have h8 : bl y ≤ 8 := bl_le hy
  refine v_reg ?_
  simp only [vm, ite_true, ite_false, eq_self, reduceIte, Nat.reduceEqDiff, Option.map, h0, h2, Nat.mod_eq_of_lt hy]
  rw [six_tab (blTab_at (by decide +kernel) hy)]
  simp only [vm, ite_true, ite_false, eq_self, reduceIte, Nat.reduceEqDiff, Option.map, h0, h2, c_8i (n := bl y) (by omega)]
  refine ⟨by omega, vwp_ret ?_⟩
  simp only [vm, ite_true, ite_false, eq_self, reduceIte, Nat.reduceEqDiff, Option.map]
  refine ⟨Nat.le_refl _, ?_⟩
  rw [hb]; rfl

theorem length_spec (t : Tok) (l : List Nat) (c : Nat) (hl : Lim 18446744073709551616 l) (hn : l.length ≤ 4398046511104) : VSpec Tryd.prog F.nat_Length c [nats t l] (fun r _ => r = iv (bl (val 18446744073709551616 l))) := by
  refine spec_mk hm E.nat_Length B.nat_Length K.nat_Length Q.nat_Length (by rw [N.nat_Length]; simp) ?_
  unfold C.nat_Length R.nat_Length
  refine v_reg ?_
  simp only [vm, ite_true, ite_false, eq_self, reduceIte, Nat.reduceEqDiff, Option.map]
  refine v_reg ?_
  simp only [vm, ite_true, ite_false, eq_self, reduceIte, Nat.reduceEqDiff, Option.map]
  refine s_call (trim_spec t l c hl hn) (by simp only [vm, ite_true, ite_false, eq_self, reduceIte, Nat.reduceEqDiff, Option.map, List.map]) ?_
  rintro v c' hc rfl
  have hlen := digs_len_le two64 hl
  simp only [vm, ite_true, ite_false, eq_self, reduceIte, Nat.reduceEqDiff, Option.map]
  refine vwp_seq (v_reg ?_)
  simp only [vm, ite_true, ite_false, eq_self, reduceIte, Nat.reduceEqDiff, Option.map]
  refine v_cond ?_
  simp only [vm, ite_true, ite_false, eq_self, reduceIte, Nat.reduceEqDiff, Option.map]
  refine ⟨fun g => v_reg ?_, fun g => vwp_skip ?_⟩
  · simp only [vm, ite_true, ite_false, eq_self, reduceIte, Nat.reduceEqDiff, Option.map]
    refine vwp_ret ?_
    simp only [vm, ite_true, ite_false, eq_self, reduceIte, Nat.reduceEqDiff, Option.map]
    have e : digs 18446744073709551616 (val 18446744073709551616 l) = [] := List.eq_nil_of_length_eq_zero (by omega)
    rw [(digs_eq_nil two64).1 e]
    exact ⟨hc, rfl⟩
  · simp only [vm, ite_true, ite_false, eq_self, reduceIte, Nat.reduceEqDiff, Option.map]
    obtain ⟨m, x, e⟩ := snoc_of_ne (l := digs 18446744073709551616 (val 18446744073709551616 l)) (fun e => g (by rw [e]; rfl))
    obtain ⟨h1, h2, h3⟩ := bl_digs64 e
    rw [e] at hlen ⊢
    have e1 : ((m ++ [x]).length - 1 : Int).toNat = m.length := by simp
    have e2 : (m ++ [x]).length = m.length + 1 := by simp
    refine v_reg ?_
    simp only [vm, ite_true, ite_false, eq_self, reduceIte, Nat.reduceEqDiff, Option.map, e1, getD_snoc]
    refine ⟨by omega, by omega, by omega, by omega, by omega, ?_⟩
    refine s_call (len64_spec x c' h2) (by simp only [vm, ite_true, ite_false, eq_self, reduceIte, Nat.reduceEqDiff, Option.map, List.map]) ?_
    rintro v c2 hc2 rfl
    have h8 : bl x ≤ 64 := bl_le h2
    simp only [vm, ite_true, ite_false, eq_self, reduceIte, Nat.reduceEqDiff, Option.map]
    refine ⟨by omega, vwp_ret ?_⟩
    simp only [vm, ite_true, ite_false, eq_self, reduceIte, Nat.reduceEqDiff, Option.map]
    refine ⟨by omega, ?_⟩
    congr 2
    omega
end Go.Proofs.YtacodmnlnlbahabDoor
set_option linter.unusedSimpArgs false
set_option linter.unusedVariables false
set_option maxRecDepth 100000
set_option maxHeartbeats 4000000
namespace Go.Proofs.YtacodmnlnlbahabDoor
open Go.VM

theorem lz64_spec (x c : Nat) (hx : x < 18446744073709551616) : VSpec Tryd.prog F.bits_LeadingZeros64 c [nv x] (fun r _ => r = iv (64 - bl x)) := by
  refine spec_mk hm E.bits_LeadingZeros64 B.bits_LeadingZeros64 K.bits_LeadingZeros64 Q.bits_LeadingZeros64 (by rw [N.bits_LeadingZeros64]; simp) ?_
  unfold C.bits_LeadingZeros64 R.bits_LeadingZeros64
  have h8 : bl x ≤ 64 := bl_le hx
  refine v_reg ?_
  simp only [vm, ite_true, ite_false, eq_self, reduceIte, Nat.reduceEqDiff, Option.map]
  refine v_reg ?_
  simp only [vm, ite_true, ite_false, eq_self, reduceIte, Nat.reduceEqDiff, Option.map]
  refine s_call (len64_spec x c hx) (by simp only [vm, ite_true, ite_false, eq_self, reduceIte, Nat.reduceEqDiff, Option.map, List.map]) ?_
  rintro v c2 hc2 rfl
  simp only [vm, ite_true, ite_false, eq_self, reduceIte, Nat.reduceEqDiff, Option.map]
  refine ⟨by omega, vwp_ret ?_⟩
  simp only [vm, ite_true, ite_false, eq_self, reduceIte, Nat.reduceEqDiff, Option.map]
  exact hc2

theorem mul64_spec (x y c : Nat) (hx : x < 18446744073709551616) (hy : y < 18446744073709551616) : VSpec Tryd.prog F.bits_Mul64 c [nv x, nv y] (fun r _ => r = .tup [nv (x * y / 18446744073709551616), nv (x * y % 18446744073709551616)]) := by
  refine spec_mk hm E.bits_Mul64 B.bits_Mul64 K.bits_Mul64 Q.bits_Mul64 (by rw [N.bits_Mul64]; simp) ?_
  unfold C.bits_Mul64 R.bits_Mul64
  obtain ⟨h1, h2, h3, h4⟩ := Go.Lib.mul64_hi x y hx hy
  have hb : x * y < 18446744073709551616 * 18446744073709551616 := Nat.mul_lt_mul'' hx hy
  have h5 : x / 4294967296 * (y / 4294967296) < 18446744073709551616 := by
    have := Go.Lib.half_mul_le (a := x / 4294967296) (b := y / 4294967296) (by omega) (by omega)
    omega
  have h6 : x / 4294967296 * (y % 4294967296) < 18446744073709551616 := by
    have := Go.Lib.half_mul_le (a := x / 4294967296) (b := y % 4294967296) (by omega) (by omega)
    omega
  have h7 : x % 4294967296 * (y / 4294967296) < 18446744073709551616 := by
    have := Go.Lib.half_mul_le (a := x % 4294967296) (b := y / 4294967296) (by omega) (by omega)
    omega
  refine v_reg ?_
  simp only [vm, ite_true, ite_false, eq_self, reduceIte, Nat.reduceEqDiff, Option.map]
  refine v_reg ?_
  simp only [vm, ite_true, ite_false, eq_self, reduceIte, Nat.reduceEqDiff, Option.map]
  refine v_reg ?_
  simp only [vm, ite_true, ite_false, eq_self, reduceIte, Nat.reduceEqDiff, Option.map]
  refine v_reg ?_
  simp only [vm, ite_true, ite_false, eq_self, reduceIte, Nat.reduceEqDiff, Option.map]
  refine v_reg ?_
  simp only [vm, ite_true, ite_false, eq_self, reduceIte, Nat.reduceEqDiff, Option.map]
  refine v_reg ?_
  simp only [vm, ite_true, ite_false, eq_self, reduceIte, Nat.reduceEqDiff, Option.map, Nat.mod_eq_of_lt h1]
  refine v_reg ?_
  simp only [vm, ite_true, ite_false, eq_self, reduceIte, Nat.reduceEqDiff, Option.map, Nat.mod_eq_of_lt h6, Nat.mod_eq_of_lt h2]
  refine v_reg ?_
  simp only [vm, ite_true, ite_false, eq_self, reduceIte, Nat.reduceEqDiff, Option.map]
  refine v_reg ?_
  simp only [vm, ite_true, ite_false, eq_self, reduceIte, Nat.reduceEqDiff, Option.map]
  refine v_reg ?_
  simp only [vm, ite_true, ite_false, eq_self, reduceIte, Nat.reduceEqDiff, Option.map, Nat.mod_eq_of_lt h7, Nat.mod_eq_of_lt h3]
  refine v_reg ?_
  simp only [vm, ite_true, ite_false, eq_self, reduceIte, Nat.reduceEqDiff, Option.map, Nat.mod_eq_of_lt h5]
  refine v_reg ?_
  simp only [vm, ite_true, ite_false, eq_self, reduceIte, Nat.reduceEqDiff, Option.map]
  refine vwp_ret ?_
  simp only [vm, ite_true, ite_false, eq_self, reduceIte, Nat.reduceEqDiff, Option.map]
  refine ⟨Nat.le_refl _, ?_⟩
  rw [Nat.mod_add_mod, h4, Nat.mod_eq_of_lt (by omega)]

theorem told_spec (t : Tok) (l : List Nat) (c : Nat) (hl : Lim 18446744073709551616 l) (hn : l.length ≤ 4398046511104) : VSpec Tryd.prog F.nat_told c [nats t l]
    (fun r _ => r = if bl (val 18446744073709551616 l) ≤ 67108864 then .tup [nats t (digs 18446744073709551616 (val 18446744073709551616 l)), iv 0] else .tup [nil1, iv 3]) := by
  refine spec_mk hm E.nat_told B.nat_told K.nat_told Q.nat_told (by rw [N.nat_told]; simp) ?_
  unfold C.nat_told R.nat_told
  have hlen := digs_len_le two64 hl
  refine v_reg ?_
  simp only [vm, ite_true, ite_false, eq_self, reduceIte, Nat.reduceEqDiff, Option.map]
  refine v_reg ?_
  simp only [vm, ite_true, ite_false, eq_self, reduceIte, Nat.reduceEqDiff, Option.map]
  refine s_call (trim_spec t l c hl hn) (by simp only [vm, ite_true, ite_false, eq_self, reduceIte, Nat.reduceEqDiff, Option.map, List.map]) ?_
  rintro v c' hc rfl
  simp only [vm, ite_true, ite_false, eq_self, reduceIte, Nat.reduceEqDiff, Option.map]
  refine vwp_seq (v_reg ?_)
  simp only [vm, ite_true, ite_false, eq_self, reduceIte, Nat.reduceEqDiff, Option.map]
  refine s_call (length_spec t (digs 18446744073709551616 (val 18446744073709551616 l)) c' (lim_digs two64 _) (by omega)) (by simp only [vm, ite_true, ite_false, eq_self, reduceIte, Nat.reduceEqDiff, Option.map, List.map]) ?_
  rintro v c2 hc2 rfl
  simp only [vm, ite_true, ite_false, eq_self, reduceIte, Nat.reduceEqDiff, Option.map, val_digs two64]
  refine v_cond ?_
  simp only [vm, ite_true, ite_false, eq_self, reduceIte, Nat.reduceEqDiff, Option.map]
  refine ⟨fun g => v_reg ?_, fun g => vwp_skip ?_⟩
  · simp only [vm, ite_true, ite_false, eq_self, reduceIte, Nat.reduceEqDiff, Option.map]
    refine vwp_ret ?_
    simp only [vm, ite_true, ite_false, eq_self, reduceIte, Nat.reduceEqDiff, Option.map]
    exact ⟨by omega, by rw [if_neg (by omega)]⟩
  · simp only [vm, ite_true, ite_false, eq_self, reduceIte, Nat.reduceEqDiff, Option.map]
    refine v_reg ?_
    simp only [vm, ite_true, ite_false, eq_self, reduceIte, Nat.reduceEqDiff, Option.map]
    refine vwp_ret ?_
    simp only [vm, ite_true, ite_false, eq_self, reduceIte, Nat.reduceEqDiff, Option.map]
    exact ⟨by omega, by rw [if_pos (by omega)]⟩

/-- the order of two numbers, as the code tells it -/
def cmpI (a b : Nat) : Int := if a < b then -1 else if a = b then 0 else 1

theorem compare_spec (t u : Tok) (a b : List Nat) (c : Nat) (ha : Lim 18446744073709551616 a) (hb : Lim 18446744073709551616 b) (hna : a.length ≤ 1099511627776) (hnb : b.length ≤ 1099511627776) : VSpec Tryd.prog F.nat_Compare c [nats t a, nats u b] (fun r _ => r = iv (cmpI (val 18446744073709551616 a) (val 18446744073709551616 b))) := by
  refine spec_mk hm E.nat_Compare B.nat_Compare K.nat_Compare Q.nat_Compare (by rw [N.nat_Compare]; simp) ?_
  unfold C.nat_Compare R.nat_Compare
  have hla := digs_len_le two64 ha
  have hlb := digs_len_le two64 hb
  have hda := lim_digs two64 (val 18446744073709551616 a)
  have hdb := lim_digs two64 (val 18446744073709551616 b)
  refine v_reg ?_
  simp only [vm, ite_true, ite_false, eq_self, reduceIte, Nat.reduceEqDiff, Option.map]
  refine v_reg ?_
  simp only [vm, ite_true, ite_false, eq_self, reduceIte, Nat.reduceEqDiff, Option.map]
  refine s_call (trim_spec t a c ha (by omega)) (by simp only [vm, ite_true, ite_false, eq_self, reduceIte, Nat.reduceEqDiff, Option.map, List.map]) ?_
  rintro v c' hc rfl
  simp only [vm, ite_true, ite_false, eq_self, reduceIte, Nat.reduceEqDiff, Option.map]
  refine s_call (trim_spec u b c' hb (by omega)) (by simp only [vm, ite_true, ite_false, eq_self, reduceIte, Nat.reduceEqDiff, Option.map, List.map]) ?_
  rintro v c2 hc2 rfl
  have va := val_digs two64 (val 18446744073709551616 a)
  have vb := val_digs two64 (val 18446744073709551616 b)
  have hlt := lt_of_len two64 (m := val 18446744073709551616 a) (n := val 18446744073709551616 b)
  have hgt := lt_of_len two64 (m := val 18446744073709551616 b) (n := val 18446744073709551616 a)
  generalize digs 18446744073709551616 (val 18446744073709551616 a) = x at *
  generalize digs 18446744073709551616 (val 18446744073709551616 b) = y at *
  generalize val 18446744073709551616 a = m at *
  generalize val 18446744073709551616 b = n at *
  simp only [vm, ite_true, ite_false, eq_self, reduceIte, Nat.reduceEqDiff, Option.map]
  refine vwp_seq (v_reg ?_)
  simp only [vm, ite_true, ite_false, eq_self, reduceIte, Nat.reduceEqDiff, Option.map]
  refine v_cond ?_
  simp only [vm, ite_true, ite_false, eq_self, reduceIte, Nat.reduceEqDiff, Option.map]
  refine ⟨fun g => vwp_seq (v_reg ?_), fun g => vwp_skip ?_⟩
  · simp only [vm, ite_true, ite_false, eq_self, reduceIte, Nat.reduceEqDiff, Option.map]
    refine v_cond ?_
    simp only [vm, ite_true, ite_false, eq_self, reduceIte, Nat.reduceEqDiff, Option.map]
    refine ⟨fun g2 => v_reg ?_, fun g2 => vwp_skip ?_⟩
    · simp only [vm, ite_true, ite_false, eq_self, reduceIte, Nat.reduceEqDiff, Option.map]
      refine vwp_ret ?_
      simp only [vm, ite_true, ite_false, eq_self, reduceIte, Nat.reduceEqDiff, Option.map]
      exact ⟨by omega, by rw [cmpI, if_pos (hlt (by omega))]⟩
    · simp only [vm, ite_true, ite_false, eq_self, reduceIte, Nat.reduceEqDiff, Option.map]
      refine v_reg ?_
      simp only [vm, ite_true, ite_false, eq_self, reduceIte, Nat.reduceEqDiff, Option.map]
      refine vwp_ret ?_
      simp only [vm, ite_true, ite_false, eq_self, reduceIte, Nat.reduceEqDiff, Option.map]
      have := hgt (by omega)
      exact ⟨by omega, by rw [cmpI, if_neg (by omega), if_neg (by omega)]⟩
  · simp only [vm, ite_true, ite_false, eq_self, reduceIte, Nat.reduceEqDiff, Option.map]
    have hxy : x.length = y.length := by omega
    refine vwp_seq (v_reg ?_)
    simp only [vm, ite_true, ite_false, eq_self, reduceIte, Nat.reduceEqDiff, Option.map]
    refine ⟨by omega, vwp_block (vwp_loop (fun k S => S.ρ 0 = nats t x ∧ S.ρ 1 = nats u y ∧ S.ρ 5 = iv ((k : Int) - 1) ∧ k ≤ x.length ∧ val 18446744073709551616 (x.drop k) = val 18446744073709551616 (y.drop k) ∧ S.σ = noBlk ∧ S.c = c2) x.length ⟨rfl, rfl, rfl, Nat.le_refl _, ?_, rfl, rfl⟩ ?_)⟩
    · rw [List.drop_of_length_le (Nat.le_refl _), hxy, List.drop_of_length_le (Nat.le_refl _)]
    rintro k ⟨ρ, σ, c3⟩ ⟨h0, h1, h5, hk, hv, hσ, hc3⟩
    dsimp only at h0 h1 h5 hσ hc3
    subst hσ hc3
    (repeat (first | refine v_reg ?_ | refine v_last ?_ | refine vwp_seq ?_ | refine vwp_block ?_ | refine vwp_skip ?_ | refine vwp_exit ?_ | refine vwp_ret ?_ | refine v_cond ?_)); simp only [vm, ite_true, ite_false, eq_self, reduceIte, Nat.reduceEqDiff, Option.map, h0, h1, h5]
    (repeat (first | refine v_reg ?_ | refine v_last ?_ | refine vwp_seq ?_ | refine vwp_block ?_ | refine vwp_skip ?_ | refine vwp_exit ?_ | refine vwp_ret ?_ | refine v_cond ?_)); simp only [vm, ite_true, ite_false, eq_self, reduceIte, Nat.reduceEqDiff, Option.map]
    refine ⟨fun g3 => ?_, fun g3 => ?_⟩
    · (repeat (first | refine v_reg ?_ | refine v_last ?_ | refine vwp_seq ?_ | refine vwp_block ?_ | refine vwp_skip ?_ | refine vwp_exit ?_ | refine vwp_ret ?_ | refine v_cond ?_)); simp only [vm, ite_true, ite_false, eq_self, reduceIte, Nat.reduceEqDiff, Option.map]
      obtain ⟨i, rfl⟩ : ∃ i, k = i + 1 := ⟨k - 1, by omega⟩
      have e1 : (((i + 1 : Nat) : Int) - 1).toNat = i := by omega
      (repeat (first | refine v_reg ?_ | refine v_last ?_ | refine vwp_seq ?_ | refine vwp_block ?_ | refine vwp_skip ?_ | refine vwp_exit ?_ | refine vwp_ret ?_ | refine v_cond ?_)); simp only [vm, ite_true, ite_false, eq_self, reduceIte, Nat.reduceEqDiff, Option.map, h0, h1, h5, e1]
      refine ⟨by omega, by omega, by omega, by omega, ?_⟩
      (repeat (first | refine v_reg ?_ | refine v_last ?_ | refine vwp_seq ?_ | refine vwp_block ?_ | refine vwp_skip ?_ | refine vwp_exit ?_ | refine vwp_ret ?_ | refine v_cond ?_)); simp only [vm, ite_true, ite_false, eq_self, reduceIte, Nat.reduceEqDiff, Option.map]
      refine ⟨fun g4 => ?_, fun g4 => ?_⟩
      · (repeat (first | refine v_reg ?_ | refine v_last ?_ | refine vwp_seq ?_ | refine vwp_block ?_ | refine vwp_skip ?_ | refine vwp_exit ?_ | refine vwp_ret ?_ | refine v_cond ?_)); simp only [vm, ite_true, ite_false, eq_self, reduceIte, Nat.reduceEqDiff, Option.map]
        (repeat (first | refine v_reg ?_ | refine v_last ?_ | refine vwp_seq ?_ | refine vwp_block ?_ | refine vwp_skip ?_ | refine vwp_exit ?_ | refine vwp_ret ?_ | refine v_cond ?_)); simp only [vm, ite_true, ite_false, eq_self, reduceIte, Nat.reduceEqDiff, Option.map]
        have := val_lt_of_top two64 hda hdb (i := i) (by omega) (by omega) hxy hv g4
        exact ⟨by omega, by rw [cmpI, if_pos (by omega)]⟩
      · (repeat (first | refine v_reg ?_ | refine v_last ?_ | refine vwp_seq ?_ | refine vwp_block ?_ | refine vwp_skip ?_ | refine vwp_exit ?_ | refine vwp_ret ?_ | refine v_cond ?_)); simp only [vm, ite_true, ite_false, eq_self, reduceIte, Nat.reduceEqDiff, Option.map]
        (repeat (first | refine v_reg ?_ | refine v_last ?_ | refine vwp_seq ?_ | refine vwp_block ?_ | refine vwp_skip ?_ | refine vwp_exit ?_ | refine vwp_ret ?_ | refine v_cond ?_)); simp only [vm, ite_true, ite_false, eq_self, reduceIte, Nat.reduceEqDiff, Option.map, h0, h1, h5, e1]
        refine ⟨by omega, by omega, by omega, by omega, ?_⟩
        (repeat (first | refine v_reg ?_ | refine v_last ?_ | refine vwp_seq ?_ | refine vwp_block ?_ | refine vwp_skip ?_ | refine vwp_exit ?_ | refine vwp_ret ?_ | refine v_cond ?_)); simp only [vm, ite_true, ite_false, eq_self, reduceIte, Nat.reduceEqDiff, Option.map]
        refine ⟨fun g5 => ?_, fun g5 => ?_⟩
        · (repeat (first | refine v_reg ?_ | refine v_last ?_ | refine vwp_seq ?_ | refine vwp_block ?_ | refine vwp_skip ?_ | refine vwp_exit ?_ | refine vwp_ret ?_ | refine v_cond ?_)); simp only [vm, ite_true, ite_false, eq_self, reduceIte, Nat.reduceEqDiff, Option.map]
          (repeat (first | refine v_reg ?_ | refine v_last ?_ | refine vwp_seq ?_ | refine vwp_block ?_ | refine vwp_skip ?_ | refine vwp_exit ?_ | refine vwp_ret ?_ | refine v_cond ?_)); simp only [vm, ite_true, ite_false, eq_self, reduceIte, Nat.reduceEqDiff, Option.map]
          have := val_lt_of_top two64 hdb hda (i := i) (by omega) (by omega) hxy.symm hv.symm g5
          exact ⟨by omega, by rw [cmpI, if_neg (by omega), if_neg (by omega)]⟩
        · (repeat (first | refine v_reg ?_ | refine v_last ?_ | refine vwp_seq ?_ | refine vwp_block ?_ | refine vwp_skip ?_ | refine vwp_exit ?_ | refine vwp_ret ?_ | refine v_cond ?_)); simp only [vm, ite_true, ite_false, eq_self, reduceIte, Nat.reduceEqDiff, Option.map]
          (repeat (first | refine v_reg ?_ | refine v_last ?_ | refine vwp_seq ?_ | refine vwp_block ?_ | refine vwp_skip ?_ | refine vwp_exit ?_ | refine vwp_ret ?_ | refine v_cond ?_)); simp only [vm, ite_true, ite_false, eq_self, reduceIte, Nat.reduceEqDiff, Option.map, h0, h1, h5]
          refine ⟨by omega, i, by omega, congrArg iv (by omega), by omega, ?_⟩
          rw [val_drop (l := x) (i := i) (by omega), val_drop (l := y) (i := i) (by omega), hv, show x.getD i 0 = y.getD i 0 by omega]
    · (repeat (first | refine v_reg ?_ | refine v_last ?_ | refine vwp_seq ?_ | refine vwp_block ?_ | refine vwp_skip ?_ | refine vwp_exit ?_ | refine vwp_ret ?_ | refine v_cond ?_)); simp only [vm, ite_true, ite_false, eq_self, reduceIte, Nat.reduceEqDiff, Option.map]
      (repeat (first | refine v_reg ?_ | refine v_last ?_ | refine vwp_seq ?_ | refine vwp_block ?_ | refine vwp_skip ?_ | refine vwp_exit ?_ | refine vwp_ret ?_ | refine v_cond ?_)); simp only [vm, ite_true, ite_false, eq_self, reduceIte, Nat.reduceEqDiff, Option.map]
      (repeat (first | refine v_reg ?_ | refine v_last ?_ | refine vwp_seq ?_ | refine vwp_block ?_ | refine vwp_skip ?_ | refine vwp_exit ?_ | refine vwp_ret ?_ | refine v_cond ?_)); simp only [vm, ite_true, ite_false, eq_self, reduceIte, Nat.reduceEqDiff, Option.map]
      have hk0 : k = 0 := by omega
      subst hk0
      rw [List.drop_zero, List.drop_zero] at hv
      exact ⟨by omega, by rw [cmpI, if_neg (by omega), if_pos (by omega)]⟩
end Go.Proofs.YtacodmnlnlbahabDoor
set_option linter.unusedSimpArgs false
set_option linter.unusedVariables false
set_option maxRecDepth 100000
set_option maxHeartbeats 4000000
namespace Go.Proofs.YtacodmnlnlbahabDoor
open Go.VM

/-- a number as an answer: or too many bits -/
def Told (c c' n : Nat) (v : V) : Prop := (bl n ≤ 67108864 ∧ ∃ t, v = .tup [nats t (digs 18446744073709551616 n), iv 0] ∧ Tk c c' t) ∨ (67108864 < bl n ∧ v = .tup [nil1, iv 3])

theorem add_spec (t u : Tok) (a b : List Nat) (c : Nat) (ha : Lim 18446744073709551616 a) (hb : Lim 18446744073709551616 b) (hna : a.length ≤ 1099511627776) (hnb : b.length ≤ 1099511627776) :
    VSpec Tryd.prog F.nat_Add c [nats t a, nats u b] (fun r c' => Told c c' (val 18446744073709551616 a + val 18446744073709551616 b) r) := by
  refine spec_mk hm E.nat_Add B.nat_Add K.nat_Add Q.nat_Add (by rw [N.nat_Add]; simp) ?_
  unfold C.nat_Add R.nat_Add
  have hla := digs_len_le two64 ha
  have hlb := digs_len_le two64 hb
  have hda := lim_digs two64 (val 18446744073709551616 a)
  have hdb := lim_digs two64 (val 18446744073709551616 b)
  have va := val_digs two64 (val 18446744073709551616 a)
  have vb := val_digs two64 (val 18446744073709551616 b)
  (repeat (first | refine v_reg ?_ | refine v_last ?_ | refine vwp_seq ?_ | refine vwp_block ?_ | refine vwp_skip ?_ | refine vwp_exit ?_ | refine vwp_ret ?_ | refine v_cond ?_)); simp only [vm, ite_true, ite_false, eq_self, reduceIte, Nat.reduceEqDiff, Option.map]
  (repeat (first | refine v_reg ?_ | refine v_last ?_ | refine vwp_seq ?_ | refine vwp_block ?_ | refine vwp_skip ?_ | refine vwp_exit ?_ | refine vwp_ret ?_ | refine v_cond ?_)); simp only [vm, ite_true, ite_false, eq_self, reduceIte, Nat.reduceEqDiff, Option.map]
  refine s_call (trim_spec t a c ha (by omega)) (by simp only [vm, ite_true, ite_false, eq_self, reduceIte, Nat.reduceEqDiff, Option.map, List.map]) ?_
  rintro v c' hc rfl
  simp only [vm, ite_true, ite_false, eq_self, reduceIte, Nat.reduceEqDiff, Option.map]
  refine s_call (trim_spec u b c' hb (by omega)) (by simp only [vm, ite_true, ite_false, eq_self, reduceIte, Nat.reduceEqDiff, Option.map, List.map]) ?_
  rintro v c2 hc2 rfl
  simp only [vm, ite_true, ite_false, eq_self, reduceIte, Nat.reduceEqDiff, Option.map]
  refine v_cut (fun S => ∃ t u x y, S.ρ 0 = nats t x ∧ S.ρ 1 = nats u y ∧ S.ρ 4 = nil1 ∧ S.ρ 5 = iv 0 ∧ Lim 18446744073709551616 x ∧ Lim 18446744073709551616 y ∧ y.length ≤ x.length ∧ x.length ≤ 1099511627776 ∧ val 18446744073709551616 x + val 18446744073709551616 y = val 18446744073709551616 a + val 18446744073709551616 b ∧ S.σ = noBlk ∧ S.c = c2) ?_ ?_
  · (repeat (first | refine v_reg ?_ | refine v_last ?_ | refine vwp_seq ?_ | refine vwp_block ?_ | refine vwp_skip ?_ | refine vwp_exit ?_ | refine vwp_ret ?_ | refine v_cond ?_)); simp only [vm, ite_true, ite_false, eq_self, reduceIte, Nat.reduceEqDiff, Option.map]
    (repeat (first | refine v_reg ?_ | refine v_last ?_ | refine vwp_seq ?_ | refine vwp_block ?_ | refine vwp_skip ?_ | refine vwp_exit ?_ | refine vwp_ret ?_ | refine v_cond ?_)); simp only [vm, ite_true, ite_false, eq_self, reduceIte, Nat.reduceEqDiff, Option.map]
    refine ⟨fun g => ?_, fun g => ?_⟩
    · (repeat (first | refine v_reg ?_ | refine v_last ?_ | refine vwp_seq ?_ | refine vwp_block ?_ | refine vwp_skip ?_ | refine vwp_exit ?_ | refine vwp_ret ?_ | refine v_cond ?_)); simp only [vm, ite_true, ite_false, eq_self, reduceIte, Nat.reduceEqDiff, Option.map]
      exact ⟨u, t, _, _, rfl, rfl, hdb, hda, by omega, by omega, by omega⟩
    · refine vwp_skip ?_
      simp only [vm, ite_true, ite_false, eq_self, reduceIte, Nat.reduceEqDiff, Option.map]
      exact ⟨t, u, _, _, rfl, rfl, hda, hdb, by omega, by omega, by omega⟩
  rintro ⟨ρ, σ, c3⟩ ⟨t, u, x, y, h0, h1, h4, h5, hx, hy, hxy, hxn, hv, hσ, hc3⟩
  dsimp only at h0 h1 h4 h5 hσ hc3
  subst hσ hc3
  (repeat (first | refine v_reg ?_ | refine v_last ?_ | refine vwp_seq ?_ | refine vwp_block ?_ | refine vwp_skip ?_ | refine vwp_exit ?_ | refine vwp_ret ?_ | refine v_cond ?_)); simp only [vm, ite_true, ite_false, eq_self, reduceIte, Nat.reduceEqDiff, Option.map, h0, h1]
  refine ⟨by omega, ?_⟩
  refine s_mk (n := x.length + 1) (m := x.length + 1) (by simp only [vm, ite_true, ite_false, eq_self, reduceIte, Nat.reduceEqDiff, Option.map]; rfl) (by simp only [vm, ite_true, ite_false, eq_self, reduceIte, Nat.reduceEqDiff, Option.map]; rfl) (Nat.le_refl _) (by omega) ?_
  simp only [vm, ite_true, ite_false, eq_self, reduceIte, Nat.reduceEqDiff, Option.map]
  (repeat (first | refine v_reg ?_ | refine v_last ?_ | refine vwp_seq ?_ | refine vwp_block ?_ | refine vwp_skip ?_ | refine vwp_exit ?_ | refine vwp_ret ?_ | refine v_cond ?_)); simp only [vm, ite_true, ite_false, eq_self, reduceIte, Nat.reduceEqDiff, Option.map]
  (repeat (first | refine v_reg ?_ | refine v_last ?_ | refine vwp_seq ?_ | refine vwp_block ?_ | refine vwp_skip ?_ | refine vwp_exit ?_ | refine vwp_ret ?_ | refine v_cond ?_)); simp only [vm, ite_true, ite_false, eq_self, reduceIte, Nat.reduceEqDiff, Option.map, h0, h1]
  (repeat (first | refine vwp_seq ?_ | refine vwp_block ?_))
  refine vwp_loop (fun k S => ∃ i w carry, k = x.length - i ∧ i ≤ x.length ∧ S.ρ 0 = nats t x ∧ S.ρ 1 = nats u y ∧ S.ρ 6 = .buf c3 0 (x.length + 1) (some (x.length + 1)) 1 ∧ S.ρ 7 = nv carry ∧ S.ρ 26 = iv x.length ∧ S.ρ 27 = iv i ∧ carry ≤ 1 ∧
    w.length = i ∧ Lim 18446744073709551616 w ∧ val 18446744073709551616 w + 18446744073709551616 ^ i * carry = val 18446744073709551616 (x.take i) + val 18446744073709551616 (y.take i) ∧ S.σ = supd noBlk c3 (nblk (w ++ List.replicate (x.length + 1 - i) 0)) ∧ S.c = c3 + 1) x.length ?_ ?_
  · refine ⟨0, [], 0, rfl, Nat.zero_le _, ?_⟩
    simp only [vm, ite_true, ite_false, eq_self, reduceIte, Nat.reduceEqDiff, Option.map, h0, h1]
    exact ⟨rfl, by omega, rfl, .nil, rfl, rfl⟩
  rintro k ⟨ρ2, σ, c4⟩ ⟨i, w, carry, hk, hi, h0, h1, h6, h7, h26, h27, hca, hw, hlw, hinv, hσ, hc4⟩
  dsimp only at h0 h1 h6 h7 h26 h27 hσ hc4
  subst hσ hc4
  (repeat (first | refine v_reg ?_ | refine v_last ?_ | refine vwp_seq ?_ | refine vwp_block ?_ | refine vwp_skip ?_ | refine vwp_exit ?_ | refine vwp_ret ?_ | refine v_cond ?_)); simp only [vm, ite_true, ite_false, eq_self, reduceIte, Nat.reduceEqDiff, Option.map, h26, h27]
  (repeat (first | refine v_reg ?_ | refine v_last ?_ | refine vwp_seq ?_ | refine vwp_block ?_ | refine vwp_skip ?_ | refine vwp_exit ?_ | refine vwp_ret ?_ | refine v_cond ?_)); simp only [vm, ite_true, ite_false, eq_self, reduceIte, Nat.reduceEqDiff, Option.map]
  refine ⟨fun g => ?_, fun g => ?_⟩
  · have hi' : i < x.length := by omega
    have hlen : (w ++ List.replicate (x.length + 1 - i) 0).length = x.length + 1 := by simp; omega
    have hset : ∀ v, (w ++ List.replicate (x.length + 1 - i) 0).set i v = (w ++ [v]) ++ List.replicate (x.length + 1 - (i + 1)) 0 := fun v => by
      have := set_fill w (x.length - i) v
      rw [hw] at this
      rw [show x.length + 1 - i = x.length - i + 1 by omega, this, show x.length + 1 - (i + 1) = x.length - i by omega]
    have hxi := hx.getD (i := i) (by decide)
    have hyi := hy.getD (i := i) (by decide)
    have key := add_step (b := 18446744073709551616) (m := x.getD i 0 + y.getD i 0) hw hinv
    rw [Nat.mul_add] at key
    have hx' := val_take' 18446744073709551616 x i
    have hy' := val_take' 18446744073709551616 y i
    have hci : (x.getD i 0 + y.getD i 0 + carry) / 18446744073709551616 ≤ 1 := by omega
    (repeat (first | refine v_reg ?_ | refine v_last ?_ | refine vwp_seq ?_ | refine vwp_block ?_ | refine vwp_skip ?_ | refine vwp_exit ?_ | refine vwp_ret ?_ | refine v_cond ?_)); simp only [vm, ite_true, ite_false, eq_self, reduceIte, Nat.reduceEqDiff, Option.map]
    (repeat (first | refine v_reg ?_ | refine v_last ?_ | refine vwp_seq ?_ | refine vwp_block ?_ | refine vwp_skip ?_ | refine vwp_exit ?_ | refine vwp_ret ?_ | refine v_cond ?_)); simp only [vm, ite_true, ite_false, eq_self, reduceIte, Nat.reduceEqDiff, Option.map, h0, h1, h6, h7, h26, h27]
    (repeat (first | refine v_reg ?_ | refine v_last ?_ | refine vwp_seq ?_ | refine vwp_block ?_ | refine vwp_skip ?_ | refine vwp_exit ?_ | refine vwp_ret ?_ | refine v_cond ?_)); simp only [vm, ite_true, ite_false, eq_self, reduceIte, Nat.reduceEqDiff, Option.map]
    by_cases g2 : (i : Int) < (y.length : Int)
    · (repeat (first | refine v_reg ?_ | refine v_last ?_ | refine vwp_seq ?_ | refine vwp_block ?_ | refine vwp_skip ?_ | refine vwp_exit ?_ | refine vwp_ret ?_ | refine v_cond ?_)); simp only [vm, ite_true, ite_false, eq_self, reduceIte, Nat.reduceEqDiff, Option.map, h0, h1, h6, h7, h26, h27, g2]
      (repeat (first | refine v_reg ?_ | refine v_last ?_ | refine vwp_seq ?_ | refine vwp_block ?_ | refine vwp_skip ?_ | refine vwp_exit ?_ | refine vwp_ret ?_ | refine v_cond ?_)); simp only [vm, ite_true, ite_false, eq_self, reduceIte, Nat.reduceEqDiff, Option.map]
      (repeat (first | refine v_reg ?_ | refine v_last ?_ | refine vwp_seq ?_ | refine vwp_block ?_ | refine vwp_skip ?_ | refine vwp_exit ?_ | refine vwp_ret ?_ | refine v_cond ?_)); simp only [vm, ite_true, ite_false, eq_self, reduceIte, Nat.reduceEqDiff, Option.map, h0, h1, h6, h7, h26, h27, g2]
      refine ⟨by omega, by omega, ?_⟩
      (repeat (first | refine v_reg ?_ | refine v_last ?_ | refine vwp_seq ?_ | refine vwp_block ?_ | refine vwp_skip ?_ | refine vwp_exit ?_ | refine vwp_ret ?_ | refine v_cond ?_)); simp only [vm, ite_true, ite_false, eq_self, reduceIte, Nat.reduceEqDiff, Option.map, h0, h1, h6, h7, h26, h27, g2, hlen, hset]
      (repeat refine And.intro (by omega) ?_)
      (repeat (first | refine v_reg ?_ | refine v_last ?_ | refine vwp_seq ?_ | refine vwp_block ?_ | refine vwp_skip ?_ | refine vwp_exit ?_ | refine vwp_ret ?_ | refine v_cond ?_)); simp only [vm, ite_true, ite_false, eq_self, reduceIte, Nat.reduceEqDiff, Option.map, h0, h1, h6, h7, h26, h27, g2, hlen, hset]
      refine ⟨by omega, x.length - (i + 1), by omega, i + 1, w ++ [(x.getD i 0 + y.getD i 0 + carry) % 18446744073709551616], (x.getD i 0 + y.getD i 0 + carry) / 18446744073709551616, ?_⟩
      (repeat' apply And.intro) <;> first | rfl | omega | assumption | (simp [hw]; done) | exact lim_snoc hlw (Nat.mod_lt _ (by decide)) | (rw [key, hx', hy']; omega)
    · have hy0 : y.getD i 0 = 0 := getD_ge (by omega)
      (repeat (first | refine v_reg ?_ | refine v_last ?_ | refine vwp_seq ?_ | refine vwp_block ?_ | refine vwp_skip ?_ | refine vwp_exit ?_ | refine vwp_ret ?_ | refine v_cond ?_)); simp only [vm, ite_true, ite_false, eq_self, reduceIte, Nat.reduceEqDiff, Option.map, h0, h1, h6, h7, h26, h27, g2]
      (repeat (first | refine v_reg ?_ | refine v_last ?_ | refine vwp_seq ?_ | refine vwp_block ?_ | refine vwp_skip ?_ | refine vwp_exit ?_ | refine vwp_ret ?_ | refine v_cond ?_)); simp only [vm, ite_true, ite_false, eq_self, reduceIte, Nat.reduceEqDiff, Option.map]
      (repeat (first | refine v_reg ?_ | refine v_last ?_ | refine vwp_seq ?_ | refine vwp_block ?_ | refine vwp_skip ?_ | refine vwp_exit ?_ | refine vwp_ret ?_ | refine v_cond ?_)); simp only [vm, ite_true, ite_false, eq_self, reduceIte, Nat.reduceEqDiff, Option.map]
      (repeat (first | refine v_reg ?_ | refine v_last ?_ | refine vwp_seq ?_ | refine vwp_block ?_ | refine vwp_skip ?_ | refine vwp_exit ?_ | refine vwp_ret ?_ | refine v_cond ?_)); simp only [vm, ite_true, ite_false, eq_self, reduceIte, Nat.reduceEqDiff, Option.map, h0, h1, h6, h7, h26, h27, g2, hlen, hset]
      (repeat refine And.intro (by omega) ?_)
      (repeat (first | refine v_reg ?_ | refine v_last ?_ | refine vwp_seq ?_ | refine vwp_block ?_ | refine vwp_skip ?_ | refine vwp_exit ?_ | refine vwp_ret ?_ | refine v_cond ?_)); simp only [vm, ite_true, ite_false, eq_self, reduceIte, Nat.reduceEqDiff, Option.map, h0, h1, h6, h7, h26, h27, g2, hlen, hset]
      rw [hy0] at key hy' hci
      simp only [Nat.add_zero] at key hci
      refine ⟨by omega, x.length - (i + 1), by omega, i + 1, w ++ [(x.getD i 0 + carry) % 18446744073709551616], (x.getD i 0 + carry) / 18446744073709551616, ?_⟩
      (repeat' apply And.intro) <;> first | rfl | omega | assumption | (simp [hw]; done) | exact lim_snoc hlw (Nat.mod_lt _ (by decide)) | (rw [key, hx', hy']; omega)
  · have hi' : i = x.length := by omega
    subst hi'
    have hset := set_fill w 0 carry
    rw [hw] at hset
    have hlen : (w ++ List.replicate (0 + 1) 0).length = x.length + 1 := by simp; omega
    rw [show x.length + 1 - x.length = 0 + 1 by omega] at *
    (repeat (first | refine v_reg ?_ | refine v_last ?_ | refine vwp_seq ?_ | refine vwp_block ?_ | refine vwp_skip ?_ | refine vwp_exit ?_ | refine vwp_ret ?_ | refine v_cond ?_)); simp only [vm, ite_true, ite_false, eq_self, reduceIte, Nat.reduceEqDiff, Option.map]
    (repeat (first | refine v_reg ?_ | refine v_last ?_ | refine vwp_seq ?_ | refine vwp_block ?_ | refine vwp_skip ?_ | refine vwp_exit ?_ | refine vwp_ret ?_ | refine v_cond ?_)); simp only [vm, ite_true, ite_false, eq_self, reduceIte, Nat.reduceEqDiff, Option.map, h0, h1, h6, h7, h26, h27, hlen, hset]
    refine ⟨by omega, by omega, ?_⟩
    have e0 : w ++ [carry] ++ List.replicate 0 0 = w ++ [carry] := by simp
    rw [e0]
    have hlz : Lim 18446744073709551616 (w ++ [carry]) := lim_snoc hlw (by omega)
    have hvz : val 18446744073709551616 (w ++ [carry]) = val 18446744073709551616 a + val 18446744073709551616 b := by
      rw [val_append, hw]
      simp only [val, Nat.mul_zero, Nat.add_zero]
      rw [hinv, List.take_length, val_take_all _ _ _ hxy, hv]
    have hnz : (w ++ [carry]).length = x.length + 1 := by simp; omega
    refine v_freeze 6 (t := c3) (off := 0) (n := x.length + 1) (cap := some (x.length + 1)) (l := w ++ [carry]) (by simp only [vm, ite_true, ite_false, eq_self, reduceIte, Nat.reduceEqDiff, Option.map, h6]) (by simp only [vm, ite_true, ite_false, eq_self, reduceIte, Nat.reduceEqDiff, Option.map]) (by omega) (by omega) ?_
    rw [List.drop_zero, show (w ++ [carry]).take (x.length + 1) = w ++ [carry] from List.take_of_length_le (by omega)]
    (repeat (first | refine v_reg ?_ | refine v_last ?_ | refine vwp_seq ?_ | refine vwp_block ?_ | refine vwp_skip ?_ | refine vwp_exit ?_ | refine vwp_ret ?_ | refine v_cond ?_)); simp only [vm, ite_true, ite_false, eq_self, reduceIte, Nat.reduceEqDiff, Option.map]
    refine s_call (told_spec (.id c3) (w ++ [carry]) (c3 + 1) hlz (by omega)) (by simp only [vm, ite_true, ite_false, eq_self, reduceIte, Nat.reduceEqDiff, Option.map, List.map]) ?_
    rintro v c5 hc5 rfl
    rw [hvz]
    by_cases gb : bl (val 18446744073709551616 a + val 18446744073709551616 b) ≤ 67108864
    · rw [if_pos gb]
      simp only [vm, ite_true, ite_false, eq_self, reduceIte, Nat.reduceEqDiff, Option.map]
      (repeat (first | refine v_reg ?_ | refine v_last ?_ | refine vwp_seq ?_ | refine vwp_block ?_ | refine vwp_skip ?_ | refine vwp_exit ?_ | refine vwp_ret ?_ | refine v_cond ?_)); simp only [vm, ite_true, ite_false, eq_self, reduceIte, Nat.reduceEqDiff, Option.map]
      exact ⟨by omega, .inl ⟨gb, .id c3, rfl, .inr ⟨c3, rfl, by omega, by omega⟩⟩⟩
    · rw [if_neg gb]
      simp only [vm, ite_true, ite_false, eq_self, reduceIte, Nat.reduceEqDiff, Option.map]
      (repeat (first | refine v_reg ?_ | refine v_last ?_ | refine vwp_seq ?_ | refine vwp_block ?_ | refine vwp_skip ?_ | refine vwp_exit ?_ | refine vwp_ret ?_ | refine v_cond ?_)); simp only [vm, ite_true, ite_false, eq_self, reduceIte, Nat.reduceEqDiff, Option.map]
      exact ⟨by omega, .inr ⟨by omega, rfl⟩⟩
end Go.Proofs.YtacodmnlnlbahabDoor
set_option linter.unusedSimpArgs false
set_option linter.unusedVariables false
set_option maxRecDepth 100000
set_option maxHeartbeats 4000000
namespace Go.Proofs.YtacodmnlnlbahabDoor
open Go.VM

theorem sub_spec (t u : Tok) (a b : List Nat) (c : Nat) (ha : Lim 18446744073709551616 a) (hb : Lim 18446744073709551616 b) (hna : a.length ≤ 1099511627776) (hnb : b.length ≤ 1099511627776) :
    VSpec Tryd.prog F.nat_Sub c [nats t a, nats u b] (fun r c' => if val 18446744073709551616 a < val 18446744073709551616 b then r = .tup [nil1, iv 10] else Told c c' (val 18446744073709551616 a - val 18446744073709551616 b) r) := by
  refine spec_mk hm E.nat_Sub B.nat_Sub K.nat_Sub Q.nat_Sub (by rw [N.nat_Sub]; simp) ?_
  unfold C.nat_Sub R.nat_Sub
  have hla := digs_len_le two64 ha
  have hlb := digs_len_le two64 hb
  (repeat (first | refine v_reg ?_ | refine v_last ?_ | refine vwp_seq ?_ | refine vwp_block ?_ | refine vwp_skip ?_ | refine vwp_exit ?_ | refine vwp_ret ?_ | refine v_cond ?_)); simp only [vm, ite_true, ite_false, eq_self, reduceIte, Nat.reduceEqDiff, Option.map]
  (repeat (first | refine v_reg ?_ | refine v_last ?_ | refine vwp_seq ?_ | refine vwp_block ?_ | refine vwp_skip ?_ | refine vwp_exit ?_ | refine vwp_ret ?_ | refine v_cond ?_)); simp only [vm, ite_true, ite_false, eq_self, reduceIte, Nat.reduceEqDiff, Option.map]
  refine s_call (compare_spec t u a b c ha hb hna hnb) (by simp only [vm, ite_true, ite_false, eq_self, reduceIte, Nat.reduceEqDiff, Option.map, List.map]) ?_
  rintro v c0 hc0 rfl
  simp only [vm, ite_true, ite_false, eq_self, reduceIte, Nat.reduceEqDiff, Option.map]
  (repeat (first | refine v_reg ?_ | refine v_last ?_ | refine vwp_seq ?_ | refine vwp_block ?_ | refine vwp_skip ?_ | refine vwp_exit ?_ | refine vwp_ret ?_ | refine v_cond ?_)); simp only [vm, ite_true, ite_false, eq_self, reduceIte, Nat.reduceEqDiff, Option.map]
  have hcmp : cmpI (val 18446744073709551616 a) (val 18446744073709551616 b) < 0 ↔ val 18446744073709551616 a < val 18446744073709551616 b := by unfold cmpI; split <;> (try split) <;> omega
  refine ⟨fun g => ?_, fun g => ?_⟩
  · rw [hcmp] at g
    (repeat (first | refine v_reg ?_ | refine v_last ?_ | refine vwp_seq ?_ | refine vwp_block ?_ | refine vwp_skip ?_ | refine vwp_exit ?_ | refine vwp_ret ?_ | refine v_cond ?_)); simp only [vm, ite_true, ite_false, eq_self, reduceIte, Nat.reduceEqDiff, Option.map]
    (repeat (first | refine v_reg ?_ | refine v_last ?_ | refine vwp_seq ?_ | refine vwp_block ?_ | refine vwp_skip ?_ | refine vwp_exit ?_ | refine vwp_ret ?_ | refine v_cond ?_)); simp only [vm, ite_true, ite_false, eq_self, reduceIte, Nat.reduceEqDiff, Option.map]
    exact ⟨hc0, by rw [if_pos g]; trivial⟩
  rw [hcmp] at g
  simp only [if_neg g]
  (repeat (first | refine v_reg ?_ | refine v_last ?_ | refine vwp_seq ?_ | refine vwp_block ?_ | refine vwp_skip ?_ | refine vwp_exit ?_ | refine vwp_ret ?_ | refine v_cond ?_)); simp only [vm, ite_true, ite_false, eq_self, reduceIte, Nat.reduceEqDiff, Option.map]
  (repeat (first | refine v_reg ?_ | refine v_last ?_ | refine vwp_seq ?_ | refine vwp_block ?_ | refine vwp_skip ?_ | refine vwp_exit ?_ | refine vwp_ret ?_ | refine v_cond ?_)); simp only [vm, ite_true, ite_false, eq_self, reduceIte, Nat.reduceEqDiff, Option.map]
  refine s_call (trim_spec t a c0 ha (by omega)) (by simp only [vm, ite_true, ite_false, eq_self, reduceIte, Nat.reduceEqDiff, Option.map, List.map]) ?_
  rintro v c1 hc1 rfl
  simp only [vm, ite_true, ite_false, eq_self, reduceIte, Nat.reduceEqDiff, Option.map]
  refine s_call (trim_spec u b c1 hb (by omega)) (by simp only [vm, ite_true, ite_false, eq_self, reduceIte, Nat.reduceEqDiff, Option.map, List.map]) ?_
  rintro v c2 hc2 rfl
  have hx := lim_digs two64 (val 18446744073709551616 a)
  have hy := lim_digs two64 (val 18446744073709551616 b)
  have va := val_digs two64 (val 18446744073709551616 a)
  have vb := val_digs two64 (val 18446744073709551616 b)
  have hxy : (digs 18446744073709551616 (val 18446744073709551616 b)).length ≤ (digs 18446744073709551616 (val 18446744073709551616 a)).length := le_len two64 (by omega)
  generalize digs 18446744073709551616 (val 18446744073709551616 a) = x at *
  generalize digs 18446744073709551616 (val 18446744073709551616 b) = y at *
  simp only [vm, ite_true, ite_false, eq_self, reduceIte, Nat.reduceEqDiff, Option.map]
  (repeat (first | refine v_reg ?_ | refine v_last ?_ | refine vwp_seq ?_ | refine vwp_block ?_ | refine vwp_skip ?_ | refine vwp_exit ?_ | refine vwp_ret ?_ | refine v_cond ?_)); simp only [vm, ite_true, ite_false, eq_self, reduceIte, Nat.reduceEqDiff, Option.map]
  refine s_mk (n := x.length) (m := x.length) (by simp only [vm, ite_true, ite_false, eq_self, reduceIte, Nat.reduceEqDiff, Option.map]) (by simp only [vm, ite_true, ite_false, eq_self, reduceIte, Nat.reduceEqDiff, Option.map]) (Nat.le_refl _) (by omega) ?_
  simp only [vm, ite_true, ite_false, eq_self, reduceIte, Nat.reduceEqDiff, Option.map]
  (repeat (first | refine v_reg ?_ | refine v_last ?_ | refine vwp_seq ?_ | refine vwp_block ?_ | refine vwp_skip ?_ | refine vwp_exit ?_ | refine vwp_ret ?_ | refine v_cond ?_)); simp only [vm, ite_true, ite_false, eq_self, reduceIte, Nat.reduceEqDiff, Option.map]
  (repeat (first | refine v_reg ?_ | refine v_last ?_ | refine vwp_seq ?_ | refine vwp_block ?_ | refine vwp_skip ?_ | refine vwp_exit ?_ | refine vwp_ret ?_ | refine v_cond ?_)); simp only [vm, ite_true, ite_false, eq_self, reduceIte, Nat.reduceEqDiff, Option.map]
  (repeat (first | refine vwp_seq ?_ | refine vwp_block ?_))
  refine vwp_loop (fun k S => ∃ i w bo, k = x.length - i ∧ i ≤ x.length ∧ S.ρ 0 = nats t x ∧ S.ρ 1 = nats u y ∧ S.ρ 6 = .buf c2 0 x.length (some x.length) 1 ∧ S.ρ 7 = nv bo ∧ S.ρ 22 = iv x.length ∧ S.ρ 23 = iv i ∧ bo ≤ 1 ∧
    w.length = i ∧ Lim 18446744073709551616 w ∧ val 18446744073709551616 w + val 18446744073709551616 (y.take i) = val 18446744073709551616 (x.take i) + 18446744073709551616 ^ i * bo ∧ S.σ = supd noBlk c2 (nblk (w ++ List.replicate (x.length - i) 0)) ∧ S.c = c2 + 1) x.length ?_ ?_
  · refine ⟨0, [], 0, rfl, Nat.zero_le _, ?_⟩
    simp only [vm, ite_true, ite_false, eq_self, reduceIte, Nat.reduceEqDiff, Option.map]
    (repeat' apply And.intro) <;> first | rfl | omega | assumption | exact Lim.nil
  rintro k ⟨ρ2, σ, c4⟩ ⟨i, w, bo, hk, hi, h0, h1, h6, h7, h22, h23, hbo, hw, hlw, hinv, hσ, hc4⟩
  dsimp only at h0 h1 h6 h7 h22 h23 hσ hc4
  subst hσ hc4
  (repeat (first | refine v_reg ?_ | refine v_last ?_ | refine vwp_seq ?_ | refine vwp_block ?_ | refine vwp_skip ?_ | refine vwp_exit ?_ | refine vwp_ret ?_ | refine v_cond ?_)); simp only [vm, ite_true, ite_false, eq_self, reduceIte, Nat.reduceEqDiff, Option.map, h22, h23]
  (repeat (first | refine v_reg ?_ | refine v_last ?_ | refine vwp_seq ?_ | refine vwp_block ?_ | refine vwp_skip ?_ | refine vwp_exit ?_ | refine vwp_ret ?_ | refine v_cond ?_)); simp only [vm, ite_true, ite_false, eq_self, reduceIte, Nat.reduceEqDiff, Option.map]
  refine ⟨fun g => ?_, fun g => ?_⟩
  · have hi' : i < x.length := by omega
    have hlen : (w ++ List.replicate (x.length - i) 0).length = x.length := by simp; omega
    have hset : ∀ v, (w ++ List.replicate (x.length - i) 0).set i v = (w ++ [v]) ++ List.replicate (x.length - (i + 1)) 0 := fun v => by
      have := set_fill w (x.length - (i + 1)) v
      rw [hw] at this
      rw [show x.length - i = x.length - (i + 1) + 1 by omega, this]
    have hxi := hx.getD (i := i) (by decide)
    have hyi := hy.getD (i := i) (by decide)
    have hx' := val_take' 18446744073709551616 x i
    have hy' := val_take' 18446744073709551616 y i
    have key := sub_step (b := 18446744073709551616) (c' := if x.getD i 0 < y.getD i 0 + bo then 1 else 0) (x := x.getD i 0) (y := y.getD i 0) (d := (x.getD i 0 + 18446744073709551616 - y.getD i 0 - bo) % 18446744073709551616) hw hinv (by split <;> omega)
    have hb1 : (if x.getD i 0 < y.getD i 0 + bo then 1 else 0) ≤ 1 := by split <;> omega
    rw [← hx', ← hy'] at key
    (repeat (first | refine v_reg ?_ | refine v_last ?_ | refine vwp_seq ?_ | refine vwp_block ?_ | refine vwp_skip ?_ | refine vwp_exit ?_ | refine vwp_ret ?_ | refine v_cond ?_)); simp only [vm, ite_true, ite_false, eq_self, reduceIte, Nat.reduceEqDiff, Option.map]
    (repeat (first | refine v_reg ?_ | refine v_last ?_ | refine vwp_seq ?_ | refine vwp_block ?_ | refine vwp_skip ?_ | refine vwp_exit ?_ | refine vwp_ret ?_ | refine v_cond ?_)); simp only [vm, ite_true, ite_false, eq_self, reduceIte, Nat.reduceEqDiff, Option.map, h0, h1, h6, h7, h22, h23]
    (repeat (first | refine v_reg ?_ | refine v_last ?_ | refine vwp_seq ?_ | refine vwp_block ?_ | refine vwp_skip ?_ | refine vwp_exit ?_ | refine vwp_ret ?_ | refine v_cond ?_)); simp only [vm, ite_true, ite_false, eq_self, reduceIte, Nat.reduceEqDiff, Option.map]
    by_cases g2 : (i : Int) < (y.length : Int)
    · (repeat (first | refine v_reg ?_ | refine v_last ?_ | refine vwp_seq ?_ | refine vwp_block ?_ | refine vwp_skip ?_ | refine vwp_exit ?_ | refine vwp_ret ?_ | refine v_cond ?_)); simp only [vm, ite_true, ite_false, eq_self, reduceIte, Nat.reduceEqDiff, Option.map, h0, h1, h6, h7, h22, h23, g2]
      (repeat (first | refine v_reg ?_ | refine v_last ?_ | refine vwp_seq ?_ | refine vwp_block ?_ | refine vwp_skip ?_ | refine vwp_exit ?_ | refine vwp_ret ?_ | refine v_cond ?_)); simp only [vm, ite_true, ite_false, eq_self, reduceIte, Nat.reduceEqDiff, Option.map]
      (repeat (first | refine v_reg ?_ | refine v_last ?_ | refine vwp_seq ?_ | refine vwp_block ?_ | refine vwp_skip ?_ | refine vwp_exit ?_ | refine vwp_ret ?_ | refine v_cond ?_)); simp only [vm, ite_true, ite_false, eq_self, reduceIte, Nat.reduceEqDiff, Option.map, h0, h1, h6, h7, h22, h23, g2]
      (repeat refine And.intro (by omega) ?_)
      (repeat (first | refine v_reg ?_ | refine v_last ?_ | refine vwp_seq ?_ | refine vwp_block ?_ | refine vwp_skip ?_ | refine vwp_exit ?_ | refine vwp_ret ?_ | refine v_cond ?_)); simp only [vm, ite_true, ite_false, eq_self, reduceIte, Nat.reduceEqDiff, Option.map, h0, h1, h6, h7, h22, h23, g2, hlen, hset]
      (repeat refine And.intro (by omega) ?_)
      (repeat (first | refine v_reg ?_ | refine v_last ?_ | refine vwp_seq ?_ | refine vwp_block ?_ | refine vwp_skip ?_ | refine vwp_exit ?_ | refine vwp_ret ?_ | refine v_cond ?_)); simp only [vm, ite_true, ite_false, eq_self, reduceIte, Nat.reduceEqDiff, Option.map, h0, h1, h6, h7, h22, h23, g2, hlen, hset]
      refine ⟨by omega, x.length - (i + 1), by omega, i + 1, w ++ [(x.getD i 0 + 18446744073709551616 - y.getD i 0 - bo) % 18446744073709551616], if x.getD i 0 < y.getD i 0 + bo then 1 else 0, ?_⟩
      (repeat' apply And.intro) <;> first | rfl | omega | assumption | (simp [hw]; done) | exact lim_snoc hlw (Nat.mod_lt _ (by decide)) | exact key
    · have hy0 : y.getD i 0 = 0 := getD_ge (by omega)
      rw [hy0] at key hb1
      (repeat (first | refine v_reg ?_ | refine v_last ?_ | refine vwp_seq ?_ | refine vwp_block ?_ | refine vwp_skip ?_ | refine vwp_exit ?_ | refine vwp_ret ?_ | refine v_cond ?_)); simp only [vm, ite_true, ite_false, eq_self, reduceIte, Nat.reduceEqDiff, Option.map, h0, h1, h6, h7, h22, h23, g2]
      (repeat (first | refine v_reg ?_ | refine v_last ?_ | refine vwp_seq ?_ | refine vwp_block ?_ | refine vwp_skip ?_ | refine vwp_exit ?_ | refine vwp_ret ?_ | refine v_cond ?_)); simp only [vm, ite_true, ite_false, eq_self, reduceIte, Nat.reduceEqDiff, Option.map]
      (repeat (first | refine v_reg ?_ | refine v_last ?_ | refine vwp_seq ?_ | refine vwp_block ?_ | refine vwp_skip ?_ | refine vwp_exit ?_ | refine vwp_ret ?_ | refine v_cond ?_)); simp only [vm, ite_true, ite_false, eq_self, reduceIte, Nat.reduceEqDiff, Option.map]
      (repeat (first | refine v_reg ?_ | refine v_last ?_ | refine vwp_seq ?_ | refine vwp_block ?_ | refine vwp_skip ?_ | refine vwp_exit ?_ | refine vwp_ret ?_ | refine v_cond ?_)); simp only [vm, ite_true, ite_false, eq_self, reduceIte, Nat.reduceEqDiff, Option.map, h0, h1, h6, h7, h22, h23, g2, hlen, hset]
      (repeat refine And.intro (by omega) ?_)
      (repeat (first | refine v_reg ?_ | refine v_last ?_ | refine vwp_seq ?_ | refine vwp_block ?_ | refine vwp_skip ?_ | refine vwp_exit ?_ | refine vwp_ret ?_ | refine v_cond ?_)); simp only [vm, ite_true, ite_false, eq_self, reduceIte, Nat.reduceEqDiff, Option.map, h0, h1, h6, h7, h22, h23, g2, hlen, hset]
      refine ⟨by omega, x.length - (i + 1), by omega, i + 1, w ++ [(x.getD i 0 + 18446744073709551616 - 0 - bo) % 18446744073709551616], if x.getD i 0 < 0 + bo then 1 else 0, ?_⟩
      simp only [Nat.zero_add] at key hb1 ⊢
      (repeat' apply And.intro) <;> first | rfl | omega | assumption | (simp [hw]; done) | exact lim_snoc hlw (Nat.mod_lt _ (by decide)) | exact key
  · have hi' : i = x.length := by omega
    subst hi'
    have e0 : w ++ List.replicate (x.length - x.length) 0 = w := by simp
    rw [e0]
    rw [List.take_length, val_take_all _ _ _ hxy, va, vb] at hinv
    have hwl := val_lt hlw
    rw [hw] at hwl
    have hvz : val 18446744073709551616 w = val 18446744073709551616 a - val 18446744073709551616 b := by
      have hbb : bo = 0 ∨ bo = 1 := by omega
      rcases hbb with rfl | rfl <;> omega
    (repeat (first | refine v_reg ?_ | refine v_last ?_ | refine vwp_seq ?_ | refine vwp_block ?_ | refine vwp_skip ?_ | refine vwp_exit ?_ | refine vwp_ret ?_ | refine v_cond ?_)); simp only [vm, ite_true, ite_false, eq_self, reduceIte, Nat.reduceEqDiff, Option.map]
    refine v_freeze 6 (t := c2) (off := 0) (n := x.length) (cap := some x.length) (l := w) (by simp only [vm, ite_true, ite_false, eq_self, reduceIte, Nat.reduceEqDiff, Option.map, h6]) (by simp only [vm, ite_true, ite_false, eq_self, reduceIte, Nat.reduceEqDiff, Option.map]) (by omega) (by omega) ?_
    rw [List.drop_zero, show w.take x.length = w from List.take_of_length_le (by omega)]
    (repeat (first | refine v_reg ?_ | refine v_last ?_ | refine vwp_seq ?_ | refine vwp_block ?_ | refine vwp_skip ?_ | refine vwp_exit ?_ | refine vwp_ret ?_ | refine v_cond ?_)); simp only [vm, ite_true, ite_false, eq_self, reduceIte, Nat.reduceEqDiff, Option.map]
    refine s_call (told_spec (.id c2) w (c2 + 1) hlw (by omega)) (by simp only [vm, ite_true, ite_false, eq_self, reduceIte, Nat.reduceEqDiff, Option.map, List.map]) ?_
    rintro v c5 hc5 rfl
    rw [hvz]
    by_cases gb : bl (val 18446744073709551616 a - val 18446744073709551616 b) ≤ 67108864
    · rw [if_pos gb]
      simp only [vm, ite_true, ite_false, eq_self, reduceIte, Nat.reduceEqDiff, Option.map]
      (repeat (first | refine v_reg ?_ | refine v_last ?_ | refine vwp_seq ?_ | refine vwp_block ?_ | refine vwp_skip ?_ | refine vwp_exit ?_ | refine vwp_ret ?_ | refine v_cond ?_)); simp only [vm, ite_true, ite_false, eq_self, reduceIte, Nat.reduceEqDiff, Option.map]
      exact ⟨by omega, .inl ⟨gb, .id c2, rfl, .inr ⟨c2, rfl, by omega, by omega⟩⟩⟩
    · rw [if_neg gb]
      simp only [vm, ite_true, ite_false, eq_self, reduceIte, Nat.reduceEqDiff, Option.map]
      (repeat (first | refine v_reg ?_ | refine v_last ?_ | refine vwp_seq ?_ | refine vwp_block ?_ | refine vwp_skip ?_ | refine vwp_exit ?_ | refine vwp_ret ?_ | refine v_cond ?_)); simp only [vm, ite_true, ite_false, eq_self, reduceIte, Nat.reduceEqDiff, Option.map]
      exact ⟨by omega, .inr ⟨by omega, rfl⟩⟩

theorem times_spec (t : Tok) (a : List Nat) (m c : Nat) (ha : Lim 18446744073709551616 a) (hml : m < 18446744073709551616) (hna : a.length ≤ 1099511627776) :
    VSpec Tryd.prog F.nat_Times c [nats t a, nv m] (fun r c' => Told c c' (val 18446744073709551616 a * m) r) := by
  refine spec_mk hm E.nat_Times B.nat_Times K.nat_Times Q.nat_Times (by rw [N.nat_Times]; simp) ?_
  unfold C.nat_Times R.nat_Times
  have hla := digs_len_le two64 ha
  (repeat (first | refine v_reg ?_ | refine v_last ?_ | refine vwp_seq ?_ | refine vwp_block ?_ | refine vwp_skip ?_ | refine vwp_exit ?_ | refine vwp_ret ?_ | refine v_cond ?_)); simp only [vm, ite_true, ite_false, eq_self, reduceIte, Nat.reduceEqDiff, Option.map]
  (repeat (first | refine v_reg ?_ | refine v_last ?_ | refine vwp_seq ?_ | refine vwp_block ?_ | refine vwp_skip ?_ | refine vwp_exit ?_ | refine vwp_ret ?_ | refine v_cond ?_)); simp only [vm, ite_true, ite_false, eq_self, reduceIte, Nat.reduceEqDiff, Option.map]
  refine s_call (trim_spec t a c ha (by omega)) (by simp only [vm, ite_true, ite_false, eq_self, reduceIte, Nat.reduceEqDiff, Option.map, List.map]) ?_
  rintro v c2 hc2 rfl
  have hx := lim_digs two64 (val 18446744073709551616 a)
  have va := val_digs two64 (val 18446744073709551616 a)
  generalize digs 18446744073709551616 (val 18446744073709551616 a) = x at *
  simp only [vm, ite_true, ite_false, eq_self, reduceIte, Nat.reduceEqDiff, Option.map]
  (repeat (first | refine v_reg ?_ | refine v_last ?_ | refine vwp_seq ?_ | refine vwp_block ?_ | refine vwp_skip ?_ | refine vwp_exit ?_ | refine vwp_ret ?_ | refine v_cond ?_)); simp only [vm, ite_true, ite_false, eq_self, reduceIte, Nat.reduceEqDiff, Option.map]
  refine ⟨by omega, ?_⟩
  refine s_mk (n := x.length + 1) (m := x.length + 1) (by simp only [vm, ite_true, ite_false, eq_self, reduceIte, Nat.reduceEqDiff, Option.map]; rfl) (by simp only [vm, ite_true, ite_false, eq_self, reduceIte, Nat.reduceEqDiff, Option.map]; rfl) (Nat.le_refl _) (by omega) ?_
  simp only [vm, ite_true, ite_false, eq_self, reduceIte, Nat.reduceEqDiff, Option.map]
  (repeat (first | refine v_reg ?_ | refine v_last ?_ | refine vwp_seq ?_ | refine vwp_block ?_ | refine vwp_skip ?_ | refine vwp_exit ?_ | refine vwp_ret ?_ | refine v_cond ?_)); simp only [vm, ite_true, ite_false, eq_self, reduceIte, Nat.reduceEqDiff, Option.map]
  (repeat (first | refine v_reg ?_ | refine v_last ?_ | refine vwp_seq ?_ | refine vwp_block ?_ | refine vwp_skip ?_ | refine vwp_exit ?_ | refine vwp_ret ?_ | refine v_cond ?_)); simp only [vm, ite_true, ite_false, eq_self, reduceIte, Nat.reduceEqDiff, Option.map]
  (repeat (first | refine vwp_seq ?_ | refine vwp_block ?_))
  refine vwp_loop (fun k S => ∃ i w carry, k = x.length - i ∧ i ≤ x.length ∧ S.ρ 0 = nats t x ∧ S.ρ 1 = nv m ∧ S.ρ 20 = nats t x ∧ S.ρ 6 = .buf c2 0 (x.length + 1) (some (x.length + 1)) 1 ∧ S.ρ 7 = nv carry ∧ S.ρ 21 = iv x.length ∧ S.ρ 22 = iv i ∧ carry < 18446744073709551616 ∧
    w.length = i ∧ Lim 18446744073709551616 w ∧ val 18446744073709551616 w + 18446744073709551616 ^ i * carry = val 18446744073709551616 (x.take i) * m ∧ S.σ = supd noBlk c2 (nblk (w ++ List.replicate (x.length + 1 - i) 0)) ∧ c2 + 1 ≤ S.c) x.length ?_ ?_
  · refine ⟨0, [], 0, rfl, Nat.zero_le _, ?_⟩
    simp only [vm, ite_true, ite_false, eq_self, reduceIte, Nat.reduceEqDiff, Option.map]
    (repeat' apply And.intro) <;> first | rfl | omega | assumption | exact Lim.nil | (simp [val])
  rintro k ⟨ρ2, σ, c4⟩ ⟨i, w, carry, hk, hi, h0, h1, h20, h6, h7, h21, h22, hca, hw, hlw, hinv, hσ, hc4⟩
  dsimp only at h0 h1 h20 h6 h7 h21 h22 hσ hc4
  subst hσ
  (repeat (first | refine v_reg ?_ | refine v_last ?_ | refine vwp_seq ?_ | refine vwp_block ?_ | refine vwp_skip ?_ | refine vwp_exit ?_ | refine vwp_ret ?_ | refine v_cond ?_)); simp only [vm, ite_true, ite_false, eq_self, reduceIte, Nat.reduceEqDiff, Option.map, h21, h22]
  (repeat (first | refine v_reg ?_ | refine v_last ?_ | refine vwp_seq ?_ | refine vwp_block ?_ | refine vwp_skip ?_ | refine vwp_exit ?_ | refine vwp_ret ?_ | refine v_cond ?_)); simp only [vm, ite_true, ite_false, eq_self, reduceIte, Nat.reduceEqDiff, Option.map]
  refine ⟨fun g => ?_, fun g => ?_⟩
  · have hi' : i < x.length := by omega
    have hlen : (w ++ List.replicate (x.length + 1 - i) 0).length = x.length + 1 := by simp; omega
    have hset : ∀ v, (w ++ List.replicate (x.length + 1 - i) 0).set i v = (w ++ [v]) ++ List.replicate (x.length + 1 - (i + 1)) 0 := fun v => by
      have := set_fill w (x.length - i) v
      rw [hw] at this
      rw [show x.length + 1 - i = x.length - i + 1 by omega, this, show x.length + 1 - (i + 1) = x.length - i by omega]
    have hxi := hx.getD (i := i) (by decide)
    have hx' := val_take' 18446744073709551616 x i
    have key := add_step (b := 18446744073709551616) (m := x.getD i 0 * m) hw hinv
    obtain ⟨e1, e2⟩ := mul_step (x.getD i 0) m carry
    have e3 := mul_step_lt hxi hml hca
    (repeat (first | refine v_reg ?_ | refine v_last ?_ | refine vwp_seq ?_ | refine vwp_block ?_ | refine vwp_skip ?_ | refine vwp_exit ?_ | refine vwp_ret ?_ | refine v_cond ?_)); simp only [vm, ite_true, ite_false, eq_self, reduceIte, Nat.reduceEqDiff, Option.map]
    (repeat (first | refine v_reg ?_ | refine v_last ?_ | refine vwp_seq ?_ | refine vwp_block ?_ | refine vwp_skip ?_ | refine vwp_exit ?_ | refine vwp_ret ?_ | refine v_cond ?_)); simp only [vm, ite_true, ite_false, eq_self, reduceIte, Nat.reduceEqDiff, Option.map, h0, h1, h20, h6, h7, h21, h22]
    (repeat refine And.intro (by omega) ?_)
    (repeat (first | refine v_reg ?_ | refine v_last ?_ | refine vwp_seq ?_ | refine vwp_block ?_ | refine vwp_skip ?_ | refine vwp_exit ?_ | refine vwp_ret ?_ | refine v_cond ?_)); simp only [vm, ite_true, ite_false, eq_self, reduceIte, Nat.reduceEqDiff, Option.map]
    refine s_call (mul64_spec (x.getD i 0) m c4 hxi hml) (by simp only [vm, ite_true, ite_false, eq_self, reduceIte, Nat.reduceEqDiff, Option.map, List.map, h1]) ?_
    rintro v c5 hc5 rfl
    simp only [vm, ite_true, ite_false, eq_self, reduceIte, Nat.reduceEqDiff, Option.map, h0, h1, h20, h6, h7, h21, h22]
    (repeat (first | refine v_reg ?_ | refine v_last ?_ | refine vwp_seq ?_ | refine vwp_block ?_ | refine vwp_skip ?_ | refine vwp_exit ?_ | refine vwp_ret ?_ | refine v_cond ?_)); simp only [vm, ite_true, ite_false, eq_self, reduceIte, Nat.reduceEqDiff, Option.map, h0, h1, h20, h6, h7, h21, h22]
    refine ⟨by omega, ?_⟩
    simp only [Nat.add_zero, e1]
    (repeat (first | refine v_reg ?_ | refine v_last ?_ | refine vwp_seq ?_ | refine vwp_block ?_ | refine vwp_skip ?_ | refine vwp_exit ?_ | refine vwp_ret ?_ | refine v_cond ?_)); simp only [vm, ite_true, ite_false, eq_self, reduceIte, Nat.reduceEqDiff, Option.map, h0, h1, h20, h6, h7, h21, h22, hlen, hset]
    (repeat refine And.intro (by omega) ?_)
    (repeat (first | refine v_reg ?_ | refine v_last ?_ | refine vwp_seq ?_ | refine vwp_block ?_ | refine vwp_skip ?_ | refine vwp_exit ?_ | refine vwp_ret ?_ | refine v_cond ?_)); simp only [vm, ite_true, ite_false, eq_self, reduceIte, Nat.reduceEqDiff, Option.map, h0, h1, h20, h6, h7, h21, h22, hlen, hset]
    rw [e2, Nat.mod_eq_of_lt e3]
    (repeat (first | refine v_reg ?_ | refine v_last ?_ | refine vwp_seq ?_ | refine vwp_block ?_ | refine vwp_skip ?_ | refine vwp_exit ?_ | refine vwp_ret ?_ | refine v_cond ?_)); simp only [vm, ite_true, ite_false, eq_self, reduceIte, Nat.reduceEqDiff, Option.map, h22]
    refine ⟨by omega, x.length - (i + 1), by omega, i + 1, w ++ [(x.getD i 0 * m + carry) % 18446744073709551616], (x.getD i 0 * m + carry) / 18446744073709551616, ?_⟩
    (repeat' apply And.intro) <;> first | rfl | omega | assumption | (simp [hw]; done) | exact lim_snoc hlw (Nat.mod_lt _ (by decide)) | (rw [key, hx', Nat.add_mul, Nat.mul_assoc])
  · have hi' : i = x.length := by omega
    subst hi'
    have hset := set_fill w 0 carry
    rw [hw] at hset
    have hlen : (w ++ List.replicate (0 + 1) 0).length = x.length + 1 := by simp; omega
    rw [show x.length + 1 - x.length = 0 + 1 by omega] at *
    (repeat (first | refine v_reg ?_ | refine v_last ?_ | refine vwp_seq ?_ | refine vwp_block ?_ | refine vwp_skip ?_ | refine vwp_exit ?_ | refine vwp_ret ?_ | refine v_cond ?_)); simp only [vm, ite_true, ite_false, eq_self, reduceIte, Nat.reduceEqDiff, Option.map]
    (repeat (first | refine v_reg ?_ | refine v_last ?_ | refine vwp_seq ?_ | refine vwp_block ?_ | refine vwp_skip ?_ | refine vwp_exit ?_ | refine vwp_ret ?_ | refine v_cond ?_)); simp only [vm, ite_true, ite_false, eq_self, reduceIte, Nat.reduceEqDiff, Option.map, h0, h1, h6, h7, h21, h22, hlen, hset]
    (repeat refine And.intro (by omega) ?_)
    have e0 : w ++ [carry] ++ List.replicate 0 0 = w ++ [carry] := by simp
    rw [e0]
    have hlz : Lim 18446744073709551616 (w ++ [carry]) := lim_snoc hlw (by omega)
    have hvz : val 18446744073709551616 (w ++ [carry]) = val 18446744073709551616 a * m := by
      rw [val_append, hw]
      simp only [val, Nat.mul_zero, Nat.add_zero]
      rw [hinv, List.take_length, va]
    have hnz : (w ++ [carry]).length = x.length + 1 := by simp; omega
    refine v_freeze 6 (t := c2) (off := 0) (n := x.length + 1) (cap := some (x.length + 1)) (l := w ++ [carry]) (by simp only [vm, ite_true, ite_false, eq_self, reduceIte, Nat.reduceEqDiff, Option.map, h6]) (by simp only [vm, ite_true, ite_false, eq_self, reduceIte, Nat.reduceEqDiff, Option.map]) (by omega) (by omega) ?_
    rw [List.drop_zero, show (w ++ [carry]).take (x.length + 1) = w ++ [carry] from List.take_of_length_le (by omega)]
    (repeat (first | refine v_reg ?_ | refine v_last ?_ | refine vwp_seq ?_ | refine vwp_block ?_ | refine vwp_skip ?_ | refine vwp_exit ?_ | refine vwp_ret ?_ | refine v_cond ?_)); simp only [vm, ite_true, ite_false, eq_self, reduceIte, Nat.reduceEqDiff, Option.map]
    refine s_call (told_spec (.id c2) (w ++ [carry]) c4 hlz (by omega)) (by simp only [vm, ite_true, ite_false, eq_self, reduceIte, Nat.reduceEqDiff, Option.map, List.map]) ?_
    rintro v c5 hc5 rfl
    rw [hvz]
    by_cases gb : bl (val 18446744073709551616 a * m) ≤ 67108864
    · rw [if_pos gb]
      simp only [vm, ite_true, ite_false, eq_self, reduceIte, Nat.reduceEqDiff, Option.map]
      (repeat (first | refine v_reg ?_ | refine v_last ?_ | refine vwp_seq ?_ | refine vwp_block ?_ | refine vwp_skip ?_ | refine vwp_exit ?_ | refine vwp_ret ?_ | refine v_cond ?_)); simp only [vm, ite_true, ite_false, eq_self, reduceIte, Nat.reduceEqDiff, Option.map]
      exact ⟨by omega, .inl ⟨gb, .id c2, rfl, .inr ⟨c2, rfl, by omega, by omega⟩⟩⟩
    · rw [if_neg gb]
      simp only [vm, ite_true, ite_false, eq_self, reduceIte, Nat.reduceEqDiff, Option.map]
      (repeat (first | refine v_reg ?_ | refine v_last ?_ | refine vwp_seq ?_ | refine vwp_block ?_ | refine vwp_skip ?_ | refine vwp_exit ?_ | refine vwp_ret ?_ | refine v_cond ?_)); simp only [vm, ite_true, ite_false, eq_self, reduceIte, Nat.reduceEqDiff, Option.map]
      exact ⟨by omega, .inr ⟨by omega, rfl⟩⟩
end Go.Proofs.YtacodmnlnlbahabDoor
set_option linter.unusedVariables false
set_option maxRecDepth 20000
namespace Go.VM
/-! ### one digit of a long division (digits below b; v = v1 b + v0) -/
section
variable {b n u v v1 v0 q r : Nat}
theorem kd_up (hb : 0 < b) (hu : u < b) (hv : v = v1 * b + v0) (h1 : 0 < v1) : (n * b + u) / v ≤ n / v1 := by
  rw [Nat.le_div_iff_mul_le h1]
  have hvp : 0 < v := by rw [hv]; have := Nat.mul_pos h1 hb; omega
  have h2 : (n * b + u) / v * v ≤ n * b + u := Nat.div_mul_le_self _ _
  generalize (n * b + u) / v = Q at *
  rw [hv, Nat.mul_add, ← Nat.mul_assoc] at h2
  have h3 : Q * v1 * b < (n + 1) * b := by rw [Nat.add_mul, Nat.one_mul]; omega
  have := Nat.lt_of_mul_lt_mul_right h3
  omega
theorem kd_lt (hb : 0 < b) (hu : u < b) (hn : n < v) : (n * b + u) / v < b := by
  rw [Nat.div_lt_iff_lt_mul (by omega)]
  have : (n + 1) * b ≤ v * b := Nat.mul_le_mul_right _ hn
  rw [Nat.add_mul, Nat.one_mul] at this
  rw [Nat.mul_comm b v]
  omega
/-- the digit is too great -/
theorem kd_dec (hb : 0 < b) (hu : u < b) (hv : v = v1 * b + v0) (h1 : 0 < v1) (hn : n < v) (he : q * v1 + r = n) (hc : b ≤ q ∨ b * r + u < q * v0) : (n * b + u) / v < q := by
  rcases hc with hc | hc
  · exact Nat.lt_of_lt_of_le (kd_lt hb hu hn) hc
  · have hvp : 0 < v := by rw [hv]; have := Nat.mul_pos h1 hb; omega
    rw [Nat.div_lt_iff_lt_mul hvp, hv, Nat.mul_add, ← he, Nat.add_mul, ← Nat.mul_assoc, Nat.mul_comm r b]
    omega
/-- the digit is not too great -/
theorem kd_le (hb : 0 < b) (hv : v = v1 * b + v0) (h1 : 0 < v1) (he : q * v1 + r = n) (hc : q * v0 ≤ b * r + u) : q ≤ (n * b + u) / v := by
  have hvp : 0 < v := by rw [hv]; have := Nat.mul_pos h1 hb; omega
  rw [Nat.le_div_iff_mul_le hvp, hv, Nat.mul_add, ← he, Nat.add_mul, ← Nat.mul_assoc, Nat.mul_comm r b]
  omega
theorem kd_big (hb : 0 < b) (hv : v = v1 * b + v0) (h1 : 0 < v1) (h0 : v0 < b) (he : q * v1 + r = n) (hq : q ≤ b) (hr : b ≤ r) : q ≤ (n * b + u) / v := by
  refine kd_le hb hv h1 he ?_
  have h2 : q * v0 ≤ b * v0 := Nat.mul_le_mul_right _ hq
  have h3 : b * v0 ≤ b * r := Nat.mul_le_mul_left _ (by omega)
  omega
end
theorem kd_first {n v v1 v0 : Nat} (hv : v = v1 * 4294967296 + v0) (h1 : 2147483648 ≤ v1) (h0 : v0 < 4294967296) (hn : n < v) : n / v1 ≤ 4294967297 := by
  have h : n / v1 < 4294967298 := by
    rw [Nat.div_lt_iff_lt_mul (by omega)]
    omega
  omega
/-- modulo 2^64 the rest comes out -/
theorem kd_rest0 {N u p r : Nat} (h : p + r = N + u) (hr : r < 18446744073709551616) :
    ((N % 18446744073709551616 + u) % 18446744073709551616 + (18446744073709551616 - p % 18446744073709551616 % 18446744073709551616)) % 18446744073709551616 = r := by omega
theorem kd_rest {n u v q : Nat} (hq : q = (n * 4294967296 + u) / v) (hv : v < 18446744073709551616) (hv0 : 0 < v) :
    ((n * 4294967296 % 18446744073709551616 + u) % 18446744073709551616 + (18446744073709551616 - q * v % 18446744073709551616 % 18446744073709551616)) % 18446744073709551616 = (n * 4294967296 + u) % v := by
  refine kd_rest0 ?_ (Nat.lt_trans (Nat.mod_lt (n * 4294967296 + u) hv0) hv)
  have := Nat.div_add_mod (n * 4294967296 + u) v
  rw [← hq] at this
  rw [Nat.mul_comm q v]
  exact this
theorem kd_two0 {h l v q1 r1 q0 r0 : Nat} (hv : 0 < v) (e1 : v * q1 + r1 = h * 4294967296 + l / 4294967296) (e2 : v * q0 + r0 = r1 * 4294967296 + l % 4294967296) (e4 : r0 < v) :
    q1 * 4294967296 + q0 = (h * 18446744073709551616 + l) / v ∧ r0 = (h * 18446744073709551616 + l) % v := by
  have e3 : h * 18446744073709551616 + l = v * (q1 * 4294967296 + q0) + r0 := by
    rw [Nat.mul_add, ← Nat.mul_assoc]
    generalize v * q1 = p at *
    generalize v * q0 = p' at *
    omega
  rw [e3]
  refine ⟨?_, ?_⟩
  · rw [Nat.mul_add_div hv, Nat.div_eq_of_lt e4, Nat.add_zero]
  · rw [Nat.mul_add_mod, Nat.mod_eq_of_lt e4]
/-- two digits make the quotient -/
theorem kd_two {h l v : Nat} (hv : 0 < v) (hl : l < 18446744073709551616) :
    ((h * 4294967296 + l / 4294967296) / v) * 4294967296 + (((h * 4294967296 + l / 4294967296) % v) * 4294967296 + l % 4294967296) / v = (h * 18446744073709551616 + l) / v ∧
    (((h * 4294967296 + l / 4294967296) % v) * 4294967296 + l % 4294967296) % v = (h * 18446744073709551616 + l) % v := by
  have e1 := Nat.div_add_mod (h * 4294967296 + l / 4294967296) v
  have e2 := Nat.div_add_mod ((h * 4294967296 + l / 4294967296) % v * 4294967296 + l % 4294967296) v
  have e4 := Nat.mod_lt ((h * 4294967296 + l / 4294967296) % v * 4294967296 + l % 4294967296) hv
  exact kd_two0 hv e1 e2 e4
end Go.VM
namespace Go.VM
theorem norm_shift {y : Nat} (h0 : 0 < y) (h : y < 18446744073709551616) : y * 2 ^ (64 - bl y) < 18446744073709551616 ∧ 9223372036854775808 ≤ y * 2 ^ (64 - bl y) := by
  have h1 := lt_bl y
  have h2 := le_of_bl h0
  have h3 : bl y ≤ 64 := bl_le h
  have h4 := bl_pos h0
  constructor
  · have : y * 2 ^ (64 - bl y) < 2 ^ bl y * 2 ^ (64 - bl y) := Nat.mul_lt_mul_of_pos_right h1 (Nat.two_pow_pos _)
    rw [← Nat.pow_add, show bl y + (64 - bl y) = 64 by omega] at this
    exact this
  · have : 2 ^ (bl y - 1) * 2 ^ (64 - bl y) ≤ y * 2 ^ (64 - bl y) := Nat.mul_le_mul_right _ h2
    rw [← Nat.pow_add, show bl y - 1 + (64 - bl y) = 63 by omega] at this
    exact this
/-- two limbs, shifted -/
theorem shift_two {hi lo s : Nat} (hs : s ≤ 64) (hlo : lo < 18446744073709551616) :
    lo / 2 ^ (64 - s) < 2 ^ s ∧ (hi * 18446744073709551616 + lo) * 2 ^ s = (hi * 2 ^ s + lo / 2 ^ (64 - s)) * 18446744073709551616 + lo * 2 ^ s % 18446744073709551616 := by
  have e : (18446744073709551616 : Nat) = 2 ^ (64 - s) * 2 ^ s := by rw [← Nat.pow_add, show 64 - s + s = 64 by omega]
  have h1 : lo / 2 ^ (64 - s) < 2 ^ s := by
    rw [Nat.div_lt_iff_lt_mul (Nat.two_pow_pos _), Nat.mul_comm, ← e]; exact hlo
  refine ⟨h1, ?_⟩
  have h2 : lo * 2 ^ s / 18446744073709551616 = lo / 2 ^ (64 - s) := by
    conv => lhs; rw [e]
    exact Nat.mul_div_mul_right _ _ (Nat.two_pow_pos _)
  have h3 := Nat.div_add_mod (lo * 2 ^ s) 18446744073709551616
  rw [h2] at h3
  rw [Nat.add_mul, Nat.add_mul, Nat.mul_right_comm]
  generalize lo * 2 ^ s = p at *
  omega
theorem or_shift {hi x s : Nat} (h : x < 2 ^ s) : (hi * 2 ^ s) ||| x = hi * 2 ^ s + x := by
  rw [Nat.mul_comm, ← Nat.two_pow_add_eq_or_of_lt h]
theorem shift_lt {N H L y s : Nat} (hN : N < y * 18446744073709551616) (e : N * 2 ^ s = H * 18446744073709551616 + L) : H < y * 2 ^ s := by
  have h1 : N * 2 ^ s < y * 18446744073709551616 * 2 ^ s := Nat.mul_lt_mul_of_pos_right hN (Nat.two_pow_pos _)
  rw [e, Nat.mul_right_comm] at h1
  generalize y * 2 ^ s = p at *
  omega
end Go.VM
namespace Go.VM
theorem sub_mod64 {p n : Nat} (h : p ≤ n) (hn : n < 18446744073709551616) : (n + (18446744073709551616 - p % 18446744073709551616 % 18446744073709551616)) % 18446744073709551616 = n - p := by omega
theorem dec_mod64 {q : Nat} (h : 0 < q) (hq : q < 18446744073709551616) : (q + (18446744073709551616 - 1 % 18446744073709551616)) % 18446744073709551616 = q - 1 := by omega
theorem kd_fit {q v0 : Nat} (hq : q ≤ 4294967297) (h0 : v0 < 4294967296) : q * v0 < 18446744073709551616 := by
  have : q * v0 ≤ 4294967297 * 4294967295 := Nat.mul_le_mul hq (by omega)
  omega
theorem kd_next {q v1 r n : Nat} (hq : 0 < q) (he : q * v1 + r = n) : (q - 1) * v1 + (r + v1) = n := by
  obtain ⟨k, rfl⟩ : ∃ k, q = k + 1 := ⟨q - 1, by omega⟩
  rw [Nat.add_sub_cancel]
  rw [Nat.add_mul, Nat.one_mul] at he
  omega
end Go.VM
namespace Go.VM
theorem two_lt {Q T : Nat} (h : Q < 4294967296) (h' : T < 4294967296) : Q * 4294967296 + T < 18446744073709551616 ∧ Q * 4294967296 < 18446744073709551616 := by omega
end Go.VM
namespace Go.VM
/-! ### rows that are filled from above -/
theorem set_top (w : List Nat) (k v : Nat) : (List.replicate (k + 1) 0 ++ w).set k v = List.replicate k 0 ++ (v :: w) := by
  rw [List.set_append_left _ _ (by simp), List.replicate_succ', List.set_append_right _ _ (by simp)]
  simp
theorem thr_step {b q r x d Y W rest : Nat} (h : W * d + rest = Y) (hq : q * d + r = rest * b + x) : (q + b * W) * d + r = x + b * Y := by
  rw [Nat.add_mul, Nat.mul_assoc, ← h, Nat.mul_add, Nat.mul_comm b rest]
  omega
theorem dig_lt {b r x d : Nat} (hr : r < d) (hx : x < b) : (r * b + x) / d < b := by
  rw [Nat.div_lt_iff_lt_mul (by omega)]
  have : (r + 1) * b ≤ d * b := Nat.mul_le_mul_right _ hr
  rw [Nat.add_mul, Nat.one_mul] at this
  rw [Nat.mul_comm b d]
  omega
theorem div_mod_of {W d rest Y : Nat} (h : W * d + rest = Y) (hr : rest < d) : Y / d = W ∧ Y % d = rest := by
  rw [← h, Nat.mul_comm]
  refine ⟨?_, ?_⟩
  · rw [Nat.mul_add_div (by omega), Nat.div_eq_of_lt hr, Nat.add_zero]
  · rw [Nat.mul_add_mod, Nat.mod_eq_of_lt hr]
/-! ### a shift to the left by less than a limb -/
theorem shl_parts {x s : Nat} (hs : s < 64) (hx : x < 18446744073709551616) : x * 2 ^ s = x * 2 ^ s % 18446744073709551616 + 18446744073709551616 * (x / 2 / 2 ^ (63 - s)) ∧ x / 2 / 2 ^ (63 - s) < 2 ^ s ∧ x * 2 ^ s % 18446744073709551616 = x % 2 ^ (64 - s) * 2 ^ s := by
  have e : (18446744073709551616 : Nat) = 2 ^ (64 - s) * 2 ^ s := by rw [← Nat.pow_add, show 64 - s + s = 64 by omega]
  have e2 : x / 2 / 2 ^ (63 - s) = x / 2 ^ (64 - s) := by
    rw [Nat.div_div_eq_div_mul, show 64 - s = (63 - s) + 1 by omega, Nat.pow_succ, Nat.mul_comm]
  have e3 : x * 2 ^ s % 18446744073709551616 = x % 2 ^ (64 - s) * 2 ^ s := by
    conv => lhs; rw [e]
    exact Nat.mul_mod_mul_right _ _ _
  refine ⟨?_, ?_, e3⟩
  · rw [e3, e2]
    have h := Nat.mod_add_div x (2 ^ (64 - s))
    have h2 : (x % 2 ^ (64 - s) + 2 ^ (64 - s) * (x / 2 ^ (64 - s))) * 2 ^ s = x * 2 ^ s := by rw [h]
    rw [Nat.add_mul, Nat.mul_right_comm, ← e] at h2
    exact h2.symm
  · rw [e2, Nat.div_lt_iff_lt_mul (Nat.two_pow_pos _), Nat.mul_comm, ← e]; exact hx
theorem or_top {x s top : Nat} (hs : s < 64) (hx : x < 18446744073709551616) (ht : top < 2 ^ s) : top ||| (x * 2 ^ s % 18446744073709551616) = top + x * 2 ^ s % 18446744073709551616 ∧ top + x * 2 ^ s % 18446744073709551616 < 18446744073709551616 := by
  obtain ⟨_, _, e3⟩ := shl_parts hs hx
  rw [e3, Nat.or_comm, or_shift ht, Nat.add_comm]
  refine ⟨rfl, ?_⟩
  have e : (18446744073709551616 : Nat) = 2 ^ (64 - s) * 2 ^ s := by rw [← Nat.pow_add, show 64 - s + s = 64 by omega]
  rw [e]
  have h : x % 2 ^ (64 - s) + 1 ≤ 2 ^ (64 - s) := Nat.mod_lt _ (Nat.two_pow_pos _)
  have h2 := Nat.mul_le_mul_right (2 ^ s) h
  rw [Nat.add_mul, Nat.one_mul] at h2
  omega
theorem shl_step {b i x top lo hi A P : Nat} {w : List Nat} (hw : w.length = i) (h : val b (w ++ [top]) = A) (hx : x * P = lo + b * hi) :
    val b ((w ++ [top + lo]) ++ [hi]) = A + b ^ i * (x * P) := by
  rw [← h, hx, val_append, val_append, val_append]
  simp only [val, List.length_append, List.length_cons, List.length_nil, hw, Nat.mul_zero, Nat.add_zero, Nat.zero_add]
  rw [Nat.mul_add, Nat.mul_add, Nat.pow_succ, Nat.mul_assoc]
  omega
end Go.VM
namespace Go.VM
theorem bl_mul_pow {x n : Nat} (h : 0 < x) : bl (x * 2 ^ n) = bl x + n := by
  have := bl_top (k := n) (r := 0) h (Nat.two_pow_pos n)
  rw [Nat.zero_add, Nat.mul_comm] at this
  omega
theorem set_at (l m : List Nat) (x v : Nat) : (l ++ x :: m).set l.length v = l ++ v :: m := by
  rw [List.set_append_right _ _ (Nat.le_refl _), Nat.sub_self, List.set_cons_zero]
theorem getD_at (l m : List Nat) (x : Nat) : (l ++ x :: m).getD l.length 0 = x := by simp
theorem val_zeros (b k : Nat) (l : List Nat) : val b (List.replicate k 0 ++ l) = b ^ k * val b l := by
  rw [val_append, val_replicate, List.length_replicate, Nat.zero_add]
end Go.VM
namespace Go.VM
theorem digs_len_bl {m k : Nat} (h : bl m ≤ 64 * k) : (digs 18446744073709551616 m).length ≤ k := by
  refine digs_len (by decide) ?_
  rw [pow64]
  exact lt_of_bl h
theorem pow_half (A n i : Nat) : A ^ (n / 2 ^ i) = A ^ (n / 2 ^ (i + 1)) * A ^ (n / 2 ^ (i + 1)) * (if n / 2 ^ i % 2 = 1 then A else 1) := by
  have e : n / 2 ^ i = n / 2 ^ (i + 1) + n / 2 ^ (i + 1) + n / 2 ^ i % 2 := by
    rw [Nat.pow_succ, ← Nat.div_div_eq_div_mul]; omega
  conv => lhs; rw [e]
  rw [Nat.pow_add, Nat.pow_add]
  have : n / 2 ^ i % 2 = 0 ∨ n / 2 ^ i % 2 = 1 := by omega
  rcases this with h | h <;> rw [h] <;> simp
theorem pow_le_of {A m n : Nat} (hA : 0 < A) (h : m ≤ n) : A ^ m ≤ A ^ n := Nat.pow_le_pow_right hA h
theorem bl_pow_low {A n : Nat} (hA : 0 < A) : (bl A - 1) * n + 1 ≤ bl (A ^ n) := by
  have h1 := Nat.pow_le_pow_left (le_of_bl hA) n
  rw [← Nat.pow_mul] at h1
  rcases Nat.lt_or_ge (bl (A ^ n)) ((bl A - 1) * n + 1) with g | g
  · have := lt_of_bl (show bl (A ^ n) ≤ (bl A - 1) * n by omega)
    omega
  · exact g
/-- a row shifted down by less than a limb, limb by limb -/
theorem down_limb {x y s : Nat} (hs : s < 64) (hx : x < 18446744073709551616) : (x / 2 ^ s) ||| (y * 2 % 18446744073709551616 * 2 ^ (63 - s) % 18446744073709551616) = x / 2 ^ s + (y % 2 ^ s) * 2 ^ (64 - s) ∧ x / 2 ^ s + (y % 2 ^ s) * 2 ^ (64 - s) < 18446744073709551616 := by
  have hp : (18446744073709551616 : Nat) = 2 ^ s * 2 ^ (64 - s) := by rw [← Nat.pow_add, show s + (64 - s) = 64 by omega]
  have h1 : x / 2 ^ s < 2 ^ (64 - s) := by
    rw [Nat.div_lt_iff_lt_mul (Nat.two_pow_pos s), Nat.mul_comm, ← hp]; exact hx
  have h2 : y * 2 % 18446744073709551616 * 2 ^ (63 - s) % 18446744073709551616 = (y % 2 ^ s) * 2 ^ (64 - s) := by
    rw [Nat.mod_mul_mod, Nat.mul_assoc, Nat.mul_comm 2, show 2 ^ (63 - s) * 2 = 2 ^ (64 - s) by rw [← Nat.pow_succ, show (63 - s).succ = 64 - s by omega]]
    conv => lhs; rw [hp]
    rw [Nat.mul_mod_mul_right]
  have h3 : y % 2 ^ s < 2 ^ s := Nat.mod_lt _ (Nat.two_pow_pos s)
  rw [h2, Nat.or_comm, or_shift h1]
  have h4 : (y % 2 ^ s + 1) * 2 ^ (64 - s) ≤ 2 ^ s * 2 ^ (64 - s) := Nat.mul_le_mul_right _ h3
  rw [← hp, Nat.add_mul, Nat.one_mul] at h4
  omega
theorem down_step {b i s x y W A P : Nat} {w : List Nat} {r0 : Nat} (hw : w.length = i) (h : val b w * 2 ^ s + r0 = A + b ^ i * (x % 2 ^ s)) (hb : b = 2 ^ s * P) (hW : W = x / 2 ^ s + (y % 2 ^ s) * P) :
    val b (w ++ [W]) * 2 ^ s + r0 = (A + b ^ i * x) + b ^ (i + 1) * (y % 2 ^ s) := by
  have e1 : 2 ^ s * (x / 2 ^ s) + x % 2 ^ s = x := Nat.div_add_mod x (2 ^ s)
  have e2 : b ^ (i + 1) * (y % 2 ^ s) = b ^ i * (2 ^ s * ((y % 2 ^ s) * P)) := by
    rw [Nat.pow_succ, Nat.mul_assoc]; congr 1; rw [hb]; ac_rfl
  have e3 : val b (w ++ [W]) * 2 ^ s = val b w * 2 ^ s + b ^ i * (2 ^ s * (x / 2 ^ s)) + b ^ i * (2 ^ s * ((y % 2 ^ s) * P)) := by
    rw [val_append, hw, val, val, Nat.mul_zero, Nat.add_zero, hW, Nat.add_mul, Nat.mul_add, Nat.add_mul]
    rw [Nat.add_assoc]
    congr 1
    congr 1
    · ac_rfl
    · ac_rfl
  rw [e3, e2]
  have e4 : b ^ i * x = b ^ i * (2 ^ s * (x / 2 ^ s)) + b ^ i * (x % 2 ^ s) := by rw [← Nat.mul_add, e1]
  rw [e4]
  omega
end Go.VM
