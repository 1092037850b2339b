/- The given statement 'the errors' numbers' of its seat, and its card: the law called on no argument answers true, and memory that was there is as it was; the table of trailing zeros (math/bits) is what the program's own start lays. -/
import Derived.Test.YtacodmnlnlbahaaDoorNamM2
import Derived.Test.YtacodmnlnlbahaaDoorProg
import Derived.KernelRfl
import Derived.Test.YtacodmnlnlbahaaDoorCards
import Derived.Test.YtacodmnlnlbahaaDoorTie
import Derived.WalkKit
import Derived.ProofKit
import Derived.OpenShut
import Derived.Deep.DeepHandedRow
import Derived.Lib.LaidTab
set_option linter.unusedVariables false
namespace Go.Proofs.YtacodmnlnlbahaaDoor
open Go.VM

abbrev F.surdlaw10_SpanNames : FuncId := 3
abbrev F.surdlaw10_num : FuncId := 4
abbrev F.surdlaw10_awake : FuncId := 5
abbrev F.span_Add : FuncId := 6
abbrev F.surdlaw10_small : FuncId := 7
abbrev F.surdref08_Int : FuncId := 8
abbrev F.surdref08_D_Is : FuncId := 9
abbrev F.span_checks : FuncId := 10
abbrev F.span_sums : FuncId := 11
abbrev F.surdref08_Of : FuncId := 12
abbrev F.surdref06_Int : FuncId := 13
abbrev F.surdref06_Z_Is : FuncId := 14
abbrev F.span_check : FuncId := 15
abbrev F.dyadic_Add : FuncId := 16
abbrev F.span_worst : FuncId := 17
abbrev F.span_outward : FuncId := 18
abbrev F.surdref06_Z_Sign : FuncId := 19
abbrev F.surdref01_Num_Tail : FuncId := 20
abbrev F.surdref01_Shr : FuncId := 21
abbrev F.surdref06_make1 : FuncId := 22
abbrev F.surdref01_Of : FuncId := 23
abbrev F.surdref01_Int : FuncId := 24
abbrev F.surdref01_Num_Is : FuncId := 25
abbrev F.dyadic_Compare : FuncId := 26
abbrev F.dyadic_two : FuncId := 27
abbrev F.dyadic_sum : FuncId := 28
abbrev F.dyadic_Round : FuncId := 29
abbrev F.span_ends : FuncId := 30
abbrev F.surdref01_Num_Zero : FuncId := 31
abbrev F.surdref01_Num_Bit : FuncId := 32
abbrev F.surdref01_Num_at : FuncId := 33
abbrev F.surdref01_norm : FuncId := 34
abbrev F.surdref01_Num_Limbs : FuncId := 35
abbrev F.dyadic_compare : FuncId := 36
abbrev F.dyadic_read : FuncId := 37
abbrev F.dyadic_part_sign : FuncId := 38
abbrev F.dyadic_told : FuncId := 39
abbrev F.dyadic_number_top : FuncId := 40
abbrev F.whole_Make : FuncId := 41
abbrev F.dyadic_left : FuncId := 42
abbrev F.dyadic_long : FuncId := 43
abbrev F.whole_Add : FuncId := 44
abbrev F.dyadic_within : FuncId := 45
abbrev F.dyadic_direction : FuncId := 46
abbrev F.dyadic_rounded : FuncId := 47
abbrev F.nat_Compare : FuncId := 48
abbrev F.dyadic_odd : FuncId := 49
abbrev F.whole_Sign : FuncId := 50
abbrev F.dyadic_part_length : FuncId := 51
abbrev F.whole_fits : FuncId := 52
abbrev F.nat_Left : FuncId := 53
abbrev F.nat_Norm : FuncId := 54
abbrev F.dyadic_minus : FuncId := 55
abbrev F.dyadic_plus : FuncId := 56
abbrev F.whole_norm : FuncId := 57
abbrev F.nat_Add : FuncId := 58
abbrev F.whole_result : FuncId := 59
abbrev F.nat_Sub : FuncId := 60
abbrev F.dyadic_steps : FuncId := 61
abbrev F.nat_trim : FuncId := 62
abbrev F.nat_Tail : FuncId := 63
abbrev F.dyadic_shifted : FuncId := 64
abbrev F.nat_Length : FuncId := 65
abbrev F.dyadic_limb : FuncId := 66
abbrev F.nat_told : FuncId := 68
abbrev F.nat_Bit : FuncId := 70
abbrev F.nat_From : FuncId := 71
abbrev F.bits_TrailingZeros64 : FuncId := 72
abbrev F.nat_Right : FuncId := 73
abbrev F.bits_Len64 : FuncId := 74
def C.surdlaw10_SpanNames : VC :=
  .seq (.region false [⟨some 0, .mov (.c (bv false)), none⟩]) (.seq (.region false [⟨some 1, .call F.surdlaw10_num [.c (iv 100)], none⟩,
   ⟨some 2, .bin .eql false (.t 1) (.c (iv 100)), none⟩,
   ⟨some 3, .mov (.t 2), none⟩,
   ⟨some 4, .call F.surdlaw10_num [.c (iv 101)], some (3, true)⟩,
   ⟨some 5, .bin .eql false (.t 4) (.c (iv 101)), some (3, true)⟩,
   ⟨some 6, .pick (.t 3) (.t 5) (.c (bv false)), none⟩,
   ⟨some 7, .mov (.t 6), none⟩,
   ⟨some 8, .call F.surdlaw10_num [.c (iv 102)], some (7, true)⟩,
   ⟨some 9, .bin .eql false (.t 8) (.c (iv 102)), some (7, true)⟩,
   ⟨some 10, .pick (.t 7) (.t 9) (.c (bv false)), none⟩,
   ⟨some 11, .mov (.t 10), none⟩,
   ⟨some 12, .call F.surdlaw10_num [.c (iv 103)], some (11, true)⟩,
   ⟨some 13, .bin .eql false (.t 12) (.c (iv 103)), some (11, true)⟩,
   ⟨some 14, .pick (.t 11) (.t 13) (.c (bv false)), none⟩,
   ⟨some 15, .mov (.t 14), none⟩,
   ⟨some 16, .call F.surdlaw10_num [.c (iv 70)], some (15, true)⟩,
   ⟨some 17, .bin .eql false (.t 16) (.c (iv 70)), some (15, true)⟩,
   ⟨some 18, .pick (.t 15) (.t 17) (.c (bv false)), none⟩,
   ⟨some 19, .mov (.t 18), none⟩,
   ⟨some 20, .call F.surdlaw10_awake [], some (19, true)⟩,
   ⟨some 21, .pick (.t 19) (.t 20) (.c (bv false)), none⟩,
   ⟨some 0, .mov (.t 21), none⟩]) .ret)
def R.surdlaw10_SpanNames : List VRes := [.tmp 0]
theorem K.surdlaw10_SpanNames : resCode Tryd.prog Tryd.f3.ntmps (Tryd.f3.body.getD .skip) = C.surdlaw10_SpanNames := by kernel_rfl
theorem Q.surdlaw10_SpanNames : resResults Tryd.prog Tryd.f3.results.toList = some R.surdlaw10_SpanNames := by kernel_rfl
theorem E.surdlaw10_SpanNames : Tryd.prog.funcs[F.surdlaw10_SpanNames]? = some Tryd.f3 := Tryd.func3
theorem B.surdlaw10_SpanNames : Tryd.f3.body = some (Tryd.f3.body.getD .skip) := by kernel_rfl
theorem N.surdlaw10_SpanNames : Tryd.f3.ntmps = 22 := Tryd.ntmps3

def C.surdlaw10_num : VC :=
  .seq (.region false [⟨some 2, .mov (.c (iv 0)), none⟩]) (.seq (.region false [⟨some 3, .mov (.t 0), none⟩,
   ⟨some 2, .mov (.t 3), none⟩]) .ret)
def R.surdlaw10_num : List VRes := [.tmp 2]
theorem K.surdlaw10_num : resCode Tryd.prog Tryd.f4.ntmps (Tryd.f4.body.getD .skip) = C.surdlaw10_num := by kernel_rfl
theorem Q.surdlaw10_num : resResults Tryd.prog Tryd.f4.results.toList = some R.surdlaw10_num := by kernel_rfl
theorem E.surdlaw10_num : Tryd.prog.funcs[F.surdlaw10_num]? = some Tryd.f4 := Tryd.func4
theorem B.surdlaw10_num : Tryd.f4.body = some (Tryd.f4.body.getD .skip) := by kernel_rfl
theorem N.surdlaw10_num : Tryd.f4.ntmps = 4 := Tryd.ntmps4

def C.surdlaw10_awake : VC :=
  .seq (.region false [⟨some 0, .mov (.c (bv false)), none⟩]) (.seq (.region false [⟨some 4, .call F.surdlaw10_small [.c (iv 1)], none⟩,
   ⟨some 5, .call F.surdlaw10_small [.c (iv 2)], none⟩,
   ⟨some 6, .build [.bool false, .slice none 0 0, .int .i64 0, .bool false, .slice none 0 0, .int .i64 0] [(0, (3, .t 4)), (3, (3, .t 5))], none⟩,
   ⟨some 7, .call F.surdlaw10_small [.c (iv 3)], none⟩,
   ⟨some 8, .call F.surdlaw10_small [.c (iv 5)], none⟩,
   ⟨some 9, .build [.bool false, .slice none 0 0, .int .i64 0, .bool false, .slice none 0 0, .int .i64 0] [(0, (3, .t 7)), (3, (3, .t 8))], none⟩,
   ⟨some 10, .call F.span_Add [.t 6, .t 9, .c (iv 0)], none⟩,
   ⟨some 3, .mov (.t 10), none⟩,
   ⟨some 11, .ext (.t 3) 0, none⟩,
   ⟨some 12, .ext (.t 3) 1, none⟩,
   ⟨some 1, .alloc [.bool false, .slice none 0 0, .int .i64 0, .bool false, .slice none 0 0, .int .i64 0], none⟩,
   ⟨none, .store 6 (.t 1) (.t 11), none⟩,
   ⟨some 2, .mov (.t 12), none⟩]) (.seq (.region true [⟨some 13, .mov (.t 2), none⟩,
   ⟨some 14, .call F.surdlaw10_num [.t 13], none⟩,
   ⟨some 15, .bin .eql false (.t 14) (.c (iv 0)), none⟩,
   ⟨some 16, .mov (.t 15), none⟩,
   ⟨some 17, .call F.surdref08_Int [.c (iv 4), .c (iv 0)], some (16, true)⟩,
   ⟨some 18, .fa 0 (.t 1), some (16, true)⟩,
   ⟨some 19, .fa 0 (.t 18), some (16, true)⟩,
   ⟨some 20, .fa 0 (.t 19), some (16, true)⟩,
   ⟨some 21, .load none (.t 20), some (16, true)⟩,
   ⟨some 22, .fa 0 (.t 1), some (16, true)⟩,
   ⟨some 23, .fa 0 (.t 22), some (16, true)⟩,
   ⟨some 24, .fa 1 (.t 23), some (16, true)⟩,
   ⟨some 25, .load none (.t 24), some (16, true)⟩,
   ⟨some 26, .fa 0 (.t 1), some (16, true)⟩,
   ⟨some 27, .fa 2 (.t 26), some (16, true)⟩,
   ⟨some 28, .load none (.t 27), some (16, true)⟩,
   ⟨some 29, .call F.surdref08_D_Is [.t 17, .t 21, .t 25, .t 28], some (16, true)⟩,
   ⟨some 30, .pick (.t 16) (.t 29) (.c (bv false)), none⟩,
   ⟨some 31, .mov (.t 30), none⟩,
   ⟨some 32, .call F.surdref08_Int [.c (iv 7), .c (iv 0)], some (31, true)⟩,
   ⟨some 33, .fa 3 (.t 1), some (31, true)⟩,
   ⟨some 34, .fa 0 (.t 33), some (31, true)⟩,
   ⟨some 35, .fa 0 (.t 34), some (31, true)⟩,
   ⟨some 36, .load none (.t 35), some (31, true)⟩,
   ⟨some 37, .fa 3 (.t 1), some (31, true)⟩,
   ⟨some 38, .fa 0 (.t 37), some (31, true)⟩,
   ⟨some 39, .fa 1 (.t 38), some (31, true)⟩,
   ⟨some 40, .load none (.t 39), some (31, true)⟩,
   ⟨some 41, .fa 3 (.t 1), some (31, true)⟩,
   ⟨some 42, .fa 2 (.t 41), some (31, true)⟩,
   ⟨some 43, .load none (.t 42), some (31, true)⟩,
   ⟨some 44, .call F.surdref08_D_Is [.t 32, .t 36, .t 40, .t 43], some (31, true)⟩,
   ⟨some 45, .pick (.t 31) (.t 44) (.c (bv false)), none⟩,
   ⟨some 0, .mov (.t 45), none⟩]) .ret))
def R.surdlaw10_awake : List VRes := [.tmp 0]
theorem K.surdlaw10_awake : resCode Tryd.prog Tryd.f5.ntmps (Tryd.f5.body.getD .skip) = C.surdlaw10_awake := by kernel_rfl
theorem Q.surdlaw10_awake : resResults Tryd.prog Tryd.f5.results.toList = some R.surdlaw10_awake := by kernel_rfl
theorem E.surdlaw10_awake : Tryd.prog.funcs[F.surdlaw10_awake]? = some Tryd.f5 := Tryd.func5
theorem B.surdlaw10_awake : Tryd.f5.body = some (Tryd.f5.body.getD .skip) := by kernel_rfl
theorem N.surdlaw10_awake : Tryd.f5.ntmps = 46 := Tryd.ntmps5

def C.span_Add : VC :=
  .seq (.region false [⟨some 3, .box (.t 0), none⟩,
   ⟨some 4, .box (.t 1), none⟩,
   ⟨some 6, .alloc [.bool false, .slice none 0 0, .int .i64 0, .bool false, .slice none 0 0, .int .i64 0], none⟩,
   ⟨some 7, .mov (.c (iv 0)), none⟩]) (.seq (.seq (.region false [⟨some 9, .mov (.t 2), none⟩,
   ⟨some 10, .load (some 6) (.t 3), none⟩,
   ⟨some 11, .load (some 6) (.t 4), none⟩,
   ⟨some 12, .bsl true 6 2 [.bool false, .slice none 0 0, .int .i64 0, .bool false, .slice none 0 0, .int .i64 0] [(0, (6, .t 10)), (6, (6, .t 11))], none⟩,
   ⟨some 13, .call F.span_checks [.t 9, .t 12], none⟩,
   ⟨some 8, .mov (.t 13), none⟩]) (.seq (.region false [⟨some 14, .mov (.t 8), none⟩,
   ⟨some 15, .bin .neq false (.t 14) (.c (iv 0)), none⟩]) (.cond (.t 15) (.seq (.region false [⟨some 16, .build [.bool false, .slice none 0 0, .int .i64 0, .bool false, .slice none 0 0, .int .i64 0] [], none⟩,
   ⟨some 17, .mov (.t 8), none⟩,
   ⟨none, .store 6 (.t 6) (.t 16), none⟩,
   ⟨some 7, .mov (.t 17), none⟩]) .ret) .skip))) (.seq (.region false [⟨some 18, .load (some 6) (.t 3), none⟩,
   ⟨some 19, .load (some 6) (.t 4), none⟩,
   ⟨some 20, .mov (.t 2), none⟩,
   ⟨some 21, .call F.span_sums [.t 18, .t 19, .t 20], none⟩,
   ⟨some 22, .ext (.t 21) 0, none⟩,
   ⟨some 23, .ext (.t 21) 1, none⟩,
   ⟨none, .store 6 (.t 6) (.t 22), none⟩,
   ⟨some 7, .mov (.t 23), none⟩]) .ret))
def R.span_Add : List VRes := [.cell 6 (some 6), .tmp 7]
theorem K.span_Add : resCode Tryd.prog Tryd.f6.ntmps (Tryd.f6.body.getD .skip) = C.span_Add := by kernel_rfl
theorem Q.span_Add : resResults Tryd.prog Tryd.f6.results.toList = some R.span_Add := by kernel_rfl
theorem E.span_Add : Tryd.prog.funcs[F.span_Add]? = some Tryd.f6 := Tryd.func6
theorem B.span_Add : Tryd.f6.body = some (Tryd.f6.body.getD .skip) := by kernel_rfl
theorem N.span_Add : Tryd.f6.ntmps = 24 := Tryd.ntmps6

def C.surdlaw10_small : VC :=
  .seq (.region false [⟨some 2, .alloc [.bool false, .slice none 0 0, .int .i64 0], none⟩]) (.seq (.region false [⟨some 3, .mov (.t 0), none⟩,
   ⟨some 4, .conv .u64 (.t 3), none⟩,
   ⟨some 5, .bsl true 1 1 [.int .u64 0] [(0, (1, .t 4))], none⟩,
   ⟨some 6, .build [.bool false, .slice none 0 0] [(1, (1, .t 5))], none⟩,
   ⟨some 7, .build [.bool false, .slice none 0 0, .int .i64 0] [(0, (2, .t 6))], none⟩,
   ⟨none, .store 3 (.t 2) (.t 7), none⟩]) .ret)
def R.surdlaw10_small : List VRes := [.cell 2 (some 3)]
theorem K.surdlaw10_small : resCode Tryd.prog Tryd.f7.ntmps (Tryd.f7.body.getD .skip) = C.surdlaw10_small := by kernel_rfl
theorem Q.surdlaw10_small : resResults Tryd.prog Tryd.f7.results.toList = some R.surdlaw10_small := by kernel_rfl
theorem E.surdlaw10_small : Tryd.prog.funcs[F.surdlaw10_small]? = some Tryd.f7 := Tryd.func7
theorem B.surdlaw10_small : Tryd.f7.body = some (Tryd.f7.body.getD .skip) := by kernel_rfl
theorem N.surdlaw10_small : Tryd.f7.ntmps = 8 := Tryd.ntmps7

def C.surdref08_Int : VC :=
  .seq (.region false [⟨some 4, .alloc [.bool false, .slice none 0 0, .int .i64 0], none⟩]) (.seq (.region false [⟨some 5, .mov (.t 0), none⟩,
   ⟨some 6, .call F.surdref06_Int [.t 5], none⟩,
   ⟨some 7, .mov (.t 1), none⟩,
   ⟨some 8, .call F.surdref08_Of [.t 6, .t 7], none⟩,
   ⟨none, .store 3 (.t 4) (.t 8), none⟩]) .ret)
def R.surdref08_Int : List VRes := [.cell 4 (some 3)]
theorem K.surdref08_Int : resCode Tryd.prog Tryd.f8.ntmps (Tryd.f8.body.getD .skip) = C.surdref08_Int := by kernel_rfl
theorem Q.surdref08_Int : resResults Tryd.prog Tryd.f8.results.toList = some R.surdref08_Int := by kernel_rfl
theorem E.surdref08_Int : Tryd.prog.funcs[F.surdref08_Int]? = some Tryd.f8 := Tryd.func8
theorem B.surdref08_Int : Tryd.f8.body = some (Tryd.f8.body.getD .skip) := by kernel_rfl
theorem N.surdref08_Int : Tryd.f8.ntmps = 9 := Tryd.ntmps8

def C.surdref08_D_Is : VC :=
  .seq (.region false [⟨some 4, .box (.t 0), none⟩,
   ⟨some 8, .mov (.c (bv false)), none⟩]) (.seq (.region false [⟨some 9, .fa 0 (.t 4), none⟩,
   ⟨some 10, .load (some 2) (.t 9), none⟩,
   ⟨some 11, .mov (.t 1), none⟩,
   ⟨some 12, .mov (.t 2), none⟩,
   ⟨some 13, .call F.surdref06_Z_Is [.t 10, .t 11, .t 12], none⟩,
   ⟨some 14, .mov (.t 13), none⟩,
   ⟨some 15, .fa 2 (.t 4), some (14, true)⟩,
   ⟨some 16, .load none (.t 15), some (14, true)⟩,
   ⟨some 17, .mov (.t 3), some (14, true)⟩,
   ⟨some 18, .bin .eql false (.t 16) (.t 17), some (14, true)⟩,
   ⟨some 19, .pick (.t 14) (.t 18) (.c (bv false)), none⟩,
   ⟨some 8, .mov (.t 19), none⟩]) .ret)
def R.surdref08_D_Is : List VRes := [.tmp 8]
theorem K.surdref08_D_Is : resCode Tryd.prog Tryd.f9.ntmps (Tryd.f9.body.getD .skip) = C.surdref08_D_Is := by kernel_rfl
theorem Q.surdref08_D_Is : resResults Tryd.prog Tryd.f9.results.toList = some R.surdref08_D_Is := by kernel_rfl
theorem E.surdref08_D_Is : Tryd.prog.funcs[F.surdref08_D_Is]? = some Tryd.f9 := Tryd.func9
theorem B.surdref08_D_Is : Tryd.f9.body = some (Tryd.f9.body.getD .skip) := by kernel_rfl
theorem N.surdref08_D_Is : Tryd.f9.ntmps = 20 := Tryd.ntmps9

def C.span_checks : VC :=
  .seq (.region false [⟨some 4, .mov (.c (iv 0)), none⟩]) (.seq (.seq (.region false [⟨some 8, .mov (.t 1), none⟩,
   ⟨some 9, .len (.t 8), none⟩,
   ⟨some 10, .mov (.c (iv 0)), none⟩]) (.block 0 (.loop (.seq (.region false [⟨some 11, .bin .lss false (.t 10) (.t 9), none⟩]) (.seq (.cond (.t 11) .skip (.exit 0)) (.seq (.block 1 (.seq (.region false [⟨some 12, .ixa 6 (.t 8) (.t 10), none⟩,
   ⟨some 13, .load (some 6) (.t 12), none⟩,
   ⟨some 6, .alloc [.bool false, .slice none 0 0, .int .i64 0, .bool false, .slice none 0 0, .int .i64 0], none⟩,
   ⟨none, .store 6 (.t 6) (.t 13), none⟩]) (.seq (.region false [⟨some 14, .load (some 6) (.t 6), none⟩,
   ⟨some 15, .call F.span_check [.t 14], none⟩,
   ⟨some 7, .mov (.t 15), none⟩]) (.seq (.region false [⟨some 16, .mov (.t 7), none⟩,
   ⟨some 17, .bin .neq false (.t 16) (.c (iv 0)), none⟩]) (.cond (.t 17) (.seq (.region false [⟨some 18, .mov (.t 7), none⟩,
   ⟨some 4, .mov (.t 18), none⟩]) .ret) .skip))))) (.region false [⟨some 19, .bin .add false (.t 10) (.c (iv 1)), none⟩,
   ⟨some 10, .mov (.t 19), none⟩]))))))) (.seq (.seq (.region false [⟨some 20, .mov (.t 0), none⟩,
   ⟨some 21, .bin .lss false (.t 20) (.c (iv (-1099511627776))), none⟩,
   ⟨some 22, .mov (.t 21), none⟩,
   ⟨some 23, .mov (.t 0), some (22, false)⟩,
   ⟨some 24, .bin .gtr false (.t 23) (.c (iv 1099511627776)), some (22, false)⟩,
   ⟨some 25, .pick (.t 22) (.c (bv true)) (.t 24), none⟩]) (.cond (.t 25) (.seq (.region false [⟨some 4, .mov (.c (iv 1)), none⟩]) .ret) .skip)) (.seq (.region false [⟨some 4, .mov (.c (iv 0)), none⟩]) .ret)))
def R.span_checks : List VRes := [.tmp 4]
theorem K.span_checks : resCode Tryd.prog Tryd.f10.ntmps (Tryd.f10.body.getD .skip) = C.span_checks := by kernel_rfl
theorem Q.span_checks : resResults Tryd.prog Tryd.f10.results.toList = some R.span_checks := by kernel_rfl
theorem E.span_checks : Tryd.prog.funcs[F.span_checks]? = some Tryd.f10 := Tryd.func10
theorem B.span_checks : Tryd.f10.body = some (Tryd.f10.body.getD .skip) := by kernel_rfl
theorem N.span_checks : Tryd.f10.ntmps = 26 := Tryd.ntmps10

def C.span_sums : VC :=
  .seq (.region false [⟨some 3, .box (.t 0), none⟩,
   ⟨some 4, .box (.t 1), none⟩,
   ⟨some 6, .alloc [.bool false, .slice none 0 0, .int .i64 0, .bool false, .slice none 0 0, .int .i64 0], none⟩,
   ⟨some 7, .mov (.c (iv 0)), none⟩]) (.seq (.region false [⟨some 14, .fa 0 (.t 3), none⟩,
   ⟨some 15, .load (some 3) (.t 14), none⟩,
   ⟨some 16, .fa 0 (.t 4), none⟩,
   ⟨some 17, .load (some 3) (.t 16), none⟩,
   ⟨some 18, .call F.dyadic_Add [.t 15, .t 17], none⟩,
   ⟨some 13, .mov (.t 18), none⟩,
   ⟨some 19, .ext (.t 13) 0, none⟩,
   ⟨some 20, .ext (.t 13) 1, none⟩,
   ⟨some 8, .alloc [.bool false, .slice none 0 0, .int .i64 0], none⟩,
   ⟨none, .store 3 (.t 8) (.t 19), none⟩,
   ⟨some 9, .mov (.t 20), none⟩]) (.seq (.region false [⟨some 22, .fa 3 (.t 3), none⟩,
   ⟨some 23, .load (some 3) (.t 22), none⟩,
   ⟨some 24, .fa 3 (.t 4), none⟩,
   ⟨some 25, .load (some 3) (.t 24), none⟩,
   ⟨some 26, .call F.dyadic_Add [.t 23, .t 25], none⟩,
   ⟨some 21, .mov (.t 26), none⟩,
   ⟨some 27, .ext (.t 21) 0, none⟩,
   ⟨some 28, .ext (.t 21) 1, none⟩,
   ⟨some 10, .alloc [.bool false, .slice none 0 0, .int .i64 0], none⟩,
   ⟨none, .store 3 (.t 10) (.t 27), none⟩,
   ⟨some 11, .mov (.t 28), none⟩]) (.seq (.seq (.region false [⟨some 29, .mov (.t 9), none⟩,
   ⟨some 30, .mov (.t 11), none⟩,
   ⟨some 31, .call F.span_worst [.t 29, .t 30], none⟩,
   ⟨some 12, .mov (.t 31), none⟩]) (.seq (.region false [⟨some 32, .mov (.t 12), none⟩,
   ⟨some 33, .bin .neq false (.t 32) (.c (iv 0)), none⟩]) (.cond (.t 33) (.seq (.region false [⟨some 34, .build [.bool false, .slice none 0 0, .int .i64 0, .bool false, .slice none 0 0, .int .i64 0] [], none⟩,
   ⟨some 35, .mov (.t 12), none⟩,
   ⟨none, .store 6 (.t 6) (.t 34), none⟩,
   ⟨some 7, .mov (.t 35), none⟩]) .ret) .skip))) (.seq (.region false [⟨some 36, .load (some 3) (.t 8), none⟩,
   ⟨some 37, .load (some 3) (.t 10), none⟩,
   ⟨some 38, .mov (.t 2), none⟩,
   ⟨some 39, .call F.span_outward [.t 36, .t 37, .t 38], none⟩,
   ⟨some 40, .ext (.t 39) 0, none⟩,
   ⟨some 41, .ext (.t 39) 1, none⟩,
   ⟨none, .store 6 (.t 6) (.t 40), none⟩,
   ⟨some 7, .mov (.t 41), none⟩]) .ret))))
def R.span_sums : List VRes := [.cell 6 (some 6), .tmp 7]
theorem K.span_sums : resCode Tryd.prog Tryd.f11.ntmps (Tryd.f11.body.getD .skip) = C.span_sums := by kernel_rfl
theorem Q.span_sums : resResults Tryd.prog Tryd.f11.results.toList = some R.span_sums := by kernel_rfl
theorem E.span_sums : Tryd.prog.funcs[F.span_sums]? = some Tryd.f11 := Tryd.func11
theorem B.span_sums : Tryd.f11.body = some (Tryd.f11.body.getD .skip) := by kernel_rfl
theorem N.span_sums : Tryd.f11.ntmps = 42 := Tryd.ntmps11

def C.surdref08_Of : VC :=
  .seq (.region false [⟨some 2, .box (.t 0), none⟩,
   ⟨some 4, .alloc [.bool false, .slice none 0 0, .int .i64 0], none⟩]) (.seq (.seq (.region false [⟨some 6, .load (some 2) (.t 2), none⟩,
   ⟨some 7, .call F.surdref06_Z_Sign [.t 6], none⟩,
   ⟨some 8, .bin .eql false (.t 7) (.c (iv 0)), none⟩]) (.cond (.t 8) (.seq (.region false [⟨some 9, .build [.bool false, .slice none 0 0, .int .i64 0] [], none⟩,
   ⟨none, .store 3 (.t 4) (.t 9), none⟩]) .ret) .skip)) (.seq (.region false [⟨some 10, .fa 1 (.t 2), none⟩,
   ⟨some 11, .load none (.t 10), none⟩,
   ⟨some 12, .call F.surdref01_Num_Tail [.t 11], none⟩,
   ⟨some 5, .mov (.t 12), none⟩]) (.seq (.region true [⟨some 13, .fa 0 (.t 2), none⟩,
   ⟨some 14, .load none (.t 13), none⟩,
   ⟨some 15, .fa 1 (.t 2), none⟩,
   ⟨some 16, .load none (.t 15), none⟩,
   ⟨some 17, .mov (.t 5), none⟩,
   ⟨some 18, .call F.surdref01_Shr [.t 16, .t 17], none⟩,
   ⟨some 19, .build [.bool false, .slice none 0 0] [(0, (1, .t 14)), (1, (1, .t 18))], none⟩,
   ⟨some 20, .mov (.t 1), none⟩,
   ⟨some 21, .mov (.t 5), none⟩,
   ⟨some 22, .bin .add false (.t 20) (.t 21), none⟩,
   ⟨some 23, .build [.bool false, .slice none 0 0, .int .i64 0] [(0, (2, .t 19)), (2, (1, .t 22))], none⟩,
   ⟨none, .storeA 3 (.t 4) (.t 23) [], none⟩]) .ret)))
def R.surdref08_Of : List VRes := [.cell 4 (some 3)]
theorem K.surdref08_Of : resCode Tryd.prog Tryd.f12.ntmps (Tryd.f12.body.getD .skip) = C.surdref08_Of := by kernel_rfl
theorem Q.surdref08_Of : resResults Tryd.prog Tryd.f12.results.toList = some R.surdref08_Of := by kernel_rfl
theorem E.surdref08_Of : Tryd.prog.funcs[F.surdref08_Of]? = some Tryd.f12 := Tryd.func12
theorem B.surdref08_Of : Tryd.f12.body = some (Tryd.f12.body.getD .skip) := by kernel_rfl
theorem N.surdref08_Of : Tryd.f12.ntmps = 24 := Tryd.ntmps12

def C.surdref06_Int : VC :=
  .seq (.region false [⟨some 2, .alloc [.bool false, .slice none 0 0], none⟩]) (.seq (.seq (.region false [⟨some 3, .mov (.t 0), none⟩,
   ⟨some 4, .bin .lss false (.t 3) (.c (iv 0)), none⟩]) (.cond (.t 4) (.seq (.region false [⟨some 5, .mov (.t 0), none⟩,
   ⟨some 6, .bin .add false (.t 5) (.c (iv 1)), none⟩,
   ⟨some 7, .un .neg (.t 6), none⟩,
   ⟨some 8, .conv .u64 (.t 7), none⟩,
   ⟨some 9, .bin .add false (.t 8) (.c (nv 1)), none⟩,
   ⟨some 10, .bsl true 1 1 [.int .u64 0] [(0, (1, .t 9))], none⟩,
   ⟨some 11, .call F.surdref01_Of [.t 10], none⟩,
   ⟨some 12, .call F.surdref06_make1 [.c (bv true), .t 11], none⟩,
   ⟨none, .store 2 (.t 2) (.t 12), none⟩]) .ret) .skip)) (.seq (.region false [⟨some 13, .mov (.t 0), none⟩,
   ⟨some 14, .call F.surdref01_Int [.t 13], none⟩,
   ⟨some 15, .call F.surdref06_make1 [.c (bv false), .t 14], none⟩,
   ⟨none, .store 2 (.t 2) (.t 15), none⟩]) .ret))
def R.surdref06_Int : List VRes := [.cell 2 (some 2)]
theorem K.surdref06_Int : resCode Tryd.prog Tryd.f13.ntmps (Tryd.f13.body.getD .skip) = C.surdref06_Int := by kernel_rfl
theorem Q.surdref06_Int : resResults Tryd.prog Tryd.f13.results.toList = some R.surdref06_Int := by kernel_rfl
theorem E.surdref06_Int : Tryd.prog.funcs[F.surdref06_Int]? = some Tryd.f13 := Tryd.func13
theorem B.surdref06_Int : Tryd.f13.body = some (Tryd.f13.body.getD .skip) := by kernel_rfl
theorem N.surdref06_Int : Tryd.f13.ntmps = 16 := Tryd.ntmps13

def C.surdref06_Z_Is : VC :=
  .seq (.region false [⟨some 3, .box (.t 0), none⟩,
   ⟨some 6, .mov (.c (bv false)), none⟩]) (.seq (.region false [⟨some 7, .fa 0 (.t 3), none⟩,
   ⟨some 8, .load none (.t 7), none⟩,
   ⟨some 9, .mov (.t 1), none⟩,
   ⟨some 10, .bin .eql true (.t 8) (.t 9), none⟩,
   ⟨some 11, .mov (.t 10), none⟩,
   ⟨some 12, .fa 1 (.t 3), some (11, true)⟩,
   ⟨some 13, .load none (.t 12), some (11, true)⟩,
   ⟨some 14, .mov (.t 2), some (11, true)⟩,
   ⟨some 15, .call F.surdref01_Num_Is [.t 13, .t 14], some (11, true)⟩,
   ⟨some 16, .pick (.t 11) (.t 15) (.c (bv false)), none⟩,
   ⟨some 6, .mov (.t 16), none⟩]) .ret)
def R.surdref06_Z_Is : List VRes := [.tmp 6]
theorem K.surdref06_Z_Is : resCode Tryd.prog Tryd.f14.ntmps (Tryd.f14.body.getD .skip) = C.surdref06_Z_Is := by kernel_rfl
theorem Q.surdref06_Z_Is : resResults Tryd.prog Tryd.f14.results.toList = some R.surdref06_Z_Is := by kernel_rfl
theorem E.surdref06_Z_Is : Tryd.prog.funcs[F.surdref06_Z_Is]? = some Tryd.f14 := Tryd.func14
theorem B.surdref06_Z_Is : Tryd.f14.body = some (Tryd.f14.body.getD .skip) := by kernel_rfl
theorem N.surdref06_Z_Is : Tryd.f14.ntmps = 17 := Tryd.ntmps14

def C.span_check : VC :=
  .seq (.region false [⟨some 1, .box (.t 0), none⟩,
   ⟨some 2, .mov (.c (iv 0)), none⟩]) (.seq (.region false [⟨some 6, .fa 0 (.t 1), none⟩,
   ⟨some 7, .load (some 3) (.t 6), none⟩,
   ⟨some 8, .fa 3 (.t 1), none⟩,
   ⟨some 9, .load (some 3) (.t 8), none⟩,
   ⟨some 10, .call F.dyadic_Compare [.t 7, .t 9], none⟩,
   ⟨some 5, .mov (.t 10), none⟩,
   ⟨some 11, .ext (.t 5) 0, none⟩,
   ⟨some 12, .ext (.t 5) 1, none⟩,
   ⟨some 3, .mov (.t 11), none⟩,
   ⟨some 4, .mov (.t 12), none⟩]) (.seq (.seq (.region false [⟨some 13, .mov (.t 4), none⟩,
   ⟨some 14, .bin .eql false (.t 13) (.c (iv 0)), none⟩,
   ⟨some 15, .mov (.t 14), none⟩,
   ⟨some 16, .mov (.t 3), some (15, true)⟩,
   ⟨some 17, .bin .gtr false (.t 16) (.c (iv 0)), some (15, true)⟩,
   ⟨some 18, .pick (.t 15) (.t 17) (.c (bv false)), none⟩]) (.cond (.t 18) (.seq (.region false [⟨some 2, .mov (.c (iv 100)), none⟩]) .ret) .skip)) (.seq (.region false [⟨some 19, .mov (.t 4), none⟩,
   ⟨some 2, .mov (.t 19), none⟩]) .ret)))
def R.span_check : List VRes := [.tmp 2]
theorem K.span_check : resCode Tryd.prog Tryd.f15.ntmps (Tryd.f15.body.getD .skip) = C.span_check := by kernel_rfl
theorem Q.span_check : resResults Tryd.prog Tryd.f15.results.toList = some R.span_check := by kernel_rfl
theorem E.span_check : Tryd.prog.funcs[F.span_check]? = some Tryd.f15 := Tryd.func15
theorem B.span_check : Tryd.f15.body = some (Tryd.f15.body.getD .skip) := by kernel_rfl
theorem N.span_check : Tryd.f15.ntmps = 20 := Tryd.ntmps15

def C.dyadic_Add : VC :=
  .seq (.region false [⟨some 2, .box (.t 0), none⟩,
   ⟨some 3, .box (.t 1), none⟩,
   ⟨some 4, .alloc [.bool false, .slice none 0 0, .int .i64 0], none⟩,
   ⟨some 5, .mov (.c (iv 0)), none⟩]) (.seq (.region false [⟨some 10, .load (some 3) (.t 2), none⟩,
   ⟨some 11, .load (some 3) (.t 3), none⟩,
   ⟨some 12, .call F.dyadic_two [.t 10, .t 11], none⟩,
   ⟨some 9, .mov (.t 12), none⟩,
   ⟨some 13, .ext (.t 9) 0, none⟩,
   ⟨some 14, .ext (.t 9) 1, none⟩,
   ⟨some 15, .ext (.t 9) 2, none⟩,
   ⟨some 6, .alloc [.bool false, .slice none 0 0, .int .i64 0], none⟩,
   ⟨some 7, .alloc [.bool false, .slice none 0 0, .int .i64 0], none⟩,
   ⟨none, .store 3 (.t 6) (.t 13), none⟩,
   ⟨none, .store 3 (.t 7) (.t 14), none⟩,
   ⟨some 8, .mov (.t 15), none⟩]) (.seq (.seq (.region false [⟨some 16, .mov (.t 8), none⟩,
   ⟨some 17, .bin .neq false (.t 16) (.c (iv 0)), none⟩]) (.cond (.t 17) (.seq (.region false [⟨some 18, .build [.bool false, .slice none 0 0, .int .i64 0] [], none⟩,
   ⟨some 19, .mov (.t 8), none⟩,
   ⟨none, .store 3 (.t 4) (.t 18), none⟩,
   ⟨some 5, .mov (.t 19), none⟩]) .ret) .skip)) (.seq (.region false [⟨some 20, .load (some 3) (.t 6), none⟩,
   ⟨some 21, .load (some 3) (.t 7), none⟩,
   ⟨some 22, .call F.dyadic_sum [.t 20, .t 21], none⟩,
   ⟨some 23, .ext (.t 22) 0, none⟩,
   ⟨some 24, .ext (.t 22) 1, none⟩,
   ⟨none, .store 3 (.t 4) (.t 23), none⟩,
   ⟨some 5, .mov (.t 24), none⟩]) .ret)))
def R.dyadic_Add : List VRes := [.cell 4 (some 3), .tmp 5]
theorem K.dyadic_Add : resCode Tryd.prog Tryd.f16.ntmps (Tryd.f16.body.getD .skip) = C.dyadic_Add := by kernel_rfl
theorem Q.dyadic_Add : resResults Tryd.prog Tryd.f16.results.toList = some R.dyadic_Add := by kernel_rfl
theorem E.dyadic_Add : Tryd.prog.funcs[F.dyadic_Add]? = some Tryd.f16 := Tryd.func16
theorem B.dyadic_Add : Tryd.f16.body = some (Tryd.f16.body.getD .skip) := by kernel_rfl
theorem N.dyadic_Add : Tryd.f16.ntmps = 25 := Tryd.ntmps16

def C.span_worst : VC :=
  .seq (.region false [⟨some 4, .mov (.c (iv 0)), none⟩]) (.seq (.seq (.region false [⟨some 5, .mov (.t 0), none⟩,
   ⟨some 6, .bin .eql false (.t 5) (.c (iv 3)), none⟩,
   ⟨some 7, .mov (.t 6), none⟩,
   ⟨some 8, .mov (.t 1), some (7, false)⟩,
   ⟨some 9, .bin .eql false (.t 8) (.c (iv 3)), some (7, false)⟩,
   ⟨some 10, .pick (.t 7) (.c (bv true)) (.t 9), none⟩]) (.cond (.t 10) (.seq (.region false [⟨some 4, .mov (.c (iv 3)), none⟩]) .ret) .skip)) (.seq (.seq (.region false [⟨some 11, .mov (.t 0), none⟩,
   ⟨some 12, .bin .neq false (.t 11) (.c (iv 0)), none⟩]) (.cond (.t 12) (.seq (.region false [⟨some 13, .mov (.t 0), none⟩,
   ⟨some 4, .mov (.t 13), none⟩]) .ret) .skip)) (.seq (.region false [⟨some 14, .mov (.t 1), none⟩,
   ⟨some 4, .mov (.t 14), none⟩]) .ret)))
def R.span_worst : List VRes := [.tmp 4]
theorem K.span_worst : resCode Tryd.prog Tryd.f17.ntmps (Tryd.f17.body.getD .skip) = C.span_worst := by kernel_rfl
theorem Q.span_worst : resResults Tryd.prog Tryd.f17.results.toList = some R.span_worst := by kernel_rfl
theorem E.span_worst : Tryd.prog.funcs[F.span_worst]? = some Tryd.f17 := Tryd.func17
theorem B.span_worst : Tryd.f17.body = some (Tryd.f17.body.getD .skip) := by kernel_rfl
theorem N.span_worst : Tryd.f17.ntmps = 15 := Tryd.ntmps17

def C.span_outward : VC :=
  .seq (.region false [⟨some 3, .box (.t 0), none⟩,
   ⟨some 4, .box (.t 1), none⟩,
   ⟨some 6, .alloc [.bool false, .slice none 0 0, .int .i64 0, .bool false, .slice none 0 0, .int .i64 0], none⟩,
   ⟨some 7, .mov (.c (iv 0)), none⟩]) (.seq (.region false [⟨some 13, .load (some 3) (.t 3), none⟩,
   ⟨some 14, .mov (.t 2), none⟩,
   ⟨some 15, .call F.dyadic_Round [.t 13, .t 14, .c (iv 0)], none⟩,
   ⟨some 12, .mov (.t 15), none⟩,
   ⟨some 16, .ext (.t 12) 0, none⟩,
   ⟨some 17, .ext (.t 12) 1, none⟩,
   ⟨some 8, .alloc [.bool false, .slice none 0 0, .int .i64 0], none⟩,
   ⟨none, .store 3 (.t 8) (.t 16), none⟩,
   ⟨some 9, .mov (.t 17), none⟩]) (.seq (.region false [⟨some 19, .load (some 3) (.t 4), none⟩,
   ⟨some 20, .mov (.t 2), none⟩,
   ⟨some 21, .call F.dyadic_Round [.t 19, .t 20, .c (iv 1)], none⟩,
   ⟨some 18, .mov (.t 21), none⟩,
   ⟨some 22, .ext (.t 18) 0, none⟩,
   ⟨some 23, .ext (.t 18) 1, none⟩,
   ⟨some 10, .alloc [.bool false, .slice none 0 0, .int .i64 0], none⟩,
   ⟨none, .store 3 (.t 10) (.t 22), none⟩,
   ⟨some 11, .mov (.t 23), none⟩]) (.seq (.region false [⟨some 24, .load (some 3) (.t 8), none⟩,
   ⟨some 25, .mov (.t 9), none⟩,
   ⟨some 26, .load (some 3) (.t 10), none⟩,
   ⟨some 27, .mov (.t 11), none⟩,
   ⟨some 28, .call F.span_ends [.t 24, .t 25, .t 26, .t 27], none⟩,
   ⟨some 29, .ext (.t 28) 0, none⟩,
   ⟨some 30, .ext (.t 28) 1, none⟩,
   ⟨none, .store 6 (.t 6) (.t 29), none⟩,
   ⟨some 7, .mov (.t 30), none⟩]) .ret)))
def R.span_outward : List VRes := [.cell 6 (some 6), .tmp 7]
theorem K.span_outward : resCode Tryd.prog Tryd.f18.ntmps (Tryd.f18.body.getD .skip) = C.span_outward := by kernel_rfl
theorem Q.span_outward : resResults Tryd.prog Tryd.f18.results.toList = some R.span_outward := by kernel_rfl
theorem E.span_outward : Tryd.prog.funcs[F.span_outward]? = some Tryd.f18 := Tryd.func18
theorem B.span_outward : Tryd.f18.body = some (Tryd.f18.body.getD .skip) := by kernel_rfl
theorem N.span_outward : Tryd.f18.ntmps = 31 := Tryd.ntmps18

def C.surdref06_Z_Sign : VC :=
  .seq (.region false [⟨some 1, .box (.t 0), none⟩,
   ⟨some 2, .mov (.c (iv 0)), none⟩]) (.seq (.seq (.region false [⟨some 3, .fa 0 (.t 1), none⟩,
   ⟨some 4, .load none (.t 3), none⟩]) (.cond (.t 4) (.seq (.region false [⟨some 2, .mov (.c (iv (-1))), none⟩]) .ret) .skip)) (.seq (.seq (.region false [⟨some 5, .fa 1 (.t 1), none⟩,
   ⟨some 6, .load none (.t 5), none⟩,
   ⟨some 7, .call F.surdref01_Num_Zero [.t 6], none⟩]) (.cond (.t 7) (.seq (.region false [⟨some 2, .mov (.c (iv 0)), none⟩]) .ret) .skip)) (.seq (.region false [⟨some 2, .mov (.c (iv 1)), none⟩]) .ret)))
def R.surdref06_Z_Sign : List VRes := [.tmp 2]
theorem K.surdref06_Z_Sign : resCode Tryd.prog Tryd.f19.ntmps (Tryd.f19.body.getD .skip) = C.surdref06_Z_Sign := by kernel_rfl
theorem Q.surdref06_Z_Sign : resResults Tryd.prog Tryd.f19.results.toList = some R.surdref06_Z_Sign := by kernel_rfl
theorem E.surdref06_Z_Sign : Tryd.prog.funcs[F.surdref06_Z_Sign]? = some Tryd.f19 := Tryd.func19
theorem B.surdref06_Z_Sign : Tryd.f19.body = some (Tryd.f19.body.getD .skip) := by kernel_rfl
theorem N.surdref06_Z_Sign : Tryd.f19.ntmps = 8 := Tryd.ntmps19

def C.surdref01_Num_Tail : VC :=
  .seq (.region false [⟨some 2, .mov (.c (iv 0)), none⟩]) (.seq (.seq (.region false [⟨some 4, .mov (.t 0), none⟩,
   ⟨some 5, .len (.t 4), none⟩,
   ⟨some 6, .bin .eql false (.t 5) (.c (iv 0)), none⟩]) (.cond (.t 6) (.seq (.region false [⟨some 2, .mov (.c (iv 0)), none⟩]) .ret) .skip)) (.seq (.region false [⟨some 3, .mov (.c (iv 0)), none⟩]) (.seq (.block 0 (.loop (.seq (.seq (.region false [⟨some 7, .mov (.t 0), none⟩,
   ⟨some 8, .mov (.t 3), none⟩,
   ⟨some 9, .call F.surdref01_Num_Bit [.t 7, .t 8], none⟩,
   ⟨some 10, .bin .eql false (.t 9) (.c (iv 0)), none⟩]) (.cond (.t 10) .skip (.exit 0))) (.block 1 (.region false [⟨some 11, .mov (.t 3), none⟩,
   ⟨some 12, .bin .add false (.t 11) (.c (iv 1)), none⟩,
   ⟨some 3, .mov (.t 12), none⟩]))))) (.seq (.region false [⟨some 13, .mov (.t 3), none⟩,
   ⟨some 2, .mov (.t 13), none⟩]) .ret))))
def R.surdref01_Num_Tail : List VRes := [.tmp 2]
theorem K.surdref01_Num_Tail : resCode Tryd.prog Tryd.f20.ntmps (Tryd.f20.body.getD .skip) = C.surdref01_Num_Tail := by kernel_rfl
theorem Q.surdref01_Num_Tail : resResults Tryd.prog Tryd.f20.results.toList = some R.surdref01_Num_Tail := by kernel_rfl
theorem E.surdref01_Num_Tail : Tryd.prog.funcs[F.surdref01_Num_Tail]? = some Tryd.f20 := Tryd.func20
theorem B.surdref01_Num_Tail : Tryd.f20.body = some (Tryd.f20.body.getD .skip) := by kernel_rfl
theorem N.surdref01_Num_Tail : Tryd.f20.ntmps = 14 := Tryd.ntmps20

def C.surdref01_Shr : VC :=
  .seq (.region false [⟨some 4, .mov (.c nil1), none⟩]) (.seq (.seq (.region false [⟨some 9, .mov (.t 1), none⟩,
   ⟨some 10, .bin .quo false (.t 9) (.c (iv 32)), none⟩,
   ⟨some 11, .mov (.t 0), none⟩,
   ⟨some 12, .len (.t 11), none⟩,
   ⟨some 13, .bin .geq false (.t 10) (.t 12), none⟩]) (.cond (.t 13) (.seq (.region false [⟨some 4, .mov (.c nil1), none⟩]) .ret) .skip)) (.seq (.region false [⟨some 14, .mov (.t 0), none⟩,
   ⟨some 15, .len (.t 14), none⟩,
   ⟨some 16, .mov (.t 1), none⟩,
   ⟨some 17, .bin .quo false (.t 16) (.c (iv 32)), none⟩,
   ⟨some 18, .bin .sub false (.t 15) (.t 17), none⟩,
   ⟨some 19, .mk [.int .u64 0] 8 (.t 18) (.t 18), none⟩,
   ⟨some 5, .mov (.t 19), none⟩]) (.seq (.region false [⟨some 20, .mov (.t 1), none⟩,
   ⟨some 21, .bin .rem false (.t 20) (.c (iv 32)), none⟩,
   ⟨some 6, .mov (.t 21), none⟩]) (.seq (.seq (.region false [⟨some 22, .mov (.t 5), none⟩,
   ⟨some 23, .len (.t 22), none⟩,
   ⟨some 24, .mov (.c (iv 0)), none⟩]) (.block 0 (.loop (.seq (.region false [⟨some 25, .bin .lss false (.t 24) (.t 23), none⟩]) (.seq (.cond (.t 25) .skip (.exit 0)) (.seq (.block 1 (.seq (.region false [⟨some 26, .mov (.t 24), none⟩,
   ⟨some 7, .mov (.t 26), none⟩]) (.seq (.region true [⟨some 27, .mov (.t 0), none⟩,
   ⟨some 28, .mov (.t 7), none⟩,
   ⟨some 29, .mov (.t 1), none⟩,
   ⟨some 30, .bin .quo false (.t 29) (.c (iv 32)), none⟩,
   ⟨some 31, .bin .add false (.t 28) (.t 30), none⟩,
   ⟨some 32, .ixa 1 (.t 27) (.t 31), none⟩,
   ⟨some 33, .load none (.t 32), none⟩,
   ⟨some 34, .mov (.t 0), none⟩,
   ⟨some 35, .mov (.t 7), none⟩,
   ⟨some 36, .mov (.t 1), none⟩,
   ⟨some 37, .bin .quo false (.t 36) (.c (iv 32)), none⟩,
   ⟨some 38, .bin .add false (.t 35) (.t 37), none⟩,
   ⟨some 39, .bin .add false (.t 38) (.c (iv 1)), none⟩,
   ⟨some 40, .call F.surdref01_Num_at [.t 34, .t 39], none⟩,
   ⟨some 41, .bin .mul false (.t 40) (.c (nv 4294967296)), none⟩,
   ⟨some 42, .bin .add false (.t 33) (.t 41), none⟩,
   ⟨some 8, .mov (.t 42), none⟩]) (.region false [⟨some 43, .mov (.t 5), none⟩,
   ⟨some 44, .mov (.t 7), none⟩,
   ⟨some 45, .mov (.t 8), none⟩,
   ⟨some 46, .mov (.t 6), none⟩,
   ⟨some 47, .bin .shr false (.t 45) (.t 46), none⟩,
   ⟨some 48, .bin .rem false (.t 47) (.c (nv 4294967296)), none⟩,
   ⟨some 49, .ixa 1 (.t 43) (.t 44), none⟩,
   ⟨none, .store 1 (.t 49) (.t 48), none⟩])))) (.region false [⟨some 50, .bin .add false (.t 24) (.c (iv 1)), none⟩,
   ⟨some 24, .mov (.t 50), none⟩]))))))) (.seq (.region false [⟨some 51, .mov (.t 5), none⟩,
   ⟨some 52, .call F.surdref01_norm [.t 51], none⟩,
   ⟨some 4, .mov (.t 52), none⟩]) .ret)))))
def R.surdref01_Shr : List VRes := [.tmp 4]
theorem K.surdref01_Shr : resCode Tryd.prog Tryd.f21.ntmps (Tryd.f21.body.getD .skip) = C.surdref01_Shr := by kernel_rfl
theorem Q.surdref01_Shr : resResults Tryd.prog Tryd.f21.results.toList = some R.surdref01_Shr := by kernel_rfl
theorem E.surdref01_Shr : Tryd.prog.funcs[F.surdref01_Shr]? = some Tryd.f21 := Tryd.func21
theorem B.surdref01_Shr : Tryd.f21.body = some (Tryd.f21.body.getD .skip) := by kernel_rfl
theorem N.surdref01_Shr : Tryd.f21.ntmps = 53 := Tryd.ntmps21

def C.surdref06_make1 : VC :=
  .seq (.region false [⟨some 4, .alloc [.bool false, .slice none 0 0], none⟩]) (.seq (.region false [⟨some 5, .mov (.t 0), none⟩,
   ⟨some 6, .mov (.t 5), none⟩,
   ⟨some 7, .mov (.t 1), some (6, true)⟩,
   ⟨some 8, .call F.surdref01_Num_Zero [.t 7], some (6, true)⟩,
   ⟨some 9, .un .not (.t 8), some (6, true)⟩,
   ⟨some 10, .pick (.t 6) (.t 9) (.c (bv false)), none⟩,
   ⟨some 11, .mov (.t 1), none⟩,
   ⟨some 12, .build [.bool false, .slice none 0 0] [(0, (1, .t 10)), (1, (1, .t 11))], none⟩,
   ⟨none, .store 2 (.t 4) (.t 12), none⟩]) .ret)
def R.surdref06_make1 : List VRes := [.cell 4 (some 2)]
theorem K.surdref06_make1 : resCode Tryd.prog Tryd.f22.ntmps (Tryd.f22.body.getD .skip) = C.surdref06_make1 := by kernel_rfl
theorem Q.surdref06_make1 : resResults Tryd.prog Tryd.f22.results.toList = some R.surdref06_make1 := by kernel_rfl
theorem E.surdref06_make1 : Tryd.prog.funcs[F.surdref06_make1]? = some Tryd.f22 := Tryd.func22
theorem B.surdref06_make1 : Tryd.f22.body = some (Tryd.f22.body.getD .skip) := by kernel_rfl
theorem N.surdref06_make1 : Tryd.f22.ntmps = 13 := Tryd.ntmps22

def C.surdref01_Of : VC :=
  .seq (.region false [⟨some 2, .mov (.c nil1), none⟩]) (.seq (.region false [⟨some 6, .mov (.t 0), none⟩,
   ⟨some 7, .len (.t 6), none⟩,
   ⟨some 8, .bin .mul false (.c (iv 2)) (.t 7), none⟩,
   ⟨some 9, .mk [.int .u64 0] 8 (.c (iv 0)) (.t 8), none⟩,
   ⟨some 3, .mov (.t 9), none⟩]) (.seq (.seq (.region false [⟨some 10, .mov (.t 0), none⟩,
   ⟨some 11, .len (.t 10), none⟩,
   ⟨some 12, .mov (.c (iv 0)), none⟩]) (.block 0 (.loop (.seq (.region false [⟨some 13, .bin .lss false (.t 12) (.t 11), none⟩]) (.seq (.cond (.t 13) .skip (.exit 0)) (.seq (.block 1 (.seq (.region false [⟨some 14, .ixa 1 (.t 10) (.t 12), none⟩,
   ⟨some 15, .load none (.t 14), none⟩,
   ⟨some 5, .mov (.t 15), none⟩]) (.region false [⟨some 16, .mov (.t 3), none⟩,
   ⟨some 17, .mov (.t 5), none⟩,
   ⟨some 18, .bin .rem false (.t 17) (.c (nv 4294967296)), none⟩,
   ⟨some 19, .mov (.t 5), none⟩,
   ⟨some 20, .bin .quo false (.t 19) (.c (nv 4294967296)), none⟩,
   ⟨some 21, .bsl true 1 2 [.int .u64 0] [(0, (1, .t 18)), (1, (1, .t 20))], none⟩,
   ⟨some 22, .app 1 8 [.int .u64 0] (.t 16) (.t 21), none⟩,
   ⟨some 3, .mov (.t 22), none⟩]))) (.region false [⟨some 23, .bin .add false (.t 12) (.c (iv 1)), none⟩,
   ⟨some 12, .mov (.t 23), none⟩]))))))) (.seq (.region false [⟨some 24, .mov (.t 3), none⟩,
   ⟨some 25, .call F.surdref01_norm [.t 24], none⟩,
   ⟨some 2, .mov (.t 25), none⟩]) .ret)))
def R.surdref01_Of : List VRes := [.tmp 2]
theorem K.surdref01_Of : resCode Tryd.prog Tryd.f23.ntmps (Tryd.f23.body.getD .skip) = C.surdref01_Of := by kernel_rfl
theorem Q.surdref01_Of : resResults Tryd.prog Tryd.f23.results.toList = some R.surdref01_Of := by kernel_rfl
theorem E.surdref01_Of : Tryd.prog.funcs[F.surdref01_Of]? = some Tryd.f23 := Tryd.func23
theorem B.surdref01_Of : Tryd.f23.body = some (Tryd.f23.body.getD .skip) := by kernel_rfl
theorem N.surdref01_Of : Tryd.f23.ntmps = 26 := Tryd.ntmps23

def C.surdref01_Int : VC :=
  .seq (.region false [⟨some 2, .mov (.c nil1), none⟩]) (.seq (.region false [⟨some 3, .mov (.t 0), none⟩,
   ⟨some 4, .conv .u64 (.t 3), none⟩,
   ⟨some 5, .bsl true 1 1 [.int .u64 0] [(0, (1, .t 4))], none⟩,
   ⟨some 6, .call F.surdref01_Of [.t 5], none⟩,
   ⟨some 2, .mov (.t 6), none⟩]) .ret)
def R.surdref01_Int : List VRes := [.tmp 2]
theorem K.surdref01_Int : resCode Tryd.prog Tryd.f24.ntmps (Tryd.f24.body.getD .skip) = C.surdref01_Int := by kernel_rfl
theorem Q.surdref01_Int : resResults Tryd.prog Tryd.f24.results.toList = some R.surdref01_Int := by kernel_rfl
theorem E.surdref01_Int : Tryd.prog.funcs[F.surdref01_Int]? = some Tryd.f24 := Tryd.func24
theorem B.surdref01_Int : Tryd.f24.body = some (Tryd.f24.body.getD .skip) := by kernel_rfl
theorem N.surdref01_Int : Tryd.f24.ntmps = 7 := Tryd.ntmps24

def C.surdref01_Num_Is : VC :=
  .seq (.region false [⟨some 4, .mov (.c (bv false)), none⟩]) (.seq (.region false [⟨some 7, .mov (.t 0), none⟩,
   ⟨some 8, .call F.surdref01_Num_Limbs [.t 7], none⟩,
   ⟨some 5, .mov (.t 8), none⟩]) (.seq (.seq (.region false [⟨some 9, .mov (.t 5), none⟩,
   ⟨some 10, .len (.t 9), none⟩,
   ⟨some 11, .mov (.t 1), none⟩,
   ⟨some 12, .len (.t 11), none⟩,
   ⟨some 13, .bin .neq false (.t 10) (.t 12), none⟩]) (.cond (.t 13) (.seq (.region false [⟨some 4, .mov (.c (bv false)), none⟩]) .ret) .skip)) (.seq (.seq (.region false [⟨some 14, .mov (.t 5), none⟩,
   ⟨some 15, .len (.t 14), none⟩,
   ⟨some 16, .mov (.c (iv 0)), none⟩]) (.block 0 (.loop (.seq (.region false [⟨some 17, .bin .lss false (.t 16) (.t 15), none⟩]) (.seq (.cond (.t 17) .skip (.exit 0)) (.seq (.block 1 (.seq (.region false [⟨some 18, .mov (.t 16), none⟩,
   ⟨some 6, .mov (.t 18), none⟩]) (.seq (.region true [⟨some 19, .mov (.t 5), none⟩,
   ⟨some 20, .mov (.t 6), none⟩,
   ⟨some 21, .ixa 1 (.t 19) (.t 20), none⟩,
   ⟨some 22, .load none (.t 21), none⟩,
   ⟨some 23, .mov (.t 1), none⟩,
   ⟨some 24, .mov (.t 6), none⟩,
   ⟨some 25, .ixa 1 (.t 23) (.t 24), none⟩,
   ⟨some 26, .load none (.t 25), none⟩,
   ⟨some 27, .bin .neq false (.t 22) (.t 26), none⟩]) (.cond (.t 27) (.seq (.region false [⟨some 4, .mov (.c (bv false)), none⟩]) .ret) .skip)))) (.region false [⟨some 28, .bin .add false (.t 16) (.c (iv 1)), none⟩,
   ⟨some 16, .mov (.t 28), none⟩]))))))) (.seq (.region false [⟨some 4, .mov (.c (bv true)), none⟩]) .ret))))
def R.surdref01_Num_Is : List VRes := [.tmp 4]
theorem K.surdref01_Num_Is : resCode Tryd.prog Tryd.f25.ntmps (Tryd.f25.body.getD .skip) = C.surdref01_Num_Is := by kernel_rfl
theorem Q.surdref01_Num_Is : resResults Tryd.prog Tryd.f25.results.toList = some R.surdref01_Num_Is := by kernel_rfl
theorem E.surdref01_Num_Is : Tryd.prog.funcs[F.surdref01_Num_Is]? = some Tryd.f25 := Tryd.func25
theorem B.surdref01_Num_Is : Tryd.f25.body = some (Tryd.f25.body.getD .skip) := by kernel_rfl
theorem N.surdref01_Num_Is : Tryd.f25.ntmps = 29 := Tryd.ntmps25

def C.dyadic_Compare : VC :=
  .seq (.region false [⟨some 2, .box (.t 0), none⟩,
   ⟨some 3, .box (.t 1), none⟩,
   ⟨some 4, .mov (.c (iv 0)), none⟩,
   ⟨some 5, .mov (.c (iv 0)), none⟩]) (.seq (.region false [⟨some 10, .load (some 3) (.t 2), none⟩,
   ⟨some 11, .load (some 3) (.t 3), none⟩,
   ⟨some 12, .call F.dyadic_two [.t 10, .t 11], none⟩,
   ⟨some 9, .mov (.t 12), none⟩,
   ⟨some 13, .ext (.t 9) 0, none⟩,
   ⟨some 14, .ext (.t 9) 1, none⟩,
   ⟨some 15, .ext (.t 9) 2, none⟩,
   ⟨some 6, .alloc [.bool false, .slice none 0 0, .int .i64 0], none⟩,
   ⟨some 7, .alloc [.bool false, .slice none 0 0, .int .i64 0], none⟩,
   ⟨none, .store 3 (.t 6) (.t 13), none⟩,
   ⟨none, .store 3 (.t 7) (.t 14), none⟩,
   ⟨some 8, .mov (.t 15), none⟩]) (.seq (.seq (.region false [⟨some 16, .mov (.t 8), none⟩,
   ⟨some 17, .bin .neq false (.t 16) (.c (iv 0)), none⟩]) (.cond (.t 17) (.seq (.region false [⟨some 18, .mov (.t 8), none⟩,
   ⟨some 4, .mov (.c (iv 0)), none⟩,
   ⟨some 5, .mov (.t 18), none⟩]) .ret) .skip)) (.seq (.region false [⟨some 19, .load (some 3) (.t 6), none⟩,
   ⟨some 20, .load (some 3) (.t 7), none⟩,
   ⟨some 21, .call F.dyadic_compare [.t 19, .t 20], none⟩,
   ⟨some 4, .mov (.t 21), none⟩,
   ⟨some 5, .mov (.c (iv 0)), none⟩]) .ret)))
def R.dyadic_Compare : List VRes := [.tmp 4, .tmp 5]
theorem K.dyadic_Compare : resCode Tryd.prog Tryd.f26.ntmps (Tryd.f26.body.getD .skip) = C.dyadic_Compare := by kernel_rfl
theorem Q.dyadic_Compare : resResults Tryd.prog Tryd.f26.results.toList = some R.dyadic_Compare := by kernel_rfl
theorem E.dyadic_Compare : Tryd.prog.funcs[F.dyadic_Compare]? = some Tryd.f26 := Tryd.func26
theorem B.dyadic_Compare : Tryd.f26.body = some (Tryd.f26.body.getD .skip) := by kernel_rfl
theorem N.dyadic_Compare : Tryd.f26.ntmps = 22 := Tryd.ntmps26

def C.dyadic_two : VC :=
  .seq (.region false [⟨some 2, .box (.t 0), none⟩,
   ⟨some 3, .box (.t 1), none⟩,
   ⟨some 4, .alloc [.bool false, .slice none 0 0, .int .i64 0], none⟩,
   ⟨some 5, .alloc [.bool false, .slice none 0 0, .int .i64 0], none⟩,
   ⟨some 6, .mov (.c (iv 0)), none⟩]) (.seq (.region false [⟨some 11, .load (some 3) (.t 2), none⟩,
   ⟨some 12, .call F.dyadic_read [.t 11], none⟩,
   ⟨some 10, .mov (.t 12), none⟩,
   ⟨some 13, .ext (.t 10) 0, none⟩,
   ⟨some 14, .ext (.t 10) 1, none⟩,
   ⟨some 7, .alloc [.bool false, .slice none 0 0, .int .i64 0], none⟩,
   ⟨none, .store 3 (.t 7) (.t 13), none⟩,
   ⟨some 8, .mov (.t 14), none⟩]) (.seq (.seq (.region false [⟨some 15, .mov (.t 8), none⟩,
   ⟨some 16, .bin .neq false (.t 15) (.c (iv 0)), none⟩]) (.cond (.t 16) (.seq (.region true [⟨some 17, .load (some 3) (.t 7), none⟩,
   ⟨some 18, .load (some 3) (.t 7), none⟩,
   ⟨some 19, .mov (.t 8), none⟩,
   ⟨none, .storeA 3 (.t 4) (.t 17) [7], none⟩,
   ⟨none, .storeA 3 (.t 5) (.t 18) [], none⟩,
   ⟨some 6, .mov (.t 19), none⟩]) .ret) .skip)) (.seq (.region false [⟨some 21, .load (some 3) (.t 3), none⟩,
   ⟨some 22, .call F.dyadic_read [.t 21], none⟩,
   ⟨some 20, .mov (.t 22), none⟩,
   ⟨some 23, .ext (.t 20) 0, none⟩,
   ⟨some 24, .ext (.t 20) 1, none⟩,
   ⟨some 9, .alloc [.bool false, .slice none 0 0, .int .i64 0], none⟩,
   ⟨none, .store 3 (.t 9) (.t 23), none⟩,
   ⟨some 8, .mov (.t 24), none⟩]) (.seq (.region true [⟨some 25, .load (some 3) (.t 7), none⟩,
   ⟨some 26, .load (some 3) (.t 9), none⟩,
   ⟨some 27, .mov (.t 8), none⟩,
   ⟨none, .storeA 3 (.t 4) (.t 25) [9], none⟩,
   ⟨none, .storeA 3 (.t 5) (.t 26) [], none⟩,
   ⟨some 6, .mov (.t 27), none⟩]) .ret))))
def R.dyadic_two : List VRes := [.cell 4 (some 3), .cell 5 (some 3), .tmp 6]
theorem K.dyadic_two : resCode Tryd.prog Tryd.f27.ntmps (Tryd.f27.body.getD .skip) = C.dyadic_two := by kernel_rfl
theorem Q.dyadic_two : resResults Tryd.prog Tryd.f27.results.toList = some R.dyadic_two := by kernel_rfl
theorem E.dyadic_two : Tryd.prog.funcs[F.dyadic_two]? = some Tryd.f27 := Tryd.func27
theorem B.dyadic_two : Tryd.f27.body = some (Tryd.f27.body.getD .skip) := by kernel_rfl
theorem N.dyadic_two : Tryd.f27.ntmps = 28 := Tryd.ntmps27

def C.dyadic_sum : VC :=
  .seq (.region false [⟨some 2, .box (.t 0), none⟩,
   ⟨some 3, .box (.t 1), none⟩,
   ⟨some 4, .alloc [.bool false, .slice none 0 0, .int .i64 0], none⟩,
   ⟨some 5, .mov (.c (iv 0)), none⟩]) (.seq (.seq (.region false [⟨some 10, .fa 0 (.t 2), none⟩,
   ⟨some 11, .load (some 2) (.t 10), none⟩,
   ⟨some 12, .call F.dyadic_part_sign [.t 11], none⟩,
   ⟨some 13, .bin .eql false (.t 12) (.c (iv 0)), none⟩]) (.cond (.t 13) (.region false [⟨some 14, .load (some 3) (.t 3), none⟩,
   ⟨some 15, .load (some 3) (.t 2), none⟩,
   ⟨none, .store 3 (.t 2) (.t 14), none⟩,
   ⟨none, .store 3 (.t 3) (.t 15), none⟩]) .skip)) (.seq (.seq (.region false [⟨some 16, .fa 0 (.t 3), none⟩,
   ⟨some 17, .load (some 2) (.t 16), none⟩,
   ⟨some 18, .call F.dyadic_part_sign [.t 17], none⟩,
   ⟨some 19, .bin .eql false (.t 18) (.c (iv 0)), none⟩]) (.cond (.t 19) (.seq (.region false [⟨some 20, .fa 0 (.t 2), none⟩,
   ⟨some 21, .fa 0 (.t 20), none⟩,
   ⟨some 22, .load (some 2) (.t 21), none⟩,
   ⟨some 23, .fa 2 (.t 2), none⟩,
   ⟨some 24, .load none (.t 23), none⟩,
   ⟨some 25, .call F.dyadic_told [.t 22, .t 24], none⟩,
   ⟨some 26, .ext (.t 25) 0, none⟩,
   ⟨some 27, .ext (.t 25) 1, none⟩,
   ⟨none, .store 3 (.t 4) (.t 26), none⟩,
   ⟨some 5, .mov (.t 27), none⟩]) .ret) .skip)) (.seq (.seq (.region false [⟨some 28, .fa 2 (.t 2), none⟩,
   ⟨some 29, .load none (.t 28), none⟩,
   ⟨some 30, .fa 2 (.t 3), none⟩,
   ⟨some 31, .load none (.t 30), none⟩,
   ⟨some 32, .bin .lss false (.t 29) (.t 31), none⟩]) (.cond (.t 32) (.region false [⟨some 33, .load (some 3) (.t 3), none⟩,
   ⟨some 34, .load (some 3) (.t 2), none⟩,
   ⟨none, .store 3 (.t 2) (.t 33), none⟩,
   ⟨none, .store 3 (.t 3) (.t 34), none⟩]) .skip)) (.seq (.region false [⟨some 35, .fa 2 (.t 2), none⟩,
   ⟨some 36, .load none (.t 35), none⟩,
   ⟨some 37, .fa 2 (.t 3), none⟩,
   ⟨some 38, .load none (.t 37), none⟩,
   ⟨some 39, .bin .sub false (.t 36) (.t 38), none⟩,
   ⟨some 6, .mov (.t 39), none⟩]) (.seq (.seq (.region true [⟨some 40, .mov (.t 6), none⟩,
   ⟨some 41, .bin .gtr false (.t 40) (.c (iv 0)), none⟩,
   ⟨some 42, .mov (.t 41), none⟩,
   ⟨some 43, .load (some 3) (.t 2), some (42, true)⟩,
   ⟨some 44, .call F.dyadic_number_top [.t 43], some (42, true)⟩,
   ⟨some 45, .load (some 3) (.t 3), some (42, true)⟩,
   ⟨some 46, .call F.dyadic_number_top [.t 45], some (42, true)⟩,
   ⟨some 47, .bin .add false (.t 46) (.c (iv 1)), some (42, true)⟩,
   ⟨some 48, .mm true (.t 44) (.t 47), some (42, true)⟩,
   ⟨some 49, .fa 2 (.t 3), some (42, true)⟩,
   ⟨some 50, .load none (.t 49), some (42, true)⟩,
   ⟨some 51, .bin .sub false (.t 48) (.t 50), some (42, true)⟩,
   ⟨some 52, .bin .gtr false (.t 51) (.c (iv 67108866)), some (42, true)⟩,
   ⟨some 53, .pick (.t 42) (.t 52) (.c (bv false)), none⟩]) (.cond (.t 53) (.seq (.region false [⟨some 54, .build [.bool false, .slice none 0 0, .int .i64 0] [], none⟩,
   ⟨none, .store 3 (.t 4) (.t 54), none⟩,
   ⟨some 5, .mov (.c (iv 3)), none⟩]) .ret) .skip)) (.seq (.region true [⟨some 56, .fa 0 (.t 2), none⟩,
   ⟨some 57, .fa 0 (.t 56), none⟩,
   ⟨some 58, .fa 0 (.t 57), none⟩,
   ⟨some 59, .load none (.t 58), none⟩,
   ⟨some 60, .fa 0 (.t 2), none⟩,
   ⟨some 61, .fa 0 (.t 60), none⟩,
   ⟨some 62, .fa 1 (.t 61), none⟩,
   ⟨some 63, .load none (.t 62), none⟩,
   ⟨some 64, .mov (.t 6), none⟩,
   ⟨some 65, .call F.dyadic_left [.t 63, .t 64], none⟩,
   ⟨some 66, .call F.whole_Make [.t 59, .t 65], none⟩,
   ⟨some 55, .mov (.t 66), none⟩,
   ⟨some 67, .ext (.t 55) 0, none⟩,
   ⟨some 68, .ext (.t 55) 1, none⟩,
   ⟨some 7, .mov (.c .any), none⟩,
   ⟨some 7, .boxA 2 (.t 67), none⟩,
   ⟨some 8, .mov (.t 68), none⟩]) (.seq (.seq (.region false [⟨some 69, .mov (.t 8), none⟩,
   ⟨some 70, .bin .neq false (.t 69) (.c (iv 0)), none⟩]) (.cond (.t 70) (.seq (.region false [⟨some 71, .load (some 3) (.t 2), none⟩,
   ⟨some 72, .load (some 3) (.t 3), none⟩,
   ⟨some 73, .call F.dyadic_long [.t 71, .t 72], none⟩,
   ⟨some 74, .ext (.t 73) 0, none⟩,
   ⟨some 75, .ext (.t 73) 1, none⟩,
   ⟨none, .store 3 (.t 4) (.t 74), none⟩,
   ⟨some 5, .mov (.t 75), none⟩]) .ret) .skip)) (.seq (.region false [⟨some 77, .load (some 2) (.t 7), none⟩,
   ⟨some 78, .fa 0 (.t 3), none⟩,
   ⟨some 79, .fa 0 (.t 78), none⟩,
   ⟨some 80, .load (some 2) (.t 79), none⟩,
   ⟨some 81, .call F.whole_Add [.t 77, .t 80], none⟩,
   ⟨some 76, .mov (.t 81), none⟩,
   ⟨some 82, .ext (.t 76) 0, none⟩,
   ⟨some 83, .ext (.t 76) 1, none⟩,
   ⟨some 9, .alloc [.bool false, .slice none 0 0], none⟩,
   ⟨none, .store 2 (.t 9) (.t 82), none⟩,
   ⟨some 8, .mov (.t 83), none⟩]) (.seq (.seq (.region false [⟨some 84, .mov (.t 8), none⟩,
   ⟨some 85, .bin .neq false (.t 84) (.c (iv 0)), none⟩]) (.cond (.t 85) (.seq (.region false [⟨some 86, .load (some 3) (.t 2), none⟩,
   ⟨some 87, .load (some 3) (.t 3), none⟩,
   ⟨some 88, .call F.dyadic_long [.t 86, .t 87], none⟩,
   ⟨some 89, .ext (.t 88) 0, none⟩,
   ⟨some 90, .ext (.t 88) 1, none⟩,
   ⟨none, .store 3 (.t 4) (.t 89), none⟩,
   ⟨some 5, .mov (.t 90), none⟩]) .ret) .skip)) (.seq (.region false [⟨some 91, .load (some 2) (.t 9), none⟩,
   ⟨some 92, .fa 2 (.t 3), none⟩,
   ⟨some 93, .load none (.t 92), none⟩,
   ⟨some 94, .call F.dyadic_told [.t 91, .t 93], none⟩,
   ⟨some 95, .ext (.t 94) 0, none⟩,
   ⟨some 96, .ext (.t 94) 1, none⟩,
   ⟨none, .store 3 (.t 4) (.t 95), none⟩,
   ⟨some 5, .mov (.t 96), none⟩]) .ret))))))))))
def R.dyadic_sum : List VRes := [.cell 4 (some 3), .tmp 5]
theorem K.dyadic_sum : resCode Tryd.prog Tryd.f28.ntmps (Tryd.f28.body.getD .skip) = C.dyadic_sum := by kernel_rfl
theorem Q.dyadic_sum : resResults Tryd.prog Tryd.f28.results.toList = some R.dyadic_sum := by kernel_rfl
theorem E.dyadic_sum : Tryd.prog.funcs[F.dyadic_sum]? = some Tryd.f28 := Tryd.func28
theorem B.dyadic_sum : Tryd.f28.body = some (Tryd.f28.body.getD .skip) := by kernel_rfl
theorem N.dyadic_sum : Tryd.f28.ntmps = 97 := Tryd.ntmps28

def C.dyadic_Round : VC :=
  .seq (.region false [⟨some 3, .box (.t 0), none⟩,
   ⟨some 6, .alloc [.bool false, .slice none 0 0, .int .i64 0], none⟩,
   ⟨some 7, .mov (.c (iv 0)), none⟩]) (.seq (.region false [⟨some 11, .load (some 3) (.t 3), none⟩,
   ⟨some 12, .call F.dyadic_read [.t 11], none⟩,
   ⟨some 10, .mov (.t 12), none⟩,
   ⟨some 13, .ext (.t 10) 0, none⟩,
   ⟨some 14, .ext (.t 10) 1, none⟩,
   ⟨some 8, .alloc [.bool false, .slice none 0 0, .int .i64 0], none⟩,
   ⟨none, .store 3 (.t 8) (.t 13), none⟩,
   ⟨some 9, .mov (.t 14), none⟩]) (.seq (.block 0 (.seq (.region false [⟨some 16, .mov (.t 9), none⟩,
   ⟨some 17, .bin .neq false (.t 16) (.c (iv 0)), none⟩,
   ⟨some 15, .mov (.t 17), none⟩]) (.cond (.t 15) (.seq (.region false [⟨some 18, .build [.bool false, .slice none 0 0, .int .i64 0] [], none⟩,
   ⟨some 19, .mov (.t 9), none⟩,
   ⟨none, .store 3 (.t 6) (.t 18), none⟩,
   ⟨some 7, .mov (.t 19), none⟩]) .ret) (.seq (.region false [⟨some 21, .mov (.t 1), none⟩,
   ⟨some 22, .call F.dyadic_within [.t 21], none⟩,
   ⟨some 23, .un .not (.t 22), none⟩,
   ⟨some 20, .mov (.t 23), none⟩]) (.cond (.t 20) (.seq (.region false [⟨some 24, .build [.bool false, .slice none 0 0, .int .i64 0] [], none⟩,
   ⟨none, .store 3 (.t 6) (.t 24), none⟩,
   ⟨some 7, .mov (.c (iv 1)), none⟩]) .ret) (.seq (.region false [⟨some 26, .mov (.t 2), none⟩,
   ⟨some 27, .call F.dyadic_direction [.t 26], none⟩,
   ⟨some 28, .un .not (.t 27), none⟩,
   ⟨some 25, .mov (.t 28), none⟩]) (.cond (.t 25) (.seq (.region false [⟨some 29, .build [.bool false, .slice none 0 0, .int .i64 0] [], none⟩,
   ⟨none, .store 3 (.t 6) (.t 29), none⟩,
   ⟨some 7, .mov (.c (iv 81)), none⟩]) .ret) .skip))))))) (.seq (.region false [⟨some 30, .load (some 3) (.t 8), none⟩,
   ⟨some 31, .mov (.t 1), none⟩,
   ⟨some 32, .mov (.t 2), none⟩,
   ⟨some 33, .call F.dyadic_rounded [.t 30, .t 31, .t 32], none⟩,
   ⟨some 34, .ext (.t 33) 0, none⟩,
   ⟨some 35, .ext (.t 33) 1, none⟩,
   ⟨none, .store 3 (.t 6) (.t 34), none⟩,
   ⟨some 7, .mov (.t 35), none⟩]) .ret)))
def R.dyadic_Round : List VRes := [.cell 6 (some 3), .tmp 7]
theorem K.dyadic_Round : resCode Tryd.prog Tryd.f29.ntmps (Tryd.f29.body.getD .skip) = C.dyadic_Round := by kernel_rfl
theorem Q.dyadic_Round : resResults Tryd.prog Tryd.f29.results.toList = some R.dyadic_Round := by kernel_rfl
theorem E.dyadic_Round : Tryd.prog.funcs[F.dyadic_Round]? = some Tryd.f29 := Tryd.func29
theorem B.dyadic_Round : Tryd.f29.body = some (Tryd.f29.body.getD .skip) := by kernel_rfl
theorem N.dyadic_Round : Tryd.f29.ntmps = 36 := Tryd.ntmps29

def C.span_ends : VC :=
  .seq (.region false [⟨some 4, .box (.t 0), none⟩,
   ⟨some 6, .box (.t 2), none⟩,
   ⟨some 8, .alloc [.bool false, .slice none 0 0, .int .i64 0, .bool false, .slice none 0 0, .int .i64 0], none⟩,
   ⟨some 9, .mov (.c (iv 0)), none⟩]) (.seq (.seq (.region false [⟨some 11, .mov (.t 1), none⟩,
   ⟨some 12, .mov (.t 3), none⟩,
   ⟨some 13, .call F.span_worst [.t 11, .t 12], none⟩,
   ⟨some 10, .mov (.t 13), none⟩]) (.seq (.region false [⟨some 14, .mov (.t 10), none⟩,
   ⟨some 15, .bin .neq false (.t 14) (.c (iv 0)), none⟩]) (.cond (.t 15) (.seq (.region false [⟨some 16, .build [.bool false, .slice none 0 0, .int .i64 0, .bool false, .slice none 0 0, .int .i64 0] [], none⟩,
   ⟨some 17, .mov (.t 10), none⟩,
   ⟨none, .store 6 (.t 8) (.t 16), none⟩,
   ⟨some 9, .mov (.t 17), none⟩]) .ret) .skip))) (.seq (.region false [⟨some 18, .load (some 3) (.t 4), none⟩,
   ⟨some 19, .load (some 3) (.t 6), none⟩,
   ⟨some 20, .build [.bool false, .slice none 0 0, .int .i64 0, .bool false, .slice none 0 0, .int .i64 0] [(0, (3, .t 18)), (3, (3, .t 19))], none⟩,
   ⟨none, .store 6 (.t 8) (.t 20), none⟩,
   ⟨some 9, .mov (.c (iv 0)), none⟩]) .ret))
def R.span_ends : List VRes := [.cell 8 (some 6), .tmp 9]
theorem K.span_ends : resCode Tryd.prog Tryd.f30.ntmps (Tryd.f30.body.getD .skip) = C.span_ends := by kernel_rfl
theorem Q.span_ends : resResults Tryd.prog Tryd.f30.results.toList = some R.span_ends := by kernel_rfl
theorem E.span_ends : Tryd.prog.funcs[F.span_ends]? = some Tryd.f30 := Tryd.func30
theorem B.span_ends : Tryd.f30.body = some (Tryd.f30.body.getD .skip) := by kernel_rfl
theorem N.span_ends : Tryd.f30.ntmps = 21 := Tryd.ntmps30

def C.surdref01_Num_Zero : VC :=
  .seq (.region false [⟨some 2, .mov (.c (bv false)), none⟩]) (.seq (.region false [⟨some 3, .mov (.t 0), none⟩,
   ⟨some 4, .len (.t 3), none⟩,
   ⟨some 5, .bin .eql false (.t 4) (.c (iv 0)), none⟩,
   ⟨some 2, .mov (.t 5), none⟩]) .ret)
def R.surdref01_Num_Zero : List VRes := [.tmp 2]
theorem K.surdref01_Num_Zero : resCode Tryd.prog Tryd.f31.ntmps (Tryd.f31.body.getD .skip) = C.surdref01_Num_Zero := by kernel_rfl
theorem Q.surdref01_Num_Zero : resResults Tryd.prog Tryd.f31.results.toList = some R.surdref01_Num_Zero := by kernel_rfl
theorem E.surdref01_Num_Zero : Tryd.prog.funcs[F.surdref01_Num_Zero]? = some Tryd.f31 := Tryd.func31
theorem B.surdref01_Num_Zero : Tryd.f31.body = some (Tryd.f31.body.getD .skip) := by kernel_rfl
theorem N.surdref01_Num_Zero : Tryd.f31.ntmps = 6 := Tryd.ntmps31

def C.surdref01_Num_Bit : VC :=
  .seq (.region false [⟨some 4, .mov (.c (iv 0)), none⟩]) (.seq (.seq (.region false [⟨some 5, .mov (.t 1), none⟩,
   ⟨some 6, .bin .lss false (.t 5) (.c (iv 0)), none⟩,
   ⟨some 7, .mov (.t 6), none⟩,
   ⟨some 8, .mov (.t 1), some (7, false)⟩,
   ⟨some 9, .bin .quo false (.t 8) (.c (iv 32)), some (7, false)⟩,
   ⟨some 10, .mov (.t 0), some (7, false)⟩,
   ⟨some 11, .len (.t 10), some (7, false)⟩,
   ⟨some 12, .bin .geq false (.t 9) (.t 11), some (7, false)⟩,
   ⟨some 13, .pick (.t 7) (.c (bv true)) (.t 12), none⟩]) (.cond (.t 13) (.seq (.region false [⟨some 4, .mov (.c (iv 0)), none⟩]) .ret) .skip)) (.seq (.region false [⟨some 14, .mov (.t 0), none⟩,
   ⟨some 15, .mov (.t 1), none⟩,
   ⟨some 16, .bin .quo false (.t 15) (.c (iv 32)), none⟩,
   ⟨some 17, .ixa 1 (.t 14) (.t 16), none⟩,
   ⟨some 18, .load none (.t 17), none⟩,
   ⟨some 19, .mov (.t 1), none⟩,
   ⟨some 20, .bin .rem false (.t 19) (.c (iv 32)), none⟩,
   ⟨some 21, .bin .shr false (.t 18) (.t 20), none⟩,
   ⟨some 22, .bin .and false (.t 21) (.c (nv 1)), none⟩,
   ⟨some 23, .conv .i64 (.t 22), none⟩,
   ⟨some 4, .mov (.t 23), none⟩]) .ret))
def R.surdref01_Num_Bit : List VRes := [.tmp 4]
theorem K.surdref01_Num_Bit : resCode Tryd.prog Tryd.f32.ntmps (Tryd.f32.body.getD .skip) = C.surdref01_Num_Bit := by kernel_rfl
theorem Q.surdref01_Num_Bit : resResults Tryd.prog Tryd.f32.results.toList = some R.surdref01_Num_Bit := by kernel_rfl
theorem E.surdref01_Num_Bit : Tryd.prog.funcs[F.surdref01_Num_Bit]? = some Tryd.f32 := Tryd.func32
theorem B.surdref01_Num_Bit : Tryd.f32.body = some (Tryd.f32.body.getD .skip) := by kernel_rfl
theorem N.surdref01_Num_Bit : Tryd.f32.ntmps = 24 := Tryd.ntmps32

def C.surdref01_Num_at : VC :=
  .seq (.region false [⟨some 4, .mov (.c (nv 0)), none⟩]) (.seq (.seq (.region false [⟨some 5, .mov (.t 1), none⟩,
   ⟨some 6, .mov (.t 0), none⟩,
   ⟨some 7, .len (.t 6), none⟩,
   ⟨some 8, .bin .lss false (.t 5) (.t 7), none⟩]) (.cond (.t 8) (.seq (.region false [⟨some 9, .mov (.t 0), none⟩,
   ⟨some 10, .mov (.t 1), none⟩,
   ⟨some 11, .ixa 1 (.t 9) (.t 10), none⟩,
   ⟨some 12, .load none (.t 11), none⟩,
   ⟨some 4, .mov (.t 12), none⟩]) .ret) .skip)) (.seq (.region false [⟨some 4, .mov (.c (nv 0)), none⟩]) .ret))
def R.surdref01_Num_at : List VRes := [.tmp 4]
theorem K.surdref01_Num_at : resCode Tryd.prog Tryd.f33.ntmps (Tryd.f33.body.getD .skip) = C.surdref01_Num_at := by kernel_rfl
theorem Q.surdref01_Num_at : resResults Tryd.prog Tryd.f33.results.toList = some R.surdref01_Num_at := by kernel_rfl
theorem E.surdref01_Num_at : Tryd.prog.funcs[F.surdref01_Num_at]? = some Tryd.f33 := Tryd.func33
theorem B.surdref01_Num_at : Tryd.f33.body = some (Tryd.f33.body.getD .skip) := by kernel_rfl
theorem N.surdref01_Num_at : Tryd.f33.ntmps = 13 := Tryd.ntmps33

def C.surdref01_norm : VC :=
  .seq (.region false [⟨some 2, .mov (.c nil1), none⟩]) (.seq (.region false [⟨some 4, .mov (.t 0), none⟩,
   ⟨some 5, .len (.t 4), none⟩,
   ⟨some 3, .mov (.t 5), none⟩]) (.seq (.block 0 (.loop (.seq (.seq (.region false [⟨some 6, .mov (.t 3), none⟩,
   ⟨some 7, .bin .gtr false (.t 6) (.c (iv 0)), none⟩,
   ⟨some 8, .mov (.t 7), none⟩,
   ⟨some 9, .mov (.t 0), some (8, true)⟩,
   ⟨some 10, .mov (.t 3), some (8, true)⟩,
   ⟨some 11, .bin .sub false (.t 10) (.c (iv 1)), some (8, true)⟩,
   ⟨some 12, .ixa 1 (.t 9) (.t 11), some (8, true)⟩,
   ⟨some 13, .load none (.t 12), some (8, true)⟩,
   ⟨some 14, .bin .eql false (.t 13) (.c (nv 0)), some (8, true)⟩,
   ⟨some 15, .pick (.t 8) (.t 14) (.c (bv false)), none⟩]) (.cond (.t 15) .skip (.exit 0))) (.block 1 (.region false [⟨some 16, .mov (.t 3), none⟩,
   ⟨some 17, .bin .sub false (.t 16) (.c (iv 1)), none⟩,
   ⟨some 3, .mov (.t 17), none⟩]))))) (.seq (.region false [⟨some 18, .mov (.t 0), none⟩,
   ⟨some 19, .mov (.t 3), none⟩,
   ⟨some 20, .mov (.t 3), none⟩,
   ⟨some 21, .slc 1 (.t 18) none (some (.t 19)) (some (.t 20)), none⟩,
   ⟨some 2, .mov (.t 21), none⟩]) .ret)))
def R.surdref01_norm : List VRes := [.tmp 2]
theorem K.surdref01_norm : resCode Tryd.prog Tryd.f34.ntmps (Tryd.f34.body.getD .skip) = C.surdref01_norm := by kernel_rfl
theorem Q.surdref01_norm : resResults Tryd.prog Tryd.f34.results.toList = some R.surdref01_norm := by kernel_rfl
theorem E.surdref01_norm : Tryd.prog.funcs[F.surdref01_norm]? = some Tryd.f34 := Tryd.func34
theorem B.surdref01_norm : Tryd.f34.body = some (Tryd.f34.body.getD .skip) := by kernel_rfl
theorem N.surdref01_norm : Tryd.f34.ntmps = 22 := Tryd.ntmps34

def C.surdref01_Num_Limbs : VC :=
  .seq (.region false [⟨some 2, .mov (.c nil1), none⟩]) (.seq (.region false [⟨some 3, .mov (.c nil1), none⟩]) (.seq (.seq (.region false [⟨some 4, .mov (.c (iv 0)), none⟩]) (.block 0 (.loop (.seq (.seq (.region false [⟨some 6, .mov (.t 4), none⟩,
   ⟨some 7, .mov (.t 0), none⟩,
   ⟨some 8, .len (.t 7), none⟩,
   ⟨some 9, .bin .lss false (.t 6) (.t 8), none⟩]) (.cond (.t 9) .skip (.exit 0))) (.seq (.block 1 (.seq (.region false [⟨some 12, .mov (.t 0), none⟩,
   ⟨some 13, .mov (.t 4), none⟩,
   ⟨some 14, .ixa 1 (.t 12) (.t 13), none⟩,
   ⟨some 15, .load none (.t 14), none⟩,
   ⟨some 5, .mov (.t 15), none⟩]) (.seq (.seq (.region false [⟨some 16, .mov (.t 4), none⟩,
   ⟨some 17, .bin .add false (.t 16) (.c (iv 1)), none⟩,
   ⟨some 18, .mov (.t 0), none⟩,
   ⟨some 19, .len (.t 18), none⟩,
   ⟨some 20, .bin .lss false (.t 17) (.t 19), none⟩]) (.cond (.t 20) (.region false [⟨some 21, .mov (.t 5), none⟩,
   ⟨some 22, .mov (.t 0), none⟩,
   ⟨some 23, .mov (.t 4), none⟩,
   ⟨some 24, .bin .add false (.t 23) (.c (iv 1)), none⟩,
   ⟨some 25, .ixa 1 (.t 22) (.t 24), none⟩,
   ⟨some 26, .load none (.t 25), none⟩,
   ⟨some 27, .bin .mul false (.t 26) (.c (nv 4294967296)), none⟩,
   ⟨some 28, .bin .add false (.t 21) (.t 27), none⟩,
   ⟨some 5, .mov (.t 28), none⟩]) .skip)) (.region false [⟨some 29, .mov (.t 3), none⟩,
   ⟨some 30, .mov (.t 5), none⟩,
   ⟨some 31, .bsl true 1 1 [.int .u64 0] [(0, (1, .t 30))], none⟩,
   ⟨some 32, .app 1 8 [.int .u64 0] (.t 29) (.t 31), none⟩,
   ⟨some 3, .mov (.t 32), none⟩])))) (.region false [⟨some 10, .mov (.t 4), none⟩,
   ⟨some 11, .bin .add false (.t 10) (.c (iv 2)), none⟩,
   ⟨some 4, .mov (.t 11), none⟩])))))) (.seq (.region false [⟨some 33, .mov (.t 3), none⟩,
   ⟨some 2, .mov (.t 33), none⟩]) .ret)))
def R.surdref01_Num_Limbs : List VRes := [.tmp 2]
theorem K.surdref01_Num_Limbs : resCode Tryd.prog Tryd.f35.ntmps (Tryd.f35.body.getD .skip) = C.surdref01_Num_Limbs := by kernel_rfl
theorem Q.surdref01_Num_Limbs : resResults Tryd.prog Tryd.f35.results.toList = some R.surdref01_Num_Limbs := by kernel_rfl
theorem E.surdref01_Num_Limbs : Tryd.prog.funcs[F.surdref01_Num_Limbs]? = some Tryd.f35 := Tryd.func35
theorem B.surdref01_Num_Limbs : Tryd.f35.body = some (Tryd.f35.body.getD .skip) := by kernel_rfl
theorem N.surdref01_Num_Limbs : Tryd.f35.ntmps = 34 := Tryd.ntmps35

def C.dyadic_compare : VC :=
  .seq (.region false [⟨some 2, .box (.t 0), none⟩,
   ⟨some 3, .box (.t 1), none⟩,
   ⟨some 4, .mov (.c (iv 0)), none⟩]) (.seq (.region true [⟨some 9, .fa 0 (.t 2), none⟩,
   ⟨some 10, .load (some 2) (.t 9), none⟩,
   ⟨some 11, .call F.dyadic_part_sign [.t 10], none⟩,
   ⟨some 12, .fa 0 (.t 3), none⟩,
   ⟨some 13, .load (some 2) (.t 12), none⟩,
   ⟨some 14, .call F.dyadic_part_sign [.t 13], none⟩,
   ⟨some 5, .mov (.t 11), none⟩,
   ⟨some 6, .mov (.t 14), none⟩]) (.seq (.block 0 (.seq (.region false [⟨some 16, .mov (.t 5), none⟩,
   ⟨some 17, .mov (.t 6), none⟩,
   ⟨some 18, .bin .lss false (.t 16) (.t 17), none⟩,
   ⟨some 15, .mov (.t 18), none⟩]) (.cond (.t 15) (.seq (.region false [⟨some 4, .mov (.c (iv (-1))), none⟩]) .ret) (.seq (.region false [⟨some 20, .mov (.t 5), none⟩,
   ⟨some 21, .mov (.t 6), none⟩,
   ⟨some 22, .bin .gtr false (.t 20) (.t 21), none⟩,
   ⟨some 19, .mov (.t 22), none⟩]) (.cond (.t 19) (.seq (.region false [⟨some 4, .mov (.c (iv 1)), none⟩]) .ret) (.seq (.region false [⟨some 24, .mov (.t 5), none⟩,
   ⟨some 25, .bin .eql false (.t 24) (.c (iv 0)), none⟩,
   ⟨some 23, .mov (.t 25), none⟩]) (.cond (.t 23) (.seq (.region false [⟨some 4, .mov (.c (iv 0)), none⟩]) .ret) .skip))))))) (.seq (.seq (.region true [⟨some 26, .load (some 3) (.t 2), none⟩,
   ⟨some 27, .call F.dyadic_number_top [.t 26], none⟩,
   ⟨some 28, .load (some 3) (.t 3), none⟩,
   ⟨some 29, .call F.dyadic_number_top [.t 28], none⟩,
   ⟨some 30, .bin .neq false (.t 27) (.t 29), none⟩]) (.cond (.t 30) (.seq (.seq (.region true [⟨some 31, .load (some 3) (.t 2), none⟩,
   ⟨some 32, .call F.dyadic_number_top [.t 31], none⟩,
   ⟨some 33, .load (some 3) (.t 3), none⟩,
   ⟨some 34, .call F.dyadic_number_top [.t 33], none⟩,
   ⟨some 35, .bin .lss false (.t 32) (.t 34), none⟩]) (.cond (.t 35) (.seq (.region false [⟨some 36, .mov (.t 5), none⟩,
   ⟨some 37, .un .neg (.t 36), none⟩,
   ⟨some 4, .mov (.t 37), none⟩]) .ret) .skip)) (.seq (.region false [⟨some 38, .mov (.t 5), none⟩,
   ⟨some 4, .mov (.t 38), none⟩]) .ret)) .skip)) (.seq (.region true [⟨some 39, .fa 0 (.t 2), none⟩,
   ⟨some 40, .fa 0 (.t 39), none⟩,
   ⟨some 41, .fa 1 (.t 40), none⟩,
   ⟨some 42, .load none (.t 41), none⟩,
   ⟨some 43, .fa 0 (.t 3), none⟩,
   ⟨some 44, .fa 0 (.t 43), none⟩,
   ⟨some 45, .fa 1 (.t 44), none⟩,
   ⟨some 46, .load none (.t 45), none⟩,
   ⟨some 7, .mov (.t 42), none⟩,
   ⟨some 8, .mov (.t 46), none⟩]) (.seq (.seq (.region false [⟨some 47, .fa 2 (.t 2), none⟩,
   ⟨some 48, .load none (.t 47), none⟩,
   ⟨some 49, .fa 2 (.t 3), none⟩,
   ⟨some 50, .load none (.t 49), none⟩,
   ⟨some 51, .bin .gtr false (.t 48) (.t 50), none⟩]) (.cond (.t 51) (.region false [⟨some 52, .mov (.t 7), none⟩,
   ⟨some 53, .fa 2 (.t 2), none⟩,
   ⟨some 54, .load none (.t 53), none⟩,
   ⟨some 55, .fa 2 (.t 3), none⟩,
   ⟨some 56, .load none (.t 55), none⟩,
   ⟨some 57, .bin .sub false (.t 54) (.t 56), none⟩,
   ⟨some 58, .call F.dyadic_left [.t 52, .t 57], none⟩,
   ⟨some 7, .mov (.t 58), none⟩]) (.region false [⟨some 59, .mov (.t 8), none⟩,
   ⟨some 60, .fa 2 (.t 3), none⟩,
   ⟨some 61, .load none (.t 60), none⟩,
   ⟨some 62, .fa 2 (.t 2), none⟩,
   ⟨some 63, .load none (.t 62), none⟩,
   ⟨some 64, .bin .sub false (.t 61) (.t 63), none⟩,
   ⟨some 65, .call F.dyadic_left [.t 59, .t 64], none⟩,
   ⟨some 8, .mov (.t 65), none⟩]))) (.seq (.region false [⟨some 66, .mov (.t 5), none⟩,
   ⟨some 67, .mov (.t 7), none⟩,
   ⟨some 68, .mov (.t 8), none⟩,
   ⟨some 69, .call F.nat_Compare [.t 67, .t 68], none⟩,
   ⟨some 70, .bin .mul false (.t 66) (.t 69), none⟩,
   ⟨some 4, .mov (.t 70), none⟩]) .ret))))))
def R.dyadic_compare : List VRes := [.tmp 4]
theorem K.dyadic_compare : resCode Tryd.prog Tryd.f36.ntmps (Tryd.f36.body.getD .skip) = C.dyadic_compare := by kernel_rfl
theorem Q.dyadic_compare : resResults Tryd.prog Tryd.f36.results.toList = some R.dyadic_compare := by kernel_rfl
theorem E.dyadic_compare : Tryd.prog.funcs[F.dyadic_compare]? = some Tryd.f36 := Tryd.func36
theorem B.dyadic_compare : Tryd.f36.body = some (Tryd.f36.body.getD .skip) := by kernel_rfl
theorem N.dyadic_compare : Tryd.f36.ntmps = 71 := Tryd.ntmps36

def C.dyadic_read : VC :=
  .seq (.region false [⟨some 1, .box (.t 0), none⟩,
   ⟨some 2, .alloc [.bool false, .slice none 0 0, .int .i64 0], none⟩,
   ⟨some 3, .mov (.c (iv 0)), none⟩]) (.seq (.seq (.region false [⟨some 4, .fa 2 (.t 1), none⟩,
   ⟨some 5, .load none (.t 4), none⟩,
   ⟨some 6, .call F.dyadic_within [.t 5], none⟩,
   ⟨some 7, .un .not (.t 6), none⟩]) (.cond (.t 7) (.seq (.region false [⟨some 8, .build [.bool false, .slice none 0 0, .int .i64 0] [], none⟩,
   ⟨none, .store 3 (.t 2) (.t 8), none⟩,
   ⟨some 3, .mov (.c (iv 80)), none⟩]) .ret) .skip)) (.seq (.region false [⟨some 9, .fa 0 (.t 1), none⟩,
   ⟨some 10, .load (some 2) (.t 9), none⟩,
   ⟨some 11, .fa 2 (.t 1), none⟩,
   ⟨some 12, .load none (.t 11), none⟩,
   ⟨some 13, .call F.dyadic_odd [.t 10, .t 12], none⟩,
   ⟨none, .store 3 (.t 2) (.t 13), none⟩,
   ⟨some 3, .mov (.c (iv 0)), none⟩]) .ret))
def R.dyadic_read : List VRes := [.cell 2 (some 3), .tmp 3]
theorem K.dyadic_read : resCode Tryd.prog Tryd.f37.ntmps (Tryd.f37.body.getD .skip) = C.dyadic_read := by kernel_rfl
theorem Q.dyadic_read : resResults Tryd.prog Tryd.f37.results.toList = some R.dyadic_read := by kernel_rfl
theorem E.dyadic_read : Tryd.prog.funcs[F.dyadic_read]? = some Tryd.f37 := Tryd.func37
theorem B.dyadic_read : Tryd.f37.body = some (Tryd.f37.body.getD .skip) := by kernel_rfl
theorem N.dyadic_read : Tryd.f37.ntmps = 14 := Tryd.ntmps37

def C.dyadic_part_sign : VC :=
  .seq (.region false [⟨some 1, .box (.t 0), none⟩,
   ⟨some 2, .mov (.c (iv 0)), none⟩]) (.seq (.region false [⟨some 3, .fa 0 (.t 1), none⟩,
   ⟨some 4, .load (some 2) (.t 3), none⟩,
   ⟨some 5, .call F.whole_Sign [.t 4], none⟩,
   ⟨some 2, .mov (.t 5), none⟩]) .ret)
def R.dyadic_part_sign : List VRes := [.tmp 2]
theorem K.dyadic_part_sign : resCode Tryd.prog Tryd.f38.ntmps (Tryd.f38.body.getD .skip) = C.dyadic_part_sign := by kernel_rfl
theorem Q.dyadic_part_sign : resResults Tryd.prog Tryd.f38.results.toList = some R.dyadic_part_sign := by kernel_rfl
theorem E.dyadic_part_sign : Tryd.prog.funcs[F.dyadic_part_sign]? = some Tryd.f38 := Tryd.func38
theorem B.dyadic_part_sign : Tryd.f38.body = some (Tryd.f38.body.getD .skip) := by kernel_rfl
theorem N.dyadic_part_sign : Tryd.f38.ntmps = 6 := Tryd.ntmps38

def C.dyadic_told : VC :=
  .seq (.region false [⟨some 2, .box (.t 0), none⟩,
   ⟨some 4, .alloc [.bool false, .slice none 0 0, .int .i64 0], none⟩,
   ⟨some 5, .mov (.c (iv 0)), none⟩]) (.seq (.region false [⟨some 7, .load (some 2) (.t 2), none⟩,
   ⟨some 8, .mov (.t 1), none⟩,
   ⟨some 9, .call F.dyadic_odd [.t 7, .t 8], none⟩,
   ⟨some 6, .alloc [.bool false, .slice none 0 0, .int .i64 0], none⟩,
   ⟨none, .store 3 (.t 6) (.t 9), none⟩]) (.seq (.block 0 (.seq (.region false [⟨some 11, .fa 0 (.t 6), none⟩,
   ⟨some 12, .load (some 2) (.t 11), none⟩,
   ⟨some 13, .call F.dyadic_part_sign [.t 12], none⟩,
   ⟨some 14, .bin .eql false (.t 13) (.c (iv 0)), none⟩,
   ⟨some 10, .mov (.t 14), none⟩]) (.cond (.t 10) (.seq (.region false [⟨some 15, .build [.bool false, .slice none 0 0, .int .i64 0] [], none⟩,
   ⟨none, .store 3 (.t 4) (.t 15), none⟩,
   ⟨some 5, .mov (.c (iv 0)), none⟩]) .ret) (.seq (.region false [⟨some 17, .fa 0 (.t 6), none⟩,
   ⟨some 18, .load (some 2) (.t 17), none⟩,
   ⟨some 19, .call F.dyadic_part_length [.t 18], none⟩,
   ⟨some 20, .bin .gtr false (.t 19) (.c (iv 67108864)), none⟩,
   ⟨some 16, .mov (.t 20), none⟩]) (.cond (.t 16) (.seq (.region false [⟨some 21, .build [.bool false, .slice none 0 0, .int .i64 0] [], none⟩,
   ⟨none, .store 3 (.t 4) (.t 21), none⟩,
   ⟨some 5, .mov (.c (iv 3)), none⟩]) .ret) (.seq (.region false [⟨some 23, .fa 2 (.t 6), none⟩,
   ⟨some 24, .load none (.t 23), none⟩,
   ⟨some 25, .call F.dyadic_within [.t 24], none⟩,
   ⟨some 26, .un .not (.t 25), none⟩,
   ⟨some 22, .mov (.t 26), none⟩]) (.cond (.t 22) (.seq (.region false [⟨some 27, .build [.bool false, .slice none 0 0, .int .i64 0] [], none⟩,
   ⟨none, .store 3 (.t 4) (.t 27), none⟩,
   ⟨some 5, .mov (.c (iv 80)), none⟩]) .ret) .skip))))))) (.seq (.region false [⟨some 28, .fa 0 (.t 6), none⟩,
   ⟨some 29, .fa 0 (.t 28), none⟩,
   ⟨some 30, .load (some 2) (.t 29), none⟩,
   ⟨some 31, .fa 2 (.t 6), none⟩,
   ⟨some 32, .load none (.t 31), none⟩,
   ⟨some 33, .build [.bool false, .slice none 0 0, .int .i64 0] [(0, (2, .t 30)), (2, (1, .t 32))], none⟩,
   ⟨none, .store 3 (.t 4) (.t 33), none⟩,
   ⟨some 5, .mov (.c (iv 0)), none⟩]) .ret)))
def R.dyadic_told : List VRes := [.cell 4 (some 3), .tmp 5]
theorem K.dyadic_told : resCode Tryd.prog Tryd.f39.ntmps (Tryd.f39.body.getD .skip) = C.dyadic_told := by kernel_rfl
theorem Q.dyadic_told : resResults Tryd.prog Tryd.f39.results.toList = some R.dyadic_told := by kernel_rfl
theorem E.dyadic_told : Tryd.prog.funcs[F.dyadic_told]? = some Tryd.f39 := Tryd.func39
theorem B.dyadic_told : Tryd.f39.body = some (Tryd.f39.body.getD .skip) := by kernel_rfl
theorem N.dyadic_told : Tryd.f39.ntmps = 34 := Tryd.ntmps39

def C.dyadic_number_top : VC :=
  .seq (.region false [⟨some 1, .box (.t 0), none⟩,
   ⟨some 2, .mov (.c (iv 0)), none⟩]) (.seq (.region true [⟨some 3, .fa 2 (.t 1), none⟩,
   ⟨some 4, .load none (.t 3), none⟩,
   ⟨some 5, .fa 0 (.t 1), none⟩,
   ⟨some 6, .load (some 2) (.t 5), none⟩,
   ⟨some 7, .call F.dyadic_part_length [.t 6], none⟩,
   ⟨some 8, .bin .add false (.t 4) (.t 7), none⟩,
   ⟨some 9, .bin .sub false (.t 8) (.c (iv 1)), none⟩,
   ⟨some 2, .mov (.t 9), none⟩]) .ret)
def R.dyadic_number_top : List VRes := [.tmp 2]
theorem K.dyadic_number_top : resCode Tryd.prog Tryd.f40.ntmps (Tryd.f40.body.getD .skip) = C.dyadic_number_top := by kernel_rfl
theorem Q.dyadic_number_top : resResults Tryd.prog Tryd.f40.results.toList = some R.dyadic_number_top := by kernel_rfl
theorem E.dyadic_number_top : Tryd.prog.funcs[F.dyadic_number_top]? = some Tryd.f40 := Tryd.func40
theorem B.dyadic_number_top : Tryd.f40.body = some (Tryd.f40.body.getD .skip) := by kernel_rfl
theorem N.dyadic_number_top : Tryd.f40.ntmps = 10 := Tryd.ntmps40

def C.whole_Make : VC :=
  .seq (.region false [⟨some 4, .alloc [.bool false, .slice none 0 0], none⟩,
   ⟨some 5, .mov (.c (iv 0)), none⟩]) (.seq (.region false [⟨some 6, .mov (.t 0), none⟩,
   ⟨some 7, .mov (.t 1), none⟩,
   ⟨some 8, .build [.bool false, .slice none 0 0] [(0, (1, .t 6)), (1, (1, .t 7))], none⟩,
   ⟨some 9, .call F.whole_fits [.t 8], none⟩,
   ⟨some 10, .ext (.t 9) 0, none⟩,
   ⟨some 11, .ext (.t 9) 1, none⟩,
   ⟨none, .store 2 (.t 4) (.t 10), none⟩,
   ⟨some 5, .mov (.t 11), none⟩]) .ret)
def R.whole_Make : List VRes := [.cell 4 (some 2), .tmp 5]
theorem K.whole_Make : resCode Tryd.prog Tryd.f41.ntmps (Tryd.f41.body.getD .skip) = C.whole_Make := by kernel_rfl
theorem Q.whole_Make : resResults Tryd.prog Tryd.f41.results.toList = some R.whole_Make := by kernel_rfl
theorem E.whole_Make : Tryd.prog.funcs[F.whole_Make]? = some Tryd.f41 := Tryd.func41
theorem B.whole_Make : Tryd.f41.body = some (Tryd.f41.body.getD .skip) := by kernel_rfl
theorem N.whole_Make : Tryd.f41.ntmps = 12 := Tryd.ntmps41

def C.dyadic_left : VC :=
  .seq (.region false [⟨some 4, .mov (.c nil1), none⟩]) (.seq (.region false [⟨some 13, .mov (.t 0), none⟩,
   ⟨some 14, .mov (.t 1), none⟩,
   ⟨some 15, .call F.nat_Left [.t 13, .t 14], none⟩,
   ⟨some 12, .mov (.t 15), none⟩,
   ⟨some 16, .ext (.t 12) 0, none⟩,
   ⟨some 17, .ext (.t 12) 1, none⟩,
   ⟨some 5, .mov (.t 16), none⟩,
   ⟨some 6, .mov (.t 17), none⟩]) (.seq (.seq (.region false [⟨some 18, .mov (.t 6), none⟩,
   ⟨some 19, .bin .eql false (.t 18) (.c (iv 0)), none⟩]) (.cond (.t 19) (.seq (.region false [⟨some 20, .mov (.t 5), none⟩,
   ⟨some 4, .mov (.t 20), none⟩]) .ret) .skip)) (.seq (.region false [⟨some 21, .mov (.t 1), none⟩,
   ⟨some 22, .bin .quo false (.t 21) (.c (iv 64)), none⟩,
   ⟨some 23, .mov (.t 1), none⟩,
   ⟨some 24, .bin .rem false (.t 23) (.c (iv 64)), none⟩,
   ⟨some 25, .conv .u64 (.t 24), none⟩,
   ⟨some 7, .mov (.t 22), none⟩,
   ⟨some 8, .mov (.t 25), none⟩]) (.seq (.region false [⟨some 26, .mov (.t 0), none⟩,
   ⟨some 27, .len (.t 26), none⟩,
   ⟨some 28, .mov (.t 7), none⟩,
   ⟨some 29, .bin .add false (.t 27) (.t 28), none⟩,
   ⟨some 30, .bin .add false (.t 29) (.c (iv 1)), none⟩,
   ⟨some 31, .mk [.int .u64 0] 8 (.t 30) (.t 30), none⟩,
   ⟨some 9, .mov (.t 31), none⟩]) (.seq (.seq (.region false [⟨some 32, .mov (.t 0), none⟩,
   ⟨some 33, .len (.t 32), none⟩,
   ⟨some 34, .mov (.c (iv 0)), none⟩]) (.block 0 (.loop (.seq (.region false [⟨some 35, .bin .lss false (.t 34) (.t 33), none⟩]) (.seq (.cond (.t 35) .skip (.exit 0)) (.seq (.block 1 (.seq (.region false [⟨some 36, .mov (.t 34), none⟩,
   ⟨some 37, .ixa 1 (.t 32) (.t 34), none⟩,
   ⟨some 38, .load none (.t 37), none⟩,
   ⟨some 10, .mov (.t 36), none⟩,
   ⟨some 11, .mov (.t 38), none⟩]) (.seq (.region false [⟨some 39, .mov (.t 9), none⟩,
   ⟨some 40, .mov (.t 10), none⟩,
   ⟨some 41, .mov (.t 7), none⟩,
   ⟨some 42, .bin .add false (.t 40) (.t 41), none⟩,
   ⟨some 43, .ixa 1 (.t 39) (.t 42), none⟩,
   ⟨some 44, .load none (.t 43), none⟩,
   ⟨some 45, .mov (.t 11), none⟩,
   ⟨some 46, .mov (.t 8), none⟩,
   ⟨some 47, .bin .shl false (.t 45) (.t 46), none⟩,
   ⟨some 48, .bin .or false (.t 44) (.t 47), none⟩,
   ⟨some 49, .ixa 1 (.t 39) (.t 42), none⟩,
   ⟨none, .store 1 (.t 49) (.t 48), none⟩]) (.seq (.region false [⟨some 50, .mov (.t 8), none⟩,
   ⟨some 51, .bin .gtr false (.t 50) (.c (nv 0)), none⟩]) (.cond (.t 51) (.region false [⟨some 52, .mov (.t 9), none⟩,
   ⟨some 53, .mov (.t 10), none⟩,
   ⟨some 54, .mov (.t 7), none⟩,
   ⟨some 55, .bin .add false (.t 53) (.t 54), none⟩,
   ⟨some 56, .bin .add false (.t 55) (.c (iv 1)), none⟩,
   ⟨some 57, .mov (.t 11), none⟩,
   ⟨some 58, .mov (.t 8), none⟩,
   ⟨some 59, .bin .sub false (.c (nv 64)) (.t 58), none⟩,
   ⟨some 60, .bin .shr false (.t 57) (.t 59), none⟩,
   ⟨some 61, .ixa 1 (.t 52) (.t 56), none⟩,
   ⟨none, .store 1 (.t 61) (.t 60), none⟩]) .skip))))) (.region false [⟨some 62, .bin .add false (.t 34) (.c (iv 1)), none⟩,
   ⟨some 34, .mov (.t 62), none⟩]))))))) (.seq (.region false [⟨some 63, .mov (.t 9), none⟩,
   ⟨some 64, .call F.nat_Norm [.t 63], none⟩,
   ⟨some 4, .mov (.t 64), none⟩]) .ret))))))
def R.dyadic_left : List VRes := [.tmp 4]
theorem K.dyadic_left : resCode Tryd.prog Tryd.f42.ntmps (Tryd.f42.body.getD .skip) = C.dyadic_left := by kernel_rfl
theorem Q.dyadic_left : resResults Tryd.prog Tryd.f42.results.toList = some R.dyadic_left := by kernel_rfl
theorem E.dyadic_left : Tryd.prog.funcs[F.dyadic_left]? = some Tryd.f42 := Tryd.func42
theorem B.dyadic_left : Tryd.f42.body = some (Tryd.f42.body.getD .skip) := by kernel_rfl
theorem N.dyadic_left : Tryd.f42.ntmps = 65 := Tryd.ntmps42

def C.dyadic_long : VC :=
  .seq (.region false [⟨some 2, .box (.t 0), none⟩,
   ⟨some 3, .box (.t 1), none⟩,
   ⟨some 4, .alloc [.bool false, .slice none 0 0, .int .i64 0], none⟩,
   ⟨some 5, .mov (.c (iv 0)), none⟩]) (.seq (.region true [⟨some 9, .fa 0 (.t 2), none⟩,
   ⟨some 10, .fa 0 (.t 9), none⟩,
   ⟨some 11, .fa 1 (.t 10), none⟩,
   ⟨some 12, .load none (.t 11), none⟩,
   ⟨some 13, .fa 2 (.t 2), none⟩,
   ⟨some 14, .load none (.t 13), none⟩,
   ⟨some 15, .fa 2 (.t 3), none⟩,
   ⟨some 16, .load none (.t 15), none⟩,
   ⟨some 17, .bin .sub false (.t 14) (.t 16), none⟩,
   ⟨some 18, .call F.dyadic_left [.t 12, .t 17], none⟩,
   ⟨some 19, .fa 0 (.t 3), none⟩,
   ⟨some 20, .fa 0 (.t 19), none⟩,
   ⟨some 21, .fa 1 (.t 20), none⟩,
   ⟨some 22, .load none (.t 21), none⟩,
   ⟨some 6, .mov (.t 18), none⟩,
   ⟨some 7, .mov (.t 22), none⟩]) (.seq (.region false [⟨some 23, .fa 0 (.t 2), none⟩,
   ⟨some 24, .fa 0 (.t 23), none⟩,
   ⟨some 25, .fa 0 (.t 24), none⟩,
   ⟨some 26, .load none (.t 25), none⟩,
   ⟨some 8, .mov (.t 26), none⟩]) (.seq (.seq (.region false [⟨some 27, .fa 0 (.t 2), none⟩,
   ⟨some 28, .fa 0 (.t 27), none⟩,
   ⟨some 29, .fa 0 (.t 28), none⟩,
   ⟨some 30, .load none (.t 29), none⟩,
   ⟨some 31, .fa 0 (.t 3), none⟩,
   ⟨some 32, .fa 0 (.t 31), none⟩,
   ⟨some 33, .fa 0 (.t 32), none⟩,
   ⟨some 34, .load none (.t 33), none⟩,
   ⟨some 35, .bin .neq true (.t 30) (.t 34), none⟩]) (.cond (.t 35) (.seq (.seq (.region false [⟨some 36, .mov (.t 6), none⟩,
   ⟨some 37, .mov (.t 7), none⟩,
   ⟨some 38, .call F.nat_Compare [.t 36, .t 37], none⟩,
   ⟨some 39, .bin .lss false (.t 38) (.c (iv 0)), none⟩]) (.cond (.t 39) (.region false [⟨some 40, .mov (.t 7), none⟩,
   ⟨some 41, .mov (.t 6), none⟩,
   ⟨some 42, .mov (.t 8), none⟩,
   ⟨some 43, .un .not (.t 42), none⟩,
   ⟨some 6, .mov (.t 40), none⟩,
   ⟨some 7, .mov (.t 41), none⟩,
   ⟨some 8, .mov (.t 43), none⟩]) .skip)) (.seq (.region true [⟨some 44, .mov (.t 8), none⟩,
   ⟨some 45, .mov (.t 6), none⟩,
   ⟨some 46, .mov (.t 7), none⟩,
   ⟨some 47, .call F.dyadic_minus [.t 45, .t 46], none⟩,
   ⟨some 48, .build [.bool false, .slice none 0 0] [(0, (1, .t 44)), (1, (1, .t 47))], none⟩,
   ⟨some 49, .fa 2 (.t 3), none⟩,
   ⟨some 50, .load none (.t 49), none⟩,
   ⟨some 51, .call F.dyadic_told [.t 48, .t 50], none⟩,
   ⟨some 52, .ext (.t 51) 0, none⟩,
   ⟨some 53, .ext (.t 51) 1, none⟩,
   ⟨none, .storeA 3 (.t 4) (.t 52) [], none⟩,
   ⟨some 5, .mov (.t 53), none⟩]) .ret)) .skip)) (.seq (.region true [⟨some 54, .mov (.t 8), none⟩,
   ⟨some 55, .mov (.t 6), none⟩,
   ⟨some 56, .mov (.t 7), none⟩,
   ⟨some 57, .call F.dyadic_plus [.t 55, .t 56], none⟩,
   ⟨some 58, .build [.bool false, .slice none 0 0] [(0, (1, .t 54)), (1, (1, .t 57))], none⟩,
   ⟨some 59, .fa 2 (.t 3), none⟩,
   ⟨some 60, .load none (.t 59), none⟩,
   ⟨some 61, .call F.dyadic_told [.t 58, .t 60], none⟩,
   ⟨some 62, .ext (.t 61) 0, none⟩,
   ⟨some 63, .ext (.t 61) 1, none⟩,
   ⟨none, .storeA 3 (.t 4) (.t 62) [], none⟩,
   ⟨some 5, .mov (.t 63), none⟩]) .ret))))
def R.dyadic_long : List VRes := [.cell 4 (some 3), .tmp 5]
theorem K.dyadic_long : resCode Tryd.prog Tryd.f43.ntmps (Tryd.f43.body.getD .skip) = C.dyadic_long := by kernel_rfl
theorem Q.dyadic_long : resResults Tryd.prog Tryd.f43.results.toList = some R.dyadic_long := by kernel_rfl
theorem E.dyadic_long : Tryd.prog.funcs[F.dyadic_long]? = some Tryd.f43 := Tryd.func43
theorem B.dyadic_long : Tryd.f43.body = some (Tryd.f43.body.getD .skip) := by kernel_rfl
theorem N.dyadic_long : Tryd.f43.ntmps = 64 := Tryd.ntmps43

def C.whole_Add : VC :=
  .seq (.region false [⟨some 2, .box (.t 0), none⟩,
   ⟨some 3, .box (.t 1), none⟩,
   ⟨some 4, .alloc [.bool false, .slice none 0 0], none⟩,
   ⟨some 5, .mov (.c (iv 0)), none⟩]) (.seq (.region true [⟨some 10, .load (some 2) (.t 2), none⟩,
   ⟨some 11, .call F.whole_norm [.t 10], none⟩,
   ⟨some 12, .load (some 2) (.t 3), none⟩,
   ⟨some 13, .call F.whole_norm [.t 12], none⟩,
   ⟨none, .storeA 2 (.t 2) (.t 11) [], none⟩,
   ⟨none, .storeA 2 (.t 3) (.t 13) [], none⟩]) (.seq (.seq (.region false [⟨some 14, .fa 0 (.t 2), none⟩,
   ⟨some 15, .load none (.t 14), none⟩,
   ⟨some 16, .fa 0 (.t 3), none⟩,
   ⟨some 17, .load none (.t 16), none⟩,
   ⟨some 18, .bin .eql true (.t 15) (.t 17), none⟩]) (.cond (.t 18) (.seq (.region false [⟨some 20, .fa 1 (.t 2), none⟩,
   ⟨some 21, .load none (.t 20), none⟩,
   ⟨some 22, .fa 1 (.t 3), none⟩,
   ⟨some 23, .load none (.t 22), none⟩,
   ⟨some 24, .call F.nat_Add [.t 21, .t 23], none⟩,
   ⟨some 19, .mov (.t 24), none⟩,
   ⟨some 25, .ext (.t 19) 0, none⟩,
   ⟨some 26, .ext (.t 19) 1, none⟩,
   ⟨some 6, .mov (.t 25), none⟩,
   ⟨some 7, .mov (.t 26), none⟩]) (.seq (.region false [⟨some 27, .fa 0 (.t 2), none⟩,
   ⟨some 28, .load none (.t 27), none⟩,
   ⟨some 29, .mov (.t 6), none⟩,
   ⟨some 30, .mov (.t 7), none⟩,
   ⟨some 31, .call F.whole_result [.t 28, .t 29, .t 30], none⟩,
   ⟨some 32, .ext (.t 31) 0, none⟩,
   ⟨some 33, .ext (.t 31) 1, none⟩,
   ⟨none, .store 2 (.t 4) (.t 32), none⟩,
   ⟨some 5, .mov (.t 33), none⟩]) .ret)) .skip)) (.seq (.seq (.region false [⟨some 34, .fa 1 (.t 2), none⟩,
   ⟨some 35, .load none (.t 34), none⟩,
   ⟨some 36, .fa 1 (.t 3), none⟩,
   ⟨some 37, .load none (.t 36), none⟩,
   ⟨some 38, .call F.nat_Compare [.t 35, .t 37], none⟩,
   ⟨some 39, .bin .lss false (.t 38) (.c (iv 0)), none⟩]) (.cond (.t 39) (.region false [⟨some 40, .load (some 2) (.t 3), none⟩,
   ⟨some 41, .load (some 2) (.t 2), none⟩,
   ⟨none, .store 2 (.t 2) (.t 40), none⟩,
   ⟨none, .store 2 (.t 3) (.t 41), none⟩]) .skip)) (.seq (.region false [⟨some 43, .fa 1 (.t 2), none⟩,
   ⟨some 44, .load none (.t 43), none⟩,
   ⟨some 45, .fa 1 (.t 3), none⟩,
   ⟨some 46, .load none (.t 45), none⟩,
   ⟨some 47, .call F.nat_Sub [.t 44, .t 46], none⟩,
   ⟨some 42, .mov (.t 47), none⟩,
   ⟨some 48, .ext (.t 42) 0, none⟩,
   ⟨some 49, .ext (.t 42) 1, none⟩,
   ⟨some 8, .mov (.t 48), none⟩,
   ⟨some 9, .mov (.t 49), none⟩]) (.seq (.region false [⟨some 50, .fa 0 (.t 2), none⟩,
   ⟨some 51, .load none (.t 50), none⟩,
   ⟨some 52, .mov (.t 8), none⟩,
   ⟨some 53, .mov (.t 9), none⟩,
   ⟨some 54, .call F.whole_result [.t 51, .t 52, .t 53], none⟩,
   ⟨some 55, .ext (.t 54) 0, none⟩,
   ⟨some 56, .ext (.t 54) 1, none⟩,
   ⟨none, .store 2 (.t 4) (.t 55), none⟩,
   ⟨some 5, .mov (.t 56), none⟩]) .ret)))))
def R.whole_Add : List VRes := [.cell 4 (some 2), .tmp 5]
theorem K.whole_Add : resCode Tryd.prog Tryd.f44.ntmps (Tryd.f44.body.getD .skip) = C.whole_Add := by kernel_rfl
theorem Q.whole_Add : resResults Tryd.prog Tryd.f44.results.toList = some R.whole_Add := by kernel_rfl
theorem E.whole_Add : Tryd.prog.funcs[F.whole_Add]? = some Tryd.f44 := Tryd.func44
theorem B.whole_Add : Tryd.f44.body = some (Tryd.f44.body.getD .skip) := by kernel_rfl
theorem N.whole_Add : Tryd.f44.ntmps = 57 := Tryd.ntmps44

def C.dyadic_within : VC :=
  .seq (.region false [⟨some 2, .mov (.c (bv false)), none⟩]) (.seq (.region false [⟨some 3, .mov (.t 0), none⟩,
   ⟨some 4, .bin .geq false (.t 3) (.c (iv (-1099511627776))), none⟩,
   ⟨some 5, .mov (.t 4), none⟩,
   ⟨some 6, .mov (.t 0), some (5, true)⟩,
   ⟨some 7, .bin .leq false (.t 6) (.c (iv 1099511627776)), some (5, true)⟩,
   ⟨some 8, .pick (.t 5) (.t 7) (.c (bv false)), none⟩,
   ⟨some 2, .mov (.t 8), none⟩]) .ret)
def R.dyadic_within : List VRes := [.tmp 2]
theorem K.dyadic_within : resCode Tryd.prog Tryd.f45.ntmps (Tryd.f45.body.getD .skip) = C.dyadic_within := by kernel_rfl
theorem Q.dyadic_within : resResults Tryd.prog Tryd.f45.results.toList = some R.dyadic_within := by kernel_rfl
theorem E.dyadic_within : Tryd.prog.funcs[F.dyadic_within]? = some Tryd.f45 := Tryd.func45
theorem B.dyadic_within : Tryd.f45.body = some (Tryd.f45.body.getD .skip) := by kernel_rfl
theorem N.dyadic_within : Tryd.f45.ntmps = 9 := Tryd.ntmps45

def C.dyadic_direction : VC :=
  .seq (.region false [⟨some 2, .mov (.c (bv false)), none⟩]) (.seq (.region false [⟨some 3, .mov (.t 0), none⟩,
   ⟨some 4, .bin .eql false (.t 3) (.c (iv 0)), none⟩,
   ⟨some 5, .mov (.t 4), none⟩,
   ⟨some 6, .mov (.t 0), some (5, false)⟩,
   ⟨some 7, .bin .eql false (.t 6) (.c (iv 1)), some (5, false)⟩,
   ⟨some 8, .pick (.t 5) (.c (bv true)) (.t 7), none⟩,
   ⟨some 9, .mov (.t 8), none⟩,
   ⟨some 10, .mov (.t 0), some (9, false)⟩,
   ⟨some 11, .bin .eql false (.t 10) (.c (iv 2)), some (9, false)⟩,
   ⟨some 12, .pick (.t 9) (.c (bv true)) (.t 11), none⟩,
   ⟨some 2, .mov (.t 12), none⟩]) .ret)
def R.dyadic_direction : List VRes := [.tmp 2]
theorem K.dyadic_direction : resCode Tryd.prog Tryd.f46.ntmps (Tryd.f46.body.getD .skip) = C.dyadic_direction := by kernel_rfl
theorem Q.dyadic_direction : resResults Tryd.prog Tryd.f46.results.toList = some R.dyadic_direction := by kernel_rfl
theorem E.dyadic_direction : Tryd.prog.funcs[F.dyadic_direction]? = some Tryd.f46 := Tryd.func46
theorem B.dyadic_direction : Tryd.f46.body = some (Tryd.f46.body.getD .skip) := by kernel_rfl
theorem N.dyadic_direction : Tryd.f46.ntmps = 13 := Tryd.ntmps46

def C.dyadic_rounded : VC :=
  .seq (.region false [⟨some 3, .box (.t 0), none⟩,
   ⟨some 6, .alloc [.bool false, .slice none 0 0, .int .i64 0], none⟩,
   ⟨some 7, .mov (.c (iv 0)), none⟩]) (.seq (.seq (.region false [⟨some 8, .fa 0 (.t 3), none⟩,
   ⟨some 9, .load (some 2) (.t 8), none⟩,
   ⟨some 10, .call F.dyadic_part_sign [.t 9], none⟩,
   ⟨some 11, .bin .eql false (.t 10) (.c (iv 0)), none⟩,
   ⟨some 12, .mov (.t 11), none⟩,
   ⟨some 13, .fa 2 (.t 3), some (12, false)⟩,
   ⟨some 14, .load none (.t 13), some (12, false)⟩,
   ⟨some 15, .mov (.t 1), some (12, false)⟩,
   ⟨some 16, .bin .geq false (.t 14) (.t 15), some (12, false)⟩,
   ⟨some 17, .pick (.t 12) (.c (bv true)) (.t 16), none⟩]) (.cond (.t 17) (.seq (.region false [⟨some 18, .fa 0 (.t 3), none⟩,
   ⟨some 19, .fa 0 (.t 18), none⟩,
   ⟨some 20, .load (some 2) (.t 19), none⟩,
   ⟨some 21, .fa 2 (.t 3), none⟩,
   ⟨some 22, .load none (.t 21), none⟩,
   ⟨some 23, .call F.dyadic_told [.t 20, .t 22], none⟩,
   ⟨some 24, .ext (.t 23) 0, none⟩,
   ⟨some 25, .ext (.t 23) 1, none⟩,
   ⟨none, .store 3 (.t 6) (.t 24), none⟩,
   ⟨some 7, .mov (.t 25), none⟩]) .ret) .skip)) (.seq (.region false [⟨some 26, .load (some 3) (.t 3), none⟩,
   ⟨some 27, .mov (.t 1), none⟩,
   ⟨some 28, .mov (.t 2), none⟩,
   ⟨some 29, .call F.dyadic_steps [.t 26, .t 27, .t 28], none⟩,
   ⟨some 30, .mov (.t 1), none⟩,
   ⟨some 31, .call F.dyadic_told [.t 29, .t 30], none⟩,
   ⟨some 32, .ext (.t 31) 0, none⟩,
   ⟨some 33, .ext (.t 31) 1, none⟩,
   ⟨none, .store 3 (.t 6) (.t 32), none⟩,
   ⟨some 7, .mov (.t 33), none⟩]) .ret))
def R.dyadic_rounded : List VRes := [.cell 6 (some 3), .tmp 7]
theorem K.dyadic_rounded : resCode Tryd.prog Tryd.f47.ntmps (Tryd.f47.body.getD .skip) = C.dyadic_rounded := by kernel_rfl
theorem Q.dyadic_rounded : resResults Tryd.prog Tryd.f47.results.toList = some R.dyadic_rounded := by kernel_rfl
theorem E.dyadic_rounded : Tryd.prog.funcs[F.dyadic_rounded]? = some Tryd.f47 := Tryd.func47
theorem B.dyadic_rounded : Tryd.f47.body = some (Tryd.f47.body.getD .skip) := by kernel_rfl
theorem N.dyadic_rounded : Tryd.f47.ntmps = 34 := Tryd.ntmps47

def C.nat_Compare : VC :=
  .seq (.region false [⟨some 4, .mov (.c (iv 0)), none⟩]) (.seq (.region false [⟨some 6, .mov (.t 0), none⟩,
   ⟨some 7, .call F.nat_trim [.t 6], none⟩,
   ⟨some 8, .mov (.t 1), none⟩,
   ⟨some 9, .call F.nat_trim [.t 8], none⟩,
   ⟨some 0, .mov (.t 7), none⟩,
   ⟨some 1, .mov (.t 9), none⟩]) (.seq (.seq (.region false [⟨some 10, .mov (.t 0), none⟩,
   ⟨some 11, .len (.t 10), none⟩,
   ⟨some 12, .mov (.t 1), none⟩,
   ⟨some 13, .len (.t 12), none⟩,
   ⟨some 14, .bin .neq false (.t 11) (.t 13), none⟩]) (.cond (.t 14) (.seq (.seq (.region false [⟨some 15, .mov (.t 0), none⟩,
   ⟨some 16, .len (.t 15), none⟩,
   ⟨some 17, .mov (.t 1), none⟩,
   ⟨some 18, .len (.t 17), none⟩,
   ⟨some 19, .bin .lss false (.t 16) (.t 18), none⟩]) (.cond (.t 19) (.seq (.region false [⟨some 4, .mov (.c (iv (-1))), none⟩]) .ret) .skip)) (.seq (.region false [⟨some 4, .mov (.c (iv 1)), none⟩]) .ret)) .skip)) (.seq (.seq (.region false [⟨some 20, .mov (.t 0), none⟩,
   ⟨some 21, .len (.t 20), none⟩,
   ⟨some 22, .bin .sub false (.t 21) (.c (iv 1)), none⟩,
   ⟨some 5, .mov (.t 22), none⟩]) (.block 0 (.loop (.seq (.seq (.region false [⟨some 23, .mov (.t 5), none⟩,
   ⟨some 24, .bin .geq false (.t 23) (.c (iv 0)), none⟩]) (.cond (.t 24) .skip (.exit 0))) (.seq (.block 1 (.seq (.seq (.region true [⟨some 27, .mov (.t 0), none⟩,
   ⟨some 28, .mov (.t 5), none⟩,
   ⟨some 29, .ixa 1 (.t 27) (.t 28), none⟩,
   ⟨some 30, .load none (.t 29), none⟩,
   ⟨some 31, .mov (.t 1), none⟩,
   ⟨some 32, .mov (.t 5), none⟩,
   ⟨some 33, .ixa 1 (.t 31) (.t 32), none⟩,
   ⟨some 34, .load none (.t 33), none⟩,
   ⟨some 35, .bin .lss false (.t 30) (.t 34), none⟩]) (.cond (.t 35) (.seq (.region false [⟨some 4, .mov (.c (iv (-1))), none⟩]) .ret) .skip)) (.seq (.region true [⟨some 36, .mov (.t 0), none⟩,
   ⟨some 37, .mov (.t 5), none⟩,
   ⟨some 38, .ixa 1 (.t 36) (.t 37), none⟩,
   ⟨some 39, .load none (.t 38), none⟩,
   ⟨some 40, .mov (.t 1), none⟩,
   ⟨some 41, .mov (.t 5), none⟩,
   ⟨some 42, .ixa 1 (.t 40) (.t 41), none⟩,
   ⟨some 43, .load none (.t 42), none⟩,
   ⟨some 44, .bin .gtr false (.t 39) (.t 43), none⟩]) (.cond (.t 44) (.seq (.region false [⟨some 4, .mov (.c (iv 1)), none⟩]) .ret) .skip)))) (.region false [⟨some 25, .mov (.t 5), none⟩,
   ⟨some 26, .bin .sub false (.t 25) (.c (iv 1)), none⟩,
   ⟨some 5, .mov (.t 26), none⟩])))))) (.seq (.region false [⟨some 4, .mov (.c (iv 0)), none⟩]) .ret))))
def R.nat_Compare : List VRes := [.tmp 4]
theorem K.nat_Compare : resCode Tryd.prog Tryd.f48.ntmps (Tryd.f48.body.getD .skip) = C.nat_Compare := by kernel_rfl
theorem Q.nat_Compare : resResults Tryd.prog Tryd.f48.results.toList = some R.nat_Compare := by kernel_rfl
theorem E.nat_Compare : Tryd.prog.funcs[F.nat_Compare]? = some Tryd.f48 := Tryd.func48
theorem B.nat_Compare : Tryd.f48.body = some (Tryd.f48.body.getD .skip) := by kernel_rfl
theorem N.nat_Compare : Tryd.f48.ntmps = 45 := Tryd.ntmps48

def C.dyadic_odd : VC :=
  .seq (.region false [⟨some 2, .box (.t 0), none⟩,
   ⟨some 4, .alloc [.bool false, .slice none 0 0, .int .i64 0], none⟩]) (.seq (.seq (.region false [⟨some 6, .load (some 2) (.t 2), none⟩,
   ⟨some 7, .call F.whole_Sign [.t 6], none⟩,
   ⟨some 8, .bin .eql false (.t 7) (.c (iv 0)), none⟩]) (.cond (.t 8) (.seq (.region false [⟨some 9, .build [.bool false, .slice none 0 0, .int .i64 0] [], none⟩,
   ⟨none, .store 3 (.t 4) (.t 9), none⟩]) .ret) .skip)) (.seq (.region false [⟨some 10, .fa 1 (.t 2), none⟩,
   ⟨some 11, .load none (.t 10), none⟩,
   ⟨some 12, .call F.nat_Norm [.t 11], none⟩,
   ⟨some 13, .fa 1 (.t 2), none⟩,
   ⟨none, .store 1 (.t 13) (.t 12), none⟩]) (.seq (.region false [⟨some 14, .fa 1 (.t 2), none⟩,
   ⟨some 15, .load none (.t 14), none⟩,
   ⟨some 16, .call F.nat_Tail [.t 15], none⟩,
   ⟨some 5, .mov (.t 16), none⟩]) (.seq (.seq (.region false [⟨some 17, .mov (.t 5), none⟩,
   ⟨some 18, .bin .gtr false (.t 17) (.c (iv 0)), none⟩]) (.cond (.t 18) (.region false [⟨some 19, .fa 1 (.t 2), none⟩,
   ⟨some 20, .load none (.t 19), none⟩,
   ⟨some 21, .mov (.t 5), none⟩,
   ⟨some 22, .call F.dyadic_shifted [.t 20, .t 21], none⟩,
   ⟨some 23, .fa 1 (.t 2), none⟩,
   ⟨none, .store 1 (.t 23) (.t 22), none⟩]) .skip)) (.seq (.region false [⟨some 24, .load (some 2) (.t 2), none⟩,
   ⟨some 25, .build [.bool false, .slice none 0 0] [(0, (2, .t 24))], none⟩,
   ⟨some 26, .mov (.t 1), none⟩,
   ⟨some 27, .mov (.t 5), none⟩,
   ⟨some 28, .bin .add false (.t 26) (.t 27), none⟩,
   ⟨some 29, .build [.bool false, .slice none 0 0, .int .i64 0] [(0, (2, .t 25)), (2, (1, .t 28))], none⟩,
   ⟨none, .store 3 (.t 4) (.t 29), none⟩]) .ret)))))
def R.dyadic_odd : List VRes := [.cell 4 (some 3)]
theorem K.dyadic_odd : resCode Tryd.prog Tryd.f49.ntmps (Tryd.f49.body.getD .skip) = C.dyadic_odd := by kernel_rfl
theorem Q.dyadic_odd : resResults Tryd.prog Tryd.f49.results.toList = some R.dyadic_odd := by kernel_rfl
theorem E.dyadic_odd : Tryd.prog.funcs[F.dyadic_odd]? = some Tryd.f49 := Tryd.func49
theorem B.dyadic_odd : Tryd.f49.body = some (Tryd.f49.body.getD .skip) := by kernel_rfl
theorem N.dyadic_odd : Tryd.f49.ntmps = 30 := Tryd.ntmps49

def C.whole_Sign : VC :=
  .seq (.region false [⟨some 1, .box (.t 0), none⟩,
   ⟨some 2, .mov (.c (iv 0)), none⟩]) (.seq (.block 0 (.seq (.region false [⟨some 4, .fa 1 (.t 1), none⟩,
   ⟨some 5, .load none (.t 4), none⟩,
   ⟨some 6, .call F.nat_Length [.t 5], none⟩,
   ⟨some 7, .bin .eql false (.t 6) (.c (iv 0)), none⟩,
   ⟨some 3, .mov (.t 7), none⟩]) (.cond (.t 3) (.seq (.region false [⟨some 2, .mov (.c (iv 0)), none⟩]) .ret) (.seq (.region false [⟨some 9, .fa 0 (.t 1), none⟩,
   ⟨some 10, .load none (.t 9), none⟩,
   ⟨some 8, .mov (.t 10), none⟩]) (.cond (.t 8) (.seq (.region false [⟨some 2, .mov (.c (iv (-1))), none⟩]) .ret) .skip))))) (.seq (.region false [⟨some 2, .mov (.c (iv 1)), none⟩]) .ret))
def R.whole_Sign : List VRes := [.tmp 2]
theorem K.whole_Sign : resCode Tryd.prog Tryd.f50.ntmps (Tryd.f50.body.getD .skip) = C.whole_Sign := by kernel_rfl
theorem Q.whole_Sign : resResults Tryd.prog Tryd.f50.results.toList = some R.whole_Sign := by kernel_rfl
theorem E.whole_Sign : Tryd.prog.funcs[F.whole_Sign]? = some Tryd.f50 := Tryd.func50
theorem B.whole_Sign : Tryd.f50.body = some (Tryd.f50.body.getD .skip) := by kernel_rfl
theorem N.whole_Sign : Tryd.f50.ntmps = 11 := Tryd.ntmps50

def C.dyadic_part_length : VC :=
  .seq (.region false [⟨some 1, .box (.t 0), none⟩,
   ⟨some 2, .mov (.c (iv 0)), none⟩]) (.seq (.region false [⟨some 3, .fa 0 (.t 1), none⟩,
   ⟨some 4, .fa 1 (.t 3), none⟩,
   ⟨some 5, .load none (.t 4), none⟩,
   ⟨some 6, .call F.nat_Length [.t 5], none⟩,
   ⟨some 2, .mov (.t 6), none⟩]) .ret)
def R.dyadic_part_length : List VRes := [.tmp 2]
theorem K.dyadic_part_length : resCode Tryd.prog Tryd.f51.ntmps (Tryd.f51.body.getD .skip) = C.dyadic_part_length := by kernel_rfl
theorem Q.dyadic_part_length : resResults Tryd.prog Tryd.f51.results.toList = some R.dyadic_part_length := by kernel_rfl
theorem E.dyadic_part_length : Tryd.prog.funcs[F.dyadic_part_length]? = some Tryd.f51 := Tryd.func51
theorem B.dyadic_part_length : Tryd.f51.body = some (Tryd.f51.body.getD .skip) := by kernel_rfl
theorem N.dyadic_part_length : Tryd.f51.ntmps = 7 := Tryd.ntmps51

def C.whole_fits : VC :=
  .seq (.region false [⟨some 1, .box (.t 0), none⟩,
   ⟨some 2, .alloc [.bool false, .slice none 0 0], none⟩,
   ⟨some 3, .mov (.c (iv 0)), none⟩]) (.seq (.seq (.region false [⟨some 4, .fa 1 (.t 1), none⟩,
   ⟨some 5, .load none (.t 4), none⟩,
   ⟨some 6, .call F.nat_Length [.t 5], none⟩,
   ⟨some 7, .bin .gtr false (.t 6) (.c (iv 67108864)), none⟩]) (.cond (.t 7) (.seq (.region false [⟨some 8, .build [.bool false, .slice none 0 0] [], none⟩,
   ⟨none, .store 2 (.t 2) (.t 8), none⟩,
   ⟨some 3, .mov (.c (iv 3)), none⟩]) .ret) .skip)) (.seq (.region false [⟨some 9, .load (some 2) (.t 1), none⟩,
   ⟨some 10, .call F.whole_norm [.t 9], none⟩,
   ⟨none, .store 2 (.t 2) (.t 10), none⟩,
   ⟨some 3, .mov (.c (iv 0)), none⟩]) .ret))
def R.whole_fits : List VRes := [.cell 2 (some 2), .tmp 3]
theorem K.whole_fits : resCode Tryd.prog Tryd.f52.ntmps (Tryd.f52.body.getD .skip) = C.whole_fits := by kernel_rfl
theorem Q.whole_fits : resResults Tryd.prog Tryd.f52.results.toList = some R.whole_fits := by kernel_rfl
theorem E.whole_fits : Tryd.prog.funcs[F.whole_fits]? = some Tryd.f52 := Tryd.func52
theorem B.whole_fits : Tryd.f52.body = some (Tryd.f52.body.getD .skip) := by kernel_rfl
theorem N.whole_fits : Tryd.f52.ntmps = 11 := Tryd.ntmps52

def C.nat_Left : VC :=
  .seq (.region false [⟨some 4, .mov (.c nil1), none⟩,
   ⟨some 5, .mov (.c (iv 0)), none⟩]) (.seq (.seq (.region false [⟨some 11, .mov (.t 1), none⟩,
   ⟨some 12, .bin .lss false (.t 11) (.c (iv 0)), none⟩,
   ⟨some 13, .mov (.t 12), none⟩,
   ⟨some 14, .mov (.t 1), some (13, false)⟩,
   ⟨some 15, .bin .gtr false (.t 14) (.c (iv 1099511627776)), some (13, false)⟩,
   ⟨some 16, .pick (.t 13) (.c (bv true)) (.t 15), none⟩]) (.cond (.t 16) (.seq (.region false [⟨some 4, .mov (.c nil1), none⟩,
   ⟨some 5, .mov (.c (iv 1)), none⟩]) .ret) .skip)) (.seq (.region false [⟨some 17, .mov (.t 0), none⟩,
   ⟨some 18, .call F.nat_trim [.t 17], none⟩,
   ⟨some 0, .mov (.t 18), none⟩]) (.seq (.seq (.region false [⟨some 19, .mov (.t 0), none⟩,
   ⟨some 20, .len (.t 19), none⟩,
   ⟨some 21, .bin .eql false (.t 20) (.c (iv 0)), none⟩]) (.cond (.t 21) (.seq (.region false [⟨some 4, .mov (.c nil1), none⟩,
   ⟨some 5, .mov (.c (iv 0)), none⟩]) .ret) .skip)) (.seq (.seq (.region false [⟨some 22, .mov (.t 0), none⟩,
   ⟨some 23, .call F.nat_Length [.t 22], none⟩,
   ⟨some 24, .mov (.t 1), none⟩,
   ⟨some 25, .bin .add false (.t 23) (.t 24), none⟩,
   ⟨some 26, .bin .gtr false (.t 25) (.c (iv 67108864)), none⟩]) (.cond (.t 26) (.seq (.region false [⟨some 4, .mov (.c nil1), none⟩,
   ⟨some 5, .mov (.c (iv 3)), none⟩]) .ret) .skip)) (.seq (.region false [⟨some 27, .mov (.t 1), none⟩,
   ⟨some 28, .bin .quo false (.t 27) (.c (iv 64)), none⟩,
   ⟨some 29, .mov (.t 1), none⟩,
   ⟨some 30, .bin .rem false (.t 29) (.c (iv 64)), none⟩,
   ⟨some 31, .conv .u64 (.t 30), none⟩,
   ⟨some 6, .mov (.t 28), none⟩,
   ⟨some 7, .mov (.t 31), none⟩]) (.seq (.region false [⟨some 32, .mov (.t 6), none⟩,
   ⟨some 33, .mov (.t 0), none⟩,
   ⟨some 34, .len (.t 33), none⟩,
   ⟨some 35, .bin .add false (.t 32) (.t 34), none⟩,
   ⟨some 36, .bin .add false (.t 35) (.c (iv 1)), none⟩,
   ⟨some 37, .mk [.int .u64 0] 8 (.t 36) (.t 36), none⟩,
   ⟨some 8, .mov (.t 37), none⟩]) (.seq (.seq (.region false [⟨some 38, .mov (.t 0), none⟩,
   ⟨some 39, .len (.t 38), none⟩,
   ⟨some 40, .mov (.c (iv 0)), none⟩]) (.block 0 (.loop (.seq (.region false [⟨some 41, .bin .lss false (.t 40) (.t 39), none⟩]) (.seq (.cond (.t 41) .skip (.exit 0)) (.seq (.block 1 (.seq (.region false [⟨some 42, .mov (.t 40), none⟩,
   ⟨some 43, .ixa 1 (.t 38) (.t 40), none⟩,
   ⟨some 44, .load none (.t 43), none⟩,
   ⟨some 9, .mov (.t 42), none⟩,
   ⟨some 10, .mov (.t 44), none⟩]) (.seq (.region false [⟨some 45, .mov (.t 8), none⟩,
   ⟨some 46, .mov (.t 6), none⟩,
   ⟨some 47, .mov (.t 9), none⟩,
   ⟨some 48, .bin .add false (.t 46) (.t 47), none⟩,
   ⟨some 49, .ixa 1 (.t 45) (.t 48), none⟩,
   ⟨some 50, .load none (.t 49), none⟩,
   ⟨some 51, .mov (.t 10), none⟩,
   ⟨some 52, .mov (.t 7), none⟩,
   ⟨some 53, .bin .shl false (.t 51) (.t 52), none⟩,
   ⟨some 54, .bin .or false (.t 50) (.t 53), none⟩,
   ⟨some 55, .ixa 1 (.t 45) (.t 48), none⟩,
   ⟨none, .store 1 (.t 55) (.t 54), none⟩]) (.region false [⟨some 56, .mov (.t 8), none⟩,
   ⟨some 57, .mov (.t 6), none⟩,
   ⟨some 58, .mov (.t 9), none⟩,
   ⟨some 59, .bin .add false (.t 57) (.t 58), none⟩,
   ⟨some 60, .bin .add false (.t 59) (.c (iv 1)), none⟩,
   ⟨some 61, .ixa 1 (.t 56) (.t 60), none⟩,
   ⟨some 62, .load none (.t 61), none⟩,
   ⟨some 63, .mov (.t 10), none⟩,
   ⟨some 64, .bin .shr false (.t 63) (.c (nv 1)), none⟩,
   ⟨some 65, .mov (.t 7), none⟩,
   ⟨some 66, .bin .sub false (.c (nv 63)) (.t 65), none⟩,
   ⟨some 67, .bin .shr false (.t 64) (.t 66), none⟩,
   ⟨some 68, .bin .or false (.t 62) (.t 67), none⟩,
   ⟨some 69, .ixa 1 (.t 56) (.t 60), none⟩,
   ⟨none, .store 1 (.t 69) (.t 68), none⟩])))) (.region false [⟨some 70, .bin .add false (.t 40) (.c (iv 1)), none⟩,
   ⟨some 40, .mov (.t 70), none⟩]))))))) (.seq (.region false [⟨some 71, .mov (.t 8), none⟩,
   ⟨some 72, .call F.nat_trim [.t 71], none⟩,
   ⟨some 4, .mov (.t 72), none⟩,
   ⟨some 5, .mov (.c (iv 0)), none⟩]) .ret))))))))
def R.nat_Left : List VRes := [.tmp 4, .tmp 5]
theorem K.nat_Left : resCode Tryd.prog Tryd.f53.ntmps (Tryd.f53.body.getD .skip) = C.nat_Left := by kernel_rfl
theorem Q.nat_Left : resResults Tryd.prog Tryd.f53.results.toList = some R.nat_Left := by kernel_rfl
theorem E.nat_Left : Tryd.prog.funcs[F.nat_Left]? = some Tryd.f53 := Tryd.func53
theorem B.nat_Left : Tryd.f53.body = some (Tryd.f53.body.getD .skip) := by kernel_rfl
theorem N.nat_Left : Tryd.f53.ntmps = 73 := Tryd.ntmps53

def C.nat_Norm : VC :=
  .seq (.region false [⟨some 2, .mov (.c nil1), none⟩]) (.seq (.region false [⟨some 3, .mov (.t 0), none⟩,
   ⟨some 4, .call F.nat_trim [.t 3], none⟩,
   ⟨some 5, .app 1 8 [.int .u64 0] (.c nil1) (.t 4), none⟩,
   ⟨some 2, .mov (.t 5), none⟩]) .ret)
def R.nat_Norm : List VRes := [.tmp 2]
theorem K.nat_Norm : resCode Tryd.prog Tryd.f54.ntmps (Tryd.f54.body.getD .skip) = C.nat_Norm := by kernel_rfl
theorem Q.nat_Norm : resResults Tryd.prog Tryd.f54.results.toList = some R.nat_Norm := by kernel_rfl
theorem E.nat_Norm : Tryd.prog.funcs[F.nat_Norm]? = some Tryd.f54 := Tryd.func54
theorem B.nat_Norm : Tryd.f54.body = some (Tryd.f54.body.getD .skip) := by kernel_rfl
theorem N.nat_Norm : Tryd.f54.ntmps = 6 := Tryd.ntmps54

def C.dyadic_minus : VC :=
  .seq (.region false [⟨some 4, .mov (.c nil1), none⟩]) (.seq (.region false [⟨some 11, .mov (.t 0), none⟩,
   ⟨some 12, .len (.t 11), none⟩,
   ⟨some 13, .mk [.int .u64 0] 8 (.t 12) (.t 12), none⟩,
   ⟨some 5, .mov (.t 13), none⟩]) (.seq (.region false [⟨some 6, .mov (.c (nv 0)), none⟩]) (.seq (.seq (.region false [⟨some 14, .mov (.t 5), none⟩,
   ⟨some 15, .len (.t 14), none⟩,
   ⟨some 16, .mov (.c (iv 0)), none⟩]) (.block 0 (.loop (.seq (.region false [⟨some 17, .bin .lss false (.t 16) (.t 15), none⟩]) (.seq (.cond (.t 17) .skip (.exit 0)) (.seq (.block 1 (.seq (.region false [⟨some 18, .mov (.t 16), none⟩,
   ⟨some 7, .mov (.t 18), none⟩]) (.seq (.region false [⟨some 19, .mov (.t 0), none⟩,
   ⟨some 20, .mov (.t 7), none⟩,
   ⟨some 21, .call F.dyadic_limb [.t 19, .t 20], none⟩,
   ⟨some 22, .mov (.t 1), none⟩,
   ⟨some 23, .mov (.t 7), none⟩,
   ⟨some 24, .call F.dyadic_limb [.t 22, .t 23], none⟩,
   ⟨some 8, .mov (.t 21), none⟩,
   ⟨some 9, .mov (.t 24), none⟩]) (.seq (.region false [⟨some 25, .mov (.t 8), none⟩,
   ⟨some 26, .mov (.t 9), none⟩,
   ⟨some 27, .bin .sub false (.t 25) (.t 26), none⟩,
   ⟨some 28, .mov (.t 6), none⟩,
   ⟨some 29, .bin .sub false (.t 27) (.t 28), none⟩,
   ⟨some 10, .mov (.t 29), none⟩]) (.seq (.seq (.region false [⟨some 30, .mov (.t 8), none⟩,
   ⟨some 31, .mov (.t 9), none⟩,
   ⟨some 32, .bin .lss false (.t 30) (.t 31), none⟩,
   ⟨some 33, .mov (.t 32), none⟩,
   ⟨some 34, .mov (.t 8), some (33, false)⟩,
   ⟨some 35, .mov (.t 9), some (33, false)⟩,
   ⟨some 36, .bin .eql false (.t 34) (.t 35), some (33, false)⟩,
   ⟨some 37, .mov (.t 36), some (33, false)⟩,
   ⟨some 38, .mov (.t 6), some (37, true)⟩,
   ⟨some 39, .bin .eql false (.t 38) (.c (nv 1)), some (37, true)⟩,
   ⟨some 40, .pick (.t 37) (.t 39) (.c (bv false)), some (33, false)⟩,
   ⟨some 41, .pick (.t 33) (.c (bv true)) (.t 40), none⟩]) (.cond (.t 41) (.region false [⟨some 6, .mov (.c (nv 1)), none⟩]) (.region false [⟨some 6, .mov (.c (nv 0)), none⟩]))) (.region false [⟨some 42, .mov (.t 5), none⟩,
   ⟨some 43, .mov (.t 7), none⟩,
   ⟨some 44, .mov (.t 10), none⟩,
   ⟨some 45, .ixa 1 (.t 42) (.t 43), none⟩,
   ⟨none, .store 1 (.t 45) (.t 44), none⟩])))))) (.region false [⟨some 46, .bin .add false (.t 16) (.c (iv 1)), none⟩,
   ⟨some 16, .mov (.t 46), none⟩]))))))) (.seq (.region false [⟨some 47, .mov (.t 5), none⟩,
   ⟨some 48, .call F.nat_Norm [.t 47], none⟩,
   ⟨some 4, .mov (.t 48), none⟩]) .ret))))
def R.dyadic_minus : List VRes := [.tmp 4]
theorem K.dyadic_minus : resCode Tryd.prog Tryd.f55.ntmps (Tryd.f55.body.getD .skip) = C.dyadic_minus := by kernel_rfl
theorem Q.dyadic_minus : resResults Tryd.prog Tryd.f55.results.toList = some R.dyadic_minus := by kernel_rfl
theorem E.dyadic_minus : Tryd.prog.funcs[F.dyadic_minus]? = some Tryd.f55 := Tryd.func55
theorem B.dyadic_minus : Tryd.f55.body = some (Tryd.f55.body.getD .skip) := by kernel_rfl
theorem N.dyadic_minus : Tryd.f55.ntmps = 49 := Tryd.ntmps55

def C.dyadic_plus : VC :=
  .seq (.region false [⟨some 4, .mov (.c nil1), none⟩]) (.seq (.region false [⟨some 12, .mov (.t 0), none⟩,
   ⟨some 13, .len (.t 12), none⟩,
   ⟨some 14, .mov (.t 1), none⟩,
   ⟨some 15, .len (.t 14), none⟩,
   ⟨some 16, .mm true (.t 13) (.t 15), none⟩,
   ⟨some 17, .bin .add false (.t 16) (.c (iv 1)), none⟩,
   ⟨some 18, .mk [.int .u64 0] 8 (.t 17) (.t 17), none⟩,
   ⟨some 5, .mov (.t 18), none⟩]) (.seq (.region false [⟨some 6, .mov (.c (nv 0)), none⟩]) (.seq (.seq (.region false [⟨some 19, .mov (.t 5), none⟩,
   ⟨some 20, .len (.t 19), none⟩,
   ⟨some 21, .mov (.c (iv 0)), none⟩]) (.block 0 (.loop (.seq (.region false [⟨some 22, .bin .lss false (.t 21) (.t 20), none⟩]) (.seq (.cond (.t 22) .skip (.exit 0)) (.seq (.block 1 (.seq (.region false [⟨some 23, .mov (.t 21), none⟩,
   ⟨some 7, .mov (.t 23), none⟩]) (.seq (.region false [⟨some 24, .mov (.t 0), none⟩,
   ⟨some 25, .mov (.t 7), none⟩,
   ⟨some 26, .call F.dyadic_limb [.t 24, .t 25], none⟩,
   ⟨some 27, .mov (.t 1), none⟩,
   ⟨some 28, .mov (.t 7), none⟩,
   ⟨some 29, .call F.dyadic_limb [.t 27, .t 28], none⟩,
   ⟨some 8, .mov (.t 26), none⟩,
   ⟨some 9, .mov (.t 29), none⟩]) (.seq (.region false [⟨some 30, .mov (.t 8), none⟩,
   ⟨some 31, .mov (.t 9), none⟩,
   ⟨some 32, .bin .add false (.t 30) (.t 31), none⟩,
   ⟨some 10, .mov (.t 32), none⟩]) (.seq (.region false [⟨some 33, .mov (.t 10), none⟩,
   ⟨some 34, .mov (.t 6), none⟩,
   ⟨some 35, .bin .add false (.t 33) (.t 34), none⟩,
   ⟨some 11, .mov (.t 35), none⟩]) (.seq (.region false [⟨some 6, .mov (.c (nv 0)), none⟩]) (.seq (.seq (.region false [⟨some 36, .mov (.t 10), none⟩,
   ⟨some 37, .mov (.t 8), none⟩,
   ⟨some 38, .bin .lss false (.t 36) (.t 37), none⟩,
   ⟨some 39, .mov (.t 38), none⟩,
   ⟨some 40, .mov (.t 11), some (39, false)⟩,
   ⟨some 41, .mov (.t 10), some (39, false)⟩,
   ⟨some 42, .bin .lss false (.t 40) (.t 41), some (39, false)⟩,
   ⟨some 43, .pick (.t 39) (.c (bv true)) (.t 42), none⟩]) (.cond (.t 43) (.region false [⟨some 6, .mov (.c (nv 1)), none⟩]) .skip)) (.region false [⟨some 44, .mov (.t 5), none⟩,
   ⟨some 45, .mov (.t 7), none⟩,
   ⟨some 46, .mov (.t 11), none⟩,
   ⟨some 47, .ixa 1 (.t 44) (.t 45), none⟩,
   ⟨none, .store 1 (.t 47) (.t 46), none⟩])))))))) (.region false [⟨some 48, .bin .add false (.t 21) (.c (iv 1)), none⟩,
   ⟨some 21, .mov (.t 48), none⟩]))))))) (.seq (.region false [⟨some 49, .mov (.t 5), none⟩,
   ⟨some 50, .call F.nat_Norm [.t 49], none⟩,
   ⟨some 4, .mov (.t 50), none⟩]) .ret))))
def R.dyadic_plus : List VRes := [.tmp 4]
theorem K.dyadic_plus : resCode Tryd.prog Tryd.f56.ntmps (Tryd.f56.body.getD .skip) = C.dyadic_plus := by kernel_rfl
theorem Q.dyadic_plus : resResults Tryd.prog Tryd.f56.results.toList = some R.dyadic_plus := by kernel_rfl
theorem E.dyadic_plus : Tryd.prog.funcs[F.dyadic_plus]? = some Tryd.f56 := Tryd.func56
theorem B.dyadic_plus : Tryd.f56.body = some (Tryd.f56.body.getD .skip) := by kernel_rfl
theorem N.dyadic_plus : Tryd.f56.ntmps = 51 := Tryd.ntmps56

def C.whole_norm : VC :=
  .seq (.region false [⟨some 1, .box (.t 0), none⟩,
   ⟨some 2, .alloc [.bool false, .slice none 0 0], none⟩]) (.seq (.region false [⟨some 4, .fa 1 (.t 1), none⟩,
   ⟨some 5, .load none (.t 4), none⟩,
   ⟨some 6, .call F.nat_Norm [.t 5], none⟩,
   ⟨some 3, .mov (.t 6), none⟩]) (.seq (.region false [⟨some 7, .fa 0 (.t 1), none⟩,
   ⟨some 8, .load none (.t 7), none⟩,
   ⟨some 9, .mov (.t 8), none⟩,
   ⟨some 10, .mov (.t 3), some (9, true)⟩,
   ⟨some 11, .len (.t 10), some (9, true)⟩,
   ⟨some 12, .bin .gtr false (.t 11) (.c (iv 0)), some (9, true)⟩,
   ⟨some 13, .pick (.t 9) (.t 12) (.c (bv false)), none⟩,
   ⟨some 14, .mov (.t 3), none⟩,
   ⟨some 15, .build [.bool false, .slice none 0 0] [(0, (1, .t 13)), (1, (1, .t 14))], none⟩,
   ⟨none, .store 2 (.t 2) (.t 15), none⟩]) .ret))
def R.whole_norm : List VRes := [.cell 2 (some 2)]
theorem K.whole_norm : resCode Tryd.prog Tryd.f57.ntmps (Tryd.f57.body.getD .skip) = C.whole_norm := by kernel_rfl
theorem Q.whole_norm : resResults Tryd.prog Tryd.f57.results.toList = some R.whole_norm := by kernel_rfl
theorem E.whole_norm : Tryd.prog.funcs[F.whole_norm]? = some Tryd.f57 := Tryd.func57
theorem B.whole_norm : Tryd.f57.body = some (Tryd.f57.body.getD .skip) := by kernel_rfl
theorem N.whole_norm : Tryd.f57.ntmps = 16 := Tryd.ntmps57

def C.nat_Add : VC :=
  .seq (.region false [⟨some 4, .mov (.c nil1), none⟩,
   ⟨some 5, .mov (.c (iv 0)), none⟩]) (.seq (.region false [⟨some 10, .mov (.t 0), none⟩,
   ⟨some 11, .call F.nat_trim [.t 10], none⟩,
   ⟨some 12, .mov (.t 1), none⟩,
   ⟨some 13, .call F.nat_trim [.t 12], none⟩,
   ⟨some 0, .mov (.t 11), none⟩,
   ⟨some 1, .mov (.t 13), none⟩]) (.seq (.seq (.region false [⟨some 14, .mov (.t 0), none⟩,
   ⟨some 15, .len (.t 14), none⟩,
   ⟨some 16, .mov (.t 1), none⟩,
   ⟨some 17, .len (.t 16), none⟩,
   ⟨some 18, .bin .lss false (.t 15) (.t 17), none⟩]) (.cond (.t 18) (.region false [⟨some 19, .mov (.t 1), none⟩,
   ⟨some 20, .mov (.t 0), none⟩,
   ⟨some 0, .mov (.t 19), none⟩,
   ⟨some 1, .mov (.t 20), none⟩]) .skip)) (.seq (.region false [⟨some 21, .mov (.t 0), none⟩,
   ⟨some 22, .len (.t 21), none⟩,
   ⟨some 23, .bin .add false (.t 22) (.c (iv 1)), none⟩,
   ⟨some 24, .mk [.int .u64 0] 8 (.t 23) (.t 23), none⟩,
   ⟨some 6, .mov (.t 24), none⟩]) (.seq (.region false [⟨some 7, .mov (.c (nv 0)), none⟩]) (.seq (.seq (.region false [⟨some 25, .mov (.t 0), none⟩,
   ⟨some 26, .len (.t 25), none⟩,
   ⟨some 27, .mov (.c (iv 0)), none⟩]) (.block 0 (.loop (.seq (.region false [⟨some 28, .bin .lss false (.t 27) (.t 26), none⟩]) (.seq (.cond (.t 28) .skip (.exit 0)) (.seq (.block 1 (.seq (.region false [⟨some 29, .mov (.t 27), none⟩,
   ⟨some 8, .mov (.t 29), none⟩]) (.seq (.region false [⟨some 9, .mov (.c (nv 0)), none⟩]) (.seq (.seq (.region false [⟨some 30, .mov (.t 8), none⟩,
   ⟨some 31, .mov (.t 1), none⟩,
   ⟨some 32, .len (.t 31), none⟩,
   ⟨some 33, .bin .lss false (.t 30) (.t 32), none⟩]) (.cond (.t 33) (.region false [⟨some 34, .mov (.t 1), none⟩,
   ⟨some 35, .mov (.t 8), none⟩,
   ⟨some 36, .ixa 1 (.t 34) (.t 35), none⟩,
   ⟨some 37, .load none (.t 36), none⟩,
   ⟨some 9, .mov (.t 37), none⟩]) .skip)) (.region false [⟨some 39, .mov (.t 6), none⟩,
   ⟨some 40, .mov (.t 8), none⟩,
   ⟨some 41, .mov (.t 0), none⟩,
   ⟨some 42, .mov (.t 8), none⟩,
   ⟨some 43, .ixa 1 (.t 41) (.t 42), none⟩,
   ⟨some 44, .load none (.t 43), none⟩,
   ⟨some 45, .mov (.t 9), none⟩,
   ⟨some 46, .mov (.t 7), none⟩,
   ⟨some 47, .ext64 false (.t 44) (.t 45) (.t 46), none⟩,
   ⟨some 38, .mov (.t 47), none⟩,
   ⟨some 48, .ext (.t 38) 0, none⟩,
   ⟨some 49, .ext (.t 38) 1, none⟩,
   ⟨some 50, .ixa 1 (.t 39) (.t 40), none⟩,
   ⟨none, .store 1 (.t 50) (.t 48), none⟩,
   ⟨some 7, .mov (.t 49), none⟩]))))) (.region false [⟨some 51, .bin .add false (.t 27) (.c (iv 1)), none⟩,
   ⟨some 27, .mov (.t 51), none⟩]))))))) (.seq (.region false [⟨some 52, .mov (.t 6), none⟩,
   ⟨some 53, .mov (.t 0), none⟩,
   ⟨some 54, .len (.t 53), none⟩,
   ⟨some 55, .mov (.t 7), none⟩,
   ⟨some 56, .ixa 1 (.t 52) (.t 54), none⟩,
   ⟨none, .store 1 (.t 56) (.t 55), none⟩]) (.seq (.region false [⟨some 57, .mov (.t 6), none⟩,
   ⟨some 58, .call F.nat_told [.t 57], none⟩,
   ⟨some 59, .ext (.t 58) 0, none⟩,
   ⟨some 60, .ext (.t 58) 1, none⟩,
   ⟨some 4, .mov (.t 59), none⟩,
   ⟨some 5, .mov (.t 60), none⟩]) .ret)))))))
def R.nat_Add : List VRes := [.tmp 4, .tmp 5]
theorem K.nat_Add : resCode Tryd.prog Tryd.f58.ntmps (Tryd.f58.body.getD .skip) = C.nat_Add := by kernel_rfl
theorem Q.nat_Add : resResults Tryd.prog Tryd.f58.results.toList = some R.nat_Add := by kernel_rfl
theorem E.nat_Add : Tryd.prog.funcs[F.nat_Add]? = some Tryd.f58 := Tryd.func58
theorem B.nat_Add : Tryd.f58.body = some (Tryd.f58.body.getD .skip) := by kernel_rfl
theorem N.nat_Add : Tryd.f58.ntmps = 61 := Tryd.ntmps58

def C.whole_result : VC :=
  .seq (.region false [⟨some 6, .alloc [.bool false, .slice none 0 0], none⟩,
   ⟨some 7, .mov (.c (iv 0)), none⟩]) (.seq (.seq (.region false [⟨some 8, .mov (.t 2), none⟩,
   ⟨some 9, .bin .neq false (.t 8) (.c (iv 0)), none⟩]) (.cond (.t 9) (.seq (.region false [⟨some 10, .build [.bool false, .slice none 0 0] [], none⟩,
   ⟨some 11, .mov (.t 2), none⟩,
   ⟨none, .store 2 (.t 6) (.t 10), none⟩,
   ⟨some 7, .mov (.t 11), none⟩]) .ret) .skip)) (.seq (.region false [⟨some 12, .mov (.t 0), none⟩,
   ⟨some 13, .mov (.t 1), none⟩,
   ⟨some 14, .build [.bool false, .slice none 0 0] [(0, (1, .t 12)), (1, (1, .t 13))], none⟩,
   ⟨some 15, .call F.whole_fits [.t 14], none⟩,
   ⟨some 16, .ext (.t 15) 0, none⟩,
   ⟨some 17, .ext (.t 15) 1, none⟩,
   ⟨none, .store 2 (.t 6) (.t 16), none⟩,
   ⟨some 7, .mov (.t 17), none⟩]) .ret))
def R.whole_result : List VRes := [.cell 6 (some 2), .tmp 7]
theorem K.whole_result : resCode Tryd.prog Tryd.f59.ntmps (Tryd.f59.body.getD .skip) = C.whole_result := by kernel_rfl
theorem Q.whole_result : resResults Tryd.prog Tryd.f59.results.toList = some R.whole_result := by kernel_rfl
theorem E.whole_result : Tryd.prog.funcs[F.whole_result]? = some Tryd.f59 := Tryd.func59
theorem B.whole_result : Tryd.f59.body = some (Tryd.f59.body.getD .skip) := by kernel_rfl
theorem N.whole_result : Tryd.f59.ntmps = 18 := Tryd.ntmps59

def C.nat_Sub : VC :=
  .seq (.region false [⟨some 4, .mov (.c nil1), none⟩,
   ⟨some 5, .mov (.c (iv 0)), none⟩]) (.seq (.seq (.region false [⟨some 10, .mov (.t 0), none⟩,
   ⟨some 11, .mov (.t 1), none⟩,
   ⟨some 12, .call F.nat_Compare [.t 10, .t 11], none⟩,
   ⟨some 13, .bin .lss false (.t 12) (.c (iv 0)), none⟩]) (.cond (.t 13) (.seq (.region false [⟨some 4, .mov (.c nil1), none⟩,
   ⟨some 5, .mov (.c (iv 10)), none⟩]) .ret) .skip)) (.seq (.region false [⟨some 14, .mov (.t 0), none⟩,
   ⟨some 15, .call F.nat_trim [.t 14], none⟩,
   ⟨some 16, .mov (.t 1), none⟩,
   ⟨some 17, .call F.nat_trim [.t 16], none⟩,
   ⟨some 0, .mov (.t 15), none⟩,
   ⟨some 1, .mov (.t 17), none⟩]) (.seq (.region false [⟨some 18, .mov (.t 0), none⟩,
   ⟨some 19, .len (.t 18), none⟩,
   ⟨some 20, .mk [.int .u64 0] 8 (.t 19) (.t 19), none⟩,
   ⟨some 6, .mov (.t 20), none⟩]) (.seq (.region false [⟨some 7, .mov (.c (nv 0)), none⟩]) (.seq (.seq (.region false [⟨some 21, .mov (.t 0), none⟩,
   ⟨some 22, .len (.t 21), none⟩,
   ⟨some 23, .mov (.c (iv 0)), none⟩]) (.block 0 (.loop (.seq (.region false [⟨some 24, .bin .lss false (.t 23) (.t 22), none⟩]) (.seq (.cond (.t 24) .skip (.exit 0)) (.seq (.block 1 (.seq (.region false [⟨some 25, .mov (.t 23), none⟩,
   ⟨some 8, .mov (.t 25), none⟩]) (.seq (.region false [⟨some 9, .mov (.c (nv 0)), none⟩]) (.seq (.seq (.region false [⟨some 26, .mov (.t 8), none⟩,
   ⟨some 27, .mov (.t 1), none⟩,
   ⟨some 28, .len (.t 27), none⟩,
   ⟨some 29, .bin .lss false (.t 26) (.t 28), none⟩]) (.cond (.t 29) (.region false [⟨some 30, .mov (.t 1), none⟩,
   ⟨some 31, .mov (.t 8), none⟩,
   ⟨some 32, .ixa 1 (.t 30) (.t 31), none⟩,
   ⟨some 33, .load none (.t 32), none⟩,
   ⟨some 9, .mov (.t 33), none⟩]) .skip)) (.region false [⟨some 35, .mov (.t 6), none⟩,
   ⟨some 36, .mov (.t 8), none⟩,
   ⟨some 37, .mov (.t 0), none⟩,
   ⟨some 38, .mov (.t 8), none⟩,
   ⟨some 39, .ixa 1 (.t 37) (.t 38), none⟩,
   ⟨some 40, .load none (.t 39), none⟩,
   ⟨some 41, .mov (.t 9), none⟩,
   ⟨some 42, .mov (.t 7), none⟩,
   ⟨some 43, .ext64 true (.t 40) (.t 41) (.t 42), none⟩,
   ⟨some 34, .mov (.t 43), none⟩,
   ⟨some 44, .ext (.t 34) 0, none⟩,
   ⟨some 45, .ext (.t 34) 1, none⟩,
   ⟨some 46, .ixa 1 (.t 35) (.t 36), none⟩,
   ⟨none, .store 1 (.t 46) (.t 44), none⟩,
   ⟨some 7, .mov (.t 45), none⟩]))))) (.region false [⟨some 47, .bin .add false (.t 23) (.c (iv 1)), none⟩,
   ⟨some 23, .mov (.t 47), none⟩]))))))) (.seq (.region false [⟨some 48, .mov (.t 6), none⟩,
   ⟨some 49, .call F.nat_told [.t 48], none⟩,
   ⟨some 50, .ext (.t 49) 0, none⟩,
   ⟨some 51, .ext (.t 49) 1, none⟩,
   ⟨some 4, .mov (.t 50), none⟩,
   ⟨some 5, .mov (.t 51), none⟩]) .ret))))))
def R.nat_Sub : List VRes := [.tmp 4, .tmp 5]
theorem K.nat_Sub : resCode Tryd.prog Tryd.f60.ntmps (Tryd.f60.body.getD .skip) = C.nat_Sub := by kernel_rfl
theorem Q.nat_Sub : resResults Tryd.prog Tryd.f60.results.toList = some R.nat_Sub := by kernel_rfl
theorem E.nat_Sub : Tryd.prog.funcs[F.nat_Sub]? = some Tryd.f60 := Tryd.func60
theorem B.nat_Sub : Tryd.f60.body = some (Tryd.f60.body.getD .skip) := by kernel_rfl
theorem N.nat_Sub : Tryd.f60.ntmps = 52 := Tryd.ntmps60

def C.dyadic_steps : VC :=
  .seq (.region false [⟨some 3, .box (.t 0), none⟩,
   ⟨some 6, .alloc [.bool false, .slice none 0 0], none⟩]) (.seq (.seq (.region false [⟨some 10, .fa 0 (.t 3), none⟩,
   ⟨some 11, .load (some 2) (.t 10), none⟩,
   ⟨some 12, .call F.dyadic_part_sign [.t 11], none⟩,
   ⟨some 13, .bin .eql false (.t 12) (.c (iv 0)), none⟩,
   ⟨some 14, .mov (.t 13), none⟩,
   ⟨some 15, .fa 2 (.t 3), some (14, false)⟩,
   ⟨some 16, .load none (.t 15), some (14, false)⟩,
   ⟨some 17, .mov (.t 1), some (14, false)⟩,
   ⟨some 18, .bin .geq false (.t 16) (.t 17), some (14, false)⟩,
   ⟨some 19, .pick (.t 14) (.c (bv true)) (.t 18), none⟩]) (.cond (.t 19) (.seq (.region true [⟨some 20, .fa 0 (.t 3), none⟩,
   ⟨some 21, .fa 0 (.t 20), none⟩,
   ⟨some 22, .fa 0 (.t 21), none⟩,
   ⟨some 23, .load none (.t 22), none⟩,
   ⟨some 24, .fa 0 (.t 3), none⟩,
   ⟨some 25, .fa 0 (.t 24), none⟩,
   ⟨some 26, .fa 1 (.t 25), none⟩,
   ⟨some 27, .load none (.t 26), none⟩,
   ⟨some 28, .fa 2 (.t 3), none⟩,
   ⟨some 29, .load none (.t 28), none⟩,
   ⟨some 30, .mov (.t 1), none⟩,
   ⟨some 31, .bin .sub false (.t 29) (.t 30), none⟩,
   ⟨some 32, .mm true (.t 31) (.c (iv 0)), none⟩,
   ⟨some 33, .call F.dyadic_left [.t 27, .t 32], none⟩,
   ⟨some 34, .build [.bool false, .slice none 0 0] [(0, (1, .t 23)), (1, (1, .t 33))], none⟩,
   ⟨none, .storeA 2 (.t 6) (.t 34) [], none⟩]) .ret) .skip)) (.seq (.region false [⟨some 35, .mov (.t 1), none⟩,
   ⟨some 36, .fa 2 (.t 3), none⟩,
   ⟨some 37, .load none (.t 36), none⟩,
   ⟨some 38, .bin .sub false (.t 35) (.t 37), none⟩,
   ⟨some 7, .mov (.t 38), none⟩]) (.seq (.region false [⟨some 8, .mov (.c nil1), none⟩]) (.seq (.seq (.region false [⟨some 39, .mov (.t 7), none⟩,
   ⟨some 40, .fa 0 (.t 3), none⟩,
   ⟨some 41, .load (some 2) (.t 40), none⟩,
   ⟨some 42, .call F.dyadic_part_length [.t 41], none⟩,
   ⟨some 43, .bin .lss false (.t 39) (.t 42), none⟩]) (.cond (.t 43) (.region false [⟨some 44, .fa 0 (.t 3), none⟩,
   ⟨some 45, .fa 0 (.t 44), none⟩,
   ⟨some 46, .fa 1 (.t 45), none⟩,
   ⟨some 47, .load none (.t 46), none⟩,
   ⟨some 48, .mov (.t 7), none⟩,
   ⟨some 49, .call F.dyadic_shifted [.t 47, .t 48], none⟩,
   ⟨some 8, .mov (.t 49), none⟩]) .skip)) (.seq (.region false [⟨some 9, .mov (.c (bv false)), none⟩]) (.seq (.seq (.region false [⟨some 50, .mov (.t 2), none⟩]) (.block 0 (.seq (.region false [⟨some 57, .bin .eql false (.t 50) (.c (iv 2)), none⟩,
   ⟨some 56, .mov (.t 57), none⟩]) (.cond (.t 56) (.seq (.seq (.region false [⟨some 58, .fa 0 (.t 3), none⟩,
   ⟨some 59, .fa 0 (.t 58), none⟩,
   ⟨some 60, .fa 1 (.t 59), none⟩,
   ⟨some 61, .load none (.t 60), none⟩,
   ⟨some 62, .mov (.t 7), none⟩,
   ⟨some 63, .bin .sub false (.t 62) (.c (iv 1)), none⟩,
   ⟨some 64, .call F.nat_Bit [.t 61, .t 63], none⟩,
   ⟨some 65, .bin .eql false (.t 64) (.c (iv 1)), none⟩,
   ⟨some 66, .mov (.t 65), none⟩,
   ⟨some 67, .fa 0 (.t 3), some (66, true)⟩,
   ⟨some 68, .fa 0 (.t 67), some (66, true)⟩,
   ⟨some 69, .fa 1 (.t 68), some (66, true)⟩,
   ⟨some 70, .load none (.t 69), some (66, true)⟩,
   ⟨some 71, .call F.nat_Tail [.t 70], some (66, true)⟩,
   ⟨some 72, .mov (.t 7), some (66, true)⟩,
   ⟨some 73, .bin .sub false (.t 72) (.c (iv 1)), some (66, true)⟩,
   ⟨some 74, .bin .lss false (.t 71) (.t 73), some (66, true)⟩,
   ⟨some 75, .mov (.t 74), some (66, true)⟩,
   ⟨some 76, .mov (.t 8), some (75, false)⟩,
   ⟨some 77, .call F.nat_Bit [.t 76, .c (iv 0)], some (75, false)⟩,
   ⟨some 78, .bin .eql false (.t 77) (.c (iv 1)), some (75, false)⟩,
   ⟨some 79, .pick (.t 75) (.c (bv true)) (.t 78), some (66, true)⟩,
   ⟨some 80, .pick (.t 66) (.t 79) (.c (bv false)), none⟩,
   ⟨some 81, .un .not (.t 80), none⟩]) (.cond (.t 81) (.exit 0) .skip)) (.region false [⟨some 9, .mov (.c (bv true)), none⟩])) (.seq (.region false [⟨some 83, .bin .eql false (.t 50) (.c (iv 0)), none⟩,
   ⟨some 82, .mov (.t 83), none⟩]) (.cond (.t 82) (.region false [⟨some 84, .fa 0 (.t 3), none⟩,
   ⟨some 85, .fa 0 (.t 84), none⟩,
   ⟨some 86, .fa 0 (.t 85), none⟩,
   ⟨some 87, .load none (.t 86), none⟩,
   ⟨some 9, .mov (.t 87), none⟩]) (.region false [⟨some 51, .fa 0 (.t 3), none⟩,
   ⟨some 52, .fa 0 (.t 51), none⟩,
   ⟨some 53, .fa 0 (.t 52), none⟩,
   ⟨some 54, .load none (.t 53), none⟩,
   ⟨some 55, .un .not (.t 54), none⟩,
   ⟨some 9, .mov (.t 55), none⟩]))))))) (.seq (.seq (.region false [⟨some 88, .mov (.t 9), none⟩]) (.cond (.t 88) (.region false [⟨some 89, .mov (.t 8), none⟩,
   ⟨some 90, .call F.nat_From [.c (nv 1)], none⟩,
   ⟨some 91, .call F.dyadic_plus [.t 89, .t 90], none⟩,
   ⟨some 8, .mov (.t 91), none⟩]) .skip)) (.seq (.region false [⟨some 92, .fa 0 (.t 3), none⟩,
   ⟨some 93, .fa 0 (.t 92), none⟩,
   ⟨some 94, .fa 0 (.t 93), none⟩,
   ⟨some 95, .load none (.t 94), none⟩,
   ⟨some 96, .mov (.t 8), none⟩,
   ⟨some 97, .build [.bool false, .slice none 0 0] [(0, (1, .t 95)), (1, (1, .t 96))], none⟩,
   ⟨none, .store 2 (.t 6) (.t 97), none⟩]) .ret))))))))
def R.dyadic_steps : List VRes := [.cell 6 (some 2)]
theorem K.dyadic_steps : resCode Tryd.prog Tryd.f61.ntmps (Tryd.f61.body.getD .skip) = C.dyadic_steps := by kernel_rfl
theorem Q.dyadic_steps : resResults Tryd.prog Tryd.f61.results.toList = some R.dyadic_steps := by kernel_rfl
theorem E.dyadic_steps : Tryd.prog.funcs[F.dyadic_steps]? = some Tryd.f61 := Tryd.func61
theorem B.dyadic_steps : Tryd.f61.body = some (Tryd.f61.body.getD .skip) := by kernel_rfl
theorem N.dyadic_steps : Tryd.f61.ntmps = 98 := Tryd.ntmps61

def C.nat_trim : VC :=
  .seq (.region false [⟨some 2, .mov (.c nil1), none⟩]) (.seq (.block 0 (.loop (.seq (.seq (.region false [⟨some 3, .mov (.t 0), none⟩,
   ⟨some 4, .len (.t 3), none⟩,
   ⟨some 5, .bin .gtr false (.t 4) (.c (iv 0)), none⟩,
   ⟨some 6, .mov (.t 5), none⟩,
   ⟨some 7, .mov (.t 0), some (6, true)⟩,
   ⟨some 8, .mov (.t 0), some (6, true)⟩,
   ⟨some 9, .len (.t 8), some (6, true)⟩,
   ⟨some 10, .bin .sub false (.t 9) (.c (iv 1)), some (6, true)⟩,
   ⟨some 11, .ixa 1 (.t 7) (.t 10), some (6, true)⟩,
   ⟨some 12, .load none (.t 11), some (6, true)⟩,
   ⟨some 13, .bin .eql false (.t 12) (.c (nv 0)), some (6, true)⟩,
   ⟨some 14, .pick (.t 6) (.t 13) (.c (bv false)), none⟩]) (.cond (.t 14) .skip (.exit 0))) (.block 1 (.region false [⟨some 15, .mov (.t 0), none⟩,
   ⟨some 16, .mov (.t 0), none⟩,
   ⟨some 17, .len (.t 16), none⟩,
   ⟨some 18, .bin .sub false (.t 17) (.c (iv 1)), none⟩,
   ⟨some 19, .slc 1 (.t 15) none (some (.t 18)) none, none⟩,
   ⟨some 0, .mov (.t 19), none⟩]))))) (.seq (.region false [⟨some 20, .mov (.t 0), none⟩,
   ⟨some 2, .mov (.t 20), none⟩]) .ret))
def R.nat_trim : List VRes := [.tmp 2]
theorem K.nat_trim : resCode Tryd.prog Tryd.f62.ntmps (Tryd.f62.body.getD .skip) = C.nat_trim := by kernel_rfl
theorem Q.nat_trim : resResults Tryd.prog Tryd.f62.results.toList = some R.nat_trim := by kernel_rfl
theorem E.nat_trim : Tryd.prog.funcs[F.nat_trim]? = some Tryd.f62 := Tryd.func62
theorem B.nat_trim : Tryd.f62.body = some (Tryd.f62.body.getD .skip) := by kernel_rfl
theorem N.nat_trim : Tryd.f62.ntmps = 21 := Tryd.ntmps62

def C.nat_Tail : VC :=
  .seq (.region false [⟨some 2, .mov (.c (iv 0)), none⟩]) (.seq (.seq (.region false [⟨some 5, .mov (.t 0), none⟩,
   ⟨some 6, .len (.t 5), none⟩,
   ⟨some 7, .mov (.c (iv 0)), none⟩]) (.block 0 (.loop (.seq (.region false [⟨some 8, .bin .lss false (.t 7) (.t 6), none⟩]) (.seq (.cond (.t 8) .skip (.exit 0)) (.seq (.block 1 (.seq (.region false [⟨some 9, .mov (.t 7), none⟩,
   ⟨some 10, .ixa 1 (.t 5) (.t 7), none⟩,
   ⟨some 11, .load none (.t 10), none⟩,
   ⟨some 3, .mov (.t 9), none⟩,
   ⟨some 4, .mov (.t 11), none⟩]) (.seq (.region false [⟨some 12, .mov (.t 4), none⟩,
   ⟨some 13, .bin .neq false (.t 12) (.c (nv 0)), none⟩]) (.cond (.t 13) (.seq (.region false [⟨some 14, .mov (.t 3), none⟩,
   ⟨some 15, .bin .mul false (.c (iv 64)) (.t 14), none⟩,
   ⟨some 16, .mov (.t 4), none⟩,
   ⟨some 17, .call F.bits_TrailingZeros64 [.t 16], none⟩,
   ⟨some 18, .bin .add false (.t 15) (.t 17), none⟩,
   ⟨some 2, .mov (.t 18), none⟩]) .ret) .skip)))) (.region false [⟨some 19, .bin .add false (.t 7) (.c (iv 1)), none⟩,
   ⟨some 7, .mov (.t 19), none⟩]))))))) (.seq (.region false [⟨some 2, .mov (.c (iv 0)), none⟩]) .ret))
def R.nat_Tail : List VRes := [.tmp 2]
theorem K.nat_Tail : resCode Tryd.prog Tryd.f63.ntmps (Tryd.f63.body.getD .skip) = C.nat_Tail := by kernel_rfl
theorem Q.nat_Tail : resResults Tryd.prog Tryd.f63.results.toList = some R.nat_Tail := by kernel_rfl
theorem E.nat_Tail : Tryd.prog.funcs[F.nat_Tail]? = some Tryd.f63 := Tryd.func63
theorem B.nat_Tail : Tryd.f63.body = some (Tryd.f63.body.getD .skip) := by kernel_rfl
theorem N.nat_Tail : Tryd.f63.ntmps = 20 := Tryd.ntmps63

def C.dyadic_shifted : VC :=
  .seq (.region false [⟨some 4, .mov (.c nil1), none⟩]) (.seq (.region false [⟨some 12, .mov (.t 0), none⟩,
   ⟨some 13, .mov (.t 1), none⟩,
   ⟨some 14, .call F.nat_Right [.t 12, .t 13], none⟩,
   ⟨some 11, .mov (.t 14), none⟩,
   ⟨some 15, .ext (.t 11) 0, none⟩,
   ⟨some 16, .ext (.t 11) 1, none⟩,
   ⟨some 5, .mov (.t 15), none⟩,
   ⟨some 6, .mov (.t 16), none⟩]) (.seq (.seq (.region false [⟨some 17, .mov (.t 6), none⟩,
   ⟨some 18, .bin .eql false (.t 17) (.c (iv 0)), none⟩]) (.cond (.t 18) (.seq (.region false [⟨some 19, .mov (.t 5), none⟩,
   ⟨some 4, .mov (.t 19), none⟩]) .ret) .skip)) (.seq (.region false [⟨some 20, .mov (.t 1), none⟩,
   ⟨some 21, .bin .quo false (.t 20) (.c (iv 64)), none⟩,
   ⟨some 22, .mov (.t 1), none⟩,
   ⟨some 23, .bin .rem false (.t 22) (.c (iv 64)), none⟩,
   ⟨some 24, .conv .u64 (.t 23), none⟩,
   ⟨some 7, .mov (.t 21), none⟩,
   ⟨some 8, .mov (.t 24), none⟩]) (.seq (.region false [⟨some 25, .mov (.t 0), none⟩,
   ⟨some 26, .len (.t 25), none⟩,
   ⟨some 27, .mov (.t 7), none⟩,
   ⟨some 28, .bin .sub false (.t 26) (.t 27), none⟩,
   ⟨some 29, .mk [.int .u64 0] 8 (.t 28) (.t 28), none⟩,
   ⟨some 9, .mov (.t 29), none⟩]) (.seq (.seq (.region false [⟨some 30, .mov (.t 9), none⟩,
   ⟨some 31, .len (.t 30), none⟩,
   ⟨some 32, .mov (.c (iv 0)), none⟩]) (.block 0 (.loop (.seq (.region false [⟨some 33, .bin .lss false (.t 32) (.t 31), none⟩]) (.seq (.cond (.t 33) .skip (.exit 0)) (.seq (.block 1 (.seq (.region false [⟨some 34, .mov (.t 32), none⟩,
   ⟨some 10, .mov (.t 34), none⟩]) (.seq (.region false [⟨some 35, .mov (.t 9), none⟩,
   ⟨some 36, .mov (.t 10), none⟩,
   ⟨some 37, .mov (.t 0), none⟩,
   ⟨some 38, .mov (.t 10), none⟩,
   ⟨some 39, .mov (.t 7), none⟩,
   ⟨some 40, .bin .add false (.t 38) (.t 39), none⟩,
   ⟨some 41, .ixa 1 (.t 37) (.t 40), none⟩,
   ⟨some 42, .load none (.t 41), none⟩,
   ⟨some 43, .mov (.t 8), none⟩,
   ⟨some 44, .bin .shr false (.t 42) (.t 43), none⟩,
   ⟨some 45, .ixa 1 (.t 35) (.t 36), none⟩,
   ⟨none, .store 1 (.t 45) (.t 44), none⟩]) (.seq (.region false [⟨some 46, .mov (.t 8), none⟩,
   ⟨some 47, .bin .gtr false (.t 46) (.c (nv 0)), none⟩,
   ⟨some 48, .mov (.t 47), none⟩,
   ⟨some 49, .mov (.t 10), some (48, true)⟩,
   ⟨some 50, .mov (.t 7), some (48, true)⟩,
   ⟨some 51, .bin .add false (.t 49) (.t 50), some (48, true)⟩,
   ⟨some 52, .bin .add false (.t 51) (.c (iv 1)), some (48, true)⟩,
   ⟨some 53, .mov (.t 0), some (48, true)⟩,
   ⟨some 54, .len (.t 53), some (48, true)⟩,
   ⟨some 55, .bin .lss false (.t 52) (.t 54), some (48, true)⟩,
   ⟨some 56, .pick (.t 48) (.t 55) (.c (bv false)), none⟩]) (.cond (.t 56) (.region true [⟨some 57, .mov (.t 9), none⟩,
   ⟨some 58, .mov (.t 10), none⟩,
   ⟨some 59, .ixa 1 (.t 57) (.t 58), none⟩,
   ⟨some 60, .load none (.t 59), none⟩,
   ⟨some 61, .mov (.t 0), none⟩,
   ⟨some 62, .mov (.t 10), none⟩,
   ⟨some 63, .mov (.t 7), none⟩,
   ⟨some 64, .bin .add false (.t 62) (.t 63), none⟩,
   ⟨some 65, .bin .add false (.t 64) (.c (iv 1)), none⟩,
   ⟨some 66, .ixa 1 (.t 61) (.t 65), none⟩,
   ⟨some 67, .load none (.t 66), none⟩,
   ⟨some 68, .mov (.t 8), none⟩,
   ⟨some 69, .bin .sub false (.c (nv 64)) (.t 68), none⟩,
   ⟨some 70, .bin .shl false (.t 67) (.t 69), none⟩,
   ⟨some 71, .bin .or false (.t 60) (.t 70), none⟩,
   ⟨some 72, .ixa 1 (.t 57) (.t 58), none⟩,
   ⟨none, .storeA 1 (.t 72) (.t 71) [], none⟩]) .skip))))) (.region false [⟨some 73, .bin .add false (.t 32) (.c (iv 1)), none⟩,
   ⟨some 32, .mov (.t 73), none⟩]))))))) (.seq (.region false [⟨some 74, .mov (.t 9), none⟩,
   ⟨some 75, .call F.nat_Norm [.t 74], none⟩,
   ⟨some 4, .mov (.t 75), none⟩]) .ret))))))
def R.dyadic_shifted : List VRes := [.tmp 4]
theorem K.dyadic_shifted : resCode Tryd.prog Tryd.f64.ntmps (Tryd.f64.body.getD .skip) = C.dyadic_shifted := by kernel_rfl
theorem Q.dyadic_shifted : resResults Tryd.prog Tryd.f64.results.toList = some R.dyadic_shifted := by kernel_rfl
theorem E.dyadic_shifted : Tryd.prog.funcs[F.dyadic_shifted]? = some Tryd.f64 := Tryd.func64
theorem B.dyadic_shifted : Tryd.f64.body = some (Tryd.f64.body.getD .skip) := by kernel_rfl
theorem N.dyadic_shifted : Tryd.f64.ntmps = 76 := Tryd.ntmps64

def C.nat_Length : VC :=
  .seq (.region false [⟨some 2, .mov (.c (iv 0)), none⟩]) (.seq (.region false [⟨some 3, .mov (.t 0), none⟩,
   ⟨some 4, .call F.nat_trim [.t 3], none⟩,
   ⟨some 0, .mov (.t 4), none⟩]) (.seq (.seq (.region false [⟨some 5, .mov (.t 0), none⟩,
   ⟨some 6, .len (.t 5), none⟩,
   ⟨some 7, .bin .eql false (.t 6) (.c (iv 0)), none⟩]) (.cond (.t 7) (.seq (.region false [⟨some 2, .mov (.c (iv 0)), none⟩]) .ret) .skip)) (.seq (.region false [⟨some 8, .mov (.t 0), none⟩,
   ⟨some 9, .len (.t 8), none⟩,
   ⟨some 10, .bin .sub false (.t 9) (.c (iv 1)), none⟩,
   ⟨some 11, .bin .mul false (.c (iv 64)) (.t 10), none⟩,
   ⟨some 12, .mov (.t 0), none⟩,
   ⟨some 13, .mov (.t 0), none⟩,
   ⟨some 14, .len (.t 13), none⟩,
   ⟨some 15, .bin .sub false (.t 14) (.c (iv 1)), none⟩,
   ⟨some 16, .ixa 1 (.t 12) (.t 15), none⟩,
   ⟨some 17, .load none (.t 16), none⟩,
   ⟨some 18, .call F.bits_Len64 [.t 17], none⟩,
   ⟨some 19, .bin .add false (.t 11) (.t 18), none⟩,
   ⟨some 2, .mov (.t 19), none⟩]) .ret)))
def R.nat_Length : List VRes := [.tmp 2]
theorem K.nat_Length : resCode Tryd.prog Tryd.f65.ntmps (Tryd.f65.body.getD .skip) = C.nat_Length := by kernel_rfl
theorem Q.nat_Length : resResults Tryd.prog Tryd.f65.results.toList = some R.nat_Length := by kernel_rfl
theorem E.nat_Length : Tryd.prog.funcs[F.nat_Length]? = some Tryd.f65 := Tryd.func65
theorem B.nat_Length : Tryd.f65.body = some (Tryd.f65.body.getD .skip) := by kernel_rfl
theorem N.nat_Length : Tryd.f65.ntmps = 20 := Tryd.ntmps65

def C.dyadic_limb : VC :=
  .seq (.region false [⟨some 4, .mov (.c (nv 0)), none⟩]) (.seq (.seq (.region false [⟨some 5, .mov (.t 1), none⟩,
   ⟨some 6, .mov (.t 0), none⟩,
   ⟨some 7, .len (.t 6), none⟩,
   ⟨some 8, .bin .lss false (.t 5) (.t 7), none⟩]) (.cond (.t 8) (.seq (.region false [⟨some 9, .mov (.t 0), none⟩,
   ⟨some 10, .mov (.t 1), none⟩,
   ⟨some 11, .ixa 1 (.t 9) (.t 10), none⟩,
   ⟨some 12, .load none (.t 11), none⟩,
   ⟨some 4, .mov (.t 12), none⟩]) .ret) .skip)) (.seq (.region false [⟨some 4, .mov (.c (nv 0)), none⟩]) .ret))
def R.dyadic_limb : List VRes := [.tmp 4]
theorem K.dyadic_limb : resCode Tryd.prog Tryd.f66.ntmps (Tryd.f66.body.getD .skip) = C.dyadic_limb := by kernel_rfl
theorem Q.dyadic_limb : resResults Tryd.prog Tryd.f66.results.toList = some R.dyadic_limb := by kernel_rfl
theorem E.dyadic_limb : Tryd.prog.funcs[F.dyadic_limb]? = some Tryd.f66 := Tryd.func66
theorem B.dyadic_limb : Tryd.f66.body = some (Tryd.f66.body.getD .skip) := by kernel_rfl
theorem N.dyadic_limb : Tryd.f66.ntmps = 13 := Tryd.ntmps66

def C.nat_told : VC :=
  .seq (.region false [⟨some 2, .mov (.c nil1), none⟩,
   ⟨some 3, .mov (.c (iv 0)), none⟩]) (.seq (.region false [⟨some 4, .mov (.t 0), none⟩,
   ⟨some 5, .call F.nat_trim [.t 4], none⟩,
   ⟨some 0, .mov (.t 5), none⟩]) (.seq (.seq (.region false [⟨some 6, .mov (.t 0), none⟩,
   ⟨some 7, .call F.nat_Length [.t 6], none⟩,
   ⟨some 8, .bin .gtr false (.t 7) (.c (iv 67108864)), none⟩]) (.cond (.t 8) (.seq (.region false [⟨some 2, .mov (.c nil1), none⟩,
   ⟨some 3, .mov (.c (iv 3)), none⟩]) .ret) .skip)) (.seq (.region false [⟨some 9, .mov (.t 0), none⟩,
   ⟨some 2, .mov (.t 9), none⟩,
   ⟨some 3, .mov (.c (iv 0)), none⟩]) .ret)))
def R.nat_told : List VRes := [.tmp 2, .tmp 3]
theorem K.nat_told : resCode Tryd.prog Tryd.f68.ntmps (Tryd.f68.body.getD .skip) = C.nat_told := by kernel_rfl
theorem Q.nat_told : resResults Tryd.prog Tryd.f68.results.toList = some R.nat_told := by kernel_rfl
theorem E.nat_told : Tryd.prog.funcs[F.nat_told]? = some Tryd.f68 := Tryd.func68
theorem B.nat_told : Tryd.f68.body = some (Tryd.f68.body.getD .skip) := by kernel_rfl
theorem N.nat_told : Tryd.f68.ntmps = 10 := Tryd.ntmps68

def C.nat_Bit : VC :=
  .seq (.region false [⟨some 4, .mov (.c (iv 0)), none⟩]) (.seq (.seq (.region false [⟨some 5, .mov (.t 1), none⟩,
   ⟨some 6, .bin .lss false (.t 5) (.c (iv 0)), none⟩,
   ⟨some 7, .mov (.t 6), none⟩,
   ⟨some 8, .mov (.t 1), some (7, false)⟩,
   ⟨some 9, .bin .quo false (.t 8) (.c (iv 64)), some (7, false)⟩,
   ⟨some 10, .mov (.t 0), some (7, false)⟩,
   ⟨some 11, .len (.t 10), some (7, false)⟩,
   ⟨some 12, .bin .geq false (.t 9) (.t 11), some (7, false)⟩,
   ⟨some 13, .pick (.t 7) (.c (bv true)) (.t 12), none⟩]) (.cond (.t 13) (.seq (.region false [⟨some 4, .mov (.c (iv 0)), none⟩]) .ret) .skip)) (.seq (.region false [⟨some 14, .mov (.t 0), none⟩,
   ⟨some 15, .mov (.t 1), none⟩,
   ⟨some 16, .bin .quo false (.t 15) (.c (iv 64)), none⟩,
   ⟨some 17, .ixa 1 (.t 14) (.t 16), none⟩,
   ⟨some 18, .load none (.t 17), none⟩,
   ⟨some 19, .mov (.t 1), none⟩,
   ⟨some 20, .bin .rem false (.t 19) (.c (iv 64)), none⟩,
   ⟨some 21, .conv .u64 (.t 20), none⟩,
   ⟨some 22, .bin .shr false (.t 18) (.t 21), none⟩,
   ⟨some 23, .bin .and false (.t 22) (.c (nv 1)), none⟩,
   ⟨some 24, .conv .i64 (.t 23), none⟩,
   ⟨some 4, .mov (.t 24), none⟩]) .ret))
def R.nat_Bit : List VRes := [.tmp 4]
theorem K.nat_Bit : resCode Tryd.prog Tryd.f70.ntmps (Tryd.f70.body.getD .skip) = C.nat_Bit := by kernel_rfl
theorem Q.nat_Bit : resResults Tryd.prog Tryd.f70.results.toList = some R.nat_Bit := by kernel_rfl
theorem E.nat_Bit : Tryd.prog.funcs[F.nat_Bit]? = some Tryd.f70 := Tryd.func70
theorem B.nat_Bit : Tryd.f70.body = some (Tryd.f70.body.getD .skip) := by kernel_rfl
theorem N.nat_Bit : Tryd.f70.ntmps = 25 := Tryd.ntmps70

def C.nat_From : VC :=
  .seq (.region false [⟨some 2, .mov (.c nil1), none⟩]) (.seq (.seq (.region false [⟨some 3, .mov (.t 0), none⟩,
   ⟨some 4, .bin .eql false (.t 3) (.c (nv 0)), none⟩]) (.cond (.t 4) (.seq (.region false [⟨some 2, .mov (.c nil1), none⟩]) .ret) .skip)) (.seq (.region false [⟨some 5, .mov (.t 0), none⟩,
   ⟨some 6, .bsl true 1 1 [.int .u64 0] [(0, (1, .t 5))], none⟩,
   ⟨some 2, .mov (.t 6), none⟩]) .ret))
def R.nat_From : List VRes := [.tmp 2]
theorem K.nat_From : resCode Tryd.prog Tryd.f71.ntmps (Tryd.f71.body.getD .skip) = C.nat_From := by kernel_rfl
theorem Q.nat_From : resResults Tryd.prog Tryd.f71.results.toList = some R.nat_From := by kernel_rfl
theorem E.nat_From : Tryd.prog.funcs[F.nat_From]? = some Tryd.f71 := Tryd.func71
theorem B.nat_From : Tryd.f71.body = some (Tryd.f71.body.getD .skip) := by kernel_rfl
theorem N.nat_From : Tryd.f71.ntmps = 7 := Tryd.ntmps71

def C.bits_TrailingZeros64 : VC :=
  .seq (.region false [⟨some 2, .mov (.c (iv 0)), none⟩]) (.seq (.seq (.region false [⟨some 3, .mov (.t 0), none⟩,
   ⟨some 4, .bin .eql false (.t 3) (.c (nv 0)), none⟩]) (.cond (.t 4) (.seq (.region false [⟨some 2, .mov (.c (iv 64)), none⟩]) .ret) .skip)) (.seq (.region false [⟨some 5, .mov (.t 0), none⟩,
   ⟨some 6, .mov (.t 0), none⟩,
   ⟨some 7, .un .neg (.t 6), none⟩,
   ⟨some 8, .bin .and false (.t 5) (.t 7), none⟩,
   ⟨some 9, .bin .mul false (.t 8) (.c (nv 285870213051353865)), none⟩,
   ⟨some 10, .bin .shr false (.t 9) (.c (nv 58)), none⟩,
   ⟨some 11, .axa 64 1 (.c (.gptr 0 0)) (.t 10), none⟩,
   ⟨some 12, .load none (.t 11), none⟩,
   ⟨some 13, .conv .i64 (.t 12), none⟩,
   ⟨some 2, .mov (.t 13), none⟩]) .ret))
def R.bits_TrailingZeros64 : List VRes := [.tmp 2]
theorem K.bits_TrailingZeros64 : resCode Tryd.prog Tryd.f72.ntmps (Tryd.f72.body.getD .skip) = C.bits_TrailingZeros64 := by kernel_rfl
theorem Q.bits_TrailingZeros64 : resResults Tryd.prog Tryd.f72.results.toList = some R.bits_TrailingZeros64 := by kernel_rfl
theorem E.bits_TrailingZeros64 : Tryd.prog.funcs[F.bits_TrailingZeros64]? = some Tryd.f72 := Tryd.func72
theorem B.bits_TrailingZeros64 : Tryd.f72.body = some (Tryd.f72.body.getD .skip) := by kernel_rfl
theorem N.bits_TrailingZeros64 : Tryd.f72.ntmps = 14 := Tryd.ntmps72

def C.nat_Right : VC :=
  .seq (.region false [⟨some 4, .mov (.c nil1), none⟩,
   ⟨some 5, .mov (.c (iv 0)), none⟩]) (.seq (.seq (.region false [⟨some 10, .mov (.t 1), none⟩,
   ⟨some 11, .bin .lss false (.t 10) (.c (iv 0)), none⟩,
   ⟨some 12, .mov (.t 11), none⟩,
   ⟨some 13, .mov (.t 1), some (12, false)⟩,
   ⟨some 14, .bin .gtr false (.t 13) (.c (iv 1099511627776)), some (12, false)⟩,
   ⟨some 15, .pick (.t 12) (.c (bv true)) (.t 14), none⟩]) (.cond (.t 15) (.seq (.region false [⟨some 4, .mov (.c nil1), none⟩,
   ⟨some 5, .mov (.c (iv 1)), none⟩]) .ret) .skip)) (.seq (.region false [⟨some 16, .mov (.t 0), none⟩,
   ⟨some 17, .call F.nat_trim [.t 16], none⟩,
   ⟨some 0, .mov (.t 17), none⟩]) (.seq (.region false [⟨some 18, .mov (.t 1), none⟩,
   ⟨some 19, .bin .quo false (.t 18) (.c (iv 64)), none⟩,
   ⟨some 20, .mov (.t 1), none⟩,
   ⟨some 21, .bin .rem false (.t 20) (.c (iv 64)), none⟩,
   ⟨some 22, .conv .u64 (.t 21), none⟩,
   ⟨some 6, .mov (.t 19), none⟩,
   ⟨some 7, .mov (.t 22), none⟩]) (.seq (.seq (.region false [⟨some 23, .mov (.t 6), none⟩,
   ⟨some 24, .mov (.t 0), none⟩,
   ⟨some 25, .len (.t 24), none⟩,
   ⟨some 26, .bin .geq false (.t 23) (.t 25), none⟩]) (.cond (.t 26) (.seq (.region false [⟨some 4, .mov (.c nil1), none⟩,
   ⟨some 5, .mov (.c (iv 0)), none⟩]) .ret) .skip)) (.seq (.region false [⟨some 27, .mov (.t 0), none⟩,
   ⟨some 28, .len (.t 27), none⟩,
   ⟨some 29, .mov (.t 6), none⟩,
   ⟨some 30, .bin .sub false (.t 28) (.t 29), none⟩,
   ⟨some 31, .mk [.int .u64 0] 8 (.t 30) (.t 30), none⟩,
   ⟨some 8, .mov (.t 31), none⟩]) (.seq (.seq (.region false [⟨some 32, .mov (.t 8), none⟩,
   ⟨some 33, .len (.t 32), none⟩,
   ⟨some 34, .mov (.c (iv 0)), none⟩]) (.block 0 (.loop (.seq (.region false [⟨some 35, .bin .lss false (.t 34) (.t 33), none⟩]) (.seq (.cond (.t 35) .skip (.exit 0)) (.seq (.block 1 (.seq (.region false [⟨some 36, .mov (.t 34), none⟩,
   ⟨some 9, .mov (.t 36), none⟩]) (.seq (.region false [⟨some 37, .mov (.t 8), none⟩,
   ⟨some 38, .mov (.t 9), none⟩,
   ⟨some 39, .mov (.t 0), none⟩,
   ⟨some 40, .mov (.t 6), none⟩,
   ⟨some 41, .mov (.t 9), none⟩,
   ⟨some 42, .bin .add false (.t 40) (.t 41), none⟩,
   ⟨some 43, .ixa 1 (.t 39) (.t 42), none⟩,
   ⟨some 44, .load none (.t 43), none⟩,
   ⟨some 45, .mov (.t 7), none⟩,
   ⟨some 46, .bin .shr false (.t 44) (.t 45), none⟩,
   ⟨some 47, .ixa 1 (.t 37) (.t 38), none⟩,
   ⟨none, .store 1 (.t 47) (.t 46), none⟩]) (.seq (.region false [⟨some 48, .mov (.t 6), none⟩,
   ⟨some 49, .mov (.t 9), none⟩,
   ⟨some 50, .bin .add false (.t 48) (.t 49), none⟩,
   ⟨some 51, .bin .add false (.t 50) (.c (iv 1)), none⟩,
   ⟨some 52, .mov (.t 0), none⟩,
   ⟨some 53, .len (.t 52), none⟩,
   ⟨some 54, .bin .lss false (.t 51) (.t 53), none⟩]) (.cond (.t 54) (.region true [⟨some 55, .mov (.t 8), none⟩,
   ⟨some 56, .mov (.t 9), none⟩,
   ⟨some 57, .ixa 1 (.t 55) (.t 56), none⟩,
   ⟨some 58, .load none (.t 57), none⟩,
   ⟨some 59, .mov (.t 0), none⟩,
   ⟨some 60, .mov (.t 6), none⟩,
   ⟨some 61, .mov (.t 9), none⟩,
   ⟨some 62, .bin .add false (.t 60) (.t 61), none⟩,
   ⟨some 63, .bin .add false (.t 62) (.c (iv 1)), none⟩,
   ⟨some 64, .ixa 1 (.t 59) (.t 63), none⟩,
   ⟨some 65, .load none (.t 64), none⟩,
   ⟨some 66, .bin .shl false (.t 65) (.c (nv 1)), none⟩,
   ⟨some 67, .mov (.t 7), none⟩,
   ⟨some 68, .bin .sub false (.c (nv 63)) (.t 67), none⟩,
   ⟨some 69, .bin .shl false (.t 66) (.t 68), none⟩,
   ⟨some 70, .bin .or false (.t 58) (.t 69), none⟩,
   ⟨some 71, .ixa 1 (.t 55) (.t 56), none⟩,
   ⟨none, .storeA 1 (.t 71) (.t 70) [], none⟩]) .skip))))) (.region false [⟨some 72, .bin .add false (.t 34) (.c (iv 1)), none⟩,
   ⟨some 34, .mov (.t 72), none⟩]))))))) (.seq (.region false [⟨some 73, .mov (.t 8), none⟩,
   ⟨some 74, .call F.nat_told [.t 73], none⟩,
   ⟨some 75, .ext (.t 74) 0, none⟩,
   ⟨some 76, .ext (.t 74) 1, none⟩,
   ⟨some 4, .mov (.t 75), none⟩,
   ⟨some 5, .mov (.t 76), none⟩]) .ret)))))))
def R.nat_Right : List VRes := [.tmp 4, .tmp 5]
theorem K.nat_Right : resCode Tryd.prog Tryd.f73.ntmps (Tryd.f73.body.getD .skip) = C.nat_Right := by kernel_rfl
theorem Q.nat_Right : resResults Tryd.prog Tryd.f73.results.toList = some R.nat_Right := by kernel_rfl
theorem E.nat_Right : Tryd.prog.funcs[F.nat_Right]? = some Tryd.f73 := Tryd.func73
theorem B.nat_Right : Tryd.f73.body = some (Tryd.f73.body.getD .skip) := by kernel_rfl
theorem N.nat_Right : Tryd.f73.ntmps = 77 := Tryd.ntmps73

def C.bits_Len64 : VC :=
  .seq (.region false [⟨some 2, .mov (.c (iv 0)), none⟩]) (.seq (.seq (.region false [⟨some 3, .mov (.t 0), none⟩,
   ⟨some 4, .bin .geq false (.t 3) (.c (nv 4294967296)), none⟩]) (.cond (.t 4) (.seq (.region false [⟨some 5, .mov (.t 0), none⟩,
   ⟨some 6, .bin .shr false (.t 5) (.c (nv 32)), none⟩,
   ⟨some 0, .mov (.t 6), none⟩]) (.region false [⟨some 2, .mov (.c (iv 32)), none⟩])) .skip)) (.seq (.seq (.region false [⟨some 7, .mov (.t 0), none⟩,
   ⟨some 8, .bin .geq false (.t 7) (.c (nv 65536)), none⟩]) (.cond (.t 8) (.seq (.region false [⟨some 9, .mov (.t 0), none⟩,
   ⟨some 10, .bin .shr false (.t 9) (.c (nv 16)), none⟩,
   ⟨some 0, .mov (.t 10), none⟩]) (.region false [⟨some 11, .mov (.t 2), none⟩,
   ⟨some 12, .bin .add false (.t 11) (.c (iv 16)), none⟩,
   ⟨some 2, .mov (.t 12), none⟩])) .skip)) (.seq (.seq (.region false [⟨some 13, .mov (.t 0), none⟩,
   ⟨some 14, .bin .geq false (.t 13) (.c (nv 256)), none⟩]) (.cond (.t 14) (.seq (.region false [⟨some 15, .mov (.t 0), none⟩,
   ⟨some 16, .bin .shr false (.t 15) (.c (nv 8)), none⟩,
   ⟨some 0, .mov (.t 16), none⟩]) (.region false [⟨some 17, .mov (.t 2), none⟩,
   ⟨some 18, .bin .add false (.t 17) (.c (iv 8)), none⟩,
   ⟨some 2, .mov (.t 18), none⟩])) .skip)) (.seq (.region false [⟨some 19, .mov (.t 2), none⟩,
   ⟨some 20, .mov (.t 0), none⟩,
   ⟨some 21, .conv .u8 (.t 20), none⟩,
   ⟨some 22, .six (.c (.lit (.string ⟨#[0, 1, 2, 2, 3, 3, 3, 3, 4, 4, 4, 4, 4, 4, 4, 4, 5, 5, 5, 5, 5, 5, 5, 5, 5, 5, 5, 5, 5, 5, 5, 5, 6, 6, 6, 6, 6, 6, 6, 6, 6, 6, 6, 6, 6, 6, 6, 6, 6, 6, 6, 6, 6, 6, 6, 6, 6, 6, 6, 6, 6, 6, 6, 6, 7, 7, 7, 7, 7, 7, 7, 7, 7, 7, 7, 7, 7, 7, 7, 7, 7, 7, 7, 7, 7, 7, 7, 7, 7, 7, 7, 7, 7, 7, 7, 7, 7, 7, 7, 7, 7, 7, 7, 7, 7, 7, 7, 7, 7, 7, 7, 7, 7, 7, 7, 7, 7, 7, 7, 7, 7, 7, 7, 7, 7, 7, 7, 7, 8, 8, 8, 8, 8, 8, 8, 8, 8, 8, 8, 8, 8, 8, 8, 8, 8, 8, 8, 8, 8, 8, 8, 8, 8, 8, 8, 8, 8, 8, 8, 8, 8, 8, 8, 8, 8, 8, 8, 8, 8, 8, 8, 8, 8, 8, 8, 8, 8, 8, 8, 8, 8, 8, 8, 8, 8, 8, 8, 8, 8, 8, 8, 8, 8, 8, 8, 8, 8, 8, 8, 8, 8, 8, 8, 8, 8, 8, 8, 8, 8, 8, 8, 8, 8, 8, 8, 8, 8, 8, 8, 8, 8, 8, 8, 8, 8, 8, 8, 8, 8, 8, 8, 8, 8, 8, 8, 8, 8, 8, 8, 8, 8, 8, 8, 8, 8, 8, 8, 8, 8, 8, 8, 8, 8, 8, 8, 8]⟩))) (.t 21), none⟩,
   ⟨some 23, .conv .i64 (.t 22), none⟩,
   ⟨some 24, .bin .add false (.t 19) (.t 23), none⟩,
   ⟨some 2, .mov (.t 24), none⟩]) .ret))))
def R.bits_Len64 : List VRes := [.tmp 2]
theorem K.bits_Len64 : resCode Tryd.prog Tryd.f74.ntmps (Tryd.f74.body.getD .skip) = C.bits_Len64 := by kernel_rfl
theorem Q.bits_Len64 : resResults Tryd.prog Tryd.f74.results.toList = some R.bits_Len64 := by kernel_rfl
theorem E.bits_Len64 : Tryd.prog.funcs[F.bits_Len64]? = some Tryd.f74 := Tryd.func74
theorem B.bits_Len64 : Tryd.f74.body = some (Tryd.f74.body.getD .skip) := by kernel_rfl
theorem N.bits_Len64 : Tryd.f74.ntmps = 25 := Tryd.ntmps74

end Go.Proofs.YtacodmnlnlbahaaDoor
set_option linter.unusedVariables false
set_option maxRecDepth 100000
namespace Go.Proofs.YtacodmnlnlbahaaDoor
open Go.VM

theorem X.surdlaw10_SpanNames : GoodF Tryd.prog ⟨F.surdlaw10_SpanNames, C.surdlaw10_SpanNames, R.surdlaw10_SpanNames, 22⟩ := ⟨_, _, E.surdlaw10_SpanNames, B.surdlaw10_SpanNames, K.surdlaw10_SpanNames, Q.surdlaw10_SpanNames, N.surdlaw10_SpanNames, by kernel_rfl⟩
theorem X.surdlaw10_num : GoodF Tryd.prog ⟨F.surdlaw10_num, C.surdlaw10_num, R.surdlaw10_num, 4⟩ := ⟨_, _, E.surdlaw10_num, B.surdlaw10_num, K.surdlaw10_num, Q.surdlaw10_num, N.surdlaw10_num, by kernel_rfl⟩
theorem X.surdlaw10_awake : GoodF Tryd.prog ⟨F.surdlaw10_awake, C.surdlaw10_awake, R.surdlaw10_awake, 46⟩ := ⟨_, _, E.surdlaw10_awake, B.surdlaw10_awake, K.surdlaw10_awake, Q.surdlaw10_awake, N.surdlaw10_awake, by kernel_rfl⟩
theorem X.span_Add : GoodF Tryd.prog ⟨F.span_Add, C.span_Add, R.span_Add, 24⟩ := ⟨_, _, E.span_Add, B.span_Add, K.span_Add, Q.span_Add, N.span_Add, by kernel_rfl⟩
theorem X.surdlaw10_small : GoodF Tryd.prog ⟨F.surdlaw10_small, C.surdlaw10_small, R.surdlaw10_small, 8⟩ := ⟨_, _, E.surdlaw10_small, B.surdlaw10_small, K.surdlaw10_small, Q.surdlaw10_small, N.surdlaw10_small, by kernel_rfl⟩
theorem X.surdref08_Int : GoodF Tryd.prog ⟨F.surdref08_Int, C.surdref08_Int, R.surdref08_Int, 9⟩ := ⟨_, _, E.surdref08_Int, B.surdref08_Int, K.surdref08_Int, Q.surdref08_Int, N.surdref08_Int, by kernel_rfl⟩
theorem X.surdref08_D_Is : GoodF Tryd.prog ⟨F.surdref08_D_Is, C.surdref08_D_Is, R.surdref08_D_Is, 20⟩ := ⟨_, _, E.surdref08_D_Is, B.surdref08_D_Is, K.surdref08_D_Is, Q.surdref08_D_Is, N.surdref08_D_Is, by kernel_rfl⟩
theorem X.span_checks : GoodF Tryd.prog ⟨F.span_checks, C.span_checks, R.span_checks, 26⟩ := ⟨_, _, E.span_checks, B.span_checks, K.span_checks, Q.span_checks, N.span_checks, by kernel_rfl⟩
theorem X.span_sums : GoodF Tryd.prog ⟨F.span_sums, C.span_sums, R.span_sums, 42⟩ := ⟨_, _, E.span_sums, B.span_sums, K.span_sums, Q.span_sums, N.span_sums, by kernel_rfl⟩
theorem X.surdref08_Of : GoodF Tryd.prog ⟨F.surdref08_Of, C.surdref08_Of, R.surdref08_Of, 24⟩ := ⟨_, _, E.surdref08_Of, B.surdref08_Of, K.surdref08_Of, Q.surdref08_Of, N.surdref08_Of, by kernel_rfl⟩
theorem X.surdref06_Int : GoodF Tryd.prog ⟨F.surdref06_Int, C.surdref06_Int, R.surdref06_Int, 16⟩ := ⟨_, _, E.surdref06_Int, B.surdref06_Int, K.surdref06_Int, Q.surdref06_Int, N.surdref06_Int, by kernel_rfl⟩
theorem X.surdref06_Z_Is : GoodF Tryd.prog ⟨F.surdref06_Z_Is, C.surdref06_Z_Is, R.surdref06_Z_Is, 17⟩ := ⟨_, _, E.surdref06_Z_Is, B.surdref06_Z_Is, K.surdref06_Z_Is, Q.surdref06_Z_Is, N.surdref06_Z_Is, by kernel_rfl⟩
theorem X.span_check : GoodF Tryd.prog ⟨F.span_check, C.span_check, R.span_check, 20⟩ := ⟨_, _, E.span_check, B.span_check, K.span_check, Q.span_check, N.span_check, by kernel_rfl⟩
theorem X.dyadic_Add : GoodF Tryd.prog ⟨F.dyadic_Add, C.dyadic_Add, R.dyadic_Add, 25⟩ := ⟨_, _, E.dyadic_Add, B.dyadic_Add, K.dyadic_Add, Q.dyadic_Add, N.dyadic_Add, by kernel_rfl⟩
theorem X.span_worst : GoodF Tryd.prog ⟨F.span_worst, C.span_worst, R.span_worst, 15⟩ := ⟨_, _, E.span_worst, B.span_worst, K.span_worst, Q.span_worst, N.span_worst, by kernel_rfl⟩
theorem X.span_outward : GoodF Tryd.prog ⟨F.span_outward, C.span_outward, R.span_outward, 31⟩ := ⟨_, _, E.span_outward, B.span_outward, K.span_outward, Q.span_outward, N.span_outward, by kernel_rfl⟩
theorem X.surdref06_Z_Sign : GoodF Tryd.prog ⟨F.surdref06_Z_Sign, C.surdref06_Z_Sign, R.surdref06_Z_Sign, 8⟩ := ⟨_, _, E.surdref06_Z_Sign, B.surdref06_Z_Sign, K.surdref06_Z_Sign, Q.surdref06_Z_Sign, N.surdref06_Z_Sign, by kernel_rfl⟩
theorem X.surdref01_Num_Tail : GoodF Tryd.prog ⟨F.surdref01_Num_Tail, C.surdref01_Num_Tail, R.surdref01_Num_Tail, 14⟩ := ⟨_, _, E.surdref01_Num_Tail, B.surdref01_Num_Tail, K.surdref01_Num_Tail, Q.surdref01_Num_Tail, N.surdref01_Num_Tail, by kernel_rfl⟩
theorem X.surdref01_Shr : GoodF Tryd.prog ⟨F.surdref01_Shr, C.surdref01_Shr, R.surdref01_Shr, 53⟩ := ⟨_, _, E.surdref01_Shr, B.surdref01_Shr, K.surdref01_Shr, Q.surdref01_Shr, N.surdref01_Shr, by kernel_rfl⟩
theorem X.surdref06_make1 : GoodF Tryd.prog ⟨F.surdref06_make1, C.surdref06_make1, R.surdref06_make1, 13⟩ := ⟨_, _, E.surdref06_make1, B.surdref06_make1, K.surdref06_make1, Q.surdref06_make1, N.surdref06_make1, by kernel_rfl⟩
theorem X.surdref01_Of : GoodF Tryd.prog ⟨F.surdref01_Of, C.surdref01_Of, R.surdref01_Of, 26⟩ := ⟨_, _, E.surdref01_Of, B.surdref01_Of, K.surdref01_Of, Q.surdref01_Of, N.surdref01_Of, by kernel_rfl⟩
theorem X.surdref01_Int : GoodF Tryd.prog ⟨F.surdref01_Int, C.surdref01_Int, R.surdref01_Int, 7⟩ := ⟨_, _, E.surdref01_Int, B.surdref01_Int, K.surdref01_Int, Q.surdref01_Int, N.surdref01_Int, by kernel_rfl⟩
theorem X.surdref01_Num_Is : GoodF Tryd.prog ⟨F.surdref01_Num_Is, C.surdref01_Num_Is, R.surdref01_Num_Is, 29⟩ := ⟨_, _, E.surdref01_Num_Is, B.surdref01_Num_Is, K.surdref01_Num_Is, Q.surdref01_Num_Is, N.surdref01_Num_Is, by kernel_rfl⟩
theorem X.dyadic_Compare : GoodF Tryd.prog ⟨F.dyadic_Compare, C.dyadic_Compare, R.dyadic_Compare, 22⟩ := ⟨_, _, E.dyadic_Compare, B.dyadic_Compare, K.dyadic_Compare, Q.dyadic_Compare, N.dyadic_Compare, by kernel_rfl⟩
theorem X.dyadic_two : GoodF Tryd.prog ⟨F.dyadic_two, C.dyadic_two, R.dyadic_two, 28⟩ := ⟨_, _, E.dyadic_two, B.dyadic_two, K.dyadic_two, Q.dyadic_two, N.dyadic_two, by kernel_rfl⟩
theorem X.dyadic_sum : GoodF Tryd.prog ⟨F.dyadic_sum, C.dyadic_sum, R.dyadic_sum, 97⟩ := ⟨_, _, E.dyadic_sum, B.dyadic_sum, K.dyadic_sum, Q.dyadic_sum, N.dyadic_sum, by kernel_rfl⟩
theorem X.dyadic_Round : GoodF Tryd.prog ⟨F.dyadic_Round, C.dyadic_Round, R.dyadic_Round, 36⟩ := ⟨_, _, E.dyadic_Round, B.dyadic_Round, K.dyadic_Round, Q.dyadic_Round, N.dyadic_Round, by kernel_rfl⟩
theorem X.span_ends : GoodF Tryd.prog ⟨F.span_ends, C.span_ends, R.span_ends, 21⟩ := ⟨_, _, E.span_ends, B.span_ends, K.span_ends, Q.span_ends, N.span_ends, by kernel_rfl⟩
theorem X.surdref01_Num_Zero : GoodF Tryd.prog ⟨F.surdref01_Num_Zero, C.surdref01_Num_Zero, R.surdref01_Num_Zero, 6⟩ := ⟨_, _, E.surdref01_Num_Zero, B.surdref01_Num_Zero, K.surdref01_Num_Zero, Q.surdref01_Num_Zero, N.surdref01_Num_Zero, by kernel_rfl⟩
theorem X.surdref01_Num_Bit : GoodF Tryd.prog ⟨F.surdref01_Num_Bit, C.surdref01_Num_Bit, R.surdref01_Num_Bit, 24⟩ := ⟨_, _, E.surdref01_Num_Bit, B.surdref01_Num_Bit, K.surdref01_Num_Bit, Q.surdref01_Num_Bit, N.surdref01_Num_Bit, by kernel_rfl⟩
theorem X.surdref01_Num_at : GoodF Tryd.prog ⟨F.surdref01_Num_at, C.surdref01_Num_at, R.surdref01_Num_at, 13⟩ := ⟨_, _, E.surdref01_Num_at, B.surdref01_Num_at, K.surdref01_Num_at, Q.surdref01_Num_at, N.surdref01_Num_at, by kernel_rfl⟩
theorem X.surdref01_norm : GoodF Tryd.prog ⟨F.surdref01_norm, C.surdref01_norm, R.surdref01_norm, 22⟩ := ⟨_, _, E.surdref01_norm, B.surdref01_norm, K.surdref01_norm, Q.surdref01_norm, N.surdref01_norm, by kernel_rfl⟩
theorem X.surdref01_Num_Limbs : GoodF Tryd.prog ⟨F.surdref01_Num_Limbs, C.surdref01_Num_Limbs, R.surdref01_Num_Limbs, 34⟩ := ⟨_, _, E.surdref01_Num_Limbs, B.surdref01_Num_Limbs, K.surdref01_Num_Limbs, Q.surdref01_Num_Limbs, N.surdref01_Num_Limbs, by kernel_rfl⟩
theorem X.dyadic_compare : GoodF Tryd.prog ⟨F.dyadic_compare, C.dyadic_compare, R.dyadic_compare, 71⟩ := ⟨_, _, E.dyadic_compare, B.dyadic_compare, K.dyadic_compare, Q.dyadic_compare, N.dyadic_compare, by kernel_rfl⟩
theorem X.dyadic_read : GoodF Tryd.prog ⟨F.dyadic_read, C.dyadic_read, R.dyadic_read, 14⟩ := ⟨_, _, E.dyadic_read, B.dyadic_read, K.dyadic_read, Q.dyadic_read, N.dyadic_read, by kernel_rfl⟩
theorem X.dyadic_part_sign : GoodF Tryd.prog ⟨F.dyadic_part_sign, C.dyadic_part_sign, R.dyadic_part_sign, 6⟩ := ⟨_, _, E.dyadic_part_sign, B.dyadic_part_sign, K.dyadic_part_sign, Q.dyadic_part_sign, N.dyadic_part_sign, by kernel_rfl⟩
theorem X.dyadic_told : GoodF Tryd.prog ⟨F.dyadic_told, C.dyadic_told, R.dyadic_told, 34⟩ := ⟨_, _, E.dyadic_told, B.dyadic_told, K.dyadic_told, Q.dyadic_told, N.dyadic_told, by kernel_rfl⟩
theorem X.dyadic_number_top : GoodF Tryd.prog ⟨F.dyadic_number_top, C.dyadic_number_top, R.dyadic_number_top, 10⟩ := ⟨_, _, E.dyadic_number_top, B.dyadic_number_top, K.dyadic_number_top, Q.dyadic_number_top, N.dyadic_number_top, by kernel_rfl⟩
theorem X.whole_Make : GoodF Tryd.prog ⟨F.whole_Make, C.whole_Make, R.whole_Make, 12⟩ := ⟨_, _, E.whole_Make, B.whole_Make, K.whole_Make, Q.whole_Make, N.whole_Make, by kernel_rfl⟩
theorem X.dyadic_left : GoodF Tryd.prog ⟨F.dyadic_left, C.dyadic_left, R.dyadic_left, 65⟩ := ⟨_, _, E.dyadic_left, B.dyadic_left, K.dyadic_left, Q.dyadic_left, N.dyadic_left, by kernel_rfl⟩
theorem X.dyadic_long : GoodF Tryd.prog ⟨F.dyadic_long, C.dyadic_long, R.dyadic_long, 64⟩ := ⟨_, _, E.dyadic_long, B.dyadic_long, K.dyadic_long, Q.dyadic_long, N.dyadic_long, by kernel_rfl⟩
theorem X.whole_Add : GoodF Tryd.prog ⟨F.whole_Add, C.whole_Add, R.whole_Add, 57⟩ := ⟨_, _, E.whole_Add, B.whole_Add, K.whole_Add, Q.whole_Add, N.whole_Add, by kernel_rfl⟩
theorem X.dyadic_within : GoodF Tryd.prog ⟨F.dyadic_within, C.dyadic_within, R.dyadic_within, 9⟩ := ⟨_, _, E.dyadic_within, B.dyadic_within, K.dyadic_within, Q.dyadic_within, N.dyadic_within, by kernel_rfl⟩
theorem X.dyadic_direction : GoodF Tryd.prog ⟨F.dyadic_direction, C.dyadic_direction, R.dyadic_direction, 13⟩ := ⟨_, _, E.dyadic_direction, B.dyadic_direction, K.dyadic_direction, Q.dyadic_direction, N.dyadic_direction, by kernel_rfl⟩
theorem X.dyadic_rounded : GoodF Tryd.prog ⟨F.dyadic_rounded, C.dyadic_rounded, R.dyadic_rounded, 34⟩ := ⟨_, _, E.dyadic_rounded, B.dyadic_rounded, K.dyadic_rounded, Q.dyadic_rounded, N.dyadic_rounded, by kernel_rfl⟩
theorem X.nat_Compare : GoodF Tryd.prog ⟨F.nat_Compare, C.nat_Compare, R.nat_Compare, 45⟩ := ⟨_, _, E.nat_Compare, B.nat_Compare, K.nat_Compare, Q.nat_Compare, N.nat_Compare, by kernel_rfl⟩
theorem X.dyadic_odd : GoodF Tryd.prog ⟨F.dyadic_odd, C.dyadic_odd, R.dyadic_odd, 30⟩ := ⟨_, _, E.dyadic_odd, B.dyadic_odd, K.dyadic_odd, Q.dyadic_odd, N.dyadic_odd, by kernel_rfl⟩
theorem X.whole_Sign : GoodF Tryd.prog ⟨F.whole_Sign, C.whole_Sign, R.whole_Sign, 11⟩ := ⟨_, _, E.whole_Sign, B.whole_Sign, K.whole_Sign, Q.whole_Sign, N.whole_Sign, by kernel_rfl⟩
theorem X.dyadic_part_length : GoodF Tryd.prog ⟨F.dyadic_part_length, C.dyadic_part_length, R.dyadic_part_length, 7⟩ := ⟨_, _, E.dyadic_part_length, B.dyadic_part_length, K.dyadic_part_length, Q.dyadic_part_length, N.dyadic_part_length, by kernel_rfl⟩
theorem X.whole_fits : GoodF Tryd.prog ⟨F.whole_fits, C.whole_fits, R.whole_fits, 11⟩ := ⟨_, _, E.whole_fits, B.whole_fits, K.whole_fits, Q.whole_fits, N.whole_fits, by kernel_rfl⟩
theorem X.nat_Left : GoodF Tryd.prog ⟨F.nat_Left, C.nat_Left, R.nat_Left, 73⟩ := ⟨_, _, E.nat_Left, B.nat_Left, K.nat_Left, Q.nat_Left, N.nat_Left, by kernel_rfl⟩
theorem X.nat_Norm : GoodF Tryd.prog ⟨F.nat_Norm, C.nat_Norm, R.nat_Norm, 6⟩ := ⟨_, _, E.nat_Norm, B.nat_Norm, K.nat_Norm, Q.nat_Norm, N.nat_Norm, by kernel_rfl⟩
theorem X.dyadic_minus : GoodF Tryd.prog ⟨F.dyadic_minus, C.dyadic_minus, R.dyadic_minus, 49⟩ := ⟨_, _, E.dyadic_minus, B.dyadic_minus, K.dyadic_minus, Q.dyadic_minus, N.dyadic_minus, by kernel_rfl⟩
theorem X.dyadic_plus : GoodF Tryd.prog ⟨F.dyadic_plus, C.dyadic_plus, R.dyadic_plus, 51⟩ := ⟨_, _, E.dyadic_plus, B.dyadic_plus, K.dyadic_plus, Q.dyadic_plus, N.dyadic_plus, by kernel_rfl⟩
theorem X.whole_norm : GoodF Tryd.prog ⟨F.whole_norm, C.whole_norm, R.whole_norm, 16⟩ := ⟨_, _, E.whole_norm, B.whole_norm, K.whole_norm, Q.whole_norm, N.whole_norm, by kernel_rfl⟩
theorem X.nat_Add : GoodF Tryd.prog ⟨F.nat_Add, C.nat_Add, R.nat_Add, 61⟩ := ⟨_, _, E.nat_Add, B.nat_Add, K.nat_Add, Q.nat_Add, N.nat_Add, by kernel_rfl⟩
theorem X.whole_result : GoodF Tryd.prog ⟨F.whole_result, C.whole_result, R.whole_result, 18⟩ := ⟨_, _, E.whole_result, B.whole_result, K.whole_result, Q.whole_result, N.whole_result, by kernel_rfl⟩
theorem X.nat_Sub : GoodF Tryd.prog ⟨F.nat_Sub, C.nat_Sub, R.nat_Sub, 52⟩ := ⟨_, _, E.nat_Sub, B.nat_Sub, K.nat_Sub, Q.nat_Sub, N.nat_Sub, by kernel_rfl⟩
theorem X.dyadic_steps : GoodF Tryd.prog ⟨F.dyadic_steps, C.dyadic_steps, R.dyadic_steps, 98⟩ := ⟨_, _, E.dyadic_steps, B.dyadic_steps, K.dyadic_steps, Q.dyadic_steps, N.dyadic_steps, by kernel_rfl⟩
theorem X.nat_trim : GoodF Tryd.prog ⟨F.nat_trim, C.nat_trim, R.nat_trim, 21⟩ := ⟨_, _, E.nat_trim, B.nat_trim, K.nat_trim, Q.nat_trim, N.nat_trim, by kernel_rfl⟩
theorem X.nat_Tail : GoodF Tryd.prog ⟨F.nat_Tail, C.nat_Tail, R.nat_Tail, 20⟩ := ⟨_, _, E.nat_Tail, B.nat_Tail, K.nat_Tail, Q.nat_Tail, N.nat_Tail, by kernel_rfl⟩
theorem X.dyadic_shifted : GoodF Tryd.prog ⟨F.dyadic_shifted, C.dyadic_shifted, R.dyadic_shifted, 76⟩ := ⟨_, _, E.dyadic_shifted, B.dyadic_shifted, K.dyadic_shifted, Q.dyadic_shifted, N.dyadic_shifted, by kernel_rfl⟩
theorem X.nat_Length : GoodF Tryd.prog ⟨F.nat_Length, C.nat_Length, R.nat_Length, 20⟩ := ⟨_, _, E.nat_Length, B.nat_Length, K.nat_Length, Q.nat_Length, N.nat_Length, by kernel_rfl⟩
theorem X.dyadic_limb : GoodF Tryd.prog ⟨F.dyadic_limb, C.dyadic_limb, R.dyadic_limb, 13⟩ := ⟨_, _, E.dyadic_limb, B.dyadic_limb, K.dyadic_limb, Q.dyadic_limb, N.dyadic_limb, by kernel_rfl⟩
theorem X.nat_told : GoodF Tryd.prog ⟨F.nat_told, C.nat_told, R.nat_told, 10⟩ := ⟨_, _, E.nat_told, B.nat_told, K.nat_told, Q.nat_told, N.nat_told, by kernel_rfl⟩
theorem X.nat_Bit : GoodF Tryd.prog ⟨F.nat_Bit, C.nat_Bit, R.nat_Bit, 25⟩ := ⟨_, _, E.nat_Bit, B.nat_Bit, K.nat_Bit, Q.nat_Bit, N.nat_Bit, by kernel_rfl⟩
theorem X.nat_From : GoodF Tryd.prog ⟨F.nat_From, C.nat_From, R.nat_From, 7⟩ := ⟨_, _, E.nat_From, B.nat_From, K.nat_From, Q.nat_From, N.nat_From, by kernel_rfl⟩
theorem X.bits_TrailingZeros64 : GoodF Tryd.prog ⟨F.bits_TrailingZeros64, C.bits_TrailingZeros64, R.bits_TrailingZeros64, 14⟩ := ⟨_, _, E.bits_TrailingZeros64, B.bits_TrailingZeros64, K.bits_TrailingZeros64, Q.bits_TrailingZeros64, N.bits_TrailingZeros64, by kernel_rfl⟩
theorem X.nat_Right : GoodF Tryd.prog ⟨F.nat_Right, C.nat_Right, R.nat_Right, 77⟩ := ⟨_, _, E.nat_Right, B.nat_Right, K.nat_Right, Q.nat_Right, N.nat_Right, by kernel_rfl⟩
theorem X.bits_Len64 : GoodF Tryd.prog ⟨F.bits_Len64, C.bits_Len64, R.bits_Len64, 25⟩ := ⟨_, _, E.bits_Len64, B.bits_Len64, K.bits_Len64, Q.bits_Len64, N.bits_Len64, by kernel_rfl⟩
def XT : List XFun := [⟨F.surdlaw10_SpanNames, C.surdlaw10_SpanNames, R.surdlaw10_SpanNames, 22⟩,
  ⟨F.surdlaw10_num, C.surdlaw10_num, R.surdlaw10_num, 4⟩,
  ⟨F.surdlaw10_awake, C.surdlaw10_awake, R.surdlaw10_awake, 46⟩,
  ⟨F.span_Add, C.span_Add, R.span_Add, 24⟩,
  ⟨F.surdlaw10_small, C.surdlaw10_small, R.surdlaw10_small, 8⟩,
  ⟨F.surdref08_Int, C.surdref08_Int, R.surdref08_Int, 9⟩,
  ⟨F.surdref08_D_Is, C.surdref08_D_Is, R.surdref08_D_Is, 20⟩,
  ⟨F.span_checks, C.span_checks, R.span_checks, 26⟩,
  ⟨F.span_sums, C.span_sums, R.span_sums, 42⟩,
  ⟨F.surdref08_Of, C.surdref08_Of, R.surdref08_Of, 24⟩,
  ⟨F.surdref06_Int, C.surdref06_Int, R.surdref06_Int, 16⟩,
  ⟨F.surdref06_Z_Is, C.surdref06_Z_Is, R.surdref06_Z_Is, 17⟩,
  ⟨F.span_check, C.span_check, R.span_check, 20⟩,
  ⟨F.dyadic_Add, C.dyadic_Add, R.dyadic_Add, 25⟩,
  ⟨F.span_worst, C.span_worst, R.span_worst, 15⟩,
  ⟨F.span_outward, C.span_outward, R.span_outward, 31⟩,
  ⟨F.surdref06_Z_Sign, C.surdref06_Z_Sign, R.surdref06_Z_Sign, 8⟩,
  ⟨F.surdref01_Num_Tail, C.surdref01_Num_Tail, R.surdref01_Num_Tail, 14⟩,
  ⟨F.surdref01_Shr, C.surdref01_Shr, R.surdref01_Shr, 53⟩,
  ⟨F.surdref06_make1, C.surdref06_make1, R.surdref06_make1, 13⟩,
  ⟨F.surdref01_Of, C.surdref01_Of, R.surdref01_Of, 26⟩,
  ⟨F.surdref01_Int, C.surdref01_Int, R.surdref01_Int, 7⟩,
  ⟨F.surdref01_Num_Is, C.surdref01_Num_Is, R.surdref01_Num_Is, 29⟩,
  ⟨F.dyadic_Compare, C.dyadic_Compare, R.dyadic_Compare, 22⟩,
  ⟨F.dyadic_two, C.dyadic_two, R.dyadic_two, 28⟩,
  ⟨F.dyadic_sum, C.dyadic_sum, R.dyadic_sum, 97⟩,
  ⟨F.dyadic_Round, C.dyadic_Round, R.dyadic_Round, 36⟩,
  ⟨F.span_ends, C.span_ends, R.span_ends, 21⟩,
  ⟨F.surdref01_Num_Zero, C.surdref01_Num_Zero, R.surdref01_Num_Zero, 6⟩,
  ⟨F.surdref01_Num_Bit, C.surdref01_Num_Bit, R.surdref01_Num_Bit, 24⟩,
  ⟨F.surdref01_Num_at, C.surdref01_Num_at, R.surdref01_Num_at, 13⟩,
  ⟨F.surdref01_norm, C.surdref01_norm, R.surdref01_norm, 22⟩,
  ⟨F.surdref01_Num_Limbs, C.surdref01_Num_Limbs, R.surdref01_Num_Limbs, 34⟩,
  ⟨F.dyadic_compare, C.dyadic_compare, R.dyadic_compare, 71⟩,
  ⟨F.dyadic_read, C.dyadic_read, R.dyadic_read, 14⟩,
  ⟨F.dyadic_part_sign, C.dyadic_part_sign, R.dyadic_part_sign, 6⟩,
  ⟨F.dyadic_told, C.dyadic_told, R.dyadic_told, 34⟩,
  ⟨F.dyadic_number_top, C.dyadic_number_top, R.dyadic_number_top, 10⟩,
  ⟨F.whole_Make, C.whole_Make, R.whole_Make, 12⟩,
  ⟨F.dyadic_left, C.dyadic_left, R.dyadic_left, 65⟩,
  ⟨F.dyadic_long, C.dyadic_long, R.dyadic_long, 64⟩,
  ⟨F.whole_Add, C.whole_Add, R.whole_Add, 57⟩,
  ⟨F.dyadic_within, C.dyadic_within, R.dyadic_within, 9⟩,
  ⟨F.dyadic_direction, C.dyadic_direction, R.dyadic_direction, 13⟩,
  ⟨F.dyadic_rounded, C.dyadic_rounded, R.dyadic_rounded, 34⟩,
  ⟨F.nat_Compare, C.nat_Compare, R.nat_Compare, 45⟩,
  ⟨F.dyadic_odd, C.dyadic_odd, R.dyadic_odd, 30⟩,
  ⟨F.whole_Sign, C.whole_Sign, R.whole_Sign, 11⟩,
  ⟨F.dyadic_part_length, C.dyadic_part_length, R.dyadic_part_length, 7⟩,
  ⟨F.whole_fits, C.whole_fits, R.whole_fits, 11⟩,
  ⟨F.nat_Left, C.nat_Left, R.nat_Left, 73⟩,
  ⟨F.nat_Norm, C.nat_Norm, R.nat_Norm, 6⟩,
  ⟨F.dyadic_minus, C.dyadic_minus, R.dyadic_minus, 49⟩,
  ⟨F.dyadic_plus, C.dyadic_plus, R.dyadic_plus, 51⟩,
  ⟨F.whole_norm, C.whole_norm, R.whole_norm, 16⟩,
  ⟨F.nat_Add, C.nat_Add, R.nat_Add, 61⟩,
  ⟨F.whole_result, C.whole_result, R.whole_result, 18⟩,
  ⟨F.nat_Sub, C.nat_Sub, R.nat_Sub, 52⟩,
  ⟨F.dyadic_steps, C.dyadic_steps, R.dyadic_steps, 98⟩,
  ⟨F.nat_trim, C.nat_trim, R.nat_trim, 21⟩,
  ⟨F.nat_Tail, C.nat_Tail, R.nat_Tail, 20⟩,
  ⟨F.dyadic_shifted, C.dyadic_shifted, R.dyadic_shifted, 76⟩,
  ⟨F.nat_Length, C.nat_Length, R.nat_Length, 20⟩,
  ⟨F.dyadic_limb, C.dyadic_limb, R.dyadic_limb, 13⟩,
  ⟨F.nat_told, C.nat_told, R.nat_told, 10⟩,
  ⟨F.nat_Bit, C.nat_Bit, R.nat_Bit, 25⟩,
  ⟨F.nat_From, C.nat_From, R.nat_From, 7⟩,
  ⟨F.bits_TrailingZeros64, C.bits_TrailingZeros64, R.bits_TrailingZeros64, 14⟩,
  ⟨F.nat_Right, C.nat_Right, R.nat_Right, 77⟩,
  ⟨F.bits_Len64, C.bits_Len64, R.bits_Len64, 25⟩]
theorem XT_good : ∀ e ∈ XT, GoodF Tryd.prog e := by
  intro e h
  unfold XT at h
  simp only [List.mem_cons, List.not_mem_nil, or_false] at h
  rcases h with rfl | rfl | rfl | rfl | rfl | rfl | rfl | rfl | rfl | rfl | rfl | rfl | rfl | rfl | rfl | rfl | rfl | rfl | rfl | rfl | rfl | rfl | rfl | rfl | rfl | rfl | rfl | rfl | rfl | rfl | rfl | rfl | rfl | rfl | rfl | rfl | rfl | rfl | rfl | rfl | rfl | rfl | rfl | rfl | rfl | rfl | rfl | rfl | rfl | rfl | rfl | rfl | rfl | rfl | rfl | rfl | rfl | rfl | rfl | rfl | rfl | rfl | rfl | rfl | rfl | rfl | rfl | rfl | rfl | rfl
  · exact X.surdlaw10_SpanNames
  · exact X.surdlaw10_num
  · exact X.surdlaw10_awake
  · exact X.span_Add
  · exact X.surdlaw10_small
  · exact X.surdref08_Int
  · exact X.surdref08_D_Is
  · exact X.span_checks
  · exact X.span_sums
  · exact X.surdref08_Of
  · exact X.surdref06_Int
  · exact X.surdref06_Z_Is
  · exact X.span_check
  · exact X.dyadic_Add
  · exact X.span_worst
  · exact X.span_outward
  · exact X.surdref06_Z_Sign
  · exact X.surdref01_Num_Tail
  · exact X.surdref01_Shr
  · exact X.surdref06_make1
  · exact X.surdref01_Of
  · exact X.surdref01_Int
  · exact X.surdref01_Num_Is
  · exact X.dyadic_Compare
  · exact X.dyadic_two
  · exact X.dyadic_sum
  · exact X.dyadic_Round
  · exact X.span_ends
  · exact X.surdref01_Num_Zero
  · exact X.surdref01_Num_Bit
  · exact X.surdref01_Num_at
  · exact X.surdref01_norm
  · exact X.surdref01_Num_Limbs
  · exact X.dyadic_compare
  · exact X.dyadic_read
  · exact X.dyadic_part_sign
  · exact X.dyadic_told
  · exact X.dyadic_number_top
  · exact X.whole_Make
  · exact X.dyadic_left
  · exact X.dyadic_long
  · exact X.whole_Add
  · exact X.dyadic_within
  · exact X.dyadic_direction
  · exact X.dyadic_rounded
  · exact X.nat_Compare
  · exact X.dyadic_odd
  · exact X.whole_Sign
  · exact X.dyadic_part_length
  · exact X.whole_fits
  · exact X.nat_Left
  · exact X.nat_Norm
  · exact X.dyadic_minus
  · exact X.dyadic_plus
  · exact X.whole_norm
  · exact X.nat_Add
  · exact X.whole_result
  · exact X.nat_Sub
  · exact X.dyadic_steps
  · exact X.nat_trim
  · exact X.nat_Tail
  · exact X.dyadic_shifted
  · exact X.nat_Length
  · exact X.dyadic_limb
  · exact X.nat_told
  · exact X.nat_Bit
  · exact X.nat_From
  · exact X.bits_TrailingZeros64
  · exact X.nat_Right
  · exact X.bits_Len64
end Go.Proofs.YtacodmnlnlbahaaDoor
set_option maxRecDepth 100000
namespace Go.Proofs.YtacodmnlnlbahaaDoor
open Go.VM
theorem hm : Tryd.prog.follows .mixedOrders = true := by kernel_rfl
def orcNo : XOrc := fun _ _ => none
theorem orcNo_ok : OrcOk Tryd.prog orcNo := fun f xs v h => by cases h
theorem names_true : ∃ c', VCallP Tryd.prog 3 0 [] (bv true) c' :=
  xcall_p hm orcNo_ok XT_good (lend := fun _ => false) (rounds := 100000) (n := 60) (by kernel_rfl)
end Go.Proofs.YtacodmnlnlbahaaDoor
set_option linter.unusedVariables false
set_option maxRecDepth 100000
namespace Go.Proofs.YtacodmnlnlbahaaDoor
open Go.VM Go.ChangeShapes Go.WideShapes Go.ChangeAt Go.RowKit

theorem own : ownKnob Tryd.prog.godebug = none := by kernel_rfl
theorem gTab : Tryd.prog.globalNamed "math/bits.deBruijn64tab" = some 0 := by kernel_rfl
theorem gTabType : (Tryd.prog.globals[0]?).map (·.type) = some 108 := by kernel_rfl
theorem cellsT : Tryd.prog.cellsOf 108 = 64 := by kernel_rfl
theorem cellsB : Tryd.prog.cellsOf 5 = 1 := by kernel_rfl
def tabZ : List Int := [0, 1, 56, 2, 57, 49, 28, 3, 61, 58, 42, 50, 38, 29, 17, 4, 62, 47, 59, 36, 45, 43, 51, 22, 53, 39, 33, 30, 24, 18, 12, 5, 63, 55, 48, 27, 60, 41, 37, 16, 46, 35, 44, 21, 52, 32, 23, 11, 54, 26, 40, 15, 34, 20, 31, 10, 25, 14, 19, 9, 13, 8, 7, 6]
theorem table {W : World} (h : laidMetH Tryd.prog Rows.spanNamesRow.laid W) : ∀ g l, Go.VM.GT g = some l → g < W.heap.size ∧ ∃ arr T, W.heap[g]? = some (.cells arr T (0, 0)) ∧ Ones arr ∧ ∀ (j : Nat) (v : Value), l[j]? = some v → arr[j]? = some v := by
  intro g l hgl
  unfold Go.VM.GT at hgl
  split at hgl
  · rename_i e
    subst e
    cases hgl
    have hT : Lib.TabIs Tryd.prog W "math/bits.deBruijn64tab" .u8 tabZ := Lib.tabIs_of_head (rest := []) gTab gTabType Tryd.underlying108 Tryd.underlying5 cellsB cellsT h
    exact glob_of_laid (rest := []) gTab hT (by decide) h
  · cases hgl

theorem row_contract (H : Type) (enc : TypeId × Value → H) (W : World) (base : Nat) (args : Array Value) (ds gs : List (DataW H)) (before : List MemPlace)
    (hval : ∀ (j : Nat) t v, Tryd.f3.params[j]? = some t → args[j]? = some v → Value.okWide Tryd.prog W .any base t v)
    (hW : DataW.Whole enc Tryd.prog Tryd.f3.params.toList Rows.spanNamesSpec.vars false W args.toList ds gs before) (hL : laidMetH Tryd.prog Rows.spanNamesRow.laid W) :
    Calls Tryd.prog 3 args W fun e W' => ∃ v, e = .returned v ∧ Rows.spanNamesSpec.post enc Tryd.prog Tryd.f3 false true false false W args v W' := by
  have hW' := hW
  obtain ⟨p, q, hA0, hV, rfl, hfz, hnd⟩ := hW
  have hA : DataW.TrodAll enc Tryd.prog W 0 (fun _ => true) true Tryd.f3.params.toList args.toList ds p := hA0
  rw [Tryd.params3] at hA hval
  obtain ⟨hv, rfl, rfl⟩ := trodAll_nil hA
  obtain rfl : args = #[] := by cases args; simp_all
  obtain ⟨rfl, rfl⟩ := trodVars_none hV
  clear hA0
  simp only [List.append_nil] at hW'
  obtain ⟨c9, hc9⟩ := names_true
  refine (calls_same hc9 W #[] rfl (fun j x v h => by simp at h) ⟨_, rfl⟩ (hg := table hL)).mono fun e W' ⟨v, he, hv, hs⟩ => ?_
  subst he
  cases hv
  exact ⟨_, rfl, post_kept (pa := []) (pv := []) hW' hs (fun _ _ _ => trodAll_cons_mk (shut_bool Tryd.underlying4 _) trodAll_mk0) (fun _ _ => trodAll_mk0) (fun _ _ => rfl) rfl
    (ok_one (by kernel_rfl) rfl (okWide_bool_mk Tryd.underlying4 _))⟩

/-- a world for the witness: the settled one, the table as its initialiser lays it -/
noncomputable def laidWorld (os : Os) : World :=
  { World.holding Tryd.prog os ⟨#[], #[], []⟩ with heap := (World.holding Tryd.prog os ⟨#[], #[], []⟩).heap.modify 0 fun
      | .cells _ t frozen => .cells (tabZ.map fun z => Value.int .u8 z).toArray t frozen
      | o => o }
theorem laid_met (os : Os) : laidMet Tryd.prog Rows.spanNamesRow.laid ((laidWorld os).forCall (fun _ _ => 0) ⟨#[], #[], []⟩).memory :=
  laidMet_of_run' 8 (by kernel_rfl) (by kernel_rfl)
theorem reads (os : Os) {H : Type} (enc : TypeId × Value → H) : ∃ places, DataW.whole enc Tryd.prog ((laidWorld os).forCall (fun _ _ => 0) ⟨#[], #[], []⟩).memory Tryd.f3.params.toList Rows.spanNamesSpec.vars false (#[] : Array Value).toList 8 = some ([], [], places) :=
  ⟨[], by kernel_rfl⟩

theorem row_lifted (os : Os) (started : os.Started) (H : Type) (enc : TypeId × Value → H) (F : Stop.Interp) :
    ReturnsInHanded {} Tryd.checked os 3 .any ((OpenSpec.ofChange Rows.spanNamesSpec).preRow enc Tryd.prog Tryd.f3 Rows.spanNamesRow.domain false Rows.spanNamesRow.laid) (((OpenSpec.ofChange Rows.spanNamesSpec).at F).post enc Tryd.prog Tryd.f3 false true false false) := by
  obtain ⟨places, hx⟩ := reads os enc
  refine returnsInHanded_of_row (C := Tryd.checked) (s := OpenSpec.ofChange Rows.spanNamesSpec) own started (by kernel_rfl) Tryd.func3
    (witness_row_at (enc := enc) (C := Tryd.checked) false (laidWorld os) #[] rfl (by kernel_rfl) (by kernel_rfl) (by kernel_rfl)
      (OpenSpec.preRow_of_cond 8 hx (by kernel_rfl) (fun k hk => by cases hk) (by kernel_rfl) (laid_met os))) ?_
  intro W base args ds gs before hval hW _ _ _ hL _ _
  exact row_contract H enc W base args ds gs before hval hW hL

theorem said : Rows.SpanNamesSaid :=
  OpenClaim.holds_of_cond 3 Tryd.f3 rfl rfl rfl rfl rfl rfl rfl ⟨rfl, rfl, rfl, rfl, rfl⟩ rfl rfl rfl rfl rfl (by kernel_rfl) Tryd.func3 (by kernel_rfl)
    (of_decide_eq_true (by kernel_rfl)) (by unfold Func.isWrapper; first | (rw [if_pos (by decide +kernel)]; kernel_rfl) | (rw [if_neg (by decide +kernel)]; exact ⟨rfl, rfl⟩))
    (fun os started H enc _ F => by rw [OpenClaim.pre_eq_preRow]; exact row_lifted os started H enc F)

theorem plain (f : FuncId) (fn : Func) (hf : Tryd.pinned.checked.prog.funcNamed "surd/surdlaw10.SpanNames" = some f) (hfn : Tryd.pinned.checked.prog.funcs[f]? = some fn) :
    false = Tryd.pinned.checked.prog.looks [] ∧ ∀ (j : Nat) t, fn.params[j]? = some t → Tryd.pinned.checked.prog.wantsStandIn t = false := by
  obtain rfl : f = 3 := Option.some.inj ((show Tryd.prog.funcNamed "surd/surdlaw10.SpanNames" = some 3 by kernel_rfl).symm.trans hf) |>.symm
  obtain rfl : fn = Tryd.f3 := (Option.some.inj (Tryd.func3.symm.trans hfn)).symm
  refine ⟨by kernel_rfl, fun j t ht => ?_⟩
  rw [Tryd.params3] at ht
  simp at ht

theorem row_holds : Rows.SpanNamesCardSaid :=
  Claim7.holds_tied_plain_at .later [] _ _ _ _ said (fun _ h => by cases h) (by kernel_rfl) (fun _ h => by cases h) spanNames_row_tie rfl ⟨rfl, rfl⟩ (by kernel_rfl) rfl plain (by kernel_rfl)
#print axioms row_holds
end Go.Proofs.YtacodmnlnlbahaaDoor
