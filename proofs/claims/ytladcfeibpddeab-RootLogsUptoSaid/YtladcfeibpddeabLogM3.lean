/- Texts of a claim, merged: what they prove is told at the last one's head. -/
import Derived.Test.YtladcfeibpddeabLogM2
import Derived.Test.YtladcfeibpddeabProg
set_option linter.unusedVariables false
namespace Go.Proofs.Ytladcfeibpddeab
open Go.VM

abbrev F.surdlaw04_RootLists : FuncId := 3
abbrev F.surdlaw04_RootOwn : FuncId := 4
abbrev F.surdlaw04_RootLogs : FuncId := 5
abbrev F.surdlaw04_RootOnce : FuncId := 6
abbrev F.surdlaw04_RootSteps : FuncId := 7
abbrev F.surdlaw04_RootNewton : FuncId := 8
abbrev F.surdlaw04_RootChains : FuncId := 9
abbrev F.surdlaw04_RootPell : FuncId := 10
abbrev F.surdref01_Lend : FuncId := 11
abbrev F.roots_Roots : FuncId := 12
abbrev F.roots_Residue : FuncId := 13
abbrev F.surdref04_Roots : FuncId := 14
abbrev F.surdref01_Of : FuncId := 15
abbrev F.surdlaw04_num : FuncId := 16
abbrev F.surdref01_Kept : FuncId := 17
abbrev F.surdlaw04_skew : FuncId := 18
abbrev F.surdlaw04_awake : FuncId := 19
abbrev F.surdref01_Num_Len : FuncId := 20
abbrev F.surdref01_Root : FuncId := 21
abbrev F.roots_Root : FuncId := 22
abbrev F.roots_Sqrt : FuncId := 23
abbrev F.roots_Ceil : FuncId := 24
abbrev F.roots_Perfect : FuncId := 25
abbrev F.surdref01_Num_Is : FuncId := 26
abbrev F.surdref01_Own : FuncId := 27
abbrev F.surdref01_Copy : FuncId := 28
abbrev F.surdref04_Log : FuncId := 29
abbrev F.roots_Log : FuncId := 30
abbrev F.surdref01_Cmp : FuncId := 31
abbrev F.surdlaw04_of : FuncId := 32
abbrev F.roots_IsSquare : FuncId := 33
abbrev F.surdref01_Pow : FuncId := 34
abbrev F.surdref04_Step : FuncId := 35
abbrev F.roots_Step : FuncId := 36
abbrev F.surdlaw04_alike : FuncId := 37
abbrev F.surdref01_Num_Zero : FuncId := 38
abbrev F.surdref01_Add : FuncId := 39
abbrev F.surdlaw04_one : FuncId := 40
abbrev F.roots_Chain : FuncId := 41
abbrev F.surdref04_Chain : FuncId := 42
abbrev F.roots_Pell : FuncId := 43
abbrev F.surdref04_Pell : FuncId := 44
abbrev F.surdref01_Mul : FuncId := 45
abbrev F.surdref01_Int : FuncId := 46
abbrev F.nat_Through : FuncId := 47
abbrev F.surdref01_Div : FuncId := 48
abbrev F.surdref01_norm : FuncId := 49
abbrev F.surdref01_Shl : FuncId := 50
abbrev F.roots_fits : FuncId := 51
abbrev F.nat_Length : FuncId := 52
abbrev F.roots_newton : FuncId := 53
abbrev F.mul_Pow : FuncId := 54
abbrev F.roots_less : FuncId := 55
abbrev F.nat_Add : FuncId := 56
abbrev F.nat_From : FuncId := 57
abbrev F.surdref01_Num_Limbs : FuncId := 58
abbrev F.mul_Square : FuncId := 59
abbrev F.nat_Compare : FuncId := 60
abbrev F.mul_Mul : FuncId := 61
abbrev F.surdref04_told : FuncId := 62
abbrev F.surdref01_Shr : FuncId := 63
abbrev F.div_Quo : FuncId := 64
abbrev F.nat_Right : FuncId := 65
abbrev F.nat_Bit : FuncId := 66
abbrev F.surdref01_Num_at : FuncId := 67
abbrev F.roots_next : FuncId := 68
abbrev F.nat_trim : FuncId := 69
abbrev F.bits_Div64 : FuncId := 70
abbrev F.nat_told : FuncId := 71
abbrev F.surdref01_Sub : FuncId := 72
abbrev F.nat_Norm : FuncId := 73
abbrev F.bits_Len64 : FuncId := 74
abbrev F.roots_power : FuncId := 75
abbrev F.nat_Times : FuncId := 76
abbrev F.nat_Sub : FuncId := 77
abbrev F.mul_product : FuncId := 79
abbrev F.mul_Mul_1 : FuncId := 80
abbrev F.mul_halved : FuncId := 81
abbrev F.div_divide : FuncId := 82
abbrev F.bits_LeadingZeros64 : FuncId := 83
abbrev F.nat_Left : FuncId := 84
abbrev F.bits_Mul64 : FuncId := 85
abbrev F.mul_great : FuncId := 87
abbrev F.mul_fits : FuncId := 88
abbrev F.mul_school : FuncId := 89
abbrev F.mul_addAt : FuncId := 90
abbrev F.mul_part : FuncId := 91
abbrev F.mul_less : FuncId := 92
abbrev F.mul_sum : FuncId := 93
abbrev F.div_up : FuncId := 94
abbrev F.div_guess : FuncId := 95
abbrev F.div_down : FuncId := 96
def C.surdlaw04_RootLists : VC :=
  .seq (.region false [⟨some 4, .mov (.c (bv false)), none⟩]) (.seq (.region false [⟨some 18, .mov (.t 0), none⟩,
   ⟨some 19, .call F.surdref01_Lend [.t 18], none⟩,
   ⟨some 17, .mov (.t 19), none⟩,
   ⟨some 20, .ext (.t 17) 0, none⟩,
   ⟨some 21, .ext (.t 17) 1, none⟩,
   ⟨some 5, .mov (.t 20), none⟩,
   ⟨some 6, .mov (.t 21), none⟩]) (.seq (.region false [⟨some 23, .mov (.t 6), none⟩,
   ⟨some 24, .mov (.t 1), none⟩,
   ⟨some 25, .call F.roots_Roots [.t 23, .t 24], none⟩,
   ⟨some 22, .mov (.t 25), none⟩,
   ⟨some 26, .ext (.t 22) 0, none⟩,
   ⟨some 27, .ext (.t 22) 1, none⟩,
   ⟨some 7, .mov (.t 26), none⟩,
   ⟨some 8, .mov (.t 27), none⟩]) (.seq (.region false [⟨some 29, .mov (.t 6), none⟩,
   ⟨some 30, .mov (.t 1), none⟩,
   ⟨some 31, .call F.roots_Roots [.t 29, .t 30], none⟩,
   ⟨some 28, .mov (.t 31), none⟩,
   ⟨some 32, .ext (.t 28) 0, none⟩,
   ⟨some 33, .ext (.t 28) 1, none⟩,
   ⟨some 9, .mov (.t 32), none⟩,
   ⟨some 10, .mov (.t 33), none⟩]) (.seq (.region false [⟨some 35, .mov (.t 6), none⟩,
   ⟨some 36, .mov (.t 1), none⟩,
   ⟨some 37, .call F.roots_Residue [.t 35, .t 36], none⟩,
   ⟨some 34, .mov (.t 37), none⟩,
   ⟨some 38, .ext (.t 34) 0, none⟩,
   ⟨some 39, .ext (.t 34) 1, none⟩,
   ⟨some 11, .mov (.t 38), none⟩,
   ⟨some 12, .mov (.t 39), none⟩]) (.seq (.region false [⟨some 41, .mov (.t 0), none⟩,
   ⟨some 42, .call F.surdref01_Of [.t 41], none⟩,
   ⟨some 43, .mov (.t 1), none⟩,
   ⟨some 44, .call F.surdref04_Roots [.t 42, .t 43], none⟩,
   ⟨some 40, .mov (.t 44), none⟩,
   ⟨some 45, .ext (.t 40) 0, none⟩,
   ⟨some 46, .ext (.t 40) 1, none⟩,
   ⟨some 13, .mov (.t 45), none⟩,
   ⟨some 14, .mov (.t 46), none⟩]) (.seq (.seq (.region false [⟨some 47, .mov (.t 8), none⟩,
   ⟨some 48, .call F.surdlaw04_num [.t 47], none⟩,
   ⟨some 49, .mov (.t 14), none⟩,
   ⟨some 50, .bin .neq false (.t 48) (.t 49), none⟩,
   ⟨some 51, .mov (.t 50), none⟩,
   ⟨some 52, .mov (.t 10), some (51, false)⟩,
   ⟨some 53, .call F.surdlaw04_num [.t 52], some (51, false)⟩,
   ⟨some 54, .mov (.t 14), some (51, false)⟩,
   ⟨some 55, .bin .neq false (.t 53) (.t 54), some (51, false)⟩,
   ⟨some 56, .pick (.t 51) (.c (bv true)) (.t 55), none⟩,
   ⟨some 57, .mov (.t 56), none⟩,
   ⟨some 58, .mov (.t 12), some (57, false)⟩,
   ⟨some 59, .call F.surdlaw04_num [.t 58], some (57, false)⟩,
   ⟨some 60, .mov (.t 14), some (57, false)⟩,
   ⟨some 61, .bin .neq false (.t 59) (.t 60), some (57, false)⟩,
   ⟨some 62, .pick (.t 57) (.c (bv true)) (.t 61), none⟩,
   ⟨some 63, .mov (.t 62), none⟩,
   ⟨some 64, .mov (.t 7), some (63, false)⟩,
   ⟨some 65, .len (.t 64), some (63, false)⟩,
   ⟨some 66, .mov (.t 13), some (63, false)⟩,
   ⟨some 67, .len (.t 66), some (63, false)⟩,
   ⟨some 68, .bin .neq false (.t 65) (.t 67), some (63, false)⟩,
   ⟨some 69, .pick (.t 63) (.c (bv true)) (.t 68), none⟩,
   ⟨some 70, .mov (.t 69), none⟩,
   ⟨some 71, .mov (.t 9), some (70, false)⟩,
   ⟨some 72, .len (.t 71), some (70, false)⟩,
   ⟨some 73, .mov (.t 13), some (70, false)⟩,
   ⟨some 74, .len (.t 73), some (70, false)⟩,
   ⟨some 75, .bin .neq false (.t 72) (.t 74), some (70, false)⟩,
   ⟨some 76, .pick (.t 70) (.c (bv true)) (.t 75), none⟩,
   ⟨some 77, .mov (.t 76), none⟩,
   ⟨some 78, .mov (.t 5), some (77, false)⟩,
   ⟨some 79, .mov (.t 0), some (77, false)⟩,
   ⟨some 80, .call F.surdref01_Kept [.t 78, .t 79], some (77, false)⟩,
   ⟨some 81, .un .not (.t 80), some (77, false)⟩,
   ⟨some 82, .pick (.t 77) (.c (bv true)) (.t 81), none⟩]) (.cond (.t 82) (.seq (.region false [⟨some 4, .mov (.c (bv false)), none⟩]) .ret) .skip)) (.seq (.seq (.region false [⟨some 83, .mov (.t 13), none⟩,
   ⟨some 84, .len (.t 83), none⟩,
   ⟨some 85, .mov (.c (iv 0)), none⟩]) (.block 0 (.loop (.seq (.region false [⟨some 86, .bin .lss false (.t 85) (.t 84), none⟩]) (.seq (.cond (.t 86) .skip (.exit 0)) (.seq (.block 1 (.seq (.region false [⟨some 87, .mov (.t 85), none⟩,
   ⟨some 15, .mov (.t 87), none⟩]) (.seq (.seq (.region true [⟨some 88, .mov (.t 7), none⟩,
   ⟨some 89, .mov (.t 15), none⟩,
   ⟨some 90, .ixa 1 (.t 88) (.t 89), none⟩,
   ⟨some 91, .load none (.t 90), none⟩,
   ⟨some 92, .mov (.t 13), none⟩,
   ⟨some 93, .mov (.t 15), none⟩,
   ⟨some 94, .ixa 1 (.t 92) (.t 93), none⟩,
   ⟨some 95, .load none (.t 94), none⟩,
   ⟨some 96, .bin .neq false (.t 91) (.t 95), none⟩]) (.cond (.t 96) (.seq (.region false [⟨some 4, .mov (.c (bv false)), none⟩]) .ret) .skip)) (.region false [⟨some 97, .mov (.t 7), none⟩,
   ⟨some 98, .mov (.t 15), none⟩,
   ⟨some 99, .ixa 1 (.t 97) (.t 98), none⟩,
   ⟨none, .store 1 (.t 99) (.c (iv (-1))), none⟩])))) (.region false [⟨some 100, .bin .add false (.t 85) (.c (iv 1)), none⟩,
   ⟨some 85, .mov (.t 100), none⟩]))))))) (.seq (.seq (.region false [⟨some 101, .mov (.t 13), none⟩,
   ⟨some 102, .len (.t 101), none⟩,
   ⟨some 103, .mov (.c (iv 0)), none⟩]) (.block 2 (.loop (.seq (.region false [⟨some 104, .bin .lss false (.t 103) (.t 102), none⟩]) (.seq (.cond (.t 104) .skip (.exit 2)) (.seq (.block 3 (.seq (.region false [⟨some 105, .mov (.t 103), none⟩,
   ⟨some 16, .mov (.t 105), none⟩]) (.seq (.region true [⟨some 106, .mov (.t 9), none⟩,
   ⟨some 107, .mov (.t 16), none⟩,
   ⟨some 108, .ixa 1 (.t 106) (.t 107), none⟩,
   ⟨some 109, .load none (.t 108), none⟩,
   ⟨some 110, .mov (.t 13), none⟩,
   ⟨some 111, .mov (.t 16), none⟩,
   ⟨some 112, .ixa 1 (.t 110) (.t 111), none⟩,
   ⟨some 113, .load none (.t 112), none⟩,
   ⟨some 114, .bin .neq false (.t 109) (.t 113), none⟩,
   ⟨some 115, .mov (.t 114), none⟩,
   ⟨some 116, .mov (.t 13), some (115, false)⟩,
   ⟨some 117, .mov (.t 16), some (115, false)⟩,
   ⟨some 118, .ixa 1 (.t 116) (.t 117), some (115, false)⟩,
   ⟨some 119, .load none (.t 118), some (115, false)⟩,
   ⟨some 120, .bin .gtr false (.t 119) (.c (iv 0)), some (115, false)⟩,
   ⟨some 121, .mov (.t 120), some (115, false)⟩,
   ⟨some 122, .mov (.t 9), some (121, true)⟩,
   ⟨some 123, .mov (.t 9), some (121, true)⟩,
   ⟨some 124, .len (.t 123), some (121, true)⟩,
   ⟨some 125, .bin .sub false (.t 124) (.c (iv 1)), some (121, true)⟩,
   ⟨some 126, .mov (.t 16), some (121, true)⟩,
   ⟨some 127, .bin .sub false (.t 125) (.t 126), some (121, true)⟩,
   ⟨some 128, .mov (.t 13), some (121, true)⟩,
   ⟨some 129, .call F.surdlaw04_skew [.t 128], some (121, true)⟩,
   ⟨some 130, .bin .add false (.t 127) (.t 129), some (121, true)⟩,
   ⟨some 131, .ixa 1 (.t 122) (.t 130), some (121, true)⟩,
   ⟨some 132, .load none (.t 131), some (121, true)⟩,
   ⟨some 133, .mov (.t 1), some (121, true)⟩,
   ⟨some 134, .mov (.t 13), some (121, true)⟩,
   ⟨some 135, .mov (.t 16), some (121, true)⟩,
   ⟨some 136, .ixa 1 (.t 134) (.t 135), some (121, true)⟩,
   ⟨some 137, .load none (.t 136), some (121, true)⟩,
   ⟨some 138, .bin .sub false (.t 133) (.t 137), some (121, true)⟩,
   ⟨some 139, .bin .neq false (.t 132) (.t 138), some (121, true)⟩,
   ⟨some 140, .pick (.t 121) (.t 139) (.c (bv false)), some (115, false)⟩,
   ⟨some 141, .pick (.t 115) (.c (bv true)) (.t 140), none⟩]) (.cond (.t 141) (.seq (.region false [⟨some 4, .mov (.c (bv false)), none⟩]) .ret) .skip)))) (.region false [⟨some 142, .bin .add false (.t 103) (.c (iv 1)), none⟩,
   ⟨some 103, .mov (.t 142), none⟩]))))))) (.seq (.region false [⟨some 143, .mov (.t 14), none⟩,
   ⟨some 144, .bin .neq false (.t 143) (.c (iv 0)), none⟩,
   ⟨some 145, .mov (.t 144), none⟩,
   ⟨some 146, .mov (.t 11), some (145, false)⟩,
   ⟨some 147, .mov (.t 13), some (145, false)⟩,
   ⟨some 148, .len (.t 147), some (145, false)⟩,
   ⟨some 149, .bin .gtr false (.t 148) (.c (iv 0)), some (145, false)⟩,
   ⟨some 150, .bin .eql true (.t 146) (.t 149), some (145, false)⟩,
   ⟨some 151, .pick (.t 145) (.c (bv true)) (.t 150), none⟩,
   ⟨some 152, .mov (.t 151), none⟩,
   ⟨some 153, .call F.surdlaw04_awake [], some (152, true)⟩,
   ⟨some 154, .pick (.t 152) (.t 153) (.c (bv false)), none⟩,
   ⟨some 4, .mov (.t 154), none⟩]) .ret)))))))))
def R.surdlaw04_RootLists : List VRes := [.tmp 4]
theorem K.surdlaw04_RootLists : resCode Try.prog Try.f3.ntmps (Try.f3.body.getD .skip) = C.surdlaw04_RootLists := by kernel_rfl
theorem Q.surdlaw04_RootLists : resResults Try.prog Try.f3.results.toList = some R.surdlaw04_RootLists := by kernel_rfl
theorem E.surdlaw04_RootLists : Try.prog.funcs[F.surdlaw04_RootLists]? = some Try.f3 := Try.func3
theorem B.surdlaw04_RootLists : Try.f3.body = some (Try.f3.body.getD .skip) := by kernel_rfl
theorem N.surdlaw04_RootLists : Try.f3.ntmps = 155 := Try.ntmps3

def C.surdlaw04_RootOwn : VC :=
  .seq (.region false [⟨some 6, .mov (.c (bv false)), none⟩]) (.seq (.region false [⟨some 33, .mov (.t 2), none⟩,
   ⟨some 34, .bin .rem false (.t 33) (.c (iv 6)), none⟩,
   ⟨some 35, .bin .add false (.t 34) (.c (iv 6)), none⟩,
   ⟨some 36, .bin .rem false (.t 35) (.c (iv 6)), none⟩,
   ⟨some 37, .bin .add false (.t 36) (.c (iv 1)), none⟩,
   ⟨some 2, .mov (.t 37), none⟩]) (.seq (.seq (.region false [⟨some 38, .mov (.t 0), none⟩,
   ⟨some 39, .call F.surdref01_Of [.t 38], none⟩,
   ⟨some 40, .call F.surdref01_Num_Len [.t 39], none⟩,
   ⟨some 41, .bin .gtr false (.t 40) (.c (iv 67108864)), none⟩,
   ⟨some 42, .mov (.t 41), none⟩,
   ⟨some 43, .mov (.t 1), some (42, false)⟩,
   ⟨some 44, .call F.surdref01_Of [.t 43], some (42, false)⟩,
   ⟨some 45, .call F.surdref01_Num_Len [.t 44], some (42, false)⟩,
   ⟨some 46, .bin .gtr false (.t 45) (.c (iv 67108864)), some (42, false)⟩,
   ⟨some 47, .pick (.t 42) (.c (bv true)) (.t 46), none⟩]) (.cond (.t 47) (.seq (.region false [⟨some 48, .call F.surdlaw04_awake [], none⟩,
   ⟨some 6, .mov (.t 48), none⟩]) .ret) .skip)) (.seq (.region false [⟨some 49, .mov (.t 0), none⟩,
   ⟨some 50, .call F.surdref01_Of [.t 49], none⟩,
   ⟨some 51, .call F.surdref01_Root [.t 50], none⟩,
   ⟨some 7, .mov (.t 51), none⟩]) (.seq (.region false [⟨some 8, .mov (.c nil1), none⟩]) (.seq (.seq (.region false [⟨some 9, .mov (.c (iv 0)), none⟩]) (.block 0 (.loop (.seq (.seq (.region false [⟨some 52, .mov (.t 9), none⟩,
   ⟨some 53, .bin .lss false (.t 52) (.c (iv 3)), none⟩]) (.cond (.t 53) .skip (.exit 0))) (.seq (.block 1 (.seq (.region false [⟨some 56, .mov (.t 0), none⟩,
   ⟨some 10, .mov (.t 56), none⟩]) (.seq (.seq (.region false [⟨some 57, .mov (.t 9), none⟩,
   ⟨some 58, .bin .eql false (.t 57) (.c (iv 1)), none⟩]) (.cond (.t 58) (.region false [⟨some 59, .mov (.t 1), none⟩,
   ⟨some 10, .mov (.t 59), none⟩]) .skip)) (.seq (.region false [⟨some 61, .mov (.t 10), none⟩,
   ⟨some 62, .mov (.t 2), none⟩,
   ⟨some 63, .call F.roots_Root [.t 61, .t 62], none⟩,
   ⟨some 60, .mov (.t 63), none⟩,
   ⟨some 64, .ext (.t 60) 0, none⟩,
   ⟨some 65, .ext (.t 60) 1, none⟩,
   ⟨some 66, .ext (.t 60) 2, none⟩,
   ⟨some 11, .mov (.t 64), none⟩,
   ⟨some 12, .mov (.t 65), none⟩,
   ⟨some 13, .mov (.t 66), none⟩]) (.seq (.region false [⟨some 68, .mov (.t 10), none⟩,
   ⟨some 69, .call F.roots_Sqrt [.t 68], none⟩,
   ⟨some 67, .mov (.t 69), none⟩,
   ⟨some 70, .ext (.t 67) 0, none⟩,
   ⟨some 71, .ext (.t 67) 1, none⟩,
   ⟨some 72, .ext (.t 67) 2, none⟩,
   ⟨some 14, .mov (.t 70), none⟩,
   ⟨some 15, .mov (.t 71), none⟩,
   ⟨some 16, .mov (.t 72), none⟩]) (.seq (.region false [⟨some 74, .mov (.t 10), none⟩,
   ⟨some 75, .call F.roots_Ceil [.t 74], none⟩,
   ⟨some 73, .mov (.t 75), none⟩,
   ⟨some 76, .ext (.t 73) 0, none⟩,
   ⟨some 77, .ext (.t 73) 1, none⟩,
   ⟨some 17, .mov (.t 76), none⟩,
   ⟨some 18, .mov (.t 77), none⟩]) (.seq (.region false [⟨some 79, .mov (.t 10), none⟩,
   ⟨some 80, .call F.roots_Perfect [.t 79], none⟩,
   ⟨some 78, .mov (.t 80), none⟩,
   ⟨some 81, .ext (.t 78) 0, none⟩,
   ⟨some 82, .ext (.t 78) 1, none⟩,
   ⟨some 83, .ext (.t 78) 2, none⟩,
   ⟨some 19, .mov (.t 81), none⟩,
   ⟨some 20, .mov (.t 82), none⟩,
   ⟨some 21, .mov (.t 83), none⟩]) (.seq (.seq (.region false [⟨some 84, .mov (.t 13), none⟩,
   ⟨some 85, .call F.surdlaw04_num [.t 84], none⟩,
   ⟨some 86, .bin .neq false (.t 85) (.c (iv 0)), none⟩,
   ⟨some 87, .mov (.t 86), none⟩,
   ⟨some 88, .mov (.t 16), some (87, false)⟩,
   ⟨some 89, .call F.surdlaw04_num [.t 88], some (87, false)⟩,
   ⟨some 90, .bin .neq false (.t 89) (.c (iv 0)), some (87, false)⟩,
   ⟨some 91, .pick (.t 87) (.c (bv true)) (.t 90), none⟩,
   ⟨some 92, .mov (.t 91), none⟩,
   ⟨some 93, .mov (.t 18), some (92, false)⟩,
   ⟨some 94, .call F.surdlaw04_num [.t 93], some (92, false)⟩,
   ⟨some 95, .bin .neq false (.t 94) (.c (iv 0)), some (92, false)⟩,
   ⟨some 96, .pick (.t 92) (.c (bv true)) (.t 95), none⟩,
   ⟨some 97, .mov (.t 96), none⟩,
   ⟨some 98, .mov (.t 21), some (97, false)⟩,
   ⟨some 99, .call F.surdlaw04_num [.t 98], some (97, false)⟩,
   ⟨some 100, .bin .neq false (.t 99) (.c (iv 0)), some (97, false)⟩,
   ⟨some 101, .pick (.t 97) (.c (bv true)) (.t 100), none⟩,
   ⟨some 102, .mov (.t 101), none⟩,
   ⟨some 103, .mov (.t 9), some (102, false)⟩,
   ⟨some 104, .bin .neq false (.t 103) (.c (iv 1)), some (102, false)⟩,
   ⟨some 105, .mov (.t 104), some (102, false)⟩,
   ⟨some 106, .mov (.t 7), some (105, true)⟩,
   ⟨some 107, .mov (.t 14), some (105, true)⟩,
   ⟨some 108, .call F.surdref01_Num_Is [.t 106, .t 107], some (105, true)⟩,
   ⟨some 109, .un .not (.t 108), some (105, true)⟩,
   ⟨some 110, .pick (.t 105) (.t 109) (.c (bv false)), some (102, false)⟩,
   ⟨some 111, .pick (.t 102) (.c (bv true)) (.t 110), none⟩]) (.cond (.t 111) (.seq (.region false [⟨some 6, .mov (.c (bv false)), none⟩]) .ret) .skip)) (.region false [⟨some 112, .mov (.t 8), none⟩,
   ⟨some 113, .mov (.t 11), none⟩,
   ⟨some 114, .mov (.t 12), none⟩,
   ⟨some 115, .mov (.t 14), none⟩,
   ⟨some 116, .mov (.t 15), none⟩,
   ⟨some 117, .mov (.t 17), none⟩,
   ⟨some 118, .mov (.t 19), none⟩,
   ⟨some 119, .bsl true 1 6 [.slice none 0 0] [(0, (1, .t 113)), (1, (1, .t 114)), (2, (1, .t 115)), (3, (1, .t 116)), (4, (1, .t 117)), (5, (1, .t 118))], none⟩,
   ⟨some 120, .app 1 24 [.slice none 0 0] (.t 112) (.t 119), none⟩,
   ⟨some 8, .mov (.t 120), none⟩]))))))))) (.region false [⟨some 54, .mov (.t 9), none⟩,
   ⟨some 55, .bin .add false (.t 54) (.c (iv 1)), none⟩,
   ⟨some 9, .mov (.t 55), none⟩])))))) (.seq (.seq (.region false [⟨some 121, .mov (.t 7), none⟩,
   ⟨some 122, .mov (.t 8), none⟩,
   ⟨some 123, .ixa 1 (.t 122) (.c (iv 2)), none⟩,
   ⟨some 124, .load none (.t 123), none⟩,
   ⟨some 125, .call F.surdref01_Num_Is [.t 121, .t 124], none⟩,
   ⟨some 126, .un .not (.t 125), none⟩,
   ⟨some 127, .mov (.t 126), none⟩,
   ⟨some 128, .mov (.t 7), some (127, false)⟩,
   ⟨some 129, .mov (.t 8), some (127, false)⟩,
   ⟨some 130, .ixa 1 (.t 129) (.c (iv 14)), some (127, false)⟩,
   ⟨some 131, .load none (.t 130), some (127, false)⟩,
   ⟨some 132, .call F.surdref01_Num_Is [.t 128, .t 131], some (127, false)⟩,
   ⟨some 133, .un .not (.t 132), some (127, false)⟩,
   ⟨some 134, .pick (.t 127) (.c (bv true)) (.t 133), none⟩,
   ⟨some 135, .mov (.t 134), none⟩,
   ⟨some 136, .mov (.t 8), some (135, false)⟩,
   ⟨some 137, .call F.surdref01_Own [.t 136], some (135, false)⟩,
   ⟨some 138, .un .not (.t 137), some (135, false)⟩,
   ⟨some 139, .pick (.t 135) (.c (bv true)) (.t 138), none⟩]) (.cond (.t 139) (.seq (.region false [⟨some 6, .mov (.c (bv false)), none⟩]) .ret) .skip)) (.seq (.region false [⟨some 140, .mov (.t 0), none⟩,
   ⟨some 141, .call F.surdref01_Copy [.t 140], none⟩,
   ⟨some 22, .mov (.t 141), none⟩]) (.seq (.region false [⟨some 143, .mov (.t 22), none⟩,
   ⟨some 144, .call F.roots_Sqrt [.t 143], none⟩,
   ⟨some 142, .mov (.t 144), none⟩,
   ⟨some 145, .ext (.t 142) 0, none⟩,
   ⟨some 146, .ext (.t 142) 1, none⟩,
   ⟨some 147, .ext (.t 142) 2, none⟩,
   ⟨some 23, .mov (.t 145), none⟩,
   ⟨some 24, .mov (.t 146), none⟩,
   ⟨some 25, .mov (.t 147), none⟩]) (.seq (.region false [⟨some 149, .mov (.t 22), none⟩,
   ⟨some 150, .call F.roots_Sqrt [.t 149], none⟩,
   ⟨some 148, .mov (.t 150), none⟩,
   ⟨some 151, .ext (.t 148) 0, none⟩,
   ⟨some 152, .ext (.t 148) 1, none⟩,
   ⟨some 153, .ext (.t 148) 2, none⟩,
   ⟨some 26, .mov (.t 151), none⟩,
   ⟨some 27, .mov (.t 152), none⟩,
   ⟨some 28, .mov (.t 153), none⟩]) (.seq (.seq (.region false [⟨some 154, .mov (.t 22), none⟩,
   ⟨some 155, .len (.t 154), none⟩,
   ⟨some 156, .mov (.c (iv 0)), none⟩]) (.block 2 (.loop (.seq (.region false [⟨some 157, .bin .lss false (.t 156) (.t 155), none⟩]) (.seq (.cond (.t 157) .skip (.exit 2)) (.seq (.block 3 (.seq (.region false [⟨some 158, .mov (.t 156), none⟩,
   ⟨some 29, .mov (.t 158), none⟩]) (.region false [⟨some 159, .mov (.t 22), none⟩,
   ⟨some 160, .mov (.t 29), none⟩,
   ⟨some 161, .mov (.t 22), none⟩,
   ⟨some 162, .mov (.t 29), none⟩,
   ⟨some 163, .ixa 1 (.t 161) (.t 162), none⟩,
   ⟨some 164, .load none (.t 163), none⟩,
   ⟨some 165, .bin .quo false (.t 164) (.c (nv 3)), none⟩,
   ⟨some 166, .ixa 1 (.t 159) (.t 160), none⟩,
   ⟨none, .store 1 (.t 166) (.t 165), none⟩]))) (.region false [⟨some 167, .bin .add false (.t 156) (.c (iv 1)), none⟩,
   ⟨some 156, .mov (.t 167), none⟩]))))))) (.seq (.region false [⟨some 169, .mov (.t 22), none⟩,
   ⟨some 170, .call F.roots_Sqrt [.t 169], none⟩,
   ⟨some 168, .mov (.t 170), none⟩,
   ⟨some 171, .ext (.t 168) 0, none⟩,
   ⟨some 172, .ext (.t 168) 1, none⟩,
   ⟨some 173, .ext (.t 168) 2, none⟩,
   ⟨some 30, .mov (.t 171), none⟩,
   ⟨some 31, .mov (.t 172), none⟩,
   ⟨some 32, .mov (.t 173), none⟩]) (.seq (.region false [⟨some 174, .mov (.t 25), none⟩,
   ⟨some 175, .call F.surdlaw04_num [.t 174], none⟩,
   ⟨some 176, .bin .eql false (.t 175) (.c (iv 0)), none⟩,
   ⟨some 177, .mov (.t 176), none⟩,
   ⟨some 178, .mov (.t 28), some (177, true)⟩,
   ⟨some 179, .call F.surdlaw04_num [.t 178], some (177, true)⟩,
   ⟨some 180, .bin .eql false (.t 179) (.c (iv 0)), some (177, true)⟩,
   ⟨some 181, .pick (.t 177) (.t 180) (.c (bv false)), none⟩,
   ⟨some 182, .mov (.t 181), none⟩,
   ⟨some 183, .mov (.t 32), some (182, true)⟩,
   ⟨some 184, .call F.surdlaw04_num [.t 183], some (182, true)⟩,
   ⟨some 185, .bin .eql false (.t 184) (.c (iv 0)), some (182, true)⟩,
   ⟨some 186, .pick (.t 182) (.t 185) (.c (bv false)), none⟩,
   ⟨some 187, .mov (.t 186), none⟩,
   ⟨some 188, .mov (.t 7), some (187, true)⟩,
   ⟨some 189, .mov (.t 23), some (187, true)⟩,
   ⟨some 190, .call F.surdref01_Num_Is [.t 188, .t 189], some (187, true)⟩,
   ⟨some 191, .pick (.t 187) (.t 190) (.c (bv false)), none⟩,
   ⟨some 192, .mov (.t 191), none⟩,
   ⟨some 193, .mov (.t 7), some (192, true)⟩,
   ⟨some 194, .mov (.t 26), some (192, true)⟩,
   ⟨some 195, .call F.surdref01_Num_Is [.t 193, .t 194], some (192, true)⟩,
   ⟨some 196, .pick (.t 192) (.t 195) (.c (bv false)), none⟩,
   ⟨some 197, .mov (.t 196), none⟩,
   ⟨some 198, .mov (.t 22), some (197, true)⟩,
   ⟨some 199, .call F.surdref01_Of [.t 198], some (197, true)⟩,
   ⟨some 200, .call F.surdref01_Root [.t 199], some (197, true)⟩,
   ⟨some 201, .mov (.t 30), some (197, true)⟩,
   ⟨some 202, .call F.surdref01_Num_Is [.t 200, .t 201], some (197, true)⟩,
   ⟨some 203, .pick (.t 197) (.t 202) (.c (bv false)), none⟩,
   ⟨some 204, .mov (.t 203), none⟩,
   ⟨some 205, .call F.surdlaw04_awake [], some (204, true)⟩,
   ⟨some 206, .pick (.t 204) (.t 205) (.c (bv false)), none⟩,
   ⟨some 6, .mov (.t 206), none⟩]) .ret))))))))))))
def R.surdlaw04_RootOwn : List VRes := [.tmp 6]
theorem K.surdlaw04_RootOwn : resCode Try.prog Try.f4.ntmps (Try.f4.body.getD .skip) = C.surdlaw04_RootOwn := by kernel_rfl
theorem Q.surdlaw04_RootOwn : resResults Try.prog Try.f4.results.toList = some R.surdlaw04_RootOwn := by kernel_rfl
theorem E.surdlaw04_RootOwn : Try.prog.funcs[F.surdlaw04_RootOwn]? = some Try.f4 := Try.func4
theorem B.surdlaw04_RootOwn : Try.f4.body = some (Try.f4.body.getD .skip) := by kernel_rfl
theorem N.surdlaw04_RootOwn : Try.f4.ntmps = 207 := Try.ntmps4

def C.surdlaw04_RootLogs : VC :=
  .seq (.region false [⟨some 4, .mov (.c (bv false)), none⟩]) (.seq (.region false [⟨some 12, .mov (.t 0), none⟩,
   ⟨some 13, .call F.surdref01_Lend [.t 12], none⟩,
   ⟨some 11, .mov (.t 13), none⟩,
   ⟨some 14, .ext (.t 11) 0, none⟩,
   ⟨some 15, .ext (.t 11) 1, none⟩,
   ⟨some 5, .mov (.t 14), none⟩,
   ⟨some 6, .mov (.t 15), none⟩]) (.seq (.region false [⟨some 17, .mov (.t 0), none⟩,
   ⟨some 18, .call F.surdref01_Of [.t 17], none⟩,
   ⟨some 19, .mov (.t 1), none⟩,
   ⟨some 20, .call F.surdref04_Log [.t 18, .t 19], none⟩,
   ⟨some 16, .mov (.t 20), none⟩,
   ⟨some 21, .ext (.t 16) 0, none⟩,
   ⟨some 22, .ext (.t 16) 1, none⟩,
   ⟨some 7, .mov (.t 21), none⟩,
   ⟨some 8, .mov (.t 22), none⟩]) (.seq (.region false [⟨some 24, .mov (.t 6), none⟩,
   ⟨some 25, .mov (.t 1), none⟩,
   ⟨some 26, .call F.roots_Log [.t 24, .t 25], none⟩,
   ⟨some 23, .mov (.t 26), none⟩,
   ⟨some 27, .ext (.t 23) 0, none⟩,
   ⟨some 28, .ext (.t 23) 1, none⟩,
   ⟨some 9, .mov (.t 27), none⟩,
   ⟨some 10, .mov (.t 28), none⟩]) (.seq (.region false [⟨some 29, .mov (.t 9), none⟩,
   ⟨some 30, .mov (.t 7), none⟩,
   ⟨some 31, .bin .eql false (.t 29) (.t 30), none⟩,
   ⟨some 32, .mov (.t 31), none⟩,
   ⟨some 33, .mov (.t 10), some (32, true)⟩,
   ⟨some 34, .call F.surdlaw04_num [.t 33], some (32, true)⟩,
   ⟨some 35, .mov (.t 8), some (32, true)⟩,
   ⟨some 36, .bin .eql false (.t 34) (.t 35), some (32, true)⟩,
   ⟨some 37, .pick (.t 32) (.t 36) (.c (bv false)), none⟩,
   ⟨some 38, .mov (.t 37), none⟩,
   ⟨some 39, .mov (.t 5), some (38, true)⟩,
   ⟨some 40, .mov (.t 0), some (38, true)⟩,
   ⟨some 41, .call F.surdref01_Kept [.t 39, .t 40], some (38, true)⟩,
   ⟨some 42, .pick (.t 38) (.t 41) (.c (bv false)), none⟩,
   ⟨some 43, .mov (.t 42), none⟩,
   ⟨some 44, .call F.surdlaw04_awake [], some (43, true)⟩,
   ⟨some 45, .pick (.t 43) (.t 44) (.c (bv false)), none⟩,
   ⟨some 4, .mov (.t 45), none⟩]) .ret))))
def R.surdlaw04_RootLogs : List VRes := [.tmp 4]
theorem K.surdlaw04_RootLogs : resCode Try.prog Try.f5.ntmps (Try.f5.body.getD .skip) = C.surdlaw04_RootLogs := by kernel_rfl
theorem Q.surdlaw04_RootLogs : resResults Try.prog Try.f5.results.toList = some R.surdlaw04_RootLogs := by kernel_rfl
theorem E.surdlaw04_RootLogs : Try.prog.funcs[F.surdlaw04_RootLogs]? = some Try.f5 := Try.func5
theorem B.surdlaw04_RootLogs : Try.f5.body = some (Try.f5.body.getD .skip) := by kernel_rfl
theorem N.surdlaw04_RootLogs : Try.f5.ntmps = 46 := Try.ntmps5

def C.surdlaw04_RootOnce : VC :=
  .seq (.region false [⟨some 4, .mov (.c (bv false)), none⟩]) (.seq (.region false [⟨some 16, .mov (.t 0), none⟩,
   ⟨some 17, .call F.surdref01_Of [.t 16], none⟩,
   ⟨some 5, .mov (.t 17), none⟩]) (.seq (.seq (.region false [⟨some 18, .mov (.t 5), none⟩,
   ⟨some 19, .call F.surdref01_Num_Len [.t 18], none⟩,
   ⟨some 20, .bin .gtr false (.t 19) (.c (iv 67108864)), none⟩]) (.cond (.t 20) (.seq (.region false [⟨some 21, .call F.surdlaw04_awake [], none⟩,
   ⟨some 4, .mov (.t 21), none⟩]) .ret) .skip)) (.seq (.region false [⟨some 23, .mov (.t 0), none⟩,
   ⟨some 24, .call F.roots_Perfect [.t 23], none⟩,
   ⟨some 22, .mov (.t 24), none⟩,
   ⟨some 25, .ext (.t 22) 0, none⟩,
   ⟨some 26, .ext (.t 22) 1, none⟩,
   ⟨some 27, .ext (.t 22) 2, none⟩,
   ⟨some 6, .mov (.t 25), none⟩,
   ⟨some 7, .mov (.t 26), none⟩,
   ⟨some 8, .mov (.t 27), none⟩]) (.seq (.seq (.region false [⟨some 28, .mov (.t 8), none⟩,
   ⟨some 29, .call F.surdlaw04_num [.t 28], none⟩,
   ⟨some 30, .bin .neq false (.t 29) (.c (iv 0)), none⟩,
   ⟨some 31, .mov (.t 30), none⟩,
   ⟨some 32, .mov (.t 7), some (31, false)⟩,
   ⟨some 33, .bin .lss false (.t 32) (.c (iv 1)), some (31, false)⟩,
   ⟨some 34, .pick (.t 31) (.c (bv true)) (.t 33), none⟩,
   ⟨some 35, .mov (.t 34), none⟩,
   ⟨some 36, .mov (.t 7), some (35, false)⟩,
   ⟨some 37, .mov (.t 5), some (35, false)⟩,
   ⟨some 38, .call F.surdref01_Num_Len [.t 37], some (35, false)⟩,
   ⟨some 39, .bin .add false (.t 38) (.c (iv 1)), some (35, false)⟩,
   ⟨some 40, .bin .gtr false (.t 36) (.t 39), some (35, false)⟩,
   ⟨some 41, .pick (.t 35) (.c (bv true)) (.t 40), none⟩]) (.cond (.t 41) (.seq (.region false [⟨some 4, .mov (.c (bv false)), none⟩]) .ret) .skip)) (.seq (.seq (.region false [⟨some 42, .mov (.t 5), none⟩,
   ⟨some 43, .call F.surdref01_Num_Len [.t 42], none⟩,
   ⟨some 44, .bin .gtr false (.t 43) (.c (iv 1)), none⟩]) (.cond (.t 44) (.seq (.region false [⟨some 46, .mov (.t 6), none⟩,
   ⟨some 47, .call F.roots_Perfect [.t 46], none⟩,
   ⟨some 45, .mov (.t 47), none⟩,
   ⟨some 48, .ext (.t 45) 0, none⟩,
   ⟨some 49, .ext (.t 45) 1, none⟩,
   ⟨some 50, .ext (.t 45) 2, none⟩,
   ⟨some 9, .mov (.t 48), none⟩,
   ⟨some 10, .mov (.t 49), none⟩,
   ⟨some 11, .mov (.t 50), none⟩]) (.seq (.region false [⟨some 51, .mov (.t 11), none⟩,
   ⟨some 52, .call F.surdlaw04_num [.t 51], none⟩,
   ⟨some 53, .bin .neq false (.t 52) (.c (iv 0)), none⟩,
   ⟨some 54, .mov (.t 53), none⟩,
   ⟨some 55, .mov (.t 10), some (54, false)⟩,
   ⟨some 56, .bin .neq false (.t 55) (.c (iv 1)), some (54, false)⟩,
   ⟨some 57, .pick (.t 54) (.c (bv true)) (.t 56), none⟩,
   ⟨some 58, .mov (.t 57), none⟩,
   ⟨some 59, .mov (.t 9), some (58, false)⟩,
   ⟨some 60, .call F.surdlaw04_of [.t 59], some (58, false)⟩,
   ⟨some 61, .mov (.t 6), some (58, false)⟩,
   ⟨some 62, .call F.surdlaw04_of [.t 61], some (58, false)⟩,
   ⟨some 63, .call F.surdref01_Cmp [.t 60, .t 62], some (58, false)⟩,
   ⟨some 64, .bin .neq false (.t 63) (.c (iv 0)), some (58, false)⟩,
   ⟨some 65, .pick (.t 58) (.c (bv true)) (.t 64), none⟩]) (.cond (.t 65) (.seq (.region false [⟨some 4, .mov (.c (bv false)), none⟩]) .ret) .skip))) .skip)) (.seq (.region false [⟨some 67, .mov (.t 0), none⟩,
   ⟨some 68, .call F.roots_IsSquare [.t 67], none⟩,
   ⟨some 66, .mov (.t 68), none⟩,
   ⟨some 69, .ext (.t 66) 0, none⟩,
   ⟨some 70, .ext (.t 66) 1, none⟩,
   ⟨some 12, .mov (.t 69), none⟩,
   ⟨some 13, .mov (.t 70), none⟩]) (.seq (.region false [⟨some 72, .mov (.t 0), none⟩,
   ⟨some 73, .mov (.t 1), none⟩,
   ⟨some 74, .call F.roots_Residue [.t 72, .t 73], none⟩,
   ⟨some 71, .mov (.t 74), none⟩,
   ⟨some 75, .ext (.t 71) 0, none⟩,
   ⟨some 76, .ext (.t 71) 1, none⟩,
   ⟨some 14, .mov (.t 75), none⟩,
   ⟨some 15, .mov (.t 76), none⟩]) (.seq (.region false [⟨some 77, .mov (.t 6), none⟩,
   ⟨some 78, .call F.surdlaw04_of [.t 77], none⟩,
   ⟨some 79, .mov (.t 7), none⟩,
   ⟨some 80, .call F.surdref01_Pow [.t 78, .t 79], none⟩,
   ⟨some 81, .mov (.t 5), none⟩,
   ⟨some 82, .call F.surdref01_Cmp [.t 80, .t 81], none⟩,
   ⟨some 83, .bin .eql false (.t 82) (.c (iv 0)), none⟩,
   ⟨some 84, .mov (.t 83), none⟩,
   ⟨some 85, .mov (.t 13), some (84, true)⟩,
   ⟨some 86, .call F.surdlaw04_num [.t 85], some (84, true)⟩,
   ⟨some 87, .bin .eql false (.t 86) (.c (iv 0)), some (84, true)⟩,
   ⟨some 88, .pick (.t 84) (.t 87) (.c (bv false)), none⟩,
   ⟨some 89, .mov (.t 88), none⟩,
   ⟨some 90, .mov (.t 15), some (89, true)⟩,
   ⟨some 91, .call F.surdlaw04_num [.t 90], some (89, true)⟩,
   ⟨some 92, .bin .neq false (.t 91) (.c (iv 0)), some (89, true)⟩,
   ⟨some 93, .mov (.t 92), some (89, true)⟩,
   ⟨some 94, .mov (.t 14), some (93, false)⟩,
   ⟨some 95, .pick (.t 93) (.c (bv true)) (.t 94), some (89, true)⟩,
   ⟨some 96, .mov (.t 95), some (89, true)⟩,
   ⟨some 97, .mov (.t 12), some (96, false)⟩,
   ⟨some 98, .un .not (.t 97), some (96, false)⟩,
   ⟨some 99, .pick (.t 96) (.c (bv true)) (.t 98), some (89, true)⟩,
   ⟨some 100, .pick (.t 89) (.t 99) (.c (bv false)), none⟩,
   ⟨some 101, .mov (.t 100), none⟩,
   ⟨some 102, .mov (.t 5), some (101, true)⟩,
   ⟨some 103, .call F.surdref01_Num_Len [.t 102], some (101, true)⟩,
   ⟨some 104, .bin .lss false (.t 103) (.c (iv 2)), some (101, true)⟩,
   ⟨some 105, .mov (.t 104), some (101, true)⟩,
   ⟨some 106, .mov (.t 12), some (105, false)⟩,
   ⟨some 107, .mov (.t 7), some (105, false)⟩,
   ⟨some 108, .bin .rem false (.t 107) (.c (iv 2)), some (105, false)⟩,
   ⟨some 109, .bin .eql false (.t 108) (.c (iv 0)), some (105, false)⟩,
   ⟨some 110, .bin .eql true (.t 106) (.t 109), some (105, false)⟩,
   ⟨some 111, .pick (.t 105) (.c (bv true)) (.t 110), some (101, true)⟩,
   ⟨some 112, .pick (.t 101) (.t 111) (.c (bv false)), none⟩,
   ⟨some 113, .mov (.t 112), none⟩,
   ⟨some 114, .call F.surdlaw04_awake [], some (113, true)⟩,
   ⟨some 115, .pick (.t 113) (.t 114) (.c (bv false)), none⟩,
   ⟨some 4, .mov (.t 115), none⟩]) .ret))))))))
def R.surdlaw04_RootOnce : List VRes := [.tmp 4]
theorem K.surdlaw04_RootOnce : resCode Try.prog Try.f6.ntmps (Try.f6.body.getD .skip) = C.surdlaw04_RootOnce := by kernel_rfl
theorem Q.surdlaw04_RootOnce : resResults Try.prog Try.f6.results.toList = some R.surdlaw04_RootOnce := by kernel_rfl
theorem E.surdlaw04_RootOnce : Try.prog.funcs[F.surdlaw04_RootOnce]? = some Try.f6 := Try.func6
theorem B.surdlaw04_RootOnce : Try.f6.body = some (Try.f6.body.getD .skip) := by kernel_rfl
theorem N.surdlaw04_RootOnce : Try.f6.ntmps = 116 := Try.ntmps6

def C.surdlaw04_RootSteps : VC :=
  .seq (.region false [⟨some 4, .mov (.c (bv false)), none⟩]) (.seq (.region false [⟨some 14, .mov (.t 0), none⟩,
   ⟨some 15, .call F.surdref01_Lend [.t 14], none⟩,
   ⟨some 13, .mov (.t 15), none⟩,
   ⟨some 16, .ext (.t 13) 0, none⟩,
   ⟨some 17, .ext (.t 13) 1, none⟩,
   ⟨some 5, .mov (.t 16), none⟩,
   ⟨some 6, .mov (.t 17), none⟩]) (.seq (.region false [⟨some 19, .mov (.t 1), none⟩,
   ⟨some 20, .call F.surdref01_Lend [.t 19], none⟩,
   ⟨some 18, .mov (.t 20), none⟩,
   ⟨some 21, .ext (.t 18) 0, none⟩,
   ⟨some 22, .ext (.t 18) 1, none⟩,
   ⟨some 7, .mov (.t 21), none⟩,
   ⟨some 8, .mov (.t 22), none⟩]) (.seq (.region false [⟨some 24, .mov (.t 0), none⟩,
   ⟨some 25, .call F.surdref01_Of [.t 24], none⟩,
   ⟨some 26, .mov (.t 1), none⟩,
   ⟨some 27, .call F.surdref01_Of [.t 26], none⟩,
   ⟨some 28, .call F.surdref04_Step [.t 25, .t 27], none⟩,
   ⟨some 23, .mov (.t 28), none⟩,
   ⟨some 29, .ext (.t 23) 0, none⟩,
   ⟨some 30, .ext (.t 23) 1, none⟩,
   ⟨some 9, .mov (.t 29), none⟩,
   ⟨some 10, .mov (.t 30), none⟩]) (.seq (.region false [⟨some 32, .mov (.t 6), none⟩,
   ⟨some 33, .mov (.t 8), none⟩,
   ⟨some 34, .call F.roots_Step [.t 32, .t 33], none⟩,
   ⟨some 31, .mov (.t 34), none⟩,
   ⟨some 35, .ext (.t 31) 0, none⟩,
   ⟨some 36, .ext (.t 31) 1, none⟩,
   ⟨some 11, .mov (.t 35), none⟩,
   ⟨some 12, .mov (.t 36), none⟩]) (.seq (.region false [⟨some 37, .mov (.t 11), none⟩,
   ⟨some 38, .mov (.t 12), none⟩,
   ⟨some 39, .mov (.t 9), none⟩,
   ⟨some 40, .mov (.t 10), none⟩,
   ⟨some 41, .call F.surdlaw04_alike [.t 37, .t 38, .t 39, .t 40], none⟩,
   ⟨some 42, .mov (.t 41), none⟩,
   ⟨some 43, .mov (.t 11), some (42, true)⟩,
   ⟨some 44, .bsl true 1 1 [.slice none 0 0] [(0, (1, .t 43))], some (42, true)⟩,
   ⟨some 45, .call F.surdref01_Own [.t 44], some (42, true)⟩,
   ⟨some 46, .pick (.t 42) (.t 45) (.c (bv false)), none⟩,
   ⟨some 47, .mov (.t 46), none⟩,
   ⟨some 48, .mov (.t 5), some (47, true)⟩,
   ⟨some 49, .mov (.t 0), some (47, true)⟩,
   ⟨some 50, .call F.surdref01_Kept [.t 48, .t 49], some (47, true)⟩,
   ⟨some 51, .pick (.t 47) (.t 50) (.c (bv false)), none⟩,
   ⟨some 52, .mov (.t 51), none⟩,
   ⟨some 53, .mov (.t 7), some (52, true)⟩,
   ⟨some 54, .mov (.t 1), some (52, true)⟩,
   ⟨some 55, .call F.surdref01_Kept [.t 53, .t 54], some (52, true)⟩,
   ⟨some 56, .pick (.t 52) (.t 55) (.c (bv false)), none⟩,
   ⟨some 57, .mov (.t 56), none⟩,
   ⟨some 58, .call F.surdlaw04_awake [], some (57, true)⟩,
   ⟨some 59, .pick (.t 57) (.t 58) (.c (bv false)), none⟩,
   ⟨some 4, .mov (.t 59), none⟩]) .ret)))))
def R.surdlaw04_RootSteps : List VRes := [.tmp 4]
theorem K.surdlaw04_RootSteps : resCode Try.prog Try.f7.ntmps (Try.f7.body.getD .skip) = C.surdlaw04_RootSteps := by kernel_rfl
theorem Q.surdlaw04_RootSteps : resResults Try.prog Try.f7.results.toList = some R.surdlaw04_RootSteps := by kernel_rfl
theorem E.surdlaw04_RootSteps : Try.prog.funcs[F.surdlaw04_RootSteps]? = some Try.f7 := Try.func7
theorem B.surdlaw04_RootSteps : Try.f7.body = some (Try.f7.body.getD .skip) := by kernel_rfl
theorem N.surdlaw04_RootSteps : Try.f7.ntmps = 60 := Try.ntmps7

def C.surdlaw04_RootNewton : VC :=
  .seq (.region false [⟨some 4, .mov (.c (bv false)), none⟩]) (.seq (.region false [⟨some 12, .mov (.t 0), none⟩,
   ⟨some 13, .call F.surdref01_Of [.t 12], none⟩,
   ⟨some 14, .mov (.t 1), none⟩,
   ⟨some 15, .call F.surdref01_Of [.t 14], none⟩,
   ⟨some 5, .mov (.t 13), none⟩,
   ⟨some 6, .mov (.t 15), none⟩]) (.seq (.seq (.region false [⟨some 16, .mov (.t 6), none⟩,
   ⟨some 17, .call F.surdref01_Num_Zero [.t 16], none⟩,
   ⟨some 18, .mov (.t 17), none⟩,
   ⟨some 19, .mov (.t 5), some (18, false)⟩,
   ⟨some 20, .call F.surdref01_Num_Len [.t 19], some (18, false)⟩,
   ⟨some 21, .bin .gtr false (.t 20) (.c (iv 67108862)), some (18, false)⟩,
   ⟨some 22, .pick (.t 18) (.c (bv true)) (.t 21), none⟩,
   ⟨some 23, .mov (.t 22), none⟩,
   ⟨some 24, .mov (.t 6), some (23, false)⟩,
   ⟨some 25, .call F.surdref01_Num_Len [.t 24], some (23, false)⟩,
   ⟨some 26, .bin .gtr false (.t 25) (.c (iv 67108862)), some (23, false)⟩,
   ⟨some 27, .pick (.t 23) (.c (bv true)) (.t 26), none⟩]) (.cond (.t 27) (.seq (.region false [⟨some 28, .call F.surdlaw04_awake [], none⟩,
   ⟨some 4, .mov (.t 28), none⟩]) .ret) .skip)) (.seq (.region false [⟨some 30, .mov (.t 0), none⟩,
   ⟨some 31, .call F.roots_Sqrt [.t 30], none⟩,
   ⟨some 29, .mov (.t 31), none⟩,
   ⟨some 32, .ext (.t 29) 0, none⟩,
   ⟨some 33, .ext (.t 29) 1, none⟩,
   ⟨some 34, .ext (.t 29) 2, none⟩,
   ⟨some 7, .mov (.t 32), none⟩,
   ⟨some 8, .mov (.t 33), none⟩,
   ⟨some 9, .mov (.t 34), none⟩]) (.seq (.region false [⟨some 36, .mov (.t 0), none⟩,
   ⟨some 37, .mov (.t 1), none⟩,
   ⟨some 38, .call F.roots_Step [.t 36, .t 37], none⟩,
   ⟨some 35, .mov (.t 38), none⟩,
   ⟨some 39, .ext (.t 35) 0, none⟩,
   ⟨some 40, .ext (.t 35) 1, none⟩,
   ⟨some 10, .mov (.t 39), none⟩,
   ⟨some 11, .mov (.t 40), none⟩]) (.seq (.seq (.region false [⟨some 41, .mov (.t 9), none⟩,
   ⟨some 42, .call F.surdlaw04_num [.t 41], none⟩,
   ⟨some 43, .bin .neq false (.t 42) (.c (iv 0)), none⟩,
   ⟨some 44, .mov (.t 43), none⟩,
   ⟨some 45, .mov (.t 11), some (44, false)⟩,
   ⟨some 46, .call F.surdlaw04_num [.t 45], some (44, false)⟩,
   ⟨some 47, .bin .neq false (.t 46) (.c (iv 0)), some (44, false)⟩,
   ⟨some 48, .pick (.t 44) (.c (bv true)) (.t 47), none⟩,
   ⟨some 49, .mov (.t 48), none⟩,
   ⟨some 50, .mov (.t 10), some (49, false)⟩,
   ⟨some 51, .call F.surdlaw04_of [.t 50], some (49, false)⟩,
   ⟨some 52, .mov (.t 7), some (49, false)⟩,
   ⟨some 53, .call F.surdlaw04_of [.t 52], some (49, false)⟩,
   ⟨some 54, .call F.surdref01_Cmp [.t 51, .t 53], some (49, false)⟩,
   ⟨some 55, .bin .lss false (.t 54) (.c (iv 0)), some (49, false)⟩,
   ⟨some 56, .pick (.t 49) (.c (bv true)) (.t 55), none⟩]) (.cond (.t 56) (.seq (.region false [⟨some 4, .mov (.c (bv false)), none⟩]) .ret) .skip)) (.seq (.seq (.region false [⟨some 57, .mov (.t 6), none⟩,
   ⟨some 58, .mov (.t 7), none⟩,
   ⟨some 59, .call F.surdlaw04_of [.t 58], none⟩,
   ⟨some 60, .call F.surdref01_Cmp [.t 57, .t 59], none⟩]) (.block 0 (.seq (.region false [⟨some 62, .bin .eql false (.t 60) (.c (iv 1)), none⟩,
   ⟨some 61, .mov (.t 62), none⟩]) (.cond (.t 61) (.seq (.region false [⟨some 63, .mov (.t 10), none⟩,
   ⟨some 64, .call F.surdlaw04_of [.t 63], none⟩,
   ⟨some 65, .mov (.t 6), none⟩,
   ⟨some 66, .call F.surdref01_Cmp [.t 64, .t 65], none⟩,
   ⟨some 67, .bin .lss false (.t 66) (.c (iv 0)), none⟩,
   ⟨some 68, .mov (.t 67), none⟩,
   ⟨some 69, .call F.surdlaw04_awake [], some (68, true)⟩,
   ⟨some 70, .pick (.t 68) (.t 69) (.c (bv false)), none⟩,
   ⟨some 4, .mov (.t 70), none⟩]) .ret) (.seq (.region false [⟨some 72, .bin .eql false (.t 60) (.c (iv 0)), none⟩,
   ⟨some 71, .mov (.t 72), none⟩]) (.cond (.t 71) (.seq (.region false [⟨some 73, .mov (.t 10), none⟩,
   ⟨some 74, .call F.surdlaw04_of [.t 73], none⟩,
   ⟨some 75, .mov (.t 6), none⟩,
   ⟨some 76, .call F.surdlaw04_one [], none⟩,
   ⟨some 77, .call F.surdref01_Add [.t 75, .t 76], none⟩,
   ⟨some 78, .call F.surdref01_Cmp [.t 74, .t 77], none⟩,
   ⟨some 79, .bin .leq false (.t 78) (.c (iv 0)), none⟩,
   ⟨some 80, .mov (.t 79), none⟩,
   ⟨some 81, .call F.surdlaw04_awake [], some (80, true)⟩,
   ⟨some 82, .pick (.t 80) (.t 81) (.c (bv false)), none⟩,
   ⟨some 4, .mov (.t 82), none⟩]) .ret) .skip)))))) (.seq (.region false [⟨some 83, .call F.surdlaw04_awake [], none⟩,
   ⟨some 4, .mov (.t 83), none⟩]) .ret)))))))
def R.surdlaw04_RootNewton : List VRes := [.tmp 4]
theorem K.surdlaw04_RootNewton : resCode Try.prog Try.f8.ntmps (Try.f8.body.getD .skip) = C.surdlaw04_RootNewton := by kernel_rfl
theorem Q.surdlaw04_RootNewton : resResults Try.prog Try.f8.results.toList = some R.surdlaw04_RootNewton := by kernel_rfl
theorem E.surdlaw04_RootNewton : Try.prog.funcs[F.surdlaw04_RootNewton]? = some Try.f8 := Try.func8
theorem B.surdlaw04_RootNewton : Try.f8.body = some (Try.f8.body.getD .skip) := by kernel_rfl
theorem N.surdlaw04_RootNewton : Try.f8.ntmps = 84 := Try.ntmps8

def C.surdlaw04_RootChains : VC :=
  .seq (.region false [⟨some 2, .mov (.c (bv false)), none⟩]) (.seq (.region false [⟨some 21, .mov (.t 0), none⟩,
   ⟨some 22, .call F.roots_Chain [.t 21], none⟩,
   ⟨some 20, .mov (.t 22), none⟩,
   ⟨some 23, .ext (.t 20) 0, none⟩,
   ⟨some 24, .ext (.t 20) 1, none⟩,
   ⟨some 25, .ext (.t 20) 2, none⟩,
   ⟨some 3, .mov (.t 23), none⟩,
   ⟨some 4, .mov (.t 24), none⟩,
   ⟨some 5, .mov (.t 25), none⟩]) (.seq (.region false [⟨some 27, .mov (.t 0), none⟩,
   ⟨some 28, .call F.roots_Chain [.t 27], none⟩,
   ⟨some 26, .mov (.t 28), none⟩,
   ⟨some 29, .ext (.t 26) 0, none⟩,
   ⟨some 30, .ext (.t 26) 1, none⟩,
   ⟨some 31, .ext (.t 26) 2, none⟩,
   ⟨some 6, .mov (.t 29), none⟩,
   ⟨some 7, .mov (.t 30), none⟩,
   ⟨some 8, .mov (.t 31), none⟩]) (.seq (.region false [⟨some 33, .mov (.t 0), none⟩,
   ⟨some 34, .call F.surdref04_Chain [.t 33], none⟩,
   ⟨some 32, .mov (.t 34), none⟩,
   ⟨some 35, .ext (.t 32) 0, none⟩,
   ⟨some 36, .ext (.t 32) 1, none⟩,
   ⟨some 37, .ext (.t 32) 2, none⟩,
   ⟨some 9, .mov (.t 35), none⟩,
   ⟨some 10, .mov (.t 36), none⟩,
   ⟨some 11, .mov (.t 37), none⟩]) (.seq (.region false [⟨some 39, .mov (.t 0), none⟩,
   ⟨some 40, .call F.roots_Pell [.t 39], none⟩,
   ⟨some 38, .mov (.t 40), none⟩,
   ⟨some 41, .ext (.t 38) 0, none⟩,
   ⟨some 42, .ext (.t 38) 1, none⟩,
   ⟨some 43, .ext (.t 38) 2, none⟩,
   ⟨some 12, .mov (.t 41), none⟩,
   ⟨some 13, .mov (.t 42), none⟩,
   ⟨some 14, .mov (.t 43), none⟩]) (.seq (.region false [⟨some 45, .mov (.t 0), none⟩,
   ⟨some 46, .call F.surdref04_Pell [.t 45], none⟩,
   ⟨some 44, .mov (.t 46), none⟩,
   ⟨some 47, .ext (.t 44) 0, none⟩,
   ⟨some 48, .ext (.t 44) 1, none⟩,
   ⟨some 49, .ext (.t 44) 2, none⟩,
   ⟨some 15, .mov (.t 47), none⟩,
   ⟨some 16, .mov (.t 48), none⟩,
   ⟨some 17, .mov (.t 49), none⟩]) (.seq (.seq (.region false [⟨some 50, .mov (.t 5), none⟩,
   ⟨some 51, .call F.surdlaw04_num [.t 50], none⟩,
   ⟨some 52, .mov (.t 11), none⟩,
   ⟨some 53, .bin .neq false (.t 51) (.t 52), none⟩,
   ⟨some 54, .mov (.t 53), none⟩,
   ⟨some 55, .mov (.t 8), some (54, false)⟩,
   ⟨some 56, .call F.surdlaw04_num [.t 55], some (54, false)⟩,
   ⟨some 57, .mov (.t 11), some (54, false)⟩,
   ⟨some 58, .bin .neq false (.t 56) (.t 57), some (54, false)⟩,
   ⟨some 59, .pick (.t 54) (.c (bv true)) (.t 58), none⟩,
   ⟨some 60, .mov (.t 59), none⟩,
   ⟨some 61, .mov (.t 3), some (60, false)⟩,
   ⟨some 62, .mov (.t 9), some (60, false)⟩,
   ⟨some 63, .bin .neq false (.t 61) (.t 62), some (60, false)⟩,
   ⟨some 64, .pick (.t 60) (.c (bv true)) (.t 63), none⟩,
   ⟨some 65, .mov (.t 64), none⟩,
   ⟨some 66, .mov (.t 6), some (65, false)⟩,
   ⟨some 67, .mov (.t 9), some (65, false)⟩,
   ⟨some 68, .bin .neq false (.t 66) (.t 67), some (65, false)⟩,
   ⟨some 69, .pick (.t 65) (.c (bv true)) (.t 68), none⟩,
   ⟨some 70, .mov (.t 69), none⟩,
   ⟨some 71, .mov (.t 4), some (70, false)⟩,
   ⟨some 72, .len (.t 71), some (70, false)⟩,
   ⟨some 73, .mov (.t 10), some (70, false)⟩,
   ⟨some 74, .len (.t 73), some (70, false)⟩,
   ⟨some 75, .bin .neq false (.t 72) (.t 74), some (70, false)⟩,
   ⟨some 76, .pick (.t 70) (.c (bv true)) (.t 75), none⟩,
   ⟨some 77, .mov (.t 76), none⟩,
   ⟨some 78, .mov (.t 7), some (77, false)⟩,
   ⟨some 79, .len (.t 78), some (77, false)⟩,
   ⟨some 80, .mov (.t 10), some (77, false)⟩,
   ⟨some 81, .len (.t 80), some (77, false)⟩,
   ⟨some 82, .bin .neq false (.t 79) (.t 81), some (77, false)⟩,
   ⟨some 83, .pick (.t 77) (.c (bv true)) (.t 82), none⟩,
   ⟨some 84, .mov (.t 83), none⟩,
   ⟨some 85, .mov (.t 12), some (84, false)⟩,
   ⟨some 86, .mov (.t 14), some (84, false)⟩,
   ⟨some 87, .mov (.t 15), some (84, false)⟩,
   ⟨some 88, .mov (.t 17), some (84, false)⟩,
   ⟨some 89, .call F.surdlaw04_alike [.t 85, .t 86, .t 87, .t 88], some (84, false)⟩,
   ⟨some 90, .un .not (.t 89), some (84, false)⟩,
   ⟨some 91, .pick (.t 84) (.c (bv true)) (.t 90), none⟩,
   ⟨some 92, .mov (.t 91), none⟩,
   ⟨some 93, .mov (.t 13), some (92, false)⟩,
   ⟨some 94, .mov (.t 14), some (92, false)⟩,
   ⟨some 95, .mov (.t 16), some (92, false)⟩,
   ⟨some 96, .mov (.t 17), some (92, false)⟩,
   ⟨some 97, .call F.surdlaw04_alike [.t 93, .t 94, .t 95, .t 96], some (92, false)⟩,
   ⟨some 98, .un .not (.t 97), some (92, false)⟩,
   ⟨some 99, .pick (.t 92) (.c (bv true)) (.t 98), none⟩]) (.cond (.t 99) (.seq (.region false [⟨some 2, .mov (.c (bv false)), none⟩]) .ret) .skip)) (.seq (.seq (.region false [⟨some 100, .mov (.t 10), none⟩,
   ⟨some 101, .len (.t 100), none⟩,
   ⟨some 102, .mov (.c (iv 0)), none⟩]) (.block 0 (.loop (.seq (.region false [⟨some 103, .bin .lss false (.t 102) (.t 101), none⟩]) (.seq (.cond (.t 103) .skip (.exit 0)) (.seq (.block 1 (.seq (.region false [⟨some 104, .mov (.t 102), none⟩,
   ⟨some 18, .mov (.t 104), none⟩]) (.seq (.seq (.region true [⟨some 105, .mov (.t 4), none⟩,
   ⟨some 106, .mov (.t 18), none⟩,
   ⟨some 107, .ixa 1 (.t 105) (.t 106), none⟩,
   ⟨some 108, .load none (.t 107), none⟩,
   ⟨some 109, .mov (.t 10), none⟩,
   ⟨some 110, .mov (.t 18), none⟩,
   ⟨some 111, .ixa 1 (.t 109) (.t 110), none⟩,
   ⟨some 112, .load none (.t 111), none⟩,
   ⟨some 113, .bin .neq false (.t 108) (.t 112), none⟩]) (.cond (.t 113) (.seq (.region false [⟨some 2, .mov (.c (bv false)), none⟩]) .ret) .skip)) (.region false [⟨some 114, .mov (.t 4), none⟩,
   ⟨some 115, .mov (.t 18), none⟩,
   ⟨some 116, .ixa 1 (.t 114) (.t 115), none⟩,
   ⟨none, .store 1 (.t 116) (.c (iv (-7))), none⟩])))) (.region false [⟨some 117, .bin .add false (.t 102) (.c (iv 1)), none⟩,
   ⟨some 102, .mov (.t 117), none⟩]))))))) (.seq (.seq (.region false [⟨some 118, .mov (.t 10), none⟩,
   ⟨some 119, .len (.t 118), none⟩,
   ⟨some 120, .mov (.c (iv 0)), none⟩]) (.block 2 (.loop (.seq (.region false [⟨some 121, .bin .lss false (.t 120) (.t 119), none⟩]) (.seq (.cond (.t 121) .skip (.exit 2)) (.seq (.block 3 (.seq (.region false [⟨some 122, .mov (.t 120), none⟩,
   ⟨some 19, .mov (.t 122), none⟩]) (.seq (.region true [⟨some 123, .mov (.t 7), none⟩,
   ⟨some 124, .mov (.t 19), none⟩,
   ⟨some 125, .ixa 1 (.t 123) (.t 124), none⟩,
   ⟨some 126, .load none (.t 125), none⟩,
   ⟨some 127, .mov (.t 10), none⟩,
   ⟨some 128, .mov (.t 19), none⟩,
   ⟨some 129, .ixa 1 (.t 127) (.t 128), none⟩,
   ⟨some 130, .load none (.t 129), none⟩,
   ⟨some 131, .bin .neq false (.t 126) (.t 130), none⟩]) (.cond (.t 131) (.seq (.region false [⟨some 2, .mov (.c (bv false)), none⟩]) .ret) .skip)))) (.region false [⟨some 132, .bin .add false (.t 120) (.c (iv 1)), none⟩,
   ⟨some 120, .mov (.t 132), none⟩]))))))) (.seq (.region false [⟨some 133, .mov (.t 12), none⟩,
   ⟨some 134, .mov (.t 13), none⟩,
   ⟨some 135, .bsl true 1 2 [.slice none 0 0] [(0, (1, .t 133)), (1, (1, .t 134))], none⟩,
   ⟨some 136, .call F.surdref01_Own [.t 135], none⟩,
   ⟨some 137, .mov (.t 136), none⟩,
   ⟨some 138, .call F.surdlaw04_awake [], some (137, true)⟩,
   ⟨some 139, .pick (.t 137) (.t 138) (.c (bv false)), none⟩,
   ⟨some 2, .mov (.t 139), none⟩]) .ret)))))))))
def R.surdlaw04_RootChains : List VRes := [.tmp 2]
theorem K.surdlaw04_RootChains : resCode Try.prog Try.f9.ntmps (Try.f9.body.getD .skip) = C.surdlaw04_RootChains := by kernel_rfl
theorem Q.surdlaw04_RootChains : resResults Try.prog Try.f9.results.toList = some R.surdlaw04_RootChains := by kernel_rfl
theorem E.surdlaw04_RootChains : Try.prog.funcs[F.surdlaw04_RootChains]? = some Try.f9 := Try.func9
theorem B.surdlaw04_RootChains : Try.f9.body = some (Try.f9.body.getD .skip) := by kernel_rfl
theorem N.surdlaw04_RootChains : Try.f9.ntmps = 140 := Try.ntmps9

def C.surdlaw04_RootPell : VC :=
  .seq (.region false [⟨some 2, .mov (.c (bv false)), none⟩]) (.seq (.region false [⟨some 12, .mov (.t 0), none⟩,
   ⟨some 13, .call F.roots_Chain [.t 12], none⟩,
   ⟨some 11, .mov (.t 13), none⟩,
   ⟨some 14, .ext (.t 11) 0, none⟩,
   ⟨some 15, .ext (.t 11) 1, none⟩,
   ⟨some 16, .ext (.t 11) 2, none⟩,
   ⟨some 3, .mov (.t 14), none⟩,
   ⟨some 4, .mov (.t 15), none⟩,
   ⟨some 5, .mov (.t 16), none⟩]) (.seq (.region false [⟨some 18, .mov (.t 0), none⟩,
   ⟨some 19, .call F.roots_Pell [.t 18], none⟩,
   ⟨some 17, .mov (.t 19), none⟩,
   ⟨some 20, .ext (.t 17) 0, none⟩,
   ⟨some 21, .ext (.t 17) 1, none⟩,
   ⟨some 22, .ext (.t 17) 2, none⟩,
   ⟨some 6, .mov (.t 20), none⟩,
   ⟨some 7, .mov (.t 21), none⟩,
   ⟨some 8, .mov (.t 22), none⟩]) (.seq (.seq (.region false [⟨some 23, .mov (.t 0), none⟩,
   ⟨some 24, .bin .lss false (.t 23) (.c (iv 0)), none⟩,
   ⟨some 25, .mov (.t 24), none⟩,
   ⟨some 26, .mov (.t 0), some (25, false)⟩,
   ⟨some 27, .bin .gtr false (.t 26) (.c (iv 65536)), some (25, false)⟩,
   ⟨some 28, .pick (.t 25) (.c (bv true)) (.t 27), none⟩]) (.cond (.t 28) (.seq (.region false [⟨some 29, .mov (.t 5), none⟩,
   ⟨some 30, .call F.surdlaw04_num [.t 29], none⟩,
   ⟨some 31, .bin .neq false (.t 30) (.c (iv 0)), none⟩,
   ⟨some 32, .mov (.t 31), none⟩,
   ⟨some 33, .mov (.t 8), some (32, true)⟩,
   ⟨some 34, .call F.surdlaw04_num [.t 33], some (32, true)⟩,
   ⟨some 35, .bin .neq false (.t 34) (.c (iv 0)), some (32, true)⟩,
   ⟨some 36, .pick (.t 32) (.t 35) (.c (bv false)), none⟩,
   ⟨some 37, .mov (.t 36), none⟩,
   ⟨some 38, .call F.surdlaw04_awake [], some (37, true)⟩,
   ⟨some 39, .pick (.t 37) (.t 38) (.c (bv false)), none⟩,
   ⟨some 2, .mov (.t 39), none⟩]) .ret) .skip)) (.seq (.seq (.region false [⟨some 40, .mov (.t 5), none⟩,
   ⟨some 41, .call F.surdlaw04_num [.t 40], none⟩,
   ⟨some 42, .bin .neq false (.t 41) (.c (iv 0)), none⟩,
   ⟨some 43, .mov (.t 42), none⟩,
   ⟨some 44, .mov (.t 3), some (43, false)⟩,
   ⟨some 45, .bin .lss false (.t 44) (.c (iv 0)), some (43, false)⟩,
   ⟨some 46, .pick (.t 43) (.c (bv true)) (.t 45), none⟩,
   ⟨some 47, .mov (.t 46), none⟩,
   ⟨some 48, .mov (.t 3), some (47, false)⟩,
   ⟨some 49, .mov (.t 3), some (47, false)⟩,
   ⟨some 50, .bin .mul false (.t 48) (.t 49), some (47, false)⟩,
   ⟨some 51, .mov (.t 0), some (47, false)⟩,
   ⟨some 52, .bin .gtr false (.t 50) (.t 51), some (47, false)⟩,
   ⟨some 53, .pick (.t 47) (.c (bv true)) (.t 52), none⟩,
   ⟨some 54, .mov (.t 53), none⟩,
   ⟨some 55, .mov (.t 3), some (54, false)⟩,
   ⟨some 56, .bin .add false (.t 55) (.c (iv 1)), some (54, false)⟩,
   ⟨some 57, .mov (.t 3), some (54, false)⟩,
   ⟨some 58, .bin .add false (.t 57) (.c (iv 1)), some (54, false)⟩,
   ⟨some 59, .bin .mul false (.t 56) (.t 58), some (54, false)⟩,
   ⟨some 60, .mov (.t 0), some (54, false)⟩,
   ⟨some 61, .bin .leq false (.t 59) (.t 60), some (54, false)⟩,
   ⟨some 62, .pick (.t 54) (.c (bv true)) (.t 61), none⟩]) (.cond (.t 62) (.seq (.region false [⟨some 2, .mov (.c (bv false)), none⟩]) .ret) .skip)) (.seq (.seq (.region false [⟨some 63, .mov (.t 3), none⟩,
   ⟨some 64, .mov (.t 3), none⟩,
   ⟨some 65, .bin .mul false (.t 63) (.t 64), none⟩,
   ⟨some 66, .mov (.t 0), none⟩,
   ⟨some 67, .bin .eql false (.t 65) (.t 66), none⟩]) (.cond (.t 67) (.seq (.region false [⟨some 68, .mov (.t 4), none⟩,
   ⟨some 69, .len (.t 68), none⟩,
   ⟨some 70, .bin .eql false (.t 69) (.c (iv 0)), none⟩,
   ⟨some 71, .mov (.t 70), none⟩,
   ⟨some 72, .mov (.t 8), some (71, true)⟩,
   ⟨some 73, .call F.surdlaw04_num [.t 72], some (71, true)⟩,
   ⟨some 74, .bin .neq false (.t 73) (.c (iv 0)), some (71, true)⟩,
   ⟨some 75, .pick (.t 71) (.t 74) (.c (bv false)), none⟩,
   ⟨some 76, .mov (.t 75), none⟩,
   ⟨some 77, .call F.surdlaw04_awake [], some (76, true)⟩,
   ⟨some 78, .pick (.t 76) (.t 77) (.c (bv false)), none⟩,
   ⟨some 2, .mov (.t 78), none⟩]) .ret) .skip)) (.seq (.seq (.region false [⟨some 79, .mov (.t 4), none⟩,
   ⟨some 80, .len (.t 79), none⟩,
   ⟨some 81, .bin .eql false (.t 80) (.c (iv 0)), none⟩,
   ⟨some 82, .mov (.t 81), none⟩,
   ⟨some 83, .mov (.t 4), some (82, false)⟩,
   ⟨some 84, .mov (.t 4), some (82, false)⟩,
   ⟨some 85, .len (.t 84), some (82, false)⟩,
   ⟨some 86, .bin .sub false (.t 85) (.c (iv 1)), some (82, false)⟩,
   ⟨some 87, .ixa 1 (.t 83) (.t 86), some (82, false)⟩,
   ⟨some 88, .load none (.t 87), some (82, false)⟩,
   ⟨some 89, .mov (.t 3), some (82, false)⟩,
   ⟨some 90, .bin .mul false (.c (iv 2)) (.t 89), some (82, false)⟩,
   ⟨some 91, .bin .neq false (.t 88) (.t 90), some (82, false)⟩,
   ⟨some 92, .pick (.t 82) (.c (bv true)) (.t 91), none⟩]) (.cond (.t 92) (.seq (.region false [⟨some 2, .mov (.c (bv false)), none⟩]) .ret) .skip)) (.seq (.seq (.region false [⟨some 9, .mov (.c (iv 0)), none⟩]) (.block 0 (.loop (.seq (.seq (.region false [⟨some 93, .mov (.t 9), none⟩,
   ⟨some 94, .mov (.t 4), none⟩,
   ⟨some 95, .len (.t 94), none⟩,
   ⟨some 96, .bin .sub false (.t 95) (.c (iv 1)), none⟩,
   ⟨some 97, .bin .lss false (.t 93) (.t 96), none⟩]) (.cond (.t 97) .skip (.exit 0))) (.seq (.block 1 (.seq (.region true [⟨some 100, .mov (.t 4), none⟩,
   ⟨some 101, .mov (.t 9), none⟩,
   ⟨some 102, .ixa 1 (.t 100) (.t 101), none⟩,
   ⟨some 103, .load none (.t 102), none⟩,
   ⟨some 104, .mov (.t 4), none⟩,
   ⟨some 105, .mov (.t 4), none⟩,
   ⟨some 106, .len (.t 105), none⟩,
   ⟨some 107, .bin .sub false (.t 106) (.c (iv 2)), none⟩,
   ⟨some 108, .mov (.t 9), none⟩,
   ⟨some 109, .bin .sub false (.t 107) (.t 108), none⟩,
   ⟨some 110, .ixa 1 (.t 104) (.t 109), none⟩,
   ⟨some 111, .load none (.t 110), none⟩,
   ⟨some 112, .bin .neq false (.t 103) (.t 111), none⟩,
   ⟨some 113, .mov (.t 112), none⟩,
   ⟨some 114, .mov (.t 4), some (113, false)⟩,
   ⟨some 115, .mov (.t 9), some (113, false)⟩,
   ⟨some 116, .ixa 1 (.t 114) (.t 115), some (113, false)⟩,
   ⟨some 117, .load none (.t 116), some (113, false)⟩,
   ⟨some 118, .bin .lss false (.t 117) (.c (iv 1)), some (113, false)⟩,
   ⟨some 119, .pick (.t 113) (.c (bv true)) (.t 118), none⟩,
   ⟨some 120, .mov (.t 119), none⟩,
   ⟨some 121, .mov (.t 4), some (120, false)⟩,
   ⟨some 122, .mov (.t 9), some (120, false)⟩,
   ⟨some 123, .ixa 1 (.t 121) (.t 122), some (120, false)⟩,
   ⟨some 124, .load none (.t 123), some (120, false)⟩,
   ⟨some 125, .mov (.t 3), some (120, false)⟩,
   ⟨some 126, .bin .mul false (.c (iv 2)) (.t 125), some (120, false)⟩,
   ⟨some 127, .bin .gtr false (.t 124) (.t 126), some (120, false)⟩,
   ⟨some 128, .pick (.t 120) (.c (bv true)) (.t 127), none⟩]) (.cond (.t 128) (.seq (.region false [⟨some 2, .mov (.c (bv false)), none⟩]) .ret) .skip))) (.region false [⟨some 98, .mov (.t 9), none⟩,
   ⟨some 99, .bin .add false (.t 98) (.c (iv 1)), none⟩,
   ⟨some 9, .mov (.t 99), none⟩])))))) (.seq (.region false [⟨some 129, .mov (.t 0), none⟩,
   ⟨some 130, .call F.surdref01_Int [.t 129], none⟩,
   ⟨some 131, .mov (.t 7), none⟩,
   ⟨some 132, .call F.surdlaw04_of [.t 131], none⟩,
   ⟨some 133, .mov (.t 7), none⟩,
   ⟨some 134, .call F.surdlaw04_of [.t 133], none⟩,
   ⟨some 135, .call F.surdref01_Mul [.t 132, .t 134], none⟩,
   ⟨some 136, .call F.surdref01_Mul [.t 130, .t 135], none⟩,
   ⟨some 137, .call F.surdlaw04_one [], none⟩,
   ⟨some 138, .call F.surdref01_Add [.t 136, .t 137], none⟩,
   ⟨some 10, .mov (.t 138), none⟩]) (.seq (.region false [⟨some 139, .mov (.t 8), none⟩,
   ⟨some 140, .call F.surdlaw04_num [.t 139], none⟩,
   ⟨some 141, .bin .eql false (.t 140) (.c (iv 0)), none⟩,
   ⟨some 142, .mov (.t 141), none⟩,
   ⟨some 143, .mov (.t 7), some (142, true)⟩,
   ⟨some 144, .call F.surdlaw04_of [.t 143], some (142, true)⟩,
   ⟨some 145, .call F.surdref01_Num_Zero [.t 144], some (142, true)⟩,
   ⟨some 146, .un .not (.t 145), some (142, true)⟩,
   ⟨some 147, .pick (.t 142) (.t 146) (.c (bv false)), none⟩,
   ⟨some 148, .mov (.t 147), none⟩,
   ⟨some 149, .mov (.t 6), some (148, true)⟩,
   ⟨some 150, .call F.surdlaw04_of [.t 149], some (148, true)⟩,
   ⟨some 151, .mov (.t 6), some (148, true)⟩,
   ⟨some 152, .call F.surdlaw04_of [.t 151], some (148, true)⟩,
   ⟨some 153, .call F.surdref01_Mul [.t 150, .t 152], some (148, true)⟩,
   ⟨some 154, .mov (.t 10), some (148, true)⟩,
   ⟨some 155, .call F.surdref01_Cmp [.t 153, .t 154], some (148, true)⟩,
   ⟨some 156, .bin .eql false (.t 155) (.c (iv 0)), some (148, true)⟩,
   ⟨some 157, .pick (.t 148) (.t 156) (.c (bv false)), none⟩,
   ⟨some 158, .mov (.t 157), none⟩,
   ⟨some 159, .call F.surdlaw04_awake [], some (158, true)⟩,
   ⟨some 160, .pick (.t 158) (.t 159) (.c (bv false)), none⟩,
   ⟨some 2, .mov (.t 160), none⟩]) .ret)))))))))
def R.surdlaw04_RootPell : List VRes := [.tmp 2]
theorem K.surdlaw04_RootPell : resCode Try.prog Try.f10.ntmps (Try.f10.body.getD .skip) = C.surdlaw04_RootPell := by kernel_rfl
theorem Q.surdlaw04_RootPell : resResults Try.prog Try.f10.results.toList = some R.surdlaw04_RootPell := by kernel_rfl
theorem E.surdlaw04_RootPell : Try.prog.funcs[F.surdlaw04_RootPell]? = some Try.f10 := Try.func10
theorem B.surdlaw04_RootPell : Try.f10.body = some (Try.f10.body.getD .skip) := by kernel_rfl
theorem N.surdlaw04_RootPell : Try.f10.ntmps = 161 := Try.ntmps10

def C.surdref01_Lend : VC :=
  .seq (.region false [⟨some 2, .mov (.c nil1), none⟩,
   ⟨some 3, .mov (.c nil1), none⟩]) (.seq (.region false [⟨some 8, .mov (.t 0), none⟩,
   ⟨some 9, .len (.t 8), none⟩,
   ⟨some 10, .bin .add false (.t 9) (.c (iv 4)), none⟩,
   ⟨some 11, .mk [.int .u64 0] 8 (.t 10) (.t 10), none⟩,
   ⟨some 4, .mov (.t 11), none⟩]) (.seq (.seq (.region false [⟨some 12, .mov (.t 4), none⟩,
   ⟨some 13, .len (.t 12), none⟩,
   ⟨some 14, .mov (.c (iv 0)), none⟩]) (.block 0 (.loop (.seq (.region false [⟨some 15, .bin .lss false (.t 14) (.t 13), none⟩]) (.seq (.cond (.t 15) .skip (.exit 0)) (.seq (.block 1 (.seq (.region false [⟨some 16, .mov (.t 14), none⟩,
   ⟨some 5, .mov (.t 16), none⟩]) (.region false [⟨some 17, .mov (.t 4), none⟩,
   ⟨some 18, .mov (.t 5), none⟩,
   ⟨some 19, .ixa 1 (.t 17) (.t 18), none⟩,
   ⟨none, .store 1 (.t 19) (.c (nv 10855845)), none⟩]))) (.region false [⟨some 20, .bin .add false (.t 14) (.c (iv 1)), none⟩,
   ⟨some 14, .mov (.t 20), none⟩]))))))) (.seq (.seq (.region false [⟨some 21, .mov (.t 0), none⟩,
   ⟨some 22, .len (.t 21), none⟩,
   ⟨some 23, .mov (.c (iv 0)), none⟩]) (.block 2 (.loop (.seq (.region false [⟨some 24, .bin .lss false (.t 23) (.t 22), none⟩]) (.seq (.cond (.t 24) .skip (.exit 2)) (.seq (.block 3 (.seq (.region false [⟨some 25, .mov (.t 23), none⟩,
   ⟨some 26, .ixa 1 (.t 21) (.t 23), none⟩,
   ⟨some 27, .load none (.t 26), none⟩,
   ⟨some 6, .mov (.t 25), none⟩,
   ⟨some 7, .mov (.t 27), none⟩]) (.region false [⟨some 28, .mov (.t 4), none⟩,
   ⟨some 29, .mov (.t 6), none⟩,
   ⟨some 30, .bin .add false (.t 29) (.c (iv 2)), none⟩,
   ⟨some 31, .mov (.t 7), none⟩,
   ⟨some 32, .ixa 1 (.t 28) (.t 30), none⟩,
   ⟨none, .store 1 (.t 32) (.t 31), none⟩]))) (.region false [⟨some 33, .bin .add false (.t 23) (.c (iv 1)), none⟩,
   ⟨some 23, .mov (.t 33), none⟩]))))))) (.seq (.region true [⟨some 34, .mov (.t 4), none⟩,
   ⟨some 35, .mov (.t 4), none⟩,
   ⟨some 36, .mov (.t 0), none⟩,
   ⟨some 37, .len (.t 36), none⟩,
   ⟨some 38, .bin .add false (.t 37) (.c (iv 2)), none⟩,
   ⟨some 39, .slc 1 (.t 35) (some (.c (iv 2))) (some (.t 38)) none, none⟩,
   ⟨some 2, .mov (.t 34), none⟩,
   ⟨some 3, .mov (.t 39), none⟩]) .ret))))
def R.surdref01_Lend : List VRes := [.tmp 2, .tmp 3]
theorem K.surdref01_Lend : resCode Try.prog Try.f11.ntmps (Try.f11.body.getD .skip) = C.surdref01_Lend := by kernel_rfl
theorem Q.surdref01_Lend : resResults Try.prog Try.f11.results.toList = some R.surdref01_Lend := by kernel_rfl
theorem E.surdref01_Lend : Try.prog.funcs[F.surdref01_Lend]? = some Try.f11 := Try.func11
theorem B.surdref01_Lend : Try.f11.body = some (Try.f11.body.getD .skip) := by kernel_rfl
theorem N.surdref01_Lend : Try.f11.ntmps = 40 := Try.ntmps11

def C.roots_Roots : VC :=
  .seq (.region false [⟨some 4, .mov (.c nil1), none⟩,
   ⟨some 5, .mov (.c (iv 0)), none⟩]) (.seq (.seq (.region false [⟨some 11, .mov (.t 1), none⟩,
   ⟨some 12, .bin .lss false (.t 11) (.c (iv 1)), none⟩,
   ⟨some 13, .mov (.t 12), none⟩,
   ⟨some 14, .mov (.t 1), some (13, false)⟩,
   ⟨some 15, .bin .gtr false (.t 14) (.c (iv 65536)), some (13, false)⟩,
   ⟨some 16, .pick (.t 13) (.c (bv true)) (.t 15), none⟩]) (.cond (.t 16) (.seq (.region false [⟨some 4, .mov (.c nil1), none⟩,
   ⟨some 5, .mov (.c (iv 1)), none⟩]) .ret) .skip)) (.seq (.region false [⟨some 18, .mov (.t 0), none⟩,
   ⟨some 19, .mov (.t 1), none⟩,
   ⟨some 20, .conv .u64 (.t 19), none⟩,
   ⟨some 21, .call F.nat_Through [.t 18, .t 20], none⟩,
   ⟨some 17, .mov (.t 21), none⟩,
   ⟨some 22, .ext (.t 17) 0, none⟩,
   ⟨some 23, .ext (.t 17) 1, none⟩,
   ⟨some 24, .ext (.t 17) 2, none⟩,
   ⟨some 6, .mov (.t 22), none⟩,
   ⟨some 7, .mov (.t 23), none⟩,
   ⟨some 8, .mov (.t 24), none⟩]) (.seq (.region false [⟨some 9, .mov (.c nil1), none⟩]) (.seq (.seq (.region false [⟨some 25, .mov (.t 1), none⟩,
   ⟨some 26, .mov (.c (iv 0)), none⟩]) (.block 0 (.loop (.seq (.region false [⟨some 27, .bin .lss false (.t 26) (.t 25), none⟩]) (.seq (.cond (.t 27) .skip (.exit 0)) (.seq (.block 1 (.seq (.region false [⟨some 28, .mov (.t 26), none⟩,
   ⟨some 10, .mov (.t 28), none⟩]) (.seq (.region false [⟨some 29, .mov (.t 10), none⟩,
   ⟨some 30, .mov (.t 10), none⟩,
   ⟨some 31, .bin .mul false (.t 29) (.t 30), none⟩,
   ⟨some 32, .mov (.t 1), none⟩,
   ⟨some 33, .bin .rem false (.t 31) (.t 32), none⟩,
   ⟨some 34, .conv .u64 (.t 33), none⟩,
   ⟨some 35, .mov (.t 7), none⟩,
   ⟨some 36, .bin .eql false (.t 34) (.t 35), none⟩]) (.cond (.t 36) (.region false [⟨some 37, .mov (.t 9), none⟩,
   ⟨some 38, .mov (.t 10), none⟩,
   ⟨some 39, .bsl true 1 1 [.int .i64 0] [(0, (1, .t 38))], none⟩,
   ⟨some 40, .app 1 8 [.int .i64 0] (.t 37) (.t 39), none⟩,
   ⟨some 9, .mov (.t 40), none⟩]) .skip)))) (.region false [⟨some 41, .bin .add false (.t 26) (.c (iv 1)), none⟩,
   ⟨some 26, .mov (.t 41), none⟩]))))))) (.seq (.region false [⟨some 42, .mov (.t 9), none⟩,
   ⟨some 4, .mov (.t 42), none⟩,
   ⟨some 5, .mov (.c (iv 0)), none⟩]) .ret)))))
def R.roots_Roots : List VRes := [.tmp 4, .tmp 5]
theorem K.roots_Roots : resCode Try.prog Try.f12.ntmps (Try.f12.body.getD .skip) = C.roots_Roots := by kernel_rfl
theorem Q.roots_Roots : resResults Try.prog Try.f12.results.toList = some R.roots_Roots := by kernel_rfl
theorem E.roots_Roots : Try.prog.funcs[F.roots_Roots]? = some Try.f12 := Try.func12
theorem B.roots_Roots : Try.f12.body = some (Try.f12.body.getD .skip) := by kernel_rfl
theorem N.roots_Roots : Try.f12.ntmps = 43 := Try.ntmps12

def C.surdref04_Roots : VC :=
  .seq (.region false [⟨some 4, .mov (.c nil1), none⟩,
   ⟨some 5, .mov (.c (iv 0)), none⟩]) (.seq (.seq (.region false [⟨some 10, .mov (.t 1), none⟩,
   ⟨some 11, .bin .lss false (.t 10) (.c (iv 1)), none⟩,
   ⟨some 12, .mov (.t 11), none⟩,
   ⟨some 13, .mov (.t 1), some (12, false)⟩,
   ⟨some 14, .bin .gtr false (.t 13) (.c (iv 65536)), some (12, false)⟩,
   ⟨some 15, .pick (.t 12) (.c (bv true)) (.t 14), none⟩]) (.cond (.t 15) (.seq (.region false [⟨some 4, .mov (.c nil1), none⟩,
   ⟨some 5, .mov (.c (iv 1)), none⟩]) .ret) .skip)) (.seq (.region false [⟨some 17, .mov (.t 0), none⟩,
   ⟨some 18, .mov (.t 1), none⟩,
   ⟨some 19, .call F.surdref01_Int [.t 18], none⟩,
   ⟨some 20, .call F.surdref01_Div [.t 17, .t 19], none⟩,
   ⟨some 16, .mov (.t 20), none⟩,
   ⟨some 21, .ext (.t 16) 0, none⟩,
   ⟨some 22, .ext (.t 16) 1, none⟩,
   ⟨some 6, .mov (.t 21), none⟩,
   ⟨some 7, .mov (.t 22), none⟩]) (.seq (.region false [⟨some 8, .mov (.c nil1), none⟩]) (.seq (.seq (.region false [⟨some 9, .mov (.c (iv 0)), none⟩]) (.block 0 (.loop (.seq (.seq (.region false [⟨some 23, .mov (.t 9), none⟩,
   ⟨some 24, .mov (.t 1), none⟩,
   ⟨some 25, .bin .lss false (.t 23) (.t 24), none⟩]) (.cond (.t 25) .skip (.exit 0))) (.seq (.block 1 (.seq (.region false [⟨some 28, .mov (.t 9), none⟩,
   ⟨some 29, .mov (.t 9), none⟩,
   ⟨some 30, .bin .mul false (.t 28) (.t 29), none⟩,
   ⟨some 31, .mov (.t 1), none⟩,
   ⟨some 32, .bin .rem false (.t 30) (.t 31), none⟩,
   ⟨some 33, .call F.surdref01_Int [.t 32], none⟩,
   ⟨some 34, .mov (.t 7), none⟩,
   ⟨some 35, .call F.surdref01_Cmp [.t 33, .t 34], none⟩,
   ⟨some 36, .bin .eql false (.t 35) (.c (iv 0)), none⟩]) (.cond (.t 36) (.region false [⟨some 37, .mov (.t 8), none⟩,
   ⟨some 38, .mov (.t 9), none⟩,
   ⟨some 39, .bsl true 1 1 [.int .i64 0] [(0, (1, .t 38))], none⟩,
   ⟨some 40, .app 1 8 [.int .i64 0] (.t 37) (.t 39), none⟩,
   ⟨some 8, .mov (.t 40), none⟩]) .skip))) (.region false [⟨some 26, .mov (.t 9), none⟩,
   ⟨some 27, .bin .add false (.t 26) (.c (iv 1)), none⟩,
   ⟨some 9, .mov (.t 27), none⟩])))))) (.seq (.region false [⟨some 41, .mov (.t 8), none⟩,
   ⟨some 4, .mov (.t 41), none⟩,
   ⟨some 5, .mov (.c (iv 0)), none⟩]) .ret)))))
def R.surdref04_Roots : List VRes := [.tmp 4, .tmp 5]
theorem K.surdref04_Roots : resCode Try.prog Try.f14.ntmps (Try.f14.body.getD .skip) = C.surdref04_Roots := by kernel_rfl
theorem Q.surdref04_Roots : resResults Try.prog Try.f14.results.toList = some R.surdref04_Roots := by kernel_rfl
theorem E.surdref04_Roots : Try.prog.funcs[F.surdref04_Roots]? = some Try.f14 := Try.func14
theorem B.surdref04_Roots : Try.f14.body = some (Try.f14.body.getD .skip) := by kernel_rfl
theorem N.surdref04_Roots : Try.f14.ntmps = 42 := Try.ntmps14

def C.surdref01_Of : VC :=
  .seq (.region false [⟨some 2, .mov (.c nil1), none⟩]) (.seq (.region false [⟨some 6, .mov (.t 0), none⟩,
   ⟨some 7, .len (.t 6), none⟩,
   ⟨some 8, .bin .mul false (.c (iv 2)) (.t 7), none⟩,
   ⟨some 9, .mk [.int .u64 0] 8 (.c (iv 0)) (.t 8), none⟩,
   ⟨some 3, .mov (.t 9), none⟩]) (.seq (.seq (.region false [⟨some 10, .mov (.t 0), none⟩,
   ⟨some 11, .len (.t 10), none⟩,
   ⟨some 12, .mov (.c (iv 0)), none⟩]) (.block 0 (.loop (.seq (.region false [⟨some 13, .bin .lss false (.t 12) (.t 11), none⟩]) (.seq (.cond (.t 13) .skip (.exit 0)) (.seq (.block 1 (.seq (.region false [⟨some 14, .ixa 1 (.t 10) (.t 12), none⟩,
   ⟨some 15, .load none (.t 14), none⟩,
   ⟨some 5, .mov (.t 15), none⟩]) (.region false [⟨some 16, .mov (.t 3), none⟩,
   ⟨some 17, .mov (.t 5), none⟩,
   ⟨some 18, .bin .rem false (.t 17) (.c (nv 4294967296)), none⟩,
   ⟨some 19, .mov (.t 5), none⟩,
   ⟨some 20, .bin .quo false (.t 19) (.c (nv 4294967296)), none⟩,
   ⟨some 21, .bsl true 1 2 [.int .u64 0] [(0, (1, .t 18)), (1, (1, .t 20))], none⟩,
   ⟨some 22, .app 1 8 [.int .u64 0] (.t 16) (.t 21), none⟩,
   ⟨some 3, .mov (.t 22), none⟩]))) (.region false [⟨some 23, .bin .add false (.t 12) (.c (iv 1)), none⟩,
   ⟨some 12, .mov (.t 23), none⟩]))))))) (.seq (.region false [⟨some 24, .mov (.t 3), none⟩,
   ⟨some 25, .call F.surdref01_norm [.t 24], none⟩,
   ⟨some 2, .mov (.t 25), none⟩]) .ret)))
def R.surdref01_Of : List VRes := [.tmp 2]
theorem K.surdref01_Of : resCode Try.prog Try.f15.ntmps (Try.f15.body.getD .skip) = C.surdref01_Of := by kernel_rfl
theorem Q.surdref01_Of : resResults Try.prog Try.f15.results.toList = some R.surdref01_Of := by kernel_rfl
theorem E.surdref01_Of : Try.prog.funcs[F.surdref01_Of]? = some Try.f15 := Try.func15
theorem B.surdref01_Of : Try.f15.body = some (Try.f15.body.getD .skip) := by kernel_rfl
theorem N.surdref01_Of : Try.f15.ntmps = 26 := Try.ntmps15

def C.surdlaw04_num : VC :=
  .seq (.region false [⟨some 2, .mov (.c (iv 0)), none⟩]) (.seq (.region false [⟨some 3, .mov (.t 0), none⟩,
   ⟨some 2, .mov (.t 3), none⟩]) .ret)
def R.surdlaw04_num : List VRes := [.tmp 2]
theorem K.surdlaw04_num : resCode Try.prog Try.f16.ntmps (Try.f16.body.getD .skip) = C.surdlaw04_num := by kernel_rfl
theorem Q.surdlaw04_num : resResults Try.prog Try.f16.results.toList = some R.surdlaw04_num := by kernel_rfl
theorem E.surdlaw04_num : Try.prog.funcs[F.surdlaw04_num]? = some Try.f16 := Try.func16
theorem B.surdlaw04_num : Try.f16.body = some (Try.f16.body.getD .skip) := by kernel_rfl
theorem N.surdlaw04_num : Try.f16.ntmps = 4 := Try.ntmps16

def C.surdref01_Kept : VC :=
  .seq (.region false [⟨some 4, .mov (.c (bv false)), none⟩]) (.seq (.seq (.region false [⟨some 7, .mov (.t 0), none⟩,
   ⟨some 8, .len (.t 7), none⟩,
   ⟨some 9, .mov (.t 1), none⟩,
   ⟨some 10, .len (.t 9), none⟩,
   ⟨some 11, .bin .add false (.t 10) (.c (iv 4)), none⟩,
   ⟨some 12, .bin .neq false (.t 8) (.t 11), none⟩]) (.cond (.t 12) (.seq (.region false [⟨some 4, .mov (.c (bv false)), none⟩]) .ret) .skip)) (.seq (.seq (.region false [⟨some 13, .mov (.t 0), none⟩,
   ⟨some 14, .len (.t 13), none⟩,
   ⟨some 15, .mov (.c (iv 0)), none⟩]) (.block 0 (.loop (.seq (.region false [⟨some 16, .bin .lss false (.t 15) (.t 14), none⟩]) (.seq (.cond (.t 16) .skip (.exit 0)) (.seq (.block 1 (.seq (.region false [⟨some 17, .mov (.t 15), none⟩,
   ⟨some 18, .ixa 1 (.t 13) (.t 15), none⟩,
   ⟨some 19, .load none (.t 18), none⟩,
   ⟨some 5, .mov (.t 17), none⟩,
   ⟨some 6, .mov (.t 19), none⟩]) (.seq (.region false [⟨some 20, .mov (.t 5), none⟩,
   ⟨some 21, .bin .lss false (.t 20) (.c (iv 2)), none⟩,
   ⟨some 22, .mov (.t 21), none⟩,
   ⟨some 23, .mov (.t 5), some (22, false)⟩,
   ⟨some 24, .mov (.t 1), some (22, false)⟩,
   ⟨some 25, .len (.t 24), some (22, false)⟩,
   ⟨some 26, .bin .add false (.t 25) (.c (iv 2)), some (22, false)⟩,
   ⟨some 27, .bin .geq false (.t 23) (.t 26), some (22, false)⟩,
   ⟨some 28, .pick (.t 22) (.c (bv true)) (.t 27), none⟩]) (.cond (.t 28) (.seq (.region false [⟨some 29, .mov (.t 6), none⟩,
   ⟨some 30, .bin .neq false (.t 29) (.c (nv 10855845)), none⟩]) (.cond (.t 30) (.seq (.region false [⟨some 4, .mov (.c (bv false)), none⟩]) .ret) .skip)) (.seq (.region false [⟨some 31, .mov (.t 6), none⟩,
   ⟨some 32, .mov (.t 1), none⟩,
   ⟨some 33, .mov (.t 5), none⟩,
   ⟨some 34, .bin .sub false (.t 33) (.c (iv 2)), none⟩,
   ⟨some 35, .ixa 1 (.t 32) (.t 34), none⟩,
   ⟨some 36, .load none (.t 35), none⟩,
   ⟨some 37, .bin .neq false (.t 31) (.t 36), none⟩]) (.cond (.t 37) (.seq (.region false [⟨some 4, .mov (.c (bv false)), none⟩]) .ret) .skip)))))) (.region false [⟨some 38, .bin .add false (.t 15) (.c (iv 1)), none⟩,
   ⟨some 15, .mov (.t 38), none⟩]))))))) (.seq (.region false [⟨some 4, .mov (.c (bv true)), none⟩]) .ret)))
def R.surdref01_Kept : List VRes := [.tmp 4]
theorem K.surdref01_Kept : resCode Try.prog Try.f17.ntmps (Try.f17.body.getD .skip) = C.surdref01_Kept := by kernel_rfl
theorem Q.surdref01_Kept : resResults Try.prog Try.f17.results.toList = some R.surdref01_Kept := by kernel_rfl
theorem E.surdref01_Kept : Try.prog.funcs[F.surdref01_Kept]? = some Try.f17 := Try.func17
theorem B.surdref01_Kept : Try.f17.body = some (Try.f17.body.getD .skip) := by kernel_rfl
theorem N.surdref01_Kept : Try.f17.ntmps = 39 := Try.ntmps17

def C.surdlaw04_skew : VC :=
  .seq (.region false [⟨some 2, .mov (.c (iv 0)), none⟩]) (.seq (.seq (.region false [⟨some 3, .mov (.t 0), none⟩,
   ⟨some 4, .len (.t 3), none⟩,
   ⟨some 5, .bin .gtr false (.t 4) (.c (iv 0)), none⟩,
   ⟨some 6, .mov (.t 5), none⟩,
   ⟨some 7, .mov (.t 0), some (6, true)⟩,
   ⟨some 8, .ixa 1 (.t 7) (.c (iv 0)), some (6, true)⟩,
   ⟨some 9, .load none (.t 8), some (6, true)⟩,
   ⟨some 10, .bin .eql false (.t 9) (.c (iv 0)), some (6, true)⟩,
   ⟨some 11, .pick (.t 6) (.t 10) (.c (bv false)), none⟩]) (.cond (.t 11) (.seq (.region false [⟨some 2, .mov (.c (iv 1)), none⟩]) .ret) .skip)) (.seq (.region false [⟨some 2, .mov (.c (iv 0)), none⟩]) .ret))
def R.surdlaw04_skew : List VRes := [.tmp 2]
theorem K.surdlaw04_skew : resCode Try.prog Try.f18.ntmps (Try.f18.body.getD .skip) = C.surdlaw04_skew := by kernel_rfl
theorem Q.surdlaw04_skew : resResults Try.prog Try.f18.results.toList = some R.surdlaw04_skew := by kernel_rfl
theorem E.surdlaw04_skew : Try.prog.funcs[F.surdlaw04_skew]? = some Try.f18 := Try.func18
theorem B.surdlaw04_skew : Try.f18.body = some (Try.f18.body.getD .skip) := by kernel_rfl
theorem N.surdlaw04_skew : Try.f18.ntmps = 12 := Try.ntmps18

def C.surdlaw04_awake : VC :=
  .seq (.region false [⟨some 0, .mov (.c (bv false)), none⟩]) (.seq (.region false [⟨some 5, .bsl true 1 1 [.int .u64 0] [(0, (1, .c (nv 15)))], none⟩,
   ⟨some 6, .call F.roots_Sqrt [.t 5], none⟩,
   ⟨some 4, .mov (.t 6), none⟩,
   ⟨some 7, .ext (.t 4) 0, none⟩,
   ⟨some 8, .ext (.t 4) 1, none⟩,
   ⟨some 9, .ext (.t 4) 2, none⟩,
   ⟨some 1, .mov (.t 7), none⟩,
   ⟨some 2, .mov (.t 8), none⟩,
   ⟨some 3, .mov (.t 9), none⟩]) (.seq (.region false [⟨some 10, .mov (.t 3), none⟩,
   ⟨some 11, .call F.surdlaw04_num [.t 10], none⟩,
   ⟨some 12, .bin .eql false (.t 11) (.c (iv 0)), none⟩,
   ⟨some 13, .mov (.t 12), none⟩,
   ⟨some 14, .call F.surdref01_Int [.c (iv 3)], some (13, true)⟩,
   ⟨some 15, .mov (.t 1), some (13, true)⟩,
   ⟨some 16, .call F.surdref01_Num_Is [.t 14, .t 15], some (13, true)⟩,
   ⟨some 17, .pick (.t 13) (.t 16) (.c (bv false)), none⟩,
   ⟨some 18, .mov (.t 17), none⟩,
   ⟨some 19, .call F.surdref01_Int [.c (iv 6)], some (18, true)⟩,
   ⟨some 20, .mov (.t 2), some (18, true)⟩,
   ⟨some 21, .call F.surdref01_Num_Is [.t 19, .t 20], some (18, true)⟩,
   ⟨some 22, .pick (.t 18) (.t 21) (.c (bv false)), none⟩,
   ⟨some 0, .mov (.t 22), none⟩]) .ret))
def R.surdlaw04_awake : List VRes := [.tmp 0]
theorem K.surdlaw04_awake : resCode Try.prog Try.f19.ntmps (Try.f19.body.getD .skip) = C.surdlaw04_awake := by kernel_rfl
theorem Q.surdlaw04_awake : resResults Try.prog Try.f19.results.toList = some R.surdlaw04_awake := by kernel_rfl
theorem E.surdlaw04_awake : Try.prog.funcs[F.surdlaw04_awake]? = some Try.f19 := Try.func19
theorem B.surdlaw04_awake : Try.f19.body = some (Try.f19.body.getD .skip) := by kernel_rfl
theorem N.surdlaw04_awake : Try.f19.ntmps = 23 := Try.ntmps19

def C.surdref01_Num_Len : VC :=
  .seq (.region false [⟨some 2, .mov (.c (iv 0)), none⟩]) (.seq (.seq (.region false [⟨some 5, .mov (.t 0), none⟩,
   ⟨some 6, .len (.t 5), none⟩,
   ⟨some 7, .bin .eql false (.t 6) (.c (iv 0)), none⟩]) (.cond (.t 7) (.seq (.region false [⟨some 2, .mov (.c (iv 0)), none⟩]) .ret) .skip)) (.seq (.region false [⟨some 8, .mov (.t 0), none⟩,
   ⟨some 9, .len (.t 8), none⟩,
   ⟨some 10, .bin .sub false (.t 9) (.c (iv 1)), none⟩,
   ⟨some 11, .bin .mul false (.c (iv 32)) (.t 10), none⟩,
   ⟨some 3, .mov (.t 11), none⟩]) (.seq (.seq (.region false [⟨some 12, .mov (.t 0), none⟩,
   ⟨some 13, .mov (.t 0), none⟩,
   ⟨some 14, .len (.t 13), none⟩,
   ⟨some 15, .bin .sub false (.t 14) (.c (iv 1)), none⟩,
   ⟨some 16, .ixa 1 (.t 12) (.t 15), none⟩,
   ⟨some 17, .load none (.t 16), none⟩,
   ⟨some 4, .mov (.t 17), none⟩]) (.block 0 (.loop (.seq (.seq (.region false [⟨some 18, .mov (.t 4), none⟩,
   ⟨some 19, .bin .gtr false (.t 18) (.c (nv 0)), none⟩]) (.cond (.t 19) .skip (.exit 0))) (.seq (.block 1 (.region false [⟨some 22, .mov (.t 3), none⟩,
   ⟨some 23, .bin .add false (.t 22) (.c (iv 1)), none⟩,
   ⟨some 3, .mov (.t 23), none⟩])) (.region false [⟨some 20, .mov (.t 4), none⟩,
   ⟨some 21, .bin .quo false (.t 20) (.c (nv 2)), none⟩,
   ⟨some 4, .mov (.t 21), none⟩])))))) (.seq (.region false [⟨some 24, .mov (.t 3), none⟩,
   ⟨some 2, .mov (.t 24), none⟩]) .ret))))
def R.surdref01_Num_Len : List VRes := [.tmp 2]
theorem K.surdref01_Num_Len : resCode Try.prog Try.f20.ntmps (Try.f20.body.getD .skip) = C.surdref01_Num_Len := by kernel_rfl
theorem Q.surdref01_Num_Len : resResults Try.prog Try.f20.results.toList = some R.surdref01_Num_Len := by kernel_rfl
theorem E.surdref01_Num_Len : Try.prog.funcs[F.surdref01_Num_Len]? = some Try.f20 := Try.func20
theorem B.surdref01_Num_Len : Try.f20.body = some (Try.f20.body.getD .skip) := by kernel_rfl
theorem N.surdref01_Num_Len : Try.f20.ntmps = 25 := Try.ntmps20

def C.surdref01_Root : VC :=
  .seq (.region false [⟨some 2, .mov (.c nil1), none⟩]) (.seq (.region false [⟨some 3, .mov (.c nil1), none⟩]) (.seq (.seq (.region false [⟨some 6, .mov (.t 0), none⟩,
   ⟨some 7, .call F.surdref01_Num_Len [.t 6], none⟩,
   ⟨some 8, .bin .quo false (.t 7) (.c (iv 2)), none⟩,
   ⟨some 4, .mov (.t 8), none⟩]) (.block 0 (.loop (.seq (.seq (.region false [⟨some 9, .mov (.t 4), none⟩,
   ⟨some 10, .bin .geq false (.t 9) (.c (iv 0)), none⟩]) (.cond (.t 10) .skip (.exit 0))) (.seq (.block 1 (.seq (.region false [⟨some 13, .mov (.t 3), none⟩,
   ⟨some 14, .call F.surdref01_Int [.c (iv 1)], none⟩,
   ⟨some 15, .mov (.t 4), none⟩,
   ⟨some 16, .call F.surdref01_Shl [.t 14, .t 15], none⟩,
   ⟨some 17, .call F.surdref01_Add [.t 13, .t 16], none⟩,
   ⟨some 5, .mov (.t 17), none⟩]) (.seq (.region false [⟨some 18, .mov (.t 5), none⟩,
   ⟨some 19, .mov (.t 5), none⟩,
   ⟨some 20, .call F.surdref01_Mul [.t 18, .t 19], none⟩,
   ⟨some 21, .mov (.t 0), none⟩,
   ⟨some 22, .call F.surdref01_Cmp [.t 20, .t 21], none⟩,
   ⟨some 23, .bin .leq false (.t 22) (.c (iv 0)), none⟩]) (.cond (.t 23) (.region false [⟨some 24, .mov (.t 5), none⟩,
   ⟨some 3, .mov (.t 24), none⟩]) .skip)))) (.region false [⟨some 11, .mov (.t 4), none⟩,
   ⟨some 12, .bin .sub false (.t 11) (.c (iv 1)), none⟩,
   ⟨some 4, .mov (.t 12), none⟩])))))) (.seq (.region false [⟨some 25, .mov (.t 3), none⟩,
   ⟨some 2, .mov (.t 25), none⟩]) .ret)))
def R.surdref01_Root : List VRes := [.tmp 2]
theorem K.surdref01_Root : resCode Try.prog Try.f21.ntmps (Try.f21.body.getD .skip) = C.surdref01_Root := by kernel_rfl
theorem Q.surdref01_Root : resResults Try.prog Try.f21.results.toList = some R.surdref01_Root := by kernel_rfl
theorem E.surdref01_Root : Try.prog.funcs[F.surdref01_Root]? = some Try.f21 := Try.func21
theorem B.surdref01_Root : Try.f21.body = some (Try.f21.body.getD .skip) := by kernel_rfl
theorem N.surdref01_Root : Try.f21.ntmps = 26 := Try.ntmps21

def C.roots_Root : VC :=
  .seq (.region false [⟨some 4, .mov (.c nil1), none⟩,
   ⟨some 5, .mov (.c nil1), none⟩,
   ⟨some 6, .mov (.c (iv 0)), none⟩]) (.seq (.seq (.region false [⟨some 11, .mov (.t 1), none⟩,
   ⟨some 12, .bin .lss false (.t 11) (.c (iv 1)), none⟩]) (.cond (.t 12) (.seq (.region false [⟨some 4, .mov (.c nil1), none⟩,
   ⟨some 5, .mov (.c nil1), none⟩,
   ⟨some 6, .mov (.c (iv 40)), none⟩]) .ret) .skip)) (.seq (.region false [⟨some 14, .mov (.t 0), none⟩,
   ⟨some 15, .call F.roots_fits [.t 14], none⟩,
   ⟨some 13, .mov (.t 15), none⟩,
   ⟨some 16, .ext (.t 13) 0, none⟩,
   ⟨some 17, .ext (.t 13) 1, none⟩,
   ⟨some 0, .mov (.t 16), none⟩,
   ⟨some 7, .mov (.t 17), none⟩]) (.seq (.seq (.region false [⟨some 18, .mov (.t 7), none⟩,
   ⟨some 19, .bin .neq false (.t 18) (.c (iv 0)), none⟩]) (.cond (.t 19) (.seq (.region false [⟨some 20, .mov (.t 7), none⟩,
   ⟨some 4, .mov (.c nil1), none⟩,
   ⟨some 5, .mov (.c nil1), none⟩,
   ⟨some 6, .mov (.t 20), none⟩]) .ret) .skip)) (.seq (.seq (.region false [⟨some 21, .mov (.t 1), none⟩,
   ⟨some 22, .bin .eql false (.t 21) (.c (iv 1)), none⟩,
   ⟨some 23, .mov (.t 22), none⟩,
   ⟨some 24, .mov (.t 0), some (23, false)⟩,
   ⟨some 25, .call F.nat_Length [.t 24], some (23, false)⟩,
   ⟨some 26, .bin .eql false (.t 25) (.c (iv 0)), some (23, false)⟩,
   ⟨some 27, .pick (.t 23) (.c (bv true)) (.t 26), none⟩]) (.cond (.t 27) (.seq (.region false [⟨some 28, .mov (.t 0), none⟩,
   ⟨some 4, .mov (.t 28), none⟩,
   ⟨some 5, .mov (.c nil1), none⟩,
   ⟨some 6, .mov (.c (iv 0)), none⟩]) .ret) .skip)) (.seq (.region false [⟨some 29, .mov (.t 0), none⟩,
   ⟨some 30, .mov (.t 1), none⟩,
   ⟨some 31, .call F.roots_newton [.t 29, .t 30], none⟩,
   ⟨some 8, .mov (.t 31), none⟩]) (.seq (.region false [⟨some 33, .mov (.t 8), none⟩,
   ⟨some 34, .mov (.t 1), none⟩,
   ⟨some 35, .call F.mul_Pow [.t 33, .t 34], none⟩,
   ⟨some 32, .mov (.t 35), none⟩,
   ⟨some 36, .ext (.t 32) 0, none⟩,
   ⟨some 37, .ext (.t 32) 1, none⟩,
   ⟨some 9, .mov (.t 36), none⟩,
   ⟨some 10, .mov (.t 37), none⟩]) (.seq (.region false [⟨some 38, .mov (.t 8), none⟩,
   ⟨some 39, .mov (.t 0), none⟩,
   ⟨some 40, .mov (.t 9), none⟩,
   ⟨some 41, .call F.roots_less [.t 39, .t 40], none⟩,
   ⟨some 4, .mov (.t 38), none⟩,
   ⟨some 5, .mov (.t 41), none⟩,
   ⟨some 6, .mov (.c (iv 0)), none⟩]) .ret)))))))
def R.roots_Root : List VRes := [.tmp 4, .tmp 5, .tmp 6]
theorem K.roots_Root : resCode Try.prog Try.f22.ntmps (Try.f22.body.getD .skip) = C.roots_Root := by kernel_rfl
theorem Q.roots_Root : resResults Try.prog Try.f22.results.toList = some R.roots_Root := by kernel_rfl
theorem E.roots_Root : Try.prog.funcs[F.roots_Root]? = some Try.f22 := Try.func22
theorem B.roots_Root : Try.f22.body = some (Try.f22.body.getD .skip) := by kernel_rfl
theorem N.roots_Root : Try.f22.ntmps = 42 := Try.ntmps22

def C.roots_Sqrt : VC :=
  .seq (.region false [⟨some 2, .mov (.c nil1), none⟩,
   ⟨some 3, .mov (.c nil1), none⟩,
   ⟨some 4, .mov (.c (iv 0)), none⟩]) (.seq (.region false [⟨some 5, .mov (.t 0), none⟩,
   ⟨some 6, .call F.roots_Root [.t 5, .c (iv 2)], none⟩,
   ⟨some 7, .ext (.t 6) 0, none⟩,
   ⟨some 8, .ext (.t 6) 1, none⟩,
   ⟨some 9, .ext (.t 6) 2, none⟩,
   ⟨some 2, .mov (.t 7), none⟩,
   ⟨some 3, .mov (.t 8), none⟩,
   ⟨some 4, .mov (.t 9), none⟩]) .ret)
def R.roots_Sqrt : List VRes := [.tmp 2, .tmp 3, .tmp 4]
theorem K.roots_Sqrt : resCode Try.prog Try.f23.ntmps (Try.f23.body.getD .skip) = C.roots_Sqrt := by kernel_rfl
theorem Q.roots_Sqrt : resResults Try.prog Try.f23.results.toList = some R.roots_Sqrt := by kernel_rfl
theorem E.roots_Sqrt : Try.prog.funcs[F.roots_Sqrt]? = some Try.f23 := Try.func23
theorem B.roots_Sqrt : Try.f23.body = some (Try.f23.body.getD .skip) := by kernel_rfl
theorem N.roots_Sqrt : Try.f23.ntmps = 10 := Try.ntmps23

def C.roots_Ceil : VC :=
  .seq (.region false [⟨some 2, .mov (.c nil1), none⟩,
   ⟨some 3, .mov (.c (iv 0)), none⟩]) (.seq (.region false [⟨some 8, .mov (.t 0), none⟩,
   ⟨some 9, .call F.roots_Sqrt [.t 8], none⟩,
   ⟨some 7, .mov (.t 9), none⟩,
   ⟨some 10, .ext (.t 7) 0, none⟩,
   ⟨some 11, .ext (.t 7) 1, none⟩,
   ⟨some 12, .ext (.t 7) 2, none⟩,
   ⟨some 4, .mov (.t 10), none⟩,
   ⟨some 5, .mov (.t 11), none⟩,
   ⟨some 6, .mov (.t 12), none⟩]) (.seq (.seq (.region false [⟨some 13, .mov (.t 6), none⟩,
   ⟨some 14, .bin .neq false (.t 13) (.c (iv 0)), none⟩,
   ⟨some 15, .mov (.t 14), none⟩,
   ⟨some 16, .mov (.t 5), some (15, false)⟩,
   ⟨some 17, .call F.nat_Length [.t 16], some (15, false)⟩,
   ⟨some 18, .bin .eql false (.t 17) (.c (iv 0)), some (15, false)⟩,
   ⟨some 19, .pick (.t 15) (.c (bv true)) (.t 18), none⟩]) (.cond (.t 19) (.seq (.region false [⟨some 20, .mov (.t 4), none⟩,
   ⟨some 21, .mov (.t 6), none⟩,
   ⟨some 2, .mov (.t 20), none⟩,
   ⟨some 3, .mov (.t 21), none⟩]) .ret) .skip)) (.seq (.region false [⟨some 22, .mov (.t 4), none⟩,
   ⟨some 23, .call F.nat_From [.c (nv 1)], none⟩,
   ⟨some 24, .call F.nat_Add [.t 22, .t 23], none⟩,
   ⟨some 25, .ext (.t 24) 0, none⟩,
   ⟨some 26, .ext (.t 24) 1, none⟩,
   ⟨some 2, .mov (.t 25), none⟩,
   ⟨some 3, .mov (.t 26), none⟩]) .ret)))
def R.roots_Ceil : List VRes := [.tmp 2, .tmp 3]
theorem K.roots_Ceil : resCode Try.prog Try.f24.ntmps (Try.f24.body.getD .skip) = C.roots_Ceil := by kernel_rfl
theorem Q.roots_Ceil : resResults Try.prog Try.f24.results.toList = some R.roots_Ceil := by kernel_rfl
theorem E.roots_Ceil : Try.prog.funcs[F.roots_Ceil]? = some Try.f24 := Try.func24
theorem B.roots_Ceil : Try.f24.body = some (Try.f24.body.getD .skip) := by kernel_rfl
theorem N.roots_Ceil : Try.f24.ntmps = 27 := Try.ntmps24

def C.roots_Perfect : VC :=
  .seq (.region false [⟨some 2, .mov (.c nil1), none⟩,
   ⟨some 3, .mov (.c (iv 0)), none⟩,
   ⟨some 4, .mov (.c (iv 0)), none⟩]) (.seq (.region false [⟨some 13, .mov (.t 0), none⟩,
   ⟨some 14, .call F.roots_fits [.t 13], none⟩,
   ⟨some 12, .mov (.t 14), none⟩,
   ⟨some 15, .ext (.t 12) 0, none⟩,
   ⟨some 16, .ext (.t 12) 1, none⟩,
   ⟨some 0, .mov (.t 15), none⟩,
   ⟨some 5, .mov (.t 16), none⟩]) (.seq (.seq (.region false [⟨some 17, .mov (.t 5), none⟩,
   ⟨some 18, .bin .neq false (.t 17) (.c (iv 0)), none⟩]) (.cond (.t 18) (.seq (.region false [⟨some 19, .mov (.t 5), none⟩,
   ⟨some 2, .mov (.c nil1), none⟩,
   ⟨some 3, .mov (.c (iv 0)), none⟩,
   ⟨some 4, .mov (.t 19), none⟩]) .ret) .skip)) (.seq (.region false [⟨some 20, .mov (.t 0), none⟩,
   ⟨some 21, .call F.nat_Length [.t 20], none⟩,
   ⟨some 6, .mov (.t 21), none⟩]) (.seq (.seq (.region false [⟨some 22, .mov (.t 6), none⟩,
   ⟨some 23, .bin .leq false (.t 22) (.c (iv 1)), none⟩]) (.cond (.t 23) (.seq (.region false [⟨some 24, .mov (.t 0), none⟩,
   ⟨some 2, .mov (.t 24), none⟩,
   ⟨some 3, .mov (.c (iv 1)), none⟩,
   ⟨some 4, .mov (.c (iv 0)), none⟩]) .ret) .skip)) (.seq (.seq (.region false [⟨some 25, .mov (.t 6), none⟩,
   ⟨some 26, .mov (.c (iv 0)), none⟩]) (.block 0 (.loop (.seq (.region false [⟨some 27, .bin .lss false (.t 26) (.t 25), none⟩]) (.seq (.cond (.t 27) .skip (.exit 0)) (.seq (.block 1 (.seq (.region false [⟨some 28, .mov (.t 26), none⟩,
   ⟨some 7, .mov (.t 28), none⟩]) (.seq (.region false [⟨some 29, .mov (.t 6), none⟩,
   ⟨some 30, .mov (.t 7), none⟩,
   ⟨some 31, .bin .sub false (.t 29) (.t 30), none⟩,
   ⟨some 8, .mov (.t 31), none⟩]) (.seq (.region false [⟨some 33, .mov (.t 0), none⟩,
   ⟨some 34, .mov (.t 8), none⟩,
   ⟨some 35, .call F.roots_Root [.t 33, .t 34], none⟩,
   ⟨some 32, .mov (.t 35), none⟩,
   ⟨some 36, .ext (.t 32) 0, none⟩,
   ⟨some 37, .ext (.t 32) 1, none⟩,
   ⟨some 38, .ext (.t 32) 2, none⟩,
   ⟨some 9, .mov (.t 36), none⟩,
   ⟨some 10, .mov (.t 37), none⟩,
   ⟨some 11, .mov (.t 38), none⟩]) (.seq (.region false [⟨some 39, .mov (.t 10), none⟩,
   ⟨some 40, .call F.nat_Length [.t 39], none⟩,
   ⟨some 41, .bin .eql false (.t 40) (.c (iv 0)), none⟩,
   ⟨some 42, .mov (.t 41), none⟩,
   ⟨some 43, .mov (.t 9), some (42, true)⟩,
   ⟨some 44, .call F.nat_Length [.t 43], some (42, true)⟩,
   ⟨some 45, .bin .gtr false (.t 44) (.c (iv 1)), some (42, true)⟩,
   ⟨some 46, .pick (.t 42) (.t 45) (.c (bv false)), none⟩]) (.cond (.t 46) (.seq (.region false [⟨some 47, .mov (.t 9), none⟩,
   ⟨some 48, .mov (.t 8), none⟩,
   ⟨some 2, .mov (.t 47), none⟩,
   ⟨some 3, .mov (.t 48), none⟩,
   ⟨some 4, .mov (.c (iv 0)), none⟩]) .ret) .skip)))))) (.region false [⟨some 49, .bin .add false (.t 26) (.c (iv 1)), none⟩,
   ⟨some 26, .mov (.t 49), none⟩]))))))) (.seq (.region false [⟨some 50, .mov (.t 0), none⟩,
   ⟨some 2, .mov (.t 50), none⟩,
   ⟨some 3, .mov (.c (iv 1)), none⟩,
   ⟨some 4, .mov (.c (iv 0)), none⟩]) .ret))))))
def R.roots_Perfect : List VRes := [.tmp 2, .tmp 3, .tmp 4]
theorem K.roots_Perfect : resCode Try.prog Try.f25.ntmps (Try.f25.body.getD .skip) = C.roots_Perfect := by kernel_rfl
theorem Q.roots_Perfect : resResults Try.prog Try.f25.results.toList = some R.roots_Perfect := by kernel_rfl
theorem E.roots_Perfect : Try.prog.funcs[F.roots_Perfect]? = some Try.f25 := Try.func25
theorem B.roots_Perfect : Try.f25.body = some (Try.f25.body.getD .skip) := by kernel_rfl
theorem N.roots_Perfect : Try.f25.ntmps = 51 := Try.ntmps25

def C.surdref01_Num_Is : VC :=
  .seq (.region false [⟨some 4, .mov (.c (bv false)), none⟩]) (.seq (.region false [⟨some 7, .mov (.t 0), none⟩,
   ⟨some 8, .call F.surdref01_Num_Limbs [.t 7], none⟩,
   ⟨some 5, .mov (.t 8), none⟩]) (.seq (.seq (.region false [⟨some 9, .mov (.t 5), none⟩,
   ⟨some 10, .len (.t 9), none⟩,
   ⟨some 11, .mov (.t 1), none⟩,
   ⟨some 12, .len (.t 11), none⟩,
   ⟨some 13, .bin .neq false (.t 10) (.t 12), none⟩]) (.cond (.t 13) (.seq (.region false [⟨some 4, .mov (.c (bv false)), none⟩]) .ret) .skip)) (.seq (.seq (.region false [⟨some 14, .mov (.t 5), none⟩,
   ⟨some 15, .len (.t 14), none⟩,
   ⟨some 16, .mov (.c (iv 0)), none⟩]) (.block 0 (.loop (.seq (.region false [⟨some 17, .bin .lss false (.t 16) (.t 15), none⟩]) (.seq (.cond (.t 17) .skip (.exit 0)) (.seq (.block 1 (.seq (.region false [⟨some 18, .mov (.t 16), none⟩,
   ⟨some 6, .mov (.t 18), none⟩]) (.seq (.region true [⟨some 19, .mov (.t 5), none⟩,
   ⟨some 20, .mov (.t 6), none⟩,
   ⟨some 21, .ixa 1 (.t 19) (.t 20), none⟩,
   ⟨some 22, .load none (.t 21), none⟩,
   ⟨some 23, .mov (.t 1), none⟩,
   ⟨some 24, .mov (.t 6), none⟩,
   ⟨some 25, .ixa 1 (.t 23) (.t 24), none⟩,
   ⟨some 26, .load none (.t 25), none⟩,
   ⟨some 27, .bin .neq false (.t 22) (.t 26), none⟩]) (.cond (.t 27) (.seq (.region false [⟨some 4, .mov (.c (bv false)), none⟩]) .ret) .skip)))) (.region false [⟨some 28, .bin .add false (.t 16) (.c (iv 1)), none⟩,
   ⟨some 16, .mov (.t 28), none⟩]))))))) (.seq (.region false [⟨some 4, .mov (.c (bv true)), none⟩]) .ret))))
def R.surdref01_Num_Is : List VRes := [.tmp 4]
theorem K.surdref01_Num_Is : resCode Try.prog Try.f26.ntmps (Try.f26.body.getD .skip) = C.surdref01_Num_Is := by kernel_rfl
theorem Q.surdref01_Num_Is : resResults Try.prog Try.f26.results.toList = some R.surdref01_Num_Is := by kernel_rfl
theorem E.surdref01_Num_Is : Try.prog.funcs[F.surdref01_Num_Is]? = some Try.f26 := Try.func26
theorem B.surdref01_Num_Is : Try.f26.body = some (Try.f26.body.getD .skip) := by kernel_rfl
theorem N.surdref01_Num_Is : Try.f26.ntmps = 29 := Try.ntmps26

def C.surdref01_Own : VC :=
  .seq (.region false [⟨some 2, .mov (.c (bv false)), none⟩]) (.seq (.seq (.region false [⟨some 13, .mov (.t 0), none⟩,
   ⟨some 14, .len (.t 13), none⟩,
   ⟨some 15, .mov (.c (iv 0)), none⟩]) (.block 0 (.loop (.seq (.region false [⟨some 16, .bin .lss false (.t 15) (.t 14), none⟩]) (.seq (.cond (.t 16) .skip (.exit 0)) (.seq (.block 1 (.seq (.region false [⟨some 17, .mov (.t 15), none⟩,
   ⟨some 18, .ixa 1 (.t 13) (.t 15), none⟩,
   ⟨some 19, .load none (.t 18), none⟩,
   ⟨some 3, .mov (.t 17), none⟩,
   ⟨some 4, .mov (.t 19), none⟩]) (.seq (.region false [⟨some 20, .mov (.t 4), none⟩,
   ⟨some 21, .len (.t 20), none⟩,
   ⟨some 22, .mov (.c (iv 0)), none⟩]) (.block 2 (.loop (.seq (.region false [⟨some 23, .bin .lss false (.t 22) (.t 21), none⟩]) (.seq (.cond (.t 23) .skip (.exit 2)) (.seq (.block 3 (.seq (.region false [⟨some 24, .mov (.t 22), none⟩,
   ⟨some 5, .mov (.t 24), none⟩]) (.region false [⟨some 25, .mov (.t 4), none⟩,
   ⟨some 26, .mov (.t 5), none⟩,
   ⟨some 27, .mov (.t 3), none⟩,
   ⟨some 28, .bin .rem false (.t 27) (.c (iv 251)), none⟩,
   ⟨some 29, .bin .add false (.t 28) (.c (iv 1)), none⟩,
   ⟨some 30, .conv .u64 (.t 29), none⟩,
   ⟨some 31, .ixa 1 (.t 25) (.t 26), none⟩,
   ⟨none, .store 1 (.t 31) (.t 30), none⟩]))) (.region false [⟨some 32, .bin .add false (.t 22) (.c (iv 1)), none⟩,
   ⟨some 22, .mov (.t 32), none⟩]))))))))) (.region false [⟨some 33, .bin .add false (.t 15) (.c (iv 1)), none⟩,
   ⟨some 15, .mov (.t 33), none⟩]))))))) (.seq (.seq (.region false [⟨some 34, .mov (.t 0), none⟩,
   ⟨some 35, .len (.t 34), none⟩,
   ⟨some 36, .mov (.c (iv 0)), none⟩]) (.block 4 (.loop (.seq (.region false [⟨some 37, .bin .lss false (.t 36) (.t 35), none⟩]) (.seq (.cond (.t 37) .skip (.exit 4)) (.seq (.block 5 (.seq (.region false [⟨some 38, .mov (.t 36), none⟩,
   ⟨some 39, .ixa 1 (.t 34) (.t 36), none⟩,
   ⟨some 40, .load none (.t 39), none⟩,
   ⟨some 6, .mov (.t 38), none⟩,
   ⟨some 7, .mov (.t 40), none⟩]) (.seq (.region false [⟨some 41, .mov (.t 6), none⟩,
   ⟨some 42, .bin .mul false (.c (iv 5)) (.t 41), none⟩,
   ⟨some 43, .bin .add false (.c (iv 300)) (.t 42), none⟩,
   ⟨some 44, .conv .u64 (.t 43), none⟩,
   ⟨some 8, .mov (.t 44), none⟩]) (.seq (.region false [⟨some 45, .mov (.t 7), none⟩,
   ⟨some 46, .mov (.t 8), none⟩,
   ⟨some 47, .mov (.t 8), none⟩,
   ⟨some 48, .bin .add false (.t 47) (.c (nv 1)), none⟩,
   ⟨some 49, .mov (.t 8), none⟩,
   ⟨some 50, .bin .add false (.t 49) (.c (nv 2)), none⟩,
   ⟨some 51, .mov (.t 8), none⟩,
   ⟨some 52, .bin .add false (.t 51) (.c (nv 3)), none⟩,
   ⟨some 53, .mov (.t 8), none⟩,
   ⟨some 54, .bin .add false (.t 53) (.c (nv 4)), none⟩,
   ⟨some 55, .bsl true 1 5 [.int .u64 0] [(0, (1, .t 46)), (1, (1, .t 48)), (2, (1, .t 50)), (3, (1, .t 52)), (4, (1, .t 54))], none⟩,
   ⟨some 56, .app 1 8 [.int .u64 0] (.t 45) (.t 55), none⟩,
   ⟨some 7, .mov (.t 56), none⟩]) (.region false [⟨some 57, .mov (.t 0), none⟩,
   ⟨some 58, .mov (.t 6), none⟩,
   ⟨some 59, .mov (.t 7), none⟩,
   ⟨some 60, .ixa 1 (.t 57) (.t 58), none⟩,
   ⟨none, .store 1 (.t 60) (.t 59), none⟩]))))) (.region false [⟨some 61, .bin .add false (.t 36) (.c (iv 1)), none⟩,
   ⟨some 36, .mov (.t 61), none⟩]))))))) (.seq (.seq (.region false [⟨some 62, .mov (.t 0), none⟩,
   ⟨some 63, .len (.t 62), none⟩,
   ⟨some 64, .mov (.c (iv 0)), none⟩]) (.block 6 (.loop (.seq (.region false [⟨some 65, .bin .lss false (.t 64) (.t 63), none⟩]) (.seq (.cond (.t 65) .skip (.exit 6)) (.seq (.block 7 (.seq (.region false [⟨some 66, .mov (.t 64), none⟩,
   ⟨some 67, .ixa 1 (.t 62) (.t 64), none⟩,
   ⟨some 68, .load none (.t 67), none⟩,
   ⟨some 9, .mov (.t 66), none⟩,
   ⟨some 10, .mov (.t 68), none⟩]) (.seq (.region false [⟨some 69, .mov (.t 10), none⟩,
   ⟨some 70, .len (.t 69), none⟩,
   ⟨some 71, .mov (.c (iv 0)), none⟩]) (.block 8 (.loop (.seq (.region false [⟨some 72, .bin .lss false (.t 71) (.t 70), none⟩]) (.seq (.cond (.t 72) .skip (.exit 8)) (.seq (.block 9 (.seq (.region false [⟨some 73, .mov (.t 71), none⟩,
   ⟨some 74, .ixa 1 (.t 69) (.t 71), none⟩,
   ⟨some 75, .load none (.t 74), none⟩,
   ⟨some 11, .mov (.t 73), none⟩,
   ⟨some 12, .mov (.t 75), none⟩]) (.seq (.region false [⟨some 76, .mov (.t 11), none⟩,
   ⟨some 77, .mov (.t 10), none⟩,
   ⟨some 78, .len (.t 77), none⟩,
   ⟨some 79, .bin .sub false (.t 78) (.c (iv 5)), none⟩,
   ⟨some 80, .bin .lss false (.t 76) (.t 79), none⟩,
   ⟨some 81, .mov (.t 80), none⟩,
   ⟨some 82, .mov (.t 12), some (81, true)⟩,
   ⟨some 83, .mov (.t 9), some (81, true)⟩,
   ⟨some 84, .bin .rem false (.t 83) (.c (iv 251)), some (81, true)⟩,
   ⟨some 85, .bin .add false (.t 84) (.c (iv 1)), some (81, true)⟩,
   ⟨some 86, .conv .u64 (.t 85), some (81, true)⟩,
   ⟨some 87, .bin .neq false (.t 82) (.t 86), some (81, true)⟩,
   ⟨some 88, .pick (.t 81) (.t 87) (.c (bv false)), none⟩,
   ⟨some 89, .mov (.t 88), none⟩,
   ⟨some 90, .mov (.t 11), some (89, false)⟩,
   ⟨some 91, .mov (.t 10), some (89, false)⟩,
   ⟨some 92, .len (.t 91), some (89, false)⟩,
   ⟨some 93, .bin .sub false (.t 92) (.c (iv 5)), some (89, false)⟩,
   ⟨some 94, .bin .geq false (.t 90) (.t 93), some (89, false)⟩,
   ⟨some 95, .mov (.t 94), some (89, false)⟩,
   ⟨some 96, .mov (.t 12), some (95, true)⟩,
   ⟨some 97, .mov (.t 9), some (95, true)⟩,
   ⟨some 98, .bin .mul false (.c (iv 5)) (.t 97), some (95, true)⟩,
   ⟨some 99, .bin .add false (.c (iv 300)) (.t 98), some (95, true)⟩,
   ⟨some 100, .mov (.t 11), some (95, true)⟩,
   ⟨some 101, .bin .add false (.t 99) (.t 100), some (95, true)⟩,
   ⟨some 102, .mov (.t 10), some (95, true)⟩,
   ⟨some 103, .len (.t 102), some (95, true)⟩,
   ⟨some 104, .bin .sub false (.t 101) (.t 103), some (95, true)⟩,
   ⟨some 105, .bin .add false (.t 104) (.c (iv 5)), some (95, true)⟩,
   ⟨some 106, .conv .u64 (.t 105), some (95, true)⟩,
   ⟨some 107, .bin .neq false (.t 96) (.t 106), some (95, true)⟩,
   ⟨some 108, .pick (.t 95) (.t 107) (.c (bv false)), some (89, false)⟩,
   ⟨some 109, .pick (.t 89) (.c (bv true)) (.t 108), none⟩]) (.cond (.t 109) (.seq (.region false [⟨some 2, .mov (.c (bv false)), none⟩]) .ret) .skip)))) (.region false [⟨some 110, .bin .add false (.t 71) (.c (iv 1)), none⟩,
   ⟨some 71, .mov (.t 110), none⟩]))))))))) (.region false [⟨some 111, .bin .add false (.t 64) (.c (iv 1)), none⟩,
   ⟨some 64, .mov (.t 111), none⟩]))))))) (.seq (.region false [⟨some 2, .mov (.c (bv true)), none⟩]) .ret))))
def R.surdref01_Own : List VRes := [.tmp 2]
theorem K.surdref01_Own : resCode Try.prog Try.f27.ntmps (Try.f27.body.getD .skip) = C.surdref01_Own := by kernel_rfl
theorem Q.surdref01_Own : resResults Try.prog Try.f27.results.toList = some R.surdref01_Own := by kernel_rfl
theorem E.surdref01_Own : Try.prog.funcs[F.surdref01_Own]? = some Try.f27 := Try.func27
theorem B.surdref01_Own : Try.f27.body = some (Try.f27.body.getD .skip) := by kernel_rfl
theorem N.surdref01_Own : Try.f27.ntmps = 112 := Try.ntmps27

def C.surdref01_Copy : VC :=
  .seq (.region false [⟨some 2, .mov (.c nil1), none⟩]) (.seq (.region false [⟨some 6, .mov (.t 0), none⟩,
   ⟨some 7, .len (.t 6), none⟩,
   ⟨some 8, .mk [.int .u64 0] 8 (.t 7) (.t 7), none⟩,
   ⟨some 3, .mov (.t 8), none⟩]) (.seq (.seq (.region false [⟨some 9, .mov (.t 0), none⟩,
   ⟨some 10, .len (.t 9), none⟩,
   ⟨some 11, .mov (.c (iv 0)), none⟩]) (.block 0 (.loop (.seq (.region false [⟨some 12, .bin .lss false (.t 11) (.t 10), none⟩]) (.seq (.cond (.t 12) .skip (.exit 0)) (.seq (.block 1 (.seq (.region false [⟨some 13, .mov (.t 11), none⟩,
   ⟨some 14, .ixa 1 (.t 9) (.t 11), none⟩,
   ⟨some 15, .load none (.t 14), none⟩,
   ⟨some 4, .mov (.t 13), none⟩,
   ⟨some 5, .mov (.t 15), none⟩]) (.region false [⟨some 16, .mov (.t 3), none⟩,
   ⟨some 17, .mov (.t 4), none⟩,
   ⟨some 18, .mov (.t 5), none⟩,
   ⟨some 19, .ixa 1 (.t 16) (.t 17), none⟩,
   ⟨none, .store 1 (.t 19) (.t 18), none⟩]))) (.region false [⟨some 20, .bin .add false (.t 11) (.c (iv 1)), none⟩,
   ⟨some 11, .mov (.t 20), none⟩]))))))) (.seq (.region false [⟨some 21, .mov (.t 3), none⟩,
   ⟨some 2, .mov (.t 21), none⟩]) .ret)))
def R.surdref01_Copy : List VRes := [.tmp 2]
theorem K.surdref01_Copy : resCode Try.prog Try.f28.ntmps (Try.f28.body.getD .skip) = C.surdref01_Copy := by kernel_rfl
theorem Q.surdref01_Copy : resResults Try.prog Try.f28.results.toList = some R.surdref01_Copy := by kernel_rfl
theorem E.surdref01_Copy : Try.prog.funcs[F.surdref01_Copy]? = some Try.f28 := Try.func28
theorem B.surdref01_Copy : Try.f28.body = some (Try.f28.body.getD .skip) := by kernel_rfl
theorem N.surdref01_Copy : Try.f28.ntmps = 22 := Try.ntmps28

def C.surdref04_Log : VC :=
  .seq (.region false [⟨some 4, .mov (.c (iv 0)), none⟩,
   ⟨some 5, .mov (.c (iv 0)), none⟩]) (.seq (.seq (.region false [⟨some 8, .mov (.t 0), none⟩,
   ⟨some 9, .call F.surdref01_Num_Zero [.t 8], none⟩,
   ⟨some 10, .mov (.t 9), none⟩,
   ⟨some 11, .mov (.t 1), some (10, false)⟩,
   ⟨some 12, .bin .lss false (.t 11) (.c (iv 2)), some (10, false)⟩,
   ⟨some 13, .pick (.t 10) (.c (bv true)) (.t 12), none⟩]) (.cond (.t 13) (.seq (.region false [⟨some 4, .mov (.c (iv 0)), none⟩,
   ⟨some 5, .mov (.c (iv 1)), none⟩]) .ret) .skip)) (.seq (.region false [⟨some 6, .mov (.c (iv 0)), none⟩]) (.seq (.region false [⟨some 14, .mov (.t 1), none⟩,
   ⟨some 15, .call F.surdref01_Int [.t 14], none⟩,
   ⟨some 7, .mov (.t 15), none⟩]) (.seq (.block 0 (.loop (.seq (.seq (.region false [⟨some 16, .mov (.t 7), none⟩,
   ⟨some 17, .mov (.t 0), none⟩,
   ⟨some 18, .call F.surdref01_Cmp [.t 16, .t 17], none⟩,
   ⟨some 19, .bin .leq false (.t 18) (.c (iv 0)), none⟩]) (.cond (.t 19) .skip (.exit 0))) (.block 1 (.seq (.region false [⟨some 20, .mov (.t 6), none⟩,
   ⟨some 21, .bin .add false (.t 20) (.c (iv 1)), none⟩,
   ⟨some 6, .mov (.t 21), none⟩]) (.region false [⟨some 22, .mov (.t 7), none⟩,
   ⟨some 23, .mov (.t 1), none⟩,
   ⟨some 24, .call F.surdref01_Int [.t 23], none⟩,
   ⟨some 25, .call F.surdref01_Mul [.t 22, .t 24], none⟩,
   ⟨some 7, .mov (.t 25), none⟩])))))) (.seq (.region false [⟨some 26, .mov (.t 6), none⟩,
   ⟨some 4, .mov (.t 26), none⟩,
   ⟨some 5, .mov (.c (iv 0)), none⟩]) .ret)))))
def R.surdref04_Log : List VRes := [.tmp 4, .tmp 5]
theorem K.surdref04_Log : resCode Try.prog Try.f29.ntmps (Try.f29.body.getD .skip) = C.surdref04_Log := by kernel_rfl
theorem Q.surdref04_Log : resResults Try.prog Try.f29.results.toList = some R.surdref04_Log := by kernel_rfl
theorem E.surdref04_Log : Try.prog.funcs[F.surdref04_Log]? = some Try.f29 := Try.func29
theorem B.surdref04_Log : Try.f29.body = some (Try.f29.body.getD .skip) := by kernel_rfl
theorem N.surdref04_Log : Try.f29.ntmps = 27 := Try.ntmps29

def C.roots_Log : VC :=
  .seq (.region false [⟨some 4, .mov (.c (iv 0)), none⟩,
   ⟨some 5, .mov (.c (iv 0)), none⟩]) (.seq (.seq (.region false [⟨some 16, .mov (.t 0), none⟩,
   ⟨some 17, .call F.nat_Length [.t 16], none⟩,
   ⟨some 18, .bin .eql false (.t 17) (.c (iv 0)), none⟩,
   ⟨some 19, .mov (.t 18), none⟩,
   ⟨some 20, .mov (.t 1), some (19, false)⟩,
   ⟨some 21, .bin .lss false (.t 20) (.c (iv 2)), some (19, false)⟩,
   ⟨some 22, .pick (.t 19) (.c (bv true)) (.t 21), none⟩]) (.cond (.t 22) (.seq (.region false [⟨some 4, .mov (.c (iv 0)), none⟩,
   ⟨some 5, .mov (.c (iv 1)), none⟩]) .ret) .skip)) (.seq (.region false [⟨some 23, .mov (.t 1), none⟩,
   ⟨some 24, .conv .u64 (.t 23), none⟩,
   ⟨some 25, .call F.nat_From [.t 24], none⟩,
   ⟨some 6, .mov (.t 25), none⟩]) (.seq (.region false [⟨some 26, .mov (.t 6), none⟩,
   ⟨some 27, .bsl true 1 1 [.slice none 0 0] [(0, (1, .t 26))], none⟩,
   ⟨some 7, .mov (.t 27), none⟩]) (.seq (.block 0 (.loop (.block 1 (.seq (.region false [⟨some 28, .mov (.t 7), none⟩,
   ⟨some 29, .mov (.t 7), none⟩,
   ⟨some 30, .len (.t 29), none⟩,
   ⟨some 31, .bin .sub false (.t 30) (.c (iv 1)), none⟩,
   ⟨some 32, .ixa 1 (.t 28) (.t 31), none⟩,
   ⟨some 33, .load none (.t 32), none⟩,
   ⟨some 8, .mov (.t 33), none⟩]) (.seq (.seq (.region false [⟨some 34, .mov (.t 8), none⟩,
   ⟨some 35, .call F.nat_Length [.t 34], none⟩,
   ⟨some 36, .bin .mul false (.c (iv 2)) (.t 35), none⟩,
   ⟨some 37, .bin .sub false (.t 36) (.c (iv 1)), none⟩,
   ⟨some 38, .mov (.t 0), none⟩,
   ⟨some 39, .call F.nat_Length [.t 38], none⟩,
   ⟨some 40, .bin .gtr false (.t 37) (.t 39), none⟩]) (.cond (.t 40) (.exit 0) .skip)) (.seq (.region false [⟨some 42, .mov (.t 8), none⟩,
   ⟨some 43, .call F.mul_Square [.t 42], none⟩,
   ⟨some 41, .mov (.t 43), none⟩,
   ⟨some 44, .ext (.t 41) 0, none⟩,
   ⟨some 45, .ext (.t 41) 1, none⟩,
   ⟨some 9, .mov (.t 44), none⟩,
   ⟨some 10, .mov (.t 45), none⟩]) (.seq (.seq (.region false [⟨some 46, .mov (.t 10), none⟩,
   ⟨some 47, .bin .neq false (.t 46) (.c (iv 0)), none⟩,
   ⟨some 48, .mov (.t 47), none⟩,
   ⟨some 49, .mov (.t 9), some (48, false)⟩,
   ⟨some 50, .mov (.t 0), some (48, false)⟩,
   ⟨some 51, .call F.nat_Compare [.t 49, .t 50], some (48, false)⟩,
   ⟨some 52, .bin .gtr false (.t 51) (.c (iv 0)), some (48, false)⟩,
   ⟨some 53, .pick (.t 48) (.c (bv true)) (.t 52), none⟩]) (.cond (.t 53) (.exit 0) .skip)) (.region false [⟨some 54, .mov (.t 7), none⟩,
   ⟨some 55, .mov (.t 9), none⟩,
   ⟨some 56, .bsl true 1 1 [.slice none 0 0] [(0, (1, .t 55))], none⟩,
   ⟨some 57, .app 1 24 [.slice none 0 0] (.t 54) (.t 56), none⟩,
   ⟨some 7, .mov (.t 57), none⟩])))))))) (.seq (.region false [⟨some 58, .call F.nat_From [.c (nv 1)], none⟩,
   ⟨some 11, .mov (.c (iv 0)), none⟩,
   ⟨some 12, .mov (.t 58), none⟩]) (.seq (.seq (.region false [⟨some 59, .mov (.t 7), none⟩,
   ⟨some 60, .len (.t 59), none⟩,
   ⟨some 61, .bin .sub false (.t 60) (.c (iv 1)), none⟩,
   ⟨some 13, .mov (.t 61), none⟩]) (.block 2 (.loop (.seq (.seq (.region false [⟨some 62, .mov (.t 13), none⟩,
   ⟨some 63, .bin .geq false (.t 62) (.c (iv 0)), none⟩]) (.cond (.t 63) .skip (.exit 2))) (.seq (.block 3 (.seq (.region false [⟨some 67, .mov (.t 12), none⟩,
   ⟨some 68, .mov (.t 7), none⟩,
   ⟨some 69, .mov (.t 13), none⟩,
   ⟨some 70, .ixa 1 (.t 68) (.t 69), none⟩,
   ⟨some 71, .load none (.t 70), none⟩,
   ⟨some 72, .call F.mul_Mul [.t 67, .t 71], none⟩,
   ⟨some 66, .mov (.t 72), none⟩,
   ⟨some 73, .ext (.t 66) 0, none⟩,
   ⟨some 74, .ext (.t 66) 1, none⟩,
   ⟨some 14, .mov (.t 73), none⟩,
   ⟨some 15, .mov (.t 74), none⟩]) (.seq (.region false [⟨some 75, .mov (.t 15), none⟩,
   ⟨some 76, .bin .eql false (.t 75) (.c (iv 0)), none⟩,
   ⟨some 77, .mov (.t 76), none⟩,
   ⟨some 78, .mov (.t 14), some (77, true)⟩,
   ⟨some 79, .mov (.t 0), some (77, true)⟩,
   ⟨some 80, .call F.nat_Compare [.t 78, .t 79], some (77, true)⟩,
   ⟨some 81, .bin .leq false (.t 80) (.c (iv 0)), some (77, true)⟩,
   ⟨some 82, .pick (.t 77) (.t 81) (.c (bv false)), none⟩]) (.cond (.t 82) (.seq (.region false [⟨some 83, .mov (.t 14), none⟩,
   ⟨some 12, .mov (.t 83), none⟩]) (.region false [⟨some 84, .mov (.t 11), none⟩,
   ⟨some 85, .mov (.t 13), none⟩,
   ⟨some 86, .bin .shl false (.c (iv 1)) (.t 85), none⟩,
   ⟨some 87, .bin .add false (.t 84) (.t 86), none⟩,
   ⟨some 11, .mov (.t 87), none⟩])) .skip)))) (.region false [⟨some 64, .mov (.t 13), none⟩,
   ⟨some 65, .bin .sub false (.t 64) (.c (iv 1)), none⟩,
   ⟨some 13, .mov (.t 65), none⟩])))))) (.seq (.region false [⟨some 88, .mov (.t 11), none⟩,
   ⟨some 4, .mov (.t 88), none⟩,
   ⟨some 5, .mov (.c (iv 0)), none⟩]) .ret)))))))
def R.roots_Log : List VRes := [.tmp 4, .tmp 5]
theorem K.roots_Log : resCode Try.prog Try.f30.ntmps (Try.f30.body.getD .skip) = C.roots_Log := by kernel_rfl
theorem Q.roots_Log : resResults Try.prog Try.f30.results.toList = some R.roots_Log := by kernel_rfl
theorem E.roots_Log : Try.prog.funcs[F.roots_Log]? = some Try.f30 := Try.func30
theorem B.roots_Log : Try.f30.body = some (Try.f30.body.getD .skip) := by kernel_rfl
theorem N.roots_Log : Try.f30.ntmps = 89 := Try.ntmps30

def C.surdref01_Cmp : VC :=
  .seq (.region false [⟨some 4, .mov (.c (iv 0)), none⟩]) (.seq (.seq (.region false [⟨some 6, .mov (.t 0), none⟩,
   ⟨some 7, .len (.t 6), none⟩,
   ⟨some 8, .mov (.t 1), none⟩,
   ⟨some 9, .len (.t 8), none⟩,
   ⟨some 10, .bin .neq false (.t 7) (.t 9), none⟩]) (.cond (.t 10) (.seq (.seq (.region false [⟨some 11, .mov (.t 0), none⟩,
   ⟨some 12, .len (.t 11), none⟩,
   ⟨some 13, .mov (.t 1), none⟩,
   ⟨some 14, .len (.t 13), none⟩,
   ⟨some 15, .bin .lss false (.t 12) (.t 14), none⟩]) (.cond (.t 15) (.seq (.region false [⟨some 4, .mov (.c (iv (-1))), none⟩]) .ret) .skip)) (.seq (.region false [⟨some 4, .mov (.c (iv 1)), none⟩]) .ret)) .skip)) (.seq (.seq (.region false [⟨some 16, .mov (.t 0), none⟩,
   ⟨some 17, .len (.t 16), none⟩,
   ⟨some 18, .bin .sub false (.t 17) (.c (iv 1)), none⟩,
   ⟨some 5, .mov (.t 18), none⟩]) (.block 0 (.loop (.seq (.seq (.region false [⟨some 19, .mov (.t 5), none⟩,
   ⟨some 20, .bin .geq false (.t 19) (.c (iv 0)), none⟩]) (.cond (.t 20) .skip (.exit 0))) (.seq (.block 1 (.seq (.seq (.region true [⟨some 23, .mov (.t 0), none⟩,
   ⟨some 24, .mov (.t 5), none⟩,
   ⟨some 25, .ixa 1 (.t 23) (.t 24), none⟩,
   ⟨some 26, .load none (.t 25), none⟩,
   ⟨some 27, .mov (.t 1), none⟩,
   ⟨some 28, .mov (.t 5), none⟩,
   ⟨some 29, .ixa 1 (.t 27) (.t 28), none⟩,
   ⟨some 30, .load none (.t 29), none⟩,
   ⟨some 31, .bin .lss false (.t 26) (.t 30), none⟩]) (.cond (.t 31) (.seq (.region false [⟨some 4, .mov (.c (iv (-1))), none⟩]) .ret) .skip)) (.seq (.region true [⟨some 32, .mov (.t 0), none⟩,
   ⟨some 33, .mov (.t 5), none⟩,
   ⟨some 34, .ixa 1 (.t 32) (.t 33), none⟩,
   ⟨some 35, .load none (.t 34), none⟩,
   ⟨some 36, .mov (.t 1), none⟩,
   ⟨some 37, .mov (.t 5), none⟩,
   ⟨some 38, .ixa 1 (.t 36) (.t 37), none⟩,
   ⟨some 39, .load none (.t 38), none⟩,
   ⟨some 40, .bin .gtr false (.t 35) (.t 39), none⟩]) (.cond (.t 40) (.seq (.region false [⟨some 4, .mov (.c (iv 1)), none⟩]) .ret) .skip)))) (.region false [⟨some 21, .mov (.t 5), none⟩,
   ⟨some 22, .bin .sub false (.t 21) (.c (iv 1)), none⟩,
   ⟨some 5, .mov (.t 22), none⟩])))))) (.seq (.region false [⟨some 4, .mov (.c (iv 0)), none⟩]) .ret)))
def R.surdref01_Cmp : List VRes := [.tmp 4]
theorem K.surdref01_Cmp : resCode Try.prog Try.f31.ntmps (Try.f31.body.getD .skip) = C.surdref01_Cmp := by kernel_rfl
theorem Q.surdref01_Cmp : resResults Try.prog Try.f31.results.toList = some R.surdref01_Cmp := by kernel_rfl
theorem E.surdref01_Cmp : Try.prog.funcs[F.surdref01_Cmp]? = some Try.f31 := Try.func31
theorem B.surdref01_Cmp : Try.f31.body = some (Try.f31.body.getD .skip) := by kernel_rfl
theorem N.surdref01_Cmp : Try.f31.ntmps = 41 := Try.ntmps31

def C.surdlaw04_of : VC :=
  .seq (.region false [⟨some 2, .mov (.c nil1), none⟩]) (.seq (.region false [⟨some 3, .mov (.t 0), none⟩,
   ⟨some 4, .call F.surdref01_Of [.t 3], none⟩,
   ⟨some 2, .mov (.t 4), none⟩]) .ret)
def R.surdlaw04_of : List VRes := [.tmp 2]
theorem K.surdlaw04_of : resCode Try.prog Try.f32.ntmps (Try.f32.body.getD .skip) = C.surdlaw04_of := by kernel_rfl
theorem Q.surdlaw04_of : resResults Try.prog Try.f32.results.toList = some R.surdlaw04_of := by kernel_rfl
theorem E.surdlaw04_of : Try.prog.funcs[F.surdlaw04_of]? = some Try.f32 := Try.func32
theorem B.surdlaw04_of : Try.f32.body = some (Try.f32.body.getD .skip) := by kernel_rfl
theorem N.surdlaw04_of : Try.f32.ntmps = 5 := Try.ntmps32

def C.roots_IsSquare : VC :=
  .seq (.region false [⟨some 2, .mov (.c (bv false)), none⟩,
   ⟨some 3, .mov (.c (iv 0)), none⟩]) (.seq (.region false [⟨some 8, .mov (.t 0), none⟩,
   ⟨some 9, .call F.roots_Sqrt [.t 8], none⟩,
   ⟨some 7, .mov (.t 9), none⟩,
   ⟨some 10, .ext (.t 7) 0, none⟩,
   ⟨some 11, .ext (.t 7) 1, none⟩,
   ⟨some 12, .ext (.t 7) 2, none⟩,
   ⟨some 4, .mov (.t 10), none⟩,
   ⟨some 5, .mov (.t 11), none⟩,
   ⟨some 6, .mov (.t 12), none⟩]) (.seq (.region false [⟨some 13, .mov (.t 6), none⟩,
   ⟨some 14, .bin .eql false (.t 13) (.c (iv 0)), none⟩,
   ⟨some 15, .mov (.t 14), none⟩,
   ⟨some 16, .mov (.t 5), some (15, true)⟩,
   ⟨some 17, .call F.nat_Length [.t 16], some (15, true)⟩,
   ⟨some 18, .bin .eql false (.t 17) (.c (iv 0)), some (15, true)⟩,
   ⟨some 19, .pick (.t 15) (.t 18) (.c (bv false)), none⟩,
   ⟨some 20, .mov (.t 6), none⟩,
   ⟨some 2, .mov (.t 19), none⟩,
   ⟨some 3, .mov (.t 20), none⟩]) .ret))
def R.roots_IsSquare : List VRes := [.tmp 2, .tmp 3]
theorem K.roots_IsSquare : resCode Try.prog Try.f33.ntmps (Try.f33.body.getD .skip) = C.roots_IsSquare := by kernel_rfl
theorem Q.roots_IsSquare : resResults Try.prog Try.f33.results.toList = some R.roots_IsSquare := by kernel_rfl
theorem E.roots_IsSquare : Try.prog.funcs[F.roots_IsSquare]? = some Try.f33 := Try.func33
theorem B.roots_IsSquare : Try.f33.body = some (Try.f33.body.getD .skip) := by kernel_rfl
theorem N.roots_IsSquare : Try.f33.ntmps = 21 := Try.ntmps33

def C.surdref01_Pow : VC :=
  .seq (.region false [⟨some 4, .mov (.c nil1), none⟩]) (.seq (.region false [⟨some 7, .call F.surdref01_Int [.c (iv 1)], none⟩,
   ⟨some 5, .mov (.t 7), none⟩]) (.seq (.seq (.region false [⟨some 6, .mov (.c (iv 62)), none⟩]) (.block 0 (.loop (.seq (.seq (.region false [⟨some 8, .mov (.t 6), none⟩,
   ⟨some 9, .bin .geq false (.t 8) (.c (iv 0)), none⟩]) (.cond (.t 9) .skip (.exit 0))) (.seq (.block 1 (.seq (.region false [⟨some 12, .mov (.t 5), none⟩,
   ⟨some 13, .mov (.t 5), none⟩,
   ⟨some 14, .call F.surdref01_Mul [.t 12, .t 13], none⟩,
   ⟨some 5, .mov (.t 14), none⟩]) (.seq (.region false [⟨some 15, .mov (.t 1), none⟩,
   ⟨some 16, .mov (.t 6), none⟩,
   ⟨some 17, .bin .shr false (.t 15) (.t 16), none⟩,
   ⟨some 18, .bin .and false (.t 17) (.c (iv 1)), none⟩,
   ⟨some 19, .bin .eql false (.t 18) (.c (iv 1)), none⟩]) (.cond (.t 19) (.region false [⟨some 20, .mov (.t 5), none⟩,
   ⟨some 21, .mov (.t 0), none⟩,
   ⟨some 22, .call F.surdref01_Mul [.t 20, .t 21], none⟩,
   ⟨some 5, .mov (.t 22), none⟩]) .skip)))) (.region false [⟨some 10, .mov (.t 6), none⟩,
   ⟨some 11, .bin .sub false (.t 10) (.c (iv 1)), none⟩,
   ⟨some 6, .mov (.t 11), none⟩])))))) (.seq (.region false [⟨some 23, .mov (.t 5), none⟩,
   ⟨some 4, .mov (.t 23), none⟩]) .ret)))
def R.surdref01_Pow : List VRes := [.tmp 4]
theorem K.surdref01_Pow : resCode Try.prog Try.f34.ntmps (Try.f34.body.getD .skip) = C.surdref01_Pow := by kernel_rfl
theorem Q.surdref01_Pow : resResults Try.prog Try.f34.results.toList = some R.surdref01_Pow := by kernel_rfl
theorem E.surdref01_Pow : Try.prog.funcs[F.surdref01_Pow]? = some Try.f34 := Try.func34
theorem B.surdref01_Pow : Try.f34.body = some (Try.f34.body.getD .skip) := by kernel_rfl
theorem N.surdref01_Pow : Try.f34.ntmps = 24 := Try.ntmps34

def C.surdref04_Step : VC :=
  .seq (.region false [⟨some 4, .mov (.c nil1), none⟩,
   ⟨some 5, .mov (.c (iv 0)), none⟩]) (.seq (.seq (.region false [⟨some 11, .mov (.t 1), none⟩,
   ⟨some 12, .call F.surdref01_Num_Zero [.t 11], none⟩]) (.cond (.t 12) (.seq (.region false [⟨some 4, .mov (.c nil1), none⟩,
   ⟨some 5, .mov (.c (iv 30)), none⟩]) .ret) .skip)) (.seq (.region false [⟨some 14, .mov (.t 0), none⟩,
   ⟨some 15, .mov (.t 1), none⟩,
   ⟨some 16, .call F.surdref01_Div [.t 14, .t 15], none⟩,
   ⟨some 13, .mov (.t 16), none⟩,
   ⟨some 17, .ext (.t 13) 0, none⟩,
   ⟨some 18, .ext (.t 13) 1, none⟩,
   ⟨some 6, .mov (.t 17), none⟩,
   ⟨some 7, .mov (.t 18), none⟩]) (.seq (.region false [⟨some 20, .mov (.t 1), none⟩,
   ⟨some 21, .mov (.t 6), none⟩,
   ⟨some 22, .call F.surdref01_Add [.t 20, .t 21], none⟩,
   ⟨some 23, .call F.surdref01_Shr [.t 22, .c (iv 1)], none⟩,
   ⟨some 24, .call F.surdref04_told [.t 23, .c nil1], none⟩,
   ⟨some 19, .mov (.t 24), none⟩,
   ⟨some 25, .ext (.t 19) 0, none⟩,
   ⟨some 26, .ext (.t 19) 1, none⟩,
   ⟨some 27, .ext (.t 19) 2, none⟩,
   ⟨some 8, .mov (.t 25), none⟩,
   ⟨some 9, .mov (.t 26), none⟩,
   ⟨some 10, .mov (.t 27), none⟩]) (.seq (.region false [⟨some 28, .mov (.t 8), none⟩,
   ⟨some 29, .mov (.t 10), none⟩,
   ⟨some 4, .mov (.t 28), none⟩,
   ⟨some 5, .mov (.t 29), none⟩]) .ret))))
def R.surdref04_Step : List VRes := [.tmp 4, .tmp 5]
theorem K.surdref04_Step : resCode Try.prog Try.f35.ntmps (Try.f35.body.getD .skip) = C.surdref04_Step := by kernel_rfl
theorem Q.surdref04_Step : resResults Try.prog Try.f35.results.toList = some R.surdref04_Step := by kernel_rfl
theorem E.surdref04_Step : Try.prog.funcs[F.surdref04_Step]? = some Try.f35 := Try.func35
theorem B.surdref04_Step : Try.f35.body = some (Try.f35.body.getD .skip) := by kernel_rfl
theorem N.surdref04_Step : Try.f35.ntmps = 30 := Try.ntmps35

def C.roots_Step : VC :=
  .seq (.region false [⟨some 4, .mov (.c nil1), none⟩,
   ⟨some 5, .mov (.c (iv 0)), none⟩]) (.seq (.region false [⟨some 13, .mov (.t 0), none⟩,
   ⟨some 14, .mov (.t 1), none⟩,
   ⟨some 15, .call F.div_Quo [.t 13, .t 14], none⟩,
   ⟨some 12, .mov (.t 15), none⟩,
   ⟨some 16, .ext (.t 12) 0, none⟩,
   ⟨some 17, .ext (.t 12) 1, none⟩,
   ⟨some 6, .mov (.t 16), none⟩,
   ⟨some 7, .mov (.t 17), none⟩]) (.seq (.seq (.region false [⟨some 18, .mov (.t 7), none⟩,
   ⟨some 19, .bin .eql false (.t 18) (.c (iv 30)), none⟩]) (.cond (.t 19) (.seq (.region false [⟨some 20, .mov (.t 7), none⟩,
   ⟨some 4, .mov (.c nil1), none⟩,
   ⟨some 5, .mov (.t 20), none⟩]) .ret) .skip)) (.seq (.seq (.region false [⟨some 21, .mov (.t 7), none⟩,
   ⟨some 22, .bin .neq false (.t 21) (.c (iv 0)), none⟩]) (.cond (.t 22) (.seq (.region false [⟨some 23, .mov (.t 7), none⟩,
   ⟨some 4, .mov (.c nil1), none⟩,
   ⟨some 5, .mov (.t 23), none⟩]) .ret) .skip)) (.seq (.region false [⟨some 25, .mov (.t 1), none⟩,
   ⟨some 26, .call F.nat_Right [.t 25, .c (iv 1)], none⟩,
   ⟨some 24, .mov (.t 26), none⟩,
   ⟨some 27, .ext (.t 24) 0, none⟩,
   ⟨some 28, .ext (.t 24) 1, none⟩,
   ⟨some 8, .mov (.t 27), none⟩,
   ⟨some 7, .mov (.t 28), none⟩]) (.seq (.seq (.region false [⟨some 29, .mov (.t 7), none⟩,
   ⟨some 30, .bin .neq false (.t 29) (.c (iv 0)), none⟩]) (.cond (.t 30) (.seq (.region false [⟨some 31, .mov (.t 7), none⟩,
   ⟨some 4, .mov (.c nil1), none⟩,
   ⟨some 5, .mov (.t 31), none⟩]) .ret) .skip)) (.seq (.region false [⟨some 33, .mov (.t 6), none⟩,
   ⟨some 34, .call F.nat_Right [.t 33, .c (iv 1)], none⟩,
   ⟨some 32, .mov (.t 34), none⟩,
   ⟨some 35, .ext (.t 32) 0, none⟩,
   ⟨some 36, .ext (.t 32) 1, none⟩,
   ⟨some 9, .mov (.t 35), none⟩,
   ⟨some 10, .mov (.t 36), none⟩]) (.seq (.region false [⟨some 38, .mov (.t 8), none⟩,
   ⟨some 39, .mov (.t 9), none⟩,
   ⟨some 40, .call F.nat_Add [.t 38, .t 39], none⟩,
   ⟨some 37, .mov (.t 40), none⟩,
   ⟨some 41, .ext (.t 37) 0, none⟩,
   ⟨some 42, .ext (.t 37) 1, none⟩,
   ⟨some 11, .mov (.t 41), none⟩,
   ⟨some 7, .mov (.t 42), none⟩]) (.seq (.seq (.region false [⟨some 43, .mov (.t 7), none⟩,
   ⟨some 44, .bin .eql false (.t 43) (.c (iv 0)), none⟩,
   ⟨some 45, .mov (.t 44), none⟩,
   ⟨some 46, .mov (.t 1), some (45, true)⟩,
   ⟨some 47, .call F.nat_Bit [.t 46, .c (iv 0)], some (45, true)⟩,
   ⟨some 48, .mov (.t 6), some (45, true)⟩,
   ⟨some 49, .call F.nat_Bit [.t 48, .c (iv 0)], some (45, true)⟩,
   ⟨some 50, .bin .add false (.t 47) (.t 49), some (45, true)⟩,
   ⟨some 51, .bin .eql false (.t 50) (.c (iv 2)), some (45, true)⟩,
   ⟨some 52, .pick (.t 45) (.t 51) (.c (bv false)), none⟩]) (.cond (.t 52) (.region false [⟨some 54, .mov (.t 11), none⟩,
   ⟨some 55, .call F.nat_From [.c (nv 1)], none⟩,
   ⟨some 56, .call F.nat_Add [.t 54, .t 55], none⟩,
   ⟨some 53, .mov (.t 56), none⟩,
   ⟨some 57, .ext (.t 53) 0, none⟩,
   ⟨some 58, .ext (.t 53) 1, none⟩,
   ⟨some 11, .mov (.t 57), none⟩,
   ⟨some 7, .mov (.t 58), none⟩]) .skip)) (.seq (.region false [⟨some 59, .mov (.t 11), none⟩,
   ⟨some 60, .mov (.t 7), none⟩,
   ⟨some 4, .mov (.t 59), none⟩,
   ⟨some 5, .mov (.t 60), none⟩]) .ret)))))))))
def R.roots_Step : List VRes := [.tmp 4, .tmp 5]
theorem K.roots_Step : resCode Try.prog Try.f36.ntmps (Try.f36.body.getD .skip) = C.roots_Step := by kernel_rfl
theorem Q.roots_Step : resResults Try.prog Try.f36.results.toList = some R.roots_Step := by kernel_rfl
theorem E.roots_Step : Try.prog.funcs[F.roots_Step]? = some Try.f36 := Try.func36
theorem B.roots_Step : Try.f36.body = some (Try.f36.body.getD .skip) := by kernel_rfl
theorem N.roots_Step : Try.f36.ntmps = 61 := Try.ntmps36

def C.surdlaw04_alike : VC :=
  .seq (.region false [⟨some 8, .mov (.c (bv false)), none⟩]) (.seq (.seq (.region false [⟨some 9, .mov (.t 1), none⟩,
   ⟨some 10, .call F.surdlaw04_num [.t 9], none⟩,
   ⟨some 11, .mov (.t 3), none⟩,
   ⟨some 12, .bin .neq false (.t 10) (.t 11), none⟩]) (.cond (.t 12) (.seq (.region false [⟨some 8, .mov (.c (bv false)), none⟩]) .ret) .skip)) (.seq (.seq (.region false [⟨some 13, .mov (.t 3), none⟩,
   ⟨some 14, .bin .neq false (.t 13) (.c (iv 0)), none⟩]) (.cond (.t 14) (.seq (.region false [⟨some 15, .mov (.t 0), none⟩,
   ⟨some 16, .len (.t 15), none⟩,
   ⟨some 17, .bin .eql false (.t 16) (.c (iv 0)), none⟩,
   ⟨some 8, .mov (.t 17), none⟩]) .ret) .skip)) (.seq (.region false [⟨some 18, .mov (.t 2), none⟩,
   ⟨some 19, .mov (.t 0), none⟩,
   ⟨some 20, .call F.surdref01_Num_Is [.t 18, .t 19], none⟩,
   ⟨some 8, .mov (.t 20), none⟩]) .ret)))
def R.surdlaw04_alike : List VRes := [.tmp 8]
theorem K.surdlaw04_alike : resCode Try.prog Try.f37.ntmps (Try.f37.body.getD .skip) = C.surdlaw04_alike := by kernel_rfl
theorem Q.surdlaw04_alike : resResults Try.prog Try.f37.results.toList = some R.surdlaw04_alike := by kernel_rfl
theorem E.surdlaw04_alike : Try.prog.funcs[F.surdlaw04_alike]? = some Try.f37 := Try.func37
theorem B.surdlaw04_alike : Try.f37.body = some (Try.f37.body.getD .skip) := by kernel_rfl
theorem N.surdlaw04_alike : Try.f37.ntmps = 21 := Try.ntmps37

def C.surdref01_Num_Zero : VC :=
  .seq (.region false [⟨some 2, .mov (.c (bv false)), none⟩]) (.seq (.region false [⟨some 3, .mov (.t 0), none⟩,
   ⟨some 4, .len (.t 3), none⟩,
   ⟨some 5, .bin .eql false (.t 4) (.c (iv 0)), none⟩,
   ⟨some 2, .mov (.t 5), none⟩]) .ret)
def R.surdref01_Num_Zero : List VRes := [.tmp 2]
theorem K.surdref01_Num_Zero : resCode Try.prog Try.f38.ntmps (Try.f38.body.getD .skip) = C.surdref01_Num_Zero := by kernel_rfl
theorem Q.surdref01_Num_Zero : resResults Try.prog Try.f38.results.toList = some R.surdref01_Num_Zero := by kernel_rfl
theorem E.surdref01_Num_Zero : Try.prog.funcs[F.surdref01_Num_Zero]? = some Try.f38 := Try.func38
theorem B.surdref01_Num_Zero : Try.f38.body = some (Try.f38.body.getD .skip) := by kernel_rfl
theorem N.surdref01_Num_Zero : Try.f38.ntmps = 6 := Try.ntmps38

def C.surdref01_Add : VC :=
  .seq (.region false [⟨some 4, .mov (.c nil1), none⟩]) (.seq (.region false [⟨some 10, .mov (.t 0), none⟩,
   ⟨some 11, .len (.t 10), none⟩,
   ⟨some 5, .mov (.t 11), none⟩]) (.seq (.seq (.region false [⟨some 12, .mov (.t 1), none⟩,
   ⟨some 13, .len (.t 12), none⟩,
   ⟨some 14, .mov (.t 5), none⟩,
   ⟨some 15, .bin .gtr false (.t 13) (.t 14), none⟩]) (.cond (.t 15) (.region false [⟨some 16, .mov (.t 1), none⟩,
   ⟨some 17, .len (.t 16), none⟩,
   ⟨some 5, .mov (.t 17), none⟩]) .skip)) (.seq (.region false [⟨some 18, .mov (.t 5), none⟩,
   ⟨some 19, .bin .add false (.t 18) (.c (iv 1)), none⟩,
   ⟨some 20, .mk [.int .u64 0] 8 (.t 19) (.t 19), none⟩,
   ⟨some 6, .mov (.t 20), none⟩]) (.seq (.region false [⟨some 7, .mov (.c (nv 0)), none⟩]) (.seq (.seq (.region false [⟨some 8, .mov (.c (iv 0)), none⟩]) (.block 0 (.loop (.seq (.seq (.region false [⟨some 21, .mov (.t 8), none⟩,
   ⟨some 22, .mov (.t 5), none⟩,
   ⟨some 23, .bin .leq false (.t 21) (.t 22), none⟩]) (.cond (.t 23) .skip (.exit 0))) (.seq (.block 1 (.seq (.region false [⟨some 26, .mov (.t 0), none⟩,
   ⟨some 27, .mov (.t 8), none⟩,
   ⟨some 28, .call F.surdref01_Num_at [.t 26, .t 27], none⟩,
   ⟨some 29, .mov (.t 1), none⟩,
   ⟨some 30, .mov (.t 8), none⟩,
   ⟨some 31, .call F.surdref01_Num_at [.t 29, .t 30], none⟩,
   ⟨some 32, .bin .add false (.t 28) (.t 31), none⟩,
   ⟨some 33, .mov (.t 7), none⟩,
   ⟨some 34, .bin .add false (.t 32) (.t 33), none⟩,
   ⟨some 9, .mov (.t 34), none⟩]) (.seq (.region false [⟨some 35, .mov (.t 6), none⟩,
   ⟨some 36, .mov (.t 8), none⟩,
   ⟨some 37, .mov (.t 9), none⟩,
   ⟨some 38, .bin .rem false (.t 37) (.c (nv 4294967296)), none⟩,
   ⟨some 39, .ixa 1 (.t 35) (.t 36), none⟩,
   ⟨none, .store 1 (.t 39) (.t 38), none⟩]) (.region false [⟨some 40, .mov (.t 9), none⟩,
   ⟨some 41, .bin .quo false (.t 40) (.c (nv 4294967296)), none⟩,
   ⟨some 7, .mov (.t 41), none⟩])))) (.region false [⟨some 24, .mov (.t 8), none⟩,
   ⟨some 25, .bin .add false (.t 24) (.c (iv 1)), none⟩,
   ⟨some 8, .mov (.t 25), none⟩])))))) (.seq (.region false [⟨some 42, .mov (.t 6), none⟩,
   ⟨some 43, .call F.surdref01_norm [.t 42], none⟩,
   ⟨some 4, .mov (.t 43), none⟩]) .ret))))))
def R.surdref01_Add : List VRes := [.tmp 4]
theorem K.surdref01_Add : resCode Try.prog Try.f39.ntmps (Try.f39.body.getD .skip) = C.surdref01_Add := by kernel_rfl
theorem Q.surdref01_Add : resResults Try.prog Try.f39.results.toList = some R.surdref01_Add := by kernel_rfl
theorem E.surdref01_Add : Try.prog.funcs[F.surdref01_Add]? = some Try.f39 := Try.func39
theorem B.surdref01_Add : Try.f39.body = some (Try.f39.body.getD .skip) := by kernel_rfl
theorem N.surdref01_Add : Try.f39.ntmps = 44 := Try.ntmps39

def C.surdlaw04_one : VC :=
  .seq (.region false [⟨some 0, .mov (.c nil1), none⟩]) (.seq (.region false [⟨some 1, .call F.surdref01_Int [.c (iv 1)], none⟩,
   ⟨some 0, .mov (.t 1), none⟩]) .ret)
def R.surdlaw04_one : List VRes := [.tmp 0]
theorem K.surdlaw04_one : resCode Try.prog Try.f40.ntmps (Try.f40.body.getD .skip) = C.surdlaw04_one := by kernel_rfl
theorem Q.surdlaw04_one : resResults Try.prog Try.f40.results.toList = some R.surdlaw04_one := by kernel_rfl
theorem E.surdlaw04_one : Try.prog.funcs[F.surdlaw04_one]? = some Try.f40 := Try.func40
theorem B.surdlaw04_one : Try.f40.body = some (Try.f40.body.getD .skip) := by kernel_rfl
theorem N.surdlaw04_one : Try.f40.ntmps = 2 := Try.ntmps40

def C.roots_Chain : VC :=
  .seq (.region false [⟨some 2, .mov (.c (iv 0)), none⟩,
   ⟨some 3, .mov (.c nil1), none⟩,
   ⟨some 4, .mov (.c (iv 0)), none⟩]) (.seq (.seq (.region false [⟨some 10, .mov (.t 0), none⟩,
   ⟨some 11, .bin .lss false (.t 10) (.c (iv 0)), none⟩,
   ⟨some 12, .mov (.t 11), none⟩,
   ⟨some 13, .mov (.t 0), some (12, false)⟩,
   ⟨some 14, .bin .gtr false (.t 13) (.c (iv 65536)), some (12, false)⟩,
   ⟨some 15, .pick (.t 12) (.c (bv true)) (.t 14), none⟩]) (.cond (.t 15) (.seq (.region false [⟨some 2, .mov (.c (iv 0)), none⟩,
   ⟨some 3, .mov (.c nil1), none⟩,
   ⟨some 4, .mov (.c (iv 1)), none⟩]) .ret) .skip)) (.seq (.region false [⟨some 5, .mov (.c (iv 0)), none⟩]) (.seq (.block 0 (.loop (.seq (.seq (.region false [⟨some 16, .mov (.t 5), none⟩,
   ⟨some 17, .bin .add false (.t 16) (.c (iv 1)), none⟩,
   ⟨some 18, .mov (.t 5), none⟩,
   ⟨some 19, .bin .add false (.t 18) (.c (iv 1)), none⟩,
   ⟨some 20, .bin .mul false (.t 17) (.t 19), none⟩,
   ⟨some 21, .mov (.t 0), none⟩,
   ⟨some 22, .bin .leq false (.t 20) (.t 21), none⟩]) (.cond (.t 22) .skip (.exit 0))) (.block 1 (.region false [⟨some 23, .mov (.t 5), none⟩,
   ⟨some 24, .bin .add false (.t 23) (.c (iv 1)), none⟩,
   ⟨some 5, .mov (.t 24), none⟩]))))) (.seq (.seq (.region false [⟨some 25, .mov (.t 5), none⟩,
   ⟨some 26, .mov (.t 5), none⟩,
   ⟨some 27, .bin .mul false (.t 25) (.t 26), none⟩,
   ⟨some 28, .mov (.t 0), none⟩,
   ⟨some 29, .bin .eql false (.t 27) (.t 28), none⟩]) (.cond (.t 29) (.seq (.region false [⟨some 30, .mov (.t 5), none⟩,
   ⟨some 2, .mov (.t 30), none⟩,
   ⟨some 3, .mov (.c nil1), none⟩,
   ⟨some 4, .mov (.c (iv 0)), none⟩]) .ret) .skip)) (.seq (.region false [⟨some 6, .mov (.c nil1), none⟩]) (.seq (.region false [⟨some 31, .mov (.t 5), none⟩,
   ⟨some 7, .mov (.c (iv 0)), none⟩,
   ⟨some 8, .mov (.c (iv 1)), none⟩,
   ⟨some 9, .mov (.t 31), none⟩]) (.seq (.block 2 (.loop (.seq (.seq (.region false [⟨some 32, .mov (.t 9), none⟩,
   ⟨some 33, .mov (.t 5), none⟩,
   ⟨some 34, .bin .mul false (.c (iv 2)) (.t 33), none⟩,
   ⟨some 35, .bin .neq false (.t 32) (.t 34), none⟩,
   ⟨some 36, .mov (.t 35), none⟩,
   ⟨some 37, .mov (.t 6), some (36, false)⟩,
   ⟨some 38, .len (.t 37), some (36, false)⟩,
   ⟨some 39, .bin .eql false (.t 38) (.c (iv 0)), some (36, false)⟩,
   ⟨some 40, .pick (.t 36) (.c (bv true)) (.t 39), none⟩]) (.cond (.t 40) .skip (.exit 2))) (.block 3 (.seq (.region false [⟨some 41, .mov (.t 8), none⟩,
   ⟨some 42, .mov (.t 9), none⟩,
   ⟨some 43, .bin .mul false (.t 41) (.t 42), none⟩,
   ⟨some 44, .mov (.t 7), none⟩,
   ⟨some 45, .bin .sub false (.t 43) (.t 44), none⟩,
   ⟨some 7, .mov (.t 45), none⟩]) (.seq (.region false [⟨some 46, .mov (.t 0), none⟩,
   ⟨some 47, .mov (.t 7), none⟩,
   ⟨some 48, .mov (.t 7), none⟩,
   ⟨some 49, .bin .mul false (.t 47) (.t 48), none⟩,
   ⟨some 50, .bin .sub false (.t 46) (.t 49), none⟩,
   ⟨some 51, .mov (.t 8), none⟩,
   ⟨some 52, .bin .quo false (.t 50) (.t 51), none⟩,
   ⟨some 8, .mov (.t 52), none⟩]) (.seq (.region false [⟨some 53, .mov (.t 5), none⟩,
   ⟨some 54, .mov (.t 7), none⟩,
   ⟨some 55, .bin .add false (.t 53) (.t 54), none⟩,
   ⟨some 56, .mov (.t 8), none⟩,
   ⟨some 57, .bin .quo false (.t 55) (.t 56), none⟩,
   ⟨some 9, .mov (.t 57), none⟩]) (.region false [⟨some 58, .mov (.t 6), none⟩,
   ⟨some 59, .mov (.t 9), none⟩,
   ⟨some 60, .bsl true 1 1 [.int .i64 0] [(0, (1, .t 59))], none⟩,
   ⟨some 61, .app 1 8 [.int .i64 0] (.t 58) (.t 60), none⟩,
   ⟨some 6, .mov (.t 61), none⟩])))))))) (.seq (.region false [⟨some 62, .mov (.t 5), none⟩,
   ⟨some 63, .mov (.t 6), none⟩,
   ⟨some 2, .mov (.t 62), none⟩,
   ⟨some 3, .mov (.t 63), none⟩,
   ⟨some 4, .mov (.c (iv 0)), none⟩]) .ret))))))))
def R.roots_Chain : List VRes := [.tmp 2, .tmp 3, .tmp 4]
theorem K.roots_Chain : resCode Try.prog Try.f41.ntmps (Try.f41.body.getD .skip) = C.roots_Chain := by kernel_rfl
theorem Q.roots_Chain : resResults Try.prog Try.f41.results.toList = some R.roots_Chain := by kernel_rfl
theorem E.roots_Chain : Try.prog.funcs[F.roots_Chain]? = some Try.f41 := Try.func41
theorem B.roots_Chain : Try.f41.body = some (Try.f41.body.getD .skip) := by kernel_rfl
theorem N.roots_Chain : Try.f41.ntmps = 64 := Try.ntmps41

def C.surdref04_Chain : VC :=
  .seq (.region false [⟨some 2, .mov (.c (iv 0)), none⟩,
   ⟨some 3, .mov (.c nil1), none⟩,
   ⟨some 4, .mov (.c (iv 0)), none⟩]) (.seq (.seq (.region false [⟨some 10, .mov (.t 0), none⟩,
   ⟨some 11, .bin .lss false (.t 10) (.c (iv 0)), none⟩,
   ⟨some 12, .mov (.t 11), none⟩,
   ⟨some 13, .mov (.t 0), some (12, false)⟩,
   ⟨some 14, .bin .gtr false (.t 13) (.c (iv 65536)), some (12, false)⟩,
   ⟨some 15, .pick (.t 12) (.c (bv true)) (.t 14), none⟩]) (.cond (.t 15) (.seq (.region false [⟨some 2, .mov (.c (iv 0)), none⟩,
   ⟨some 3, .mov (.c nil1), none⟩,
   ⟨some 4, .mov (.c (iv 1)), none⟩]) .ret) .skip)) (.seq (.region false [⟨some 5, .mov (.c (iv 0)), none⟩]) (.seq (.block 0 (.loop (.seq (.seq (.region false [⟨some 16, .mov (.t 5), none⟩,
   ⟨some 17, .bin .add false (.t 16) (.c (iv 1)), none⟩,
   ⟨some 18, .mov (.t 5), none⟩,
   ⟨some 19, .bin .add false (.t 18) (.c (iv 1)), none⟩,
   ⟨some 20, .bin .mul false (.t 17) (.t 19), none⟩,
   ⟨some 21, .mov (.t 0), none⟩,
   ⟨some 22, .bin .leq false (.t 20) (.t 21), none⟩]) (.cond (.t 22) .skip (.exit 0))) (.block 1 (.region false [⟨some 23, .mov (.t 5), none⟩,
   ⟨some 24, .bin .add false (.t 23) (.c (iv 1)), none⟩,
   ⟨some 5, .mov (.t 24), none⟩]))))) (.seq (.seq (.region false [⟨some 25, .mov (.t 5), none⟩,
   ⟨some 26, .mov (.t 5), none⟩,
   ⟨some 27, .bin .mul false (.t 25) (.t 26), none⟩,
   ⟨some 28, .mov (.t 0), none⟩,
   ⟨some 29, .bin .eql false (.t 27) (.t 28), none⟩]) (.cond (.t 29) (.seq (.region false [⟨some 30, .mov (.t 5), none⟩,
   ⟨some 2, .mov (.t 30), none⟩,
   ⟨some 3, .mov (.c nil1), none⟩,
   ⟨some 4, .mov (.c (iv 0)), none⟩]) .ret) .skip)) (.seq (.region false [⟨some 6, .mov (.c nil1), none⟩]) (.seq (.region false [⟨some 31, .mov (.t 5), none⟩,
   ⟨some 7, .mov (.c (iv 0)), none⟩,
   ⟨some 8, .mov (.c (iv 1)), none⟩,
   ⟨some 9, .mov (.t 31), none⟩]) (.block 2 (.loop (.block 3 (.seq (.region false [⟨some 32, .mov (.t 9), none⟩,
   ⟨some 33, .mov (.t 8), none⟩,
   ⟨some 34, .bin .mul false (.t 32) (.t 33), none⟩,
   ⟨some 35, .mov (.t 7), none⟩,
   ⟨some 36, .bin .sub false (.t 34) (.t 35), none⟩,
   ⟨some 7, .mov (.t 36), none⟩]) (.seq (.region false [⟨some 37, .mov (.t 0), none⟩,
   ⟨some 38, .mov (.t 7), none⟩,
   ⟨some 39, .mov (.t 7), none⟩,
   ⟨some 40, .bin .mul false (.t 38) (.t 39), none⟩,
   ⟨some 41, .bin .sub false (.t 37) (.t 40), none⟩,
   ⟨some 42, .mov (.t 8), none⟩,
   ⟨some 43, .bin .quo false (.t 41) (.t 42), none⟩,
   ⟨some 8, .mov (.t 43), none⟩]) (.seq (.region false [⟨some 44, .mov (.t 5), none⟩,
   ⟨some 45, .mov (.t 7), none⟩,
   ⟨some 46, .bin .add false (.t 44) (.t 45), none⟩,
   ⟨some 47, .mov (.t 8), none⟩,
   ⟨some 48, .bin .quo false (.t 46) (.t 47), none⟩,
   ⟨some 9, .mov (.t 48), none⟩]) (.seq (.region false [⟨some 49, .mov (.t 6), none⟩,
   ⟨some 50, .mov (.t 9), none⟩,
   ⟨some 51, .bsl true 1 1 [.int .i64 0] [(0, (1, .t 50))], none⟩,
   ⟨some 52, .app 1 8 [.int .i64 0] (.t 49) (.t 51), none⟩,
   ⟨some 6, .mov (.t 52), none⟩]) (.seq (.region false [⟨some 53, .mov (.t 9), none⟩,
   ⟨some 54, .mov (.t 5), none⟩,
   ⟨some 55, .bin .mul false (.c (iv 2)) (.t 54), none⟩,
   ⟨some 56, .bin .eql false (.t 53) (.t 55), none⟩]) (.cond (.t 56) (.seq (.region false [⟨some 57, .mov (.t 5), none⟩,
   ⟨some 58, .mov (.t 6), none⟩,
   ⟨some 2, .mov (.t 57), none⟩,
   ⟨some 3, .mov (.t 58), none⟩,
   ⟨some 4, .mov (.c (iv 0)), none⟩]) .ret) .skip)))))))))))))))
def R.surdref04_Chain : List VRes := [.tmp 2, .tmp 3, .tmp 4]
theorem K.surdref04_Chain : resCode Try.prog Try.f42.ntmps (Try.f42.body.getD .skip) = C.surdref04_Chain := by kernel_rfl
theorem Q.surdref04_Chain : resResults Try.prog Try.f42.results.toList = some R.surdref04_Chain := by kernel_rfl
theorem E.surdref04_Chain : Try.prog.funcs[F.surdref04_Chain]? = some Try.f42 := Try.func42
theorem B.surdref04_Chain : Try.f42.body = some (Try.f42.body.getD .skip) := by kernel_rfl
theorem N.surdref04_Chain : Try.f42.ntmps = 59 := Try.ntmps42

def C.roots_Pell : VC :=
  .seq (.region false [⟨some 2, .mov (.c nil1), none⟩,
   ⟨some 3, .mov (.c nil1), none⟩,
   ⟨some 4, .mov (.c (iv 0)), none⟩]) (.seq (.region false [⟨some 16, .mov (.t 0), none⟩,
   ⟨some 17, .call F.roots_Chain [.t 16], none⟩,
   ⟨some 15, .mov (.t 17), none⟩,
   ⟨some 18, .ext (.t 15) 0, none⟩,
   ⟨some 19, .ext (.t 15) 1, none⟩,
   ⟨some 20, .ext (.t 15) 2, none⟩,
   ⟨some 5, .mov (.t 18), none⟩,
   ⟨some 6, .mov (.t 19), none⟩,
   ⟨some 7, .mov (.t 20), none⟩]) (.seq (.seq (.region false [⟨some 21, .mov (.t 7), none⟩,
   ⟨some 22, .bin .neq false (.t 21) (.c (iv 0)), none⟩,
   ⟨some 23, .mov (.t 22), none⟩,
   ⟨some 24, .mov (.t 0), some (23, false)⟩,
   ⟨some 25, .bin .lss false (.t 24) (.c (iv 1)), some (23, false)⟩,
   ⟨some 26, .pick (.t 23) (.c (bv true)) (.t 25), none⟩,
   ⟨some 27, .mov (.t 26), none⟩,
   ⟨some 28, .mov (.t 6), some (27, false)⟩,
   ⟨some 29, .len (.t 28), some (27, false)⟩,
   ⟨some 30, .bin .eql false (.t 29) (.c (iv 0)), some (27, false)⟩,
   ⟨some 31, .pick (.t 27) (.c (bv true)) (.t 30), none⟩]) (.cond (.t 31) (.seq (.region false [⟨some 2, .mov (.c nil1), none⟩,
   ⟨some 3, .mov (.c nil1), none⟩,
   ⟨some 4, .mov (.c (iv 1)), none⟩]) .ret) .skip)) (.seq (.region false [⟨some 32, .mov (.t 6), none⟩,
   ⟨some 33, .len (.t 32), none⟩,
   ⟨some 34, .bin .sub false (.t 33) (.c (iv 1)), none⟩,
   ⟨some 8, .mov (.t 34), none⟩]) (.seq (.seq (.region false [⟨some 35, .mov (.t 6), none⟩,
   ⟨some 36, .len (.t 35), none⟩,
   ⟨some 37, .bin .rem false (.t 36) (.c (iv 2)), none⟩,
   ⟨some 38, .bin .eql false (.t 37) (.c (iv 1)), none⟩]) (.cond (.t 38) (.region false [⟨some 39, .mov (.t 6), none⟩,
   ⟨some 40, .len (.t 39), none⟩,
   ⟨some 41, .bin .mul false (.c (iv 2)) (.t 40), none⟩,
   ⟨some 42, .bin .sub false (.t 41) (.c (iv 1)), none⟩,
   ⟨some 8, .mov (.t 42), none⟩]) .skip)) (.seq (.region false [⟨some 43, .mov (.t 5), none⟩,
   ⟨some 44, .conv .u64 (.t 43), none⟩,
   ⟨some 45, .call F.nat_From [.t 44], none⟩,
   ⟨some 46, .call F.nat_From [.c (nv 1)], none⟩,
   ⟨some 9, .mov (.t 45), none⟩,
   ⟨some 10, .mov (.t 46), none⟩]) (.seq (.region false [⟨some 47, .call F.nat_From [.c (nv 1)], none⟩,
   ⟨some 11, .mov (.t 47), none⟩,
   ⟨some 12, .mov (.c nil1), none⟩]) (.seq (.seq (.region false [⟨some 48, .mov (.t 8), none⟩,
   ⟨some 49, .mov (.c (iv 0)), none⟩]) (.block 0 (.loop (.seq (.region false [⟨some 50, .bin .lss false (.t 49) (.t 48), none⟩]) (.seq (.cond (.t 50) .skip (.exit 0)) (.seq (.block 1 (.seq (.region false [⟨some 51, .mov (.t 49), none⟩,
   ⟨some 13, .mov (.t 51), none⟩]) (.seq (.region false [⟨some 52, .mov (.t 6), none⟩,
   ⟨some 53, .mov (.t 13), none⟩,
   ⟨some 54, .mov (.t 6), none⟩,
   ⟨some 55, .len (.t 54), none⟩,
   ⟨some 56, .bin .rem false (.t 53) (.t 55), none⟩,
   ⟨some 57, .ixa 1 (.t 52) (.t 56), none⟩,
   ⟨some 58, .load none (.t 57), none⟩,
   ⟨some 59, .conv .u64 (.t 58), none⟩,
   ⟨some 14, .mov (.t 59), none⟩]) (.seq (.region false [⟨some 60, .mov (.t 14), none⟩,
   ⟨some 61, .mov (.t 9), none⟩,
   ⟨some 62, .mov (.t 11), none⟩,
   ⟨some 63, .call F.roots_next [.t 60, .t 61, .t 62], none⟩,
   ⟨some 64, .mov (.t 9), none⟩,
   ⟨some 9, .mov (.t 63), none⟩,
   ⟨some 11, .mov (.t 64), none⟩]) (.region false [⟨some 65, .mov (.t 14), none⟩,
   ⟨some 66, .mov (.t 10), none⟩,
   ⟨some 67, .mov (.t 12), none⟩,
   ⟨some 68, .call F.roots_next [.t 65, .t 66, .t 67], none⟩,
   ⟨some 69, .mov (.t 10), none⟩,
   ⟨some 10, .mov (.t 68), none⟩,
   ⟨some 12, .mov (.t 69), none⟩]))))) (.region false [⟨some 70, .bin .add false (.t 49) (.c (iv 1)), none⟩,
   ⟨some 49, .mov (.t 70), none⟩]))))))) (.seq (.region false [⟨some 71, .mov (.t 9), none⟩,
   ⟨some 72, .mov (.t 10), none⟩,
   ⟨some 2, .mov (.t 71), none⟩,
   ⟨some 3, .mov (.t 72), none⟩,
   ⟨some 4, .mov (.c (iv 0)), none⟩]) .ret))))))))
def R.roots_Pell : List VRes := [.tmp 2, .tmp 3, .tmp 4]
theorem K.roots_Pell : resCode Try.prog Try.f43.ntmps (Try.f43.body.getD .skip) = C.roots_Pell := by kernel_rfl
theorem Q.roots_Pell : resResults Try.prog Try.f43.results.toList = some R.roots_Pell := by kernel_rfl
theorem E.roots_Pell : Try.prog.funcs[F.roots_Pell]? = some Try.f43 := Try.func43
theorem B.roots_Pell : Try.f43.body = some (Try.f43.body.getD .skip) := by kernel_rfl
theorem N.roots_Pell : Try.f43.ntmps = 73 := Try.ntmps43

def C.surdref04_Pell : VC :=
  .seq (.region false [⟨some 2, .mov (.c nil1), none⟩,
   ⟨some 3, .mov (.c nil1), none⟩,
   ⟨some 4, .mov (.c (iv 0)), none⟩]) (.seq (.region false [⟨some 18, .mov (.t 0), none⟩,
   ⟨some 19, .call F.surdref04_Chain [.t 18], none⟩,
   ⟨some 17, .mov (.t 19), none⟩,
   ⟨some 20, .ext (.t 17) 0, none⟩,
   ⟨some 21, .ext (.t 17) 1, none⟩,
   ⟨some 22, .ext (.t 17) 2, none⟩,
   ⟨some 5, .mov (.t 20), none⟩,
   ⟨some 6, .mov (.t 21), none⟩,
   ⟨some 7, .mov (.t 22), none⟩]) (.seq (.seq (.region false [⟨some 23, .mov (.t 7), none⟩,
   ⟨some 24, .bin .neq false (.t 23) (.c (iv 0)), none⟩,
   ⟨some 25, .mov (.t 24), none⟩,
   ⟨some 26, .mov (.t 6), some (25, false)⟩,
   ⟨some 27, .len (.t 26), some (25, false)⟩,
   ⟨some 28, .bin .eql false (.t 27) (.c (iv 0)), some (25, false)⟩,
   ⟨some 29, .pick (.t 25) (.c (bv true)) (.t 28), none⟩]) (.cond (.t 29) (.seq (.region false [⟨some 2, .mov (.c nil1), none⟩,
   ⟨some 3, .mov (.c nil1), none⟩,
   ⟨some 4, .mov (.c (iv 1)), none⟩]) .ret) .skip)) (.seq (.region false [⟨some 30, .call F.surdref01_Int [.c (iv 1)], none⟩,
   ⟨some 8, .mov (.t 30), none⟩]) (.seq (.region false [⟨some 31, .mov (.t 8), none⟩,
   ⟨some 9, .mov (.t 31), none⟩,
   ⟨some 10, .mov (.c nil1), none⟩]) (.seq (.region false [⟨some 32, .mov (.t 5), none⟩,
   ⟨some 33, .call F.surdref01_Int [.t 32], none⟩,
   ⟨some 34, .mov (.t 8), none⟩,
   ⟨some 11, .mov (.t 33), none⟩,
   ⟨some 12, .mov (.t 34), none⟩]) (.seq (.region false [⟨some 13, .mov (.c (iv 0)), none⟩]) (.block 0 (.loop (.seq (.block 1 (.seq (.region false [⟨some 37, .mov (.t 11), none⟩,
   ⟨some 38, .mov (.t 11), none⟩,
   ⟨some 39, .call F.surdref01_Mul [.t 37, .t 38], none⟩,
   ⟨some 14, .mov (.t 39), none⟩]) (.seq (.region false [⟨some 40, .mov (.t 0), none⟩,
   ⟨some 41, .call F.surdref01_Int [.t 40], none⟩,
   ⟨some 42, .mov (.t 12), none⟩,
   ⟨some 43, .mov (.t 12), none⟩,
   ⟨some 44, .call F.surdref01_Mul [.t 42, .t 43], none⟩,
   ⟨some 45, .call F.surdref01_Mul [.t 41, .t 44], none⟩,
   ⟨some 46, .mov (.t 8), none⟩,
   ⟨some 47, .call F.surdref01_Add [.t 45, .t 46], none⟩,
   ⟨some 15, .mov (.t 47), none⟩]) (.seq (.seq (.region false [⟨some 48, .mov (.t 14), none⟩,
   ⟨some 49, .mov (.t 15), none⟩,
   ⟨some 50, .call F.surdref01_Cmp [.t 48, .t 49], none⟩,
   ⟨some 51, .bin .eql false (.t 50) (.c (iv 0)), none⟩]) (.cond (.t 51) (.seq (.region false [⟨some 52, .mov (.t 11), none⟩,
   ⟨some 53, .mov (.t 12), none⟩,
   ⟨some 2, .mov (.t 52), none⟩,
   ⟨some 3, .mov (.t 53), none⟩,
   ⟨some 4, .mov (.c (iv 0)), none⟩]) .ret) .skip)) (.seq (.region false [⟨some 54, .mov (.t 6), none⟩,
   ⟨some 55, .mov (.t 13), none⟩,
   ⟨some 56, .mov (.t 6), none⟩,
   ⟨some 57, .len (.t 56), none⟩,
   ⟨some 58, .bin .rem false (.t 55) (.t 57), none⟩,
   ⟨some 59, .ixa 1 (.t 54) (.t 58), none⟩,
   ⟨some 60, .load none (.t 59), none⟩,
   ⟨some 61, .call F.surdref01_Int [.t 60], none⟩,
   ⟨some 16, .mov (.t 61), none⟩]) (.seq (.region false [⟨some 62, .mov (.t 16), none⟩,
   ⟨some 63, .mov (.t 11), none⟩,
   ⟨some 64, .call F.surdref01_Mul [.t 62, .t 63], none⟩,
   ⟨some 65, .mov (.t 9), none⟩,
   ⟨some 66, .call F.surdref01_Add [.t 64, .t 65], none⟩,
   ⟨some 67, .mov (.t 11), none⟩,
   ⟨some 11, .mov (.t 66), none⟩,
   ⟨some 9, .mov (.t 67), none⟩]) (.region false [⟨some 68, .mov (.t 16), none⟩,
   ⟨some 69, .mov (.t 12), none⟩,
   ⟨some 70, .call F.surdref01_Mul [.t 68, .t 69], none⟩,
   ⟨some 71, .mov (.t 10), none⟩,
   ⟨some 72, .call F.surdref01_Add [.t 70, .t 71], none⟩,
   ⟨some 73, .mov (.t 12), none⟩,
   ⟨some 12, .mov (.t 72), none⟩,
   ⟨some 10, .mov (.t 73), none⟩]))))))) (.region false [⟨some 35, .mov (.t 13), none⟩,
   ⟨some 36, .bin .add false (.t 35) (.c (iv 1)), none⟩,
   ⟨some 13, .mov (.t 36), none⟩]))))))))))
def R.surdref04_Pell : List VRes := [.tmp 2, .tmp 3, .tmp 4]
theorem K.surdref04_Pell : resCode Try.prog Try.f44.ntmps (Try.f44.body.getD .skip) = C.surdref04_Pell := by kernel_rfl
theorem Q.surdref04_Pell : resResults Try.prog Try.f44.results.toList = some R.surdref04_Pell := by kernel_rfl
theorem E.surdref04_Pell : Try.prog.funcs[F.surdref04_Pell]? = some Try.f44 := Try.func44
theorem B.surdref04_Pell : Try.f44.body = some (Try.f44.body.getD .skip) := by kernel_rfl
theorem N.surdref04_Pell : Try.f44.ntmps = 74 := Try.ntmps44

def C.surdref01_Mul : VC :=
  .seq (.region false [⟨some 4, .mov (.c nil1), none⟩]) (.seq (.region false [⟨some 12, .mov (.t 0), none⟩,
   ⟨some 13, .len (.t 12), none⟩,
   ⟨some 14, .mov (.t 1), none⟩,
   ⟨some 15, .len (.t 14), none⟩,
   ⟨some 16, .bin .add false (.t 13) (.t 15), none⟩,
   ⟨some 17, .bin .add false (.t 16) (.c (iv 1)), none⟩,
   ⟨some 18, .mk [.int .u64 0] 8 (.t 17) (.t 17), none⟩,
   ⟨some 5, .mov (.t 18), none⟩]) (.seq (.seq (.region false [⟨some 19, .mov (.t 0), none⟩,
   ⟨some 20, .len (.t 19), none⟩,
   ⟨some 21, .mov (.c (iv 0)), none⟩]) (.block 0 (.loop (.seq (.region false [⟨some 22, .bin .lss false (.t 21) (.t 20), none⟩]) (.seq (.cond (.t 22) .skip (.exit 0)) (.seq (.block 1 (.seq (.region false [⟨some 23, .mov (.t 21), none⟩,
   ⟨some 24, .ixa 1 (.t 19) (.t 21), none⟩,
   ⟨some 25, .load none (.t 24), none⟩,
   ⟨some 6, .mov (.t 23), none⟩,
   ⟨some 7, .mov (.t 25), none⟩]) (.seq (.region false [⟨some 8, .mov (.c (nv 0)), none⟩]) (.seq (.seq (.region false [⟨some 26, .mov (.t 1), none⟩,
   ⟨some 27, .len (.t 26), none⟩,
   ⟨some 28, .mov (.c (iv 0)), none⟩]) (.block 2 (.loop (.seq (.region false [⟨some 29, .bin .lss false (.t 28) (.t 27), none⟩]) (.seq (.cond (.t 29) .skip (.exit 2)) (.seq (.block 3 (.seq (.region false [⟨some 30, .mov (.t 28), none⟩,
   ⟨some 31, .ixa 1 (.t 26) (.t 28), none⟩,
   ⟨some 32, .load none (.t 31), none⟩,
   ⟨some 9, .mov (.t 30), none⟩,
   ⟨some 10, .mov (.t 32), none⟩]) (.seq (.region false [⟨some 33, .mov (.t 7), none⟩,
   ⟨some 34, .mov (.t 10), none⟩,
   ⟨some 35, .bin .mul false (.t 33) (.t 34), none⟩,
   ⟨some 36, .mov (.t 5), none⟩,
   ⟨some 37, .mov (.t 6), none⟩,
   ⟨some 38, .mov (.t 9), none⟩,
   ⟨some 39, .bin .add false (.t 37) (.t 38), none⟩,
   ⟨some 40, .ixa 1 (.t 36) (.t 39), none⟩,
   ⟨some 41, .load none (.t 40), none⟩,
   ⟨some 42, .bin .add false (.t 35) (.t 41), none⟩,
   ⟨some 43, .mov (.t 8), none⟩,
   ⟨some 44, .bin .add false (.t 42) (.t 43), none⟩,
   ⟨some 11, .mov (.t 44), none⟩]) (.seq (.region false [⟨some 45, .mov (.t 5), none⟩,
   ⟨some 46, .mov (.t 6), none⟩,
   ⟨some 47, .mov (.t 9), none⟩,
   ⟨some 48, .bin .add false (.t 46) (.t 47), none⟩,
   ⟨some 49, .mov (.t 11), none⟩,
   ⟨some 50, .bin .rem false (.t 49) (.c (nv 4294967296)), none⟩,
   ⟨some 51, .ixa 1 (.t 45) (.t 48), none⟩,
   ⟨none, .store 1 (.t 51) (.t 50), none⟩]) (.region false [⟨some 52, .mov (.t 11), none⟩,
   ⟨some 53, .bin .quo false (.t 52) (.c (nv 4294967296)), none⟩,
   ⟨some 8, .mov (.t 53), none⟩]))))) (.region false [⟨some 54, .bin .add false (.t 28) (.c (iv 1)), none⟩,
   ⟨some 28, .mov (.t 54), none⟩]))))))) (.region false [⟨some 55, .mov (.t 5), none⟩,
   ⟨some 56, .mov (.t 6), none⟩,
   ⟨some 57, .mov (.t 1), none⟩,
   ⟨some 58, .len (.t 57), none⟩,
   ⟨some 59, .bin .add false (.t 56) (.t 58), none⟩,
   ⟨some 60, .mov (.t 8), none⟩,
   ⟨some 61, .ixa 1 (.t 55) (.t 59), none⟩,
   ⟨none, .store 1 (.t 61) (.t 60), none⟩]))))) (.region false [⟨some 62, .bin .add false (.t 21) (.c (iv 1)), none⟩,
   ⟨some 21, .mov (.t 62), none⟩]))))))) (.seq (.region false [⟨some 63, .mov (.t 5), none⟩,
   ⟨some 64, .call F.surdref01_norm [.t 63], none⟩,
   ⟨some 4, .mov (.t 64), none⟩]) .ret)))
def R.surdref01_Mul : List VRes := [.tmp 4]
theorem K.surdref01_Mul : resCode Try.prog Try.f45.ntmps (Try.f45.body.getD .skip) = C.surdref01_Mul := by kernel_rfl
theorem Q.surdref01_Mul : resResults Try.prog Try.f45.results.toList = some R.surdref01_Mul := by kernel_rfl
theorem E.surdref01_Mul : Try.prog.funcs[F.surdref01_Mul]? = some Try.f45 := Try.func45
theorem B.surdref01_Mul : Try.f45.body = some (Try.f45.body.getD .skip) := by kernel_rfl
theorem N.surdref01_Mul : Try.f45.ntmps = 65 := Try.ntmps45

def C.surdref01_Int : VC :=
  .seq (.region false [⟨some 2, .mov (.c nil1), none⟩]) (.seq (.region false [⟨some 3, .mov (.t 0), none⟩,
   ⟨some 4, .conv .u64 (.t 3), none⟩,
   ⟨some 5, .bsl true 1 1 [.int .u64 0] [(0, (1, .t 4))], none⟩,
   ⟨some 6, .call F.surdref01_Of [.t 5], none⟩,
   ⟨some 2, .mov (.t 6), none⟩]) .ret)
def R.surdref01_Int : List VRes := [.tmp 2]
theorem K.surdref01_Int : resCode Try.prog Try.f46.ntmps (Try.f46.body.getD .skip) = C.surdref01_Int := by kernel_rfl
theorem Q.surdref01_Int : resResults Try.prog Try.f46.results.toList = some R.surdref01_Int := by kernel_rfl
theorem E.surdref01_Int : Try.prog.funcs[F.surdref01_Int]? = some Try.f46 := Try.func46
theorem B.surdref01_Int : Try.f46.body = some (Try.f46.body.getD .skip) := by kernel_rfl
theorem N.surdref01_Int : Try.f46.ntmps = 7 := Try.ntmps46

def C.nat_Through : VC :=
  .seq (.region false [⟨some 4, .mov (.c nil1), none⟩,
   ⟨some 5, .mov (.c (nv 0)), none⟩,
   ⟨some 6, .mov (.c (iv 0)), none⟩]) (.seq (.seq (.region false [⟨some 11, .mov (.t 1), none⟩,
   ⟨some 12, .bin .eql false (.t 11) (.c (nv 0)), none⟩]) (.cond (.t 12) (.seq (.region false [⟨some 4, .mov (.c nil1), none⟩,
   ⟨some 5, .mov (.c (nv 0)), none⟩,
   ⟨some 6, .mov (.c (iv 1)), none⟩]) .ret) .skip)) (.seq (.region false [⟨some 13, .mov (.t 0), none⟩,
   ⟨some 14, .call F.nat_trim [.t 13], none⟩,
   ⟨some 0, .mov (.t 14), none⟩]) (.seq (.region false [⟨some 15, .mov (.t 0), none⟩,
   ⟨some 16, .len (.t 15), none⟩,
   ⟨some 17, .mk [.int .u64 0] 8 (.t 16) (.t 16), none⟩,
   ⟨some 7, .mov (.t 17), none⟩]) (.seq (.region false [⟨some 8, .mov (.c (nv 0)), none⟩]) (.seq (.seq (.region false [⟨some 18, .mov (.t 0), none⟩,
   ⟨some 19, .len (.t 18), none⟩,
   ⟨some 20, .bin .sub false (.t 19) (.c (iv 1)), none⟩,
   ⟨some 9, .mov (.t 20), none⟩]) (.block 0 (.loop (.seq (.seq (.region false [⟨some 21, .mov (.t 9), none⟩,
   ⟨some 22, .bin .geq false (.t 21) (.c (iv 0)), none⟩]) (.cond (.t 22) .skip (.exit 0))) (.seq (.block 1 (.region false [⟨some 26, .mov (.t 7), none⟩,
   ⟨some 27, .mov (.t 9), none⟩,
   ⟨some 28, .mov (.t 8), none⟩,
   ⟨some 29, .mov (.t 0), none⟩,
   ⟨some 30, .mov (.t 9), none⟩,
   ⟨some 31, .ixa 1 (.t 29) (.t 30), none⟩,
   ⟨some 32, .load none (.t 31), none⟩,
   ⟨some 33, .mov (.t 1), none⟩,
   ⟨some 34, .call F.bits_Div64 [.t 28, .t 32, .t 33], none⟩,
   ⟨some 25, .mov (.t 34), none⟩,
   ⟨some 35, .ext (.t 25) 0, none⟩,
   ⟨some 36, .ext (.t 25) 1, none⟩,
   ⟨some 37, .ixa 1 (.t 26) (.t 27), none⟩,
   ⟨none, .store 1 (.t 37) (.t 35), none⟩,
   ⟨some 8, .mov (.t 36), none⟩])) (.region false [⟨some 23, .mov (.t 9), none⟩,
   ⟨some 24, .bin .sub false (.t 23) (.c (iv 1)), none⟩,
   ⟨some 9, .mov (.t 24), none⟩])))))) (.seq (.region false [⟨some 39, .mov (.t 7), none⟩,
   ⟨some 40, .call F.nat_told [.t 39], none⟩,
   ⟨some 38, .mov (.t 40), none⟩,
   ⟨some 41, .ext (.t 38) 0, none⟩,
   ⟨some 42, .ext (.t 38) 1, none⟩,
   ⟨some 7, .mov (.t 41), none⟩,
   ⟨some 10, .mov (.t 42), none⟩]) (.seq (.seq (.region false [⟨some 43, .mov (.t 10), none⟩,
   ⟨some 44, .bin .neq false (.t 43) (.c (iv 0)), none⟩]) (.cond (.t 44) (.seq (.region false [⟨some 45, .mov (.t 10), none⟩,
   ⟨some 4, .mov (.c nil1), none⟩,
   ⟨some 5, .mov (.c (nv 0)), none⟩,
   ⟨some 6, .mov (.t 45), none⟩]) .ret) .skip)) (.seq (.region false [⟨some 46, .mov (.t 7), none⟩,
   ⟨some 47, .mov (.t 8), none⟩,
   ⟨some 4, .mov (.t 46), none⟩,
   ⟨some 5, .mov (.t 47), none⟩,
   ⟨some 6, .mov (.c (iv 0)), none⟩]) .ret))))))))
def R.nat_Through : List VRes := [.tmp 4, .tmp 5, .tmp 6]
theorem K.nat_Through : resCode Try.prog Try.f47.ntmps (Try.f47.body.getD .skip) = C.nat_Through := by kernel_rfl
theorem Q.nat_Through : resResults Try.prog Try.f47.results.toList = some R.nat_Through := by kernel_rfl
theorem E.nat_Through : Try.prog.funcs[F.nat_Through]? = some Try.f47 := Try.func47
theorem B.nat_Through : Try.f47.body = some (Try.f47.body.getD .skip) := by kernel_rfl
theorem N.nat_Through : Try.f47.ntmps = 48 := Try.ntmps47

def C.surdref01_Div : VC :=
  .seq (.region false [⟨some 4, .mov (.c nil1), none⟩,
   ⟨some 5, .mov (.c nil1), none⟩]) (.seq (.region false [⟨some 6, .mov (.c nil1), none⟩]) (.seq (.region false [⟨some 12, .mov (.t 0), none⟩,
   ⟨some 13, .len (.t 12), none⟩,
   ⟨some 14, .mk [.int .u64 0] 8 (.t 13) (.t 13), none⟩,
   ⟨some 7, .mov (.t 14), none⟩]) (.seq (.seq (.region false [⟨some 15, .mov (.t 0), none⟩,
   ⟨some 16, .len (.t 15), none⟩,
   ⟨some 17, .bin .sub false (.t 16) (.c (iv 1)), none⟩,
   ⟨some 8, .mov (.t 17), none⟩]) (.block 0 (.loop (.seq (.seq (.region false [⟨some 18, .mov (.t 8), none⟩,
   ⟨some 19, .bin .geq false (.t 18) (.c (iv 0)), none⟩]) (.cond (.t 19) .skip (.exit 0))) (.seq (.block 1 (.seq (.region true [⟨some 22, .mov (.t 6), none⟩,
   ⟨some 23, .call F.surdref01_Shl [.t 22, .c (iv 32)], none⟩,
   ⟨some 24, .mov (.t 0), none⟩,
   ⟨some 25, .mov (.t 8), none⟩,
   ⟨some 26, .ixa 1 (.t 24) (.t 25), none⟩,
   ⟨some 27, .load none (.t 26), none⟩,
   ⟨some 28, .bsl false 1 1 [.int .u64 0] [(0, (1, .t 27))], none⟩,
   ⟨some 29, .call F.surdref01_norm [.t 28], none⟩,
   ⟨some 30, .call F.surdref01_Add [.t 23, .t 29], none⟩,
   ⟨some 6, .mov (.t 30), none⟩]) (.seq (.region false [⟨some 9, .mov (.c (nv 0)), none⟩]) (.seq (.seq (.region false [⟨some 31, .mov (.t 6), none⟩,
   ⟨some 32, .mov (.t 1), none⟩,
   ⟨some 33, .call F.surdref01_Cmp [.t 31, .t 32], none⟩,
   ⟨some 34, .bin .geq false (.t 33) (.c (iv 0)), none⟩]) (.cond (.t 34) (.seq (.region false [⟨some 10, .mov (.c (iv 31)), none⟩]) (.block 2 (.loop (.seq (.seq (.region false [⟨some 35, .mov (.t 10), none⟩,
   ⟨some 36, .bin .geq false (.t 35) (.c (iv 0)), none⟩]) (.cond (.t 36) .skip (.exit 2))) (.seq (.block 3 (.seq (.region false [⟨some 39, .mov (.t 1), none⟩,
   ⟨some 40, .mov (.t 10), none⟩,
   ⟨some 41, .call F.surdref01_Shl [.t 39, .t 40], none⟩,
   ⟨some 11, .mov (.t 41), none⟩]) (.seq (.region false [⟨some 42, .mov (.t 6), none⟩,
   ⟨some 43, .mov (.t 11), none⟩,
   ⟨some 44, .call F.surdref01_Cmp [.t 42, .t 43], none⟩,
   ⟨some 45, .bin .geq false (.t 44) (.c (iv 0)), none⟩]) (.cond (.t 45) (.seq (.region false [⟨some 46, .mov (.t 6), none⟩,
   ⟨some 47, .mov (.t 11), none⟩,
   ⟨some 48, .call F.surdref01_Sub [.t 46, .t 47], none⟩,
   ⟨some 6, .mov (.t 48), none⟩]) (.region false [⟨some 49, .mov (.t 9), none⟩,
   ⟨some 50, .mov (.t 10), none⟩,
   ⟨some 51, .bin .shl false (.c (nv 1)) (.t 50), none⟩,
   ⟨some 52, .bin .add false (.t 49) (.t 51), none⟩,
   ⟨some 9, .mov (.t 52), none⟩])) .skip)))) (.region false [⟨some 37, .mov (.t 10), none⟩,
   ⟨some 38, .bin .sub false (.t 37) (.c (iv 1)), none⟩,
   ⟨some 10, .mov (.t 38), none⟩])))))) .skip)) (.region false [⟨some 53, .mov (.t 7), none⟩,
   ⟨some 54, .mov (.t 8), none⟩,
   ⟨some 55, .mov (.t 9), none⟩,
   ⟨some 56, .ixa 1 (.t 53) (.t 54), none⟩,
   ⟨none, .store 1 (.t 56) (.t 55), none⟩]))))) (.region false [⟨some 20, .mov (.t 8), none⟩,
   ⟨some 21, .bin .sub false (.t 20) (.c (iv 1)), none⟩,
   ⟨some 8, .mov (.t 21), none⟩])))))) (.seq (.region false [⟨some 57, .mov (.t 7), none⟩,
   ⟨some 58, .call F.surdref01_norm [.t 57], none⟩,
   ⟨some 59, .mov (.t 6), none⟩,
   ⟨some 4, .mov (.t 58), none⟩,
   ⟨some 5, .mov (.t 59), none⟩]) .ret))))
def R.surdref01_Div : List VRes := [.tmp 4, .tmp 5]
theorem K.surdref01_Div : resCode Try.prog Try.f48.ntmps (Try.f48.body.getD .skip) = C.surdref01_Div := by kernel_rfl
theorem Q.surdref01_Div : resResults Try.prog Try.f48.results.toList = some R.surdref01_Div := by kernel_rfl
theorem E.surdref01_Div : Try.prog.funcs[F.surdref01_Div]? = some Try.f48 := Try.func48
theorem B.surdref01_Div : Try.f48.body = some (Try.f48.body.getD .skip) := by kernel_rfl
theorem N.surdref01_Div : Try.f48.ntmps = 60 := Try.ntmps48

def C.surdref01_norm : VC :=
  .seq (.region false [⟨some 2, .mov (.c nil1), none⟩]) (.seq (.region false [⟨some 4, .mov (.t 0), none⟩,
   ⟨some 5, .len (.t 4), none⟩,
   ⟨some 3, .mov (.t 5), none⟩]) (.seq (.block 0 (.loop (.seq (.seq (.region false [⟨some 6, .mov (.t 3), none⟩,
   ⟨some 7, .bin .gtr false (.t 6) (.c (iv 0)), none⟩,
   ⟨some 8, .mov (.t 7), none⟩,
   ⟨some 9, .mov (.t 0), some (8, true)⟩,
   ⟨some 10, .mov (.t 3), some (8, true)⟩,
   ⟨some 11, .bin .sub false (.t 10) (.c (iv 1)), some (8, true)⟩,
   ⟨some 12, .ixa 1 (.t 9) (.t 11), some (8, true)⟩,
   ⟨some 13, .load none (.t 12), some (8, true)⟩,
   ⟨some 14, .bin .eql false (.t 13) (.c (nv 0)), some (8, true)⟩,
   ⟨some 15, .pick (.t 8) (.t 14) (.c (bv false)), none⟩]) (.cond (.t 15) .skip (.exit 0))) (.block 1 (.region false [⟨some 16, .mov (.t 3), none⟩,
   ⟨some 17, .bin .sub false (.t 16) (.c (iv 1)), none⟩,
   ⟨some 3, .mov (.t 17), none⟩]))))) (.seq (.region false [⟨some 18, .mov (.t 0), none⟩,
   ⟨some 19, .mov (.t 3), none⟩,
   ⟨some 20, .mov (.t 3), none⟩,
   ⟨some 21, .slc 1 (.t 18) none (some (.t 19)) (some (.t 20)), none⟩,
   ⟨some 2, .mov (.t 21), none⟩]) .ret)))
def R.surdref01_norm : List VRes := [.tmp 2]
theorem K.surdref01_norm : resCode Try.prog Try.f49.ntmps (Try.f49.body.getD .skip) = C.surdref01_norm := by kernel_rfl
theorem Q.surdref01_norm : resResults Try.prog Try.f49.results.toList = some R.surdref01_norm := by kernel_rfl
theorem E.surdref01_norm : Try.prog.funcs[F.surdref01_norm]? = some Try.f49 := Try.func49
theorem B.surdref01_norm : Try.f49.body = some (Try.f49.body.getD .skip) := by kernel_rfl
theorem N.surdref01_norm : Try.f49.ntmps = 22 := Try.ntmps49

def C.surdref01_Shl : VC :=
  .seq (.region false [⟨some 4, .mov (.c nil1), none⟩]) (.seq (.seq (.region false [⟨some 9, .mov (.t 0), none⟩,
   ⟨some 10, .len (.t 9), none⟩,
   ⟨some 11, .bin .eql false (.t 10) (.c (iv 0)), none⟩]) (.cond (.t 11) (.seq (.region false [⟨some 4, .mov (.c nil1), none⟩]) .ret) .skip)) (.seq (.region false [⟨some 12, .mov (.t 0), none⟩,
   ⟨some 13, .len (.t 12), none⟩,
   ⟨some 14, .mov (.t 1), none⟩,
   ⟨some 15, .bin .quo false (.t 14) (.c (iv 32)), none⟩,
   ⟨some 16, .bin .add false (.t 13) (.t 15), none⟩,
   ⟨some 17, .bin .add false (.t 16) (.c (iv 1)), none⟩,
   ⟨some 18, .mk [.int .u64 0] 8 (.t 17) (.t 17), none⟩,
   ⟨some 5, .mov (.t 18), none⟩]) (.seq (.region false [⟨some 19, .mov (.t 1), none⟩,
   ⟨some 20, .bin .rem false (.t 19) (.c (iv 32)), none⟩,
   ⟨some 6, .mov (.t 20), none⟩]) (.seq (.seq (.region false [⟨some 21, .mov (.t 0), none⟩,
   ⟨some 22, .len (.t 21), none⟩,
   ⟨some 23, .mov (.c (iv 0)), none⟩]) (.block 0 (.loop (.seq (.region false [⟨some 24, .bin .lss false (.t 23) (.t 22), none⟩]) (.seq (.cond (.t 24) .skip (.exit 0)) (.seq (.block 1 (.seq (.region false [⟨some 25, .mov (.t 23), none⟩,
   ⟨some 26, .ixa 1 (.t 21) (.t 23), none⟩,
   ⟨some 27, .load none (.t 26), none⟩,
   ⟨some 7, .mov (.t 25), none⟩,
   ⟨some 8, .mov (.t 27), none⟩]) (.seq (.region true [⟨some 28, .mov (.t 5), none⟩,
   ⟨some 29, .mov (.t 7), none⟩,
   ⟨some 30, .mov (.t 1), none⟩,
   ⟨some 31, .bin .quo false (.t 30) (.c (iv 32)), none⟩,
   ⟨some 32, .bin .add false (.t 29) (.t 31), none⟩,
   ⟨some 33, .ixa 1 (.t 28) (.t 32), none⟩,
   ⟨some 34, .load none (.t 33), none⟩,
   ⟨some 35, .mov (.t 8), none⟩,
   ⟨some 36, .mov (.t 6), none⟩,
   ⟨some 37, .bin .shl false (.t 35) (.t 36), none⟩,
   ⟨some 38, .bin .rem false (.t 37) (.c (nv 4294967296)), none⟩,
   ⟨some 39, .bin .add false (.t 34) (.t 38), none⟩,
   ⟨some 40, .ixa 1 (.t 28) (.t 32), none⟩,
   ⟨none, .store 1 (.t 40) (.t 39), none⟩]) (.region false [⟨some 41, .mov (.t 5), none⟩,
   ⟨some 42, .mov (.t 7), none⟩,
   ⟨some 43, .mov (.t 1), none⟩,
   ⟨some 44, .bin .quo false (.t 43) (.c (iv 32)), none⟩,
   ⟨some 45, .bin .add false (.t 42) (.t 44), none⟩,
   ⟨some 46, .bin .add false (.t 45) (.c (iv 1)), none⟩,
   ⟨some 47, .mov (.t 8), none⟩,
   ⟨some 48, .mov (.t 6), none⟩,
   ⟨some 49, .bin .shl false (.t 47) (.t 48), none⟩,
   ⟨some 50, .bin .quo false (.t 49) (.c (nv 4294967296)), none⟩,
   ⟨some 51, .ixa 1 (.t 41) (.t 46), none⟩,
   ⟨none, .store 1 (.t 51) (.t 50), none⟩])))) (.region false [⟨some 52, .bin .add false (.t 23) (.c (iv 1)), none⟩,
   ⟨some 23, .mov (.t 52), none⟩]))))))) (.seq (.region false [⟨some 53, .mov (.t 5), none⟩,
   ⟨some 54, .call F.surdref01_norm [.t 53], none⟩,
   ⟨some 4, .mov (.t 54), none⟩]) .ret)))))
def R.surdref01_Shl : List VRes := [.tmp 4]
theorem K.surdref01_Shl : resCode Try.prog Try.f50.ntmps (Try.f50.body.getD .skip) = C.surdref01_Shl := by kernel_rfl
theorem Q.surdref01_Shl : resResults Try.prog Try.f50.results.toList = some R.surdref01_Shl := by kernel_rfl
theorem E.surdref01_Shl : Try.prog.funcs[F.surdref01_Shl]? = some Try.f50 := Try.func50
theorem B.surdref01_Shl : Try.f50.body = some (Try.f50.body.getD .skip) := by kernel_rfl
theorem N.surdref01_Shl : Try.f50.ntmps = 55 := Try.ntmps50

def C.roots_fits : VC :=
  .seq (.region false [⟨some 2, .mov (.c nil1), none⟩,
   ⟨some 3, .mov (.c (iv 0)), none⟩]) (.seq (.seq (.region false [⟨some 4, .mov (.t 0), none⟩,
   ⟨some 5, .call F.nat_Length [.t 4], none⟩,
   ⟨some 6, .bin .gtr false (.t 5) (.c (iv 67108864)), none⟩]) (.cond (.t 6) (.seq (.region false [⟨some 2, .mov (.c nil1), none⟩,
   ⟨some 3, .mov (.c (iv 3)), none⟩]) .ret) .skip)) (.seq (.region false [⟨some 7, .mov (.t 0), none⟩,
   ⟨some 8, .call F.nat_Norm [.t 7], none⟩,
   ⟨some 2, .mov (.t 8), none⟩,
   ⟨some 3, .mov (.c (iv 0)), none⟩]) .ret))
def R.roots_fits : List VRes := [.tmp 2, .tmp 3]
theorem K.roots_fits : resCode Try.prog Try.f51.ntmps (Try.f51.body.getD .skip) = C.roots_fits := by kernel_rfl
theorem Q.roots_fits : resResults Try.prog Try.f51.results.toList = some R.roots_fits := by kernel_rfl
theorem E.roots_fits : Try.prog.funcs[F.roots_fits]? = some Try.f51 := Try.func51
theorem B.roots_fits : Try.f51.body = some (Try.f51.body.getD .skip) := by kernel_rfl
theorem N.roots_fits : Try.f51.ntmps = 9 := Try.ntmps51

def C.nat_Length : VC :=
  .seq (.region false [⟨some 2, .mov (.c (iv 0)), none⟩]) (.seq (.region false [⟨some 3, .mov (.t 0), none⟩,
   ⟨some 4, .call F.nat_trim [.t 3], none⟩,
   ⟨some 0, .mov (.t 4), none⟩]) (.seq (.seq (.region false [⟨some 5, .mov (.t 0), none⟩,
   ⟨some 6, .len (.t 5), none⟩,
   ⟨some 7, .bin .eql false (.t 6) (.c (iv 0)), none⟩]) (.cond (.t 7) (.seq (.region false [⟨some 2, .mov (.c (iv 0)), none⟩]) .ret) .skip)) (.seq (.region false [⟨some 8, .mov (.t 0), none⟩,
   ⟨some 9, .len (.t 8), none⟩,
   ⟨some 10, .bin .sub false (.t 9) (.c (iv 1)), none⟩,
   ⟨some 11, .bin .mul false (.c (iv 64)) (.t 10), none⟩,
   ⟨some 12, .mov (.t 0), none⟩,
   ⟨some 13, .mov (.t 0), none⟩,
   ⟨some 14, .len (.t 13), none⟩,
   ⟨some 15, .bin .sub false (.t 14) (.c (iv 1)), none⟩,
   ⟨some 16, .ixa 1 (.t 12) (.t 15), none⟩,
   ⟨some 17, .load none (.t 16), none⟩,
   ⟨some 18, .call F.bits_Len64 [.t 17], none⟩,
   ⟨some 19, .bin .add false (.t 11) (.t 18), none⟩,
   ⟨some 2, .mov (.t 19), none⟩]) .ret)))
def R.nat_Length : List VRes := [.tmp 2]
theorem K.nat_Length : resCode Try.prog Try.f52.ntmps (Try.f52.body.getD .skip) = C.nat_Length := by kernel_rfl
theorem Q.nat_Length : resResults Try.prog Try.f52.results.toList = some R.nat_Length := by kernel_rfl
theorem E.nat_Length : Try.prog.funcs[F.nat_Length]? = some Try.f52 := Try.func52
theorem B.nat_Length : Try.f52.body = some (Try.f52.body.getD .skip) := by kernel_rfl
theorem N.nat_Length : Try.f52.ntmps = 20 := Try.ntmps52

def C.roots_newton : VC :=
  .seq (.region false [⟨some 4, .mov (.c nil1), none⟩]) (.seq (.region false [⟨some 18, .mov (.t 0), none⟩,
   ⟨some 19, .call F.nat_Length [.t 18], none⟩,
   ⟨some 5, .mov (.t 19), none⟩]) (.seq (.seq (.region false [⟨some 20, .mov (.t 1), none⟩,
   ⟨some 21, .mov (.t 5), none⟩,
   ⟨some 22, .bin .geq false (.t 20) (.t 21), none⟩]) (.cond (.t 22) (.seq (.region false [⟨some 23, .call F.nat_From [.c (nv 1)], none⟩,
   ⟨some 4, .mov (.t 23), none⟩]) .ret) .skip)) (.seq (.region false [⟨some 24, .mov (.t 5), none⟩,
   ⟨some 25, .mov (.t 1), none⟩,
   ⟨some 26, .bin .add false (.t 24) (.t 25), none⟩,
   ⟨some 27, .bin .sub false (.t 26) (.c (iv 1)), none⟩,
   ⟨some 28, .mov (.t 1), none⟩,
   ⟨some 29, .bin .quo false (.t 27) (.t 28), none⟩,
   ⟨some 30, .call F.roots_power [.t 29], none⟩,
   ⟨some 6, .mov (.t 30), none⟩]) (.block 0 (.loop (.block 1 (.seq (.region false [⟨some 32, .mov (.t 6), none⟩,
   ⟨some 33, .mov (.t 1), none⟩,
   ⟨some 34, .bin .sub false (.t 33) (.c (iv 1)), none⟩,
   ⟨some 35, .call F.mul_Pow [.t 32, .t 34], none⟩,
   ⟨some 31, .mov (.t 35), none⟩,
   ⟨some 36, .ext (.t 31) 0, none⟩,
   ⟨some 37, .ext (.t 31) 1, none⟩,
   ⟨some 7, .mov (.t 36), none⟩,
   ⟨some 8, .mov (.t 37), none⟩]) (.seq (.region false [⟨some 39, .mov (.t 0), none⟩,
   ⟨some 40, .mov (.t 7), none⟩,
   ⟨some 41, .call F.div_Quo [.t 39, .t 40], none⟩,
   ⟨some 38, .mov (.t 41), none⟩,
   ⟨some 42, .ext (.t 38) 0, none⟩,
   ⟨some 43, .ext (.t 38) 1, none⟩,
   ⟨some 9, .mov (.t 42), none⟩,
   ⟨some 10, .mov (.t 43), none⟩]) (.seq (.region false [⟨some 45, .mov (.t 6), none⟩,
   ⟨some 46, .mov (.t 1), none⟩,
   ⟨some 47, .bin .sub false (.t 46) (.c (iv 1)), none⟩,
   ⟨some 48, .conv .u64 (.t 47), none⟩,
   ⟨some 49, .call F.nat_Times [.t 45, .t 48], none⟩,
   ⟨some 44, .mov (.t 49), none⟩,
   ⟨some 50, .ext (.t 44) 0, none⟩,
   ⟨some 51, .ext (.t 44) 1, none⟩,
   ⟨some 11, .mov (.t 50), none⟩,
   ⟨some 12, .mov (.t 51), none⟩]) (.seq (.region false [⟨some 53, .mov (.t 11), none⟩,
   ⟨some 54, .mov (.t 9), none⟩,
   ⟨some 55, .call F.nat_Add [.t 53, .t 54], none⟩,
   ⟨some 52, .mov (.t 55), none⟩,
   ⟨some 56, .ext (.t 52) 0, none⟩,
   ⟨some 57, .ext (.t 52) 1, none⟩,
   ⟨some 13, .mov (.t 56), none⟩,
   ⟨some 14, .mov (.t 57), none⟩]) (.seq (.region false [⟨some 59, .mov (.t 13), none⟩,
   ⟨some 60, .mov (.t 1), none⟩,
   ⟨some 61, .conv .u64 (.t 60), none⟩,
   ⟨some 62, .call F.nat_Through [.t 59, .t 61], none⟩,
   ⟨some 58, .mov (.t 62), none⟩,
   ⟨some 63, .ext (.t 58) 0, none⟩,
   ⟨some 64, .ext (.t 58) 1, none⟩,
   ⟨some 65, .ext (.t 58) 2, none⟩,
   ⟨some 15, .mov (.t 63), none⟩,
   ⟨some 16, .mov (.t 64), none⟩,
   ⟨some 17, .mov (.t 65), none⟩]) (.seq (.seq (.region false [⟨some 66, .mov (.t 15), none⟩,
   ⟨some 67, .mov (.t 6), none⟩,
   ⟨some 68, .call F.nat_Compare [.t 66, .t 67], none⟩,
   ⟨some 69, .bin .geq false (.t 68) (.c (iv 0)), none⟩]) (.cond (.t 69) (.seq (.region false [⟨some 70, .mov (.t 6), none⟩,
   ⟨some 4, .mov (.t 70), none⟩]) .ret) .skip)) (.region false [⟨some 71, .mov (.t 15), none⟩,
   ⟨some 6, .mov (.t 71), none⟩])))))))))))))
def R.roots_newton : List VRes := [.tmp 4]
theorem K.roots_newton : resCode Try.prog Try.f53.ntmps (Try.f53.body.getD .skip) = C.roots_newton := by kernel_rfl
theorem Q.roots_newton : resResults Try.prog Try.f53.results.toList = some R.roots_newton := by kernel_rfl
theorem E.roots_newton : Try.prog.funcs[F.roots_newton]? = some Try.f53 := Try.func53
theorem B.roots_newton : Try.f53.body = some (Try.f53.body.getD .skip) := by kernel_rfl
theorem N.roots_newton : Try.f53.ntmps = 72 := Try.ntmps53

def C.mul_Pow : VC :=
  .seq (.region false [⟨some 4, .mov (.c nil1), none⟩,
   ⟨some 5, .mov (.c (iv 0)), none⟩]) (.seq (.seq (.region false [⟨some 10, .mov (.t 1), none⟩,
   ⟨some 11, .bin .lss false (.t 10) (.c (iv 0)), none⟩]) (.cond (.t 11) (.seq (.region false [⟨some 4, .mov (.c nil1), none⟩,
   ⟨some 5, .mov (.c (iv 1)), none⟩]) .ret) .skip)) (.seq (.region false [⟨some 12, .mov (.t 0), none⟩,
   ⟨some 13, .call F.nat_Norm [.t 12], none⟩,
   ⟨some 0, .mov (.t 13), none⟩]) (.seq (.seq (.region false [⟨some 14, .mov (.t 1), none⟩,
   ⟨some 15, .bin .eql false (.t 14) (.c (iv 0)), none⟩]) (.cond (.t 15) (.seq (.region false [⟨some 16, .call F.nat_From [.c (nv 1)], none⟩,
   ⟨some 4, .mov (.t 16), none⟩,
   ⟨some 5, .mov (.c (iv 0)), none⟩]) .ret) .skip)) (.seq (.region false [⟨some 17, .mov (.t 0), none⟩,
   ⟨some 18, .call F.nat_Length [.t 17], none⟩,
   ⟨some 6, .mov (.t 18), none⟩]) (.seq (.seq (.region false [⟨some 19, .mov (.t 6), none⟩,
   ⟨some 20, .bin .leq false (.t 19) (.c (iv 1)), none⟩]) (.cond (.t 20) (.seq (.region false [⟨some 21, .mov (.t 0), none⟩,
   ⟨some 4, .mov (.t 21), none⟩,
   ⟨some 5, .mov (.c (iv 0)), none⟩]) .ret) .skip)) (.seq (.seq (.region false [⟨some 22, .mov (.t 1), none⟩,
   ⟨some 23, .bin .gtr false (.t 22) (.c (iv 67108864)), none⟩,
   ⟨some 24, .mov (.t 23), none⟩,
   ⟨some 25, .mov (.t 6), some (24, false)⟩,
   ⟨some 26, .bin .sub false (.t 25) (.c (iv 1)), some (24, false)⟩,
   ⟨some 27, .mov (.t 1), some (24, false)⟩,
   ⟨some 28, .bin .mul false (.t 26) (.t 27), some (24, false)⟩,
   ⟨some 29, .bin .add false (.t 28) (.c (iv 1)), some (24, false)⟩,
   ⟨some 30, .bin .gtr false (.t 29) (.c (iv 67108864)), some (24, false)⟩,
   ⟨some 31, .pick (.t 24) (.c (bv true)) (.t 30), none⟩]) (.cond (.t 31) (.seq (.region false [⟨some 4, .mov (.c nil1), none⟩,
   ⟨some 5, .mov (.c (iv 3)), none⟩]) .ret) .skip)) (.seq (.region false [⟨some 32, .call F.nat_From [.c (nv 1)], none⟩,
   ⟨some 7, .mov (.t 32), none⟩]) (.seq (.seq (.region false [⟨some 8, .mov (.c (iv 62)), none⟩]) (.block 0 (.loop (.seq (.seq (.region false [⟨some 33, .mov (.t 8), none⟩,
   ⟨some 34, .bin .geq false (.t 33) (.c (iv 0)), none⟩]) (.cond (.t 34) .skip (.exit 0))) (.seq (.block 1 (.seq (.region false [⟨some 9, .mov (.c (iv 0)), none⟩]) (.seq (.seq (.region false [⟨some 37, .mov (.t 7), none⟩,
   ⟨some 38, .len (.t 37), none⟩,
   ⟨some 39, .bin .gtr false (.t 38) (.c (iv 0)), none⟩]) (.cond (.t 39) (.seq (.region false [⟨some 41, .mov (.t 7), none⟩,
   ⟨some 42, .call F.mul_Square [.t 41], none⟩,
   ⟨some 40, .mov (.t 42), none⟩,
   ⟨some 43, .ext (.t 40) 0, none⟩,
   ⟨some 44, .ext (.t 40) 1, none⟩,
   ⟨some 7, .mov (.t 43), none⟩,
   ⟨some 9, .mov (.t 44), none⟩]) (.seq (.region false [⟨some 45, .mov (.t 9), none⟩,
   ⟨some 46, .bin .neq false (.t 45) (.c (iv 0)), none⟩]) (.cond (.t 46) (.seq (.region false [⟨some 47, .mov (.t 9), none⟩,
   ⟨some 4, .mov (.c nil1), none⟩,
   ⟨some 5, .mov (.t 47), none⟩]) .ret) .skip))) .skip)) (.seq (.region false [⟨some 48, .mov (.t 1), none⟩,
   ⟨some 49, .mov (.t 8), none⟩,
   ⟨some 50, .bin .shr false (.t 48) (.t 49), none⟩,
   ⟨some 51, .bin .and false (.t 50) (.c (iv 1)), none⟩,
   ⟨some 52, .bin .eql false (.t 51) (.c (iv 1)), none⟩]) (.cond (.t 52) (.seq (.region false [⟨some 54, .mov (.t 7), none⟩,
   ⟨some 55, .mov (.t 0), none⟩,
   ⟨some 56, .call F.mul_Mul [.t 54, .t 55], none⟩,
   ⟨some 53, .mov (.t 56), none⟩,
   ⟨some 57, .ext (.t 53) 0, none⟩,
   ⟨some 58, .ext (.t 53) 1, none⟩,
   ⟨some 7, .mov (.t 57), none⟩,
   ⟨some 9, .mov (.t 58), none⟩]) (.seq (.region false [⟨some 59, .mov (.t 9), none⟩,
   ⟨some 60, .bin .neq false (.t 59) (.c (iv 0)), none⟩]) (.cond (.t 60) (.seq (.region false [⟨some 61, .mov (.t 9), none⟩,
   ⟨some 4, .mov (.c nil1), none⟩,
   ⟨some 5, .mov (.t 61), none⟩]) .ret) .skip))) .skip))))) (.region false [⟨some 35, .mov (.t 8), none⟩,
   ⟨some 36, .bin .sub false (.t 35) (.c (iv 1)), none⟩,
   ⟨some 8, .mov (.t 36), none⟩])))))) (.seq (.region false [⟨some 62, .mov (.t 7), none⟩,
   ⟨some 4, .mov (.t 62), none⟩,
   ⟨some 5, .mov (.c (iv 0)), none⟩]) .ret)))))))))
def R.mul_Pow : List VRes := [.tmp 4, .tmp 5]
theorem K.mul_Pow : resCode Try.prog Try.f54.ntmps (Try.f54.body.getD .skip) = C.mul_Pow := by kernel_rfl
theorem Q.mul_Pow : resResults Try.prog Try.f54.results.toList = some R.mul_Pow := by kernel_rfl
theorem E.mul_Pow : Try.prog.funcs[F.mul_Pow]? = some Try.f54 := Try.func54
theorem B.mul_Pow : Try.f54.body = some (Try.f54.body.getD .skip) := by kernel_rfl
theorem N.mul_Pow : Try.f54.ntmps = 63 := Try.ntmps54

def C.roots_less : VC :=
  .seq (.region false [⟨some 4, .mov (.c nil1), none⟩]) (.seq (.region false [⟨some 8, .mov (.t 0), none⟩,
   ⟨some 9, .mov (.t 1), none⟩,
   ⟨some 10, .call F.nat_Sub [.t 8, .t 9], none⟩,
   ⟨some 7, .mov (.t 10), none⟩,
   ⟨some 11, .ext (.t 7) 0, none⟩,
   ⟨some 12, .ext (.t 7) 1, none⟩,
   ⟨some 5, .mov (.t 11), none⟩,
   ⟨some 6, .mov (.t 12), none⟩]) (.seq (.region false [⟨some 13, .mov (.t 5), none⟩,
   ⟨some 4, .mov (.t 13), none⟩]) .ret))
def R.roots_less : List VRes := [.tmp 4]
theorem K.roots_less : resCode Try.prog Try.f55.ntmps (Try.f55.body.getD .skip) = C.roots_less := by kernel_rfl
theorem Q.roots_less : resResults Try.prog Try.f55.results.toList = some R.roots_less := by kernel_rfl
theorem E.roots_less : Try.prog.funcs[F.roots_less]? = some Try.f55 := Try.func55
theorem B.roots_less : Try.f55.body = some (Try.f55.body.getD .skip) := by kernel_rfl
theorem N.roots_less : Try.f55.ntmps = 14 := Try.ntmps55

def C.nat_Add : VC :=
  .seq (.region false [⟨some 4, .mov (.c nil1), none⟩,
   ⟨some 5, .mov (.c (iv 0)), none⟩]) (.seq (.region false [⟨some 10, .mov (.t 0), none⟩,
   ⟨some 11, .call F.nat_trim [.t 10], none⟩,
   ⟨some 12, .mov (.t 1), none⟩,
   ⟨some 13, .call F.nat_trim [.t 12], none⟩,
   ⟨some 0, .mov (.t 11), none⟩,
   ⟨some 1, .mov (.t 13), none⟩]) (.seq (.seq (.region false [⟨some 14, .mov (.t 0), none⟩,
   ⟨some 15, .len (.t 14), none⟩,
   ⟨some 16, .mov (.t 1), none⟩,
   ⟨some 17, .len (.t 16), none⟩,
   ⟨some 18, .bin .lss false (.t 15) (.t 17), none⟩]) (.cond (.t 18) (.region false [⟨some 19, .mov (.t 1), none⟩,
   ⟨some 20, .mov (.t 0), none⟩,
   ⟨some 0, .mov (.t 19), none⟩,
   ⟨some 1, .mov (.t 20), none⟩]) .skip)) (.seq (.region false [⟨some 21, .mov (.t 0), none⟩,
   ⟨some 22, .len (.t 21), none⟩,
   ⟨some 23, .bin .add false (.t 22) (.c (iv 1)), none⟩,
   ⟨some 24, .mk [.int .u64 0] 8 (.t 23) (.t 23), none⟩,
   ⟨some 6, .mov (.t 24), none⟩]) (.seq (.region false [⟨some 7, .mov (.c (nv 0)), none⟩]) (.seq (.seq (.region false [⟨some 25, .mov (.t 0), none⟩,
   ⟨some 26, .len (.t 25), none⟩,
   ⟨some 27, .mov (.c (iv 0)), none⟩]) (.block 0 (.loop (.seq (.region false [⟨some 28, .bin .lss false (.t 27) (.t 26), none⟩]) (.seq (.cond (.t 28) .skip (.exit 0)) (.seq (.block 1 (.seq (.region false [⟨some 29, .mov (.t 27), none⟩,
   ⟨some 8, .mov (.t 29), none⟩]) (.seq (.region false [⟨some 9, .mov (.c (nv 0)), none⟩]) (.seq (.seq (.region false [⟨some 30, .mov (.t 8), none⟩,
   ⟨some 31, .mov (.t 1), none⟩,
   ⟨some 32, .len (.t 31), none⟩,
   ⟨some 33, .bin .lss false (.t 30) (.t 32), none⟩]) (.cond (.t 33) (.region false [⟨some 34, .mov (.t 1), none⟩,
   ⟨some 35, .mov (.t 8), none⟩,
   ⟨some 36, .ixa 1 (.t 34) (.t 35), none⟩,
   ⟨some 37, .load none (.t 36), none⟩,
   ⟨some 9, .mov (.t 37), none⟩]) .skip)) (.region false [⟨some 39, .mov (.t 6), none⟩,
   ⟨some 40, .mov (.t 8), none⟩,
   ⟨some 41, .mov (.t 0), none⟩,
   ⟨some 42, .mov (.t 8), none⟩,
   ⟨some 43, .ixa 1 (.t 41) (.t 42), none⟩,
   ⟨some 44, .load none (.t 43), none⟩,
   ⟨some 45, .mov (.t 9), none⟩,
   ⟨some 46, .mov (.t 7), none⟩,
   ⟨some 47, .ext64 false (.t 44) (.t 45) (.t 46), none⟩,
   ⟨some 38, .mov (.t 47), none⟩,
   ⟨some 48, .ext (.t 38) 0, none⟩,
   ⟨some 49, .ext (.t 38) 1, none⟩,
   ⟨some 50, .ixa 1 (.t 39) (.t 40), none⟩,
   ⟨none, .store 1 (.t 50) (.t 48), none⟩,
   ⟨some 7, .mov (.t 49), none⟩]))))) (.region false [⟨some 51, .bin .add false (.t 27) (.c (iv 1)), none⟩,
   ⟨some 27, .mov (.t 51), none⟩]))))))) (.seq (.region false [⟨some 52, .mov (.t 6), none⟩,
   ⟨some 53, .mov (.t 0), none⟩,
   ⟨some 54, .len (.t 53), none⟩,
   ⟨some 55, .mov (.t 7), none⟩,
   ⟨some 56, .ixa 1 (.t 52) (.t 54), none⟩,
   ⟨none, .store 1 (.t 56) (.t 55), none⟩]) (.seq (.region false [⟨some 57, .mov (.t 6), none⟩,
   ⟨some 58, .call F.nat_told [.t 57], none⟩,
   ⟨some 59, .ext (.t 58) 0, none⟩,
   ⟨some 60, .ext (.t 58) 1, none⟩,
   ⟨some 4, .mov (.t 59), none⟩,
   ⟨some 5, .mov (.t 60), none⟩]) .ret)))))))
def R.nat_Add : List VRes := [.tmp 4, .tmp 5]
theorem K.nat_Add : resCode Try.prog Try.f56.ntmps (Try.f56.body.getD .skip) = C.nat_Add := by kernel_rfl
theorem Q.nat_Add : resResults Try.prog Try.f56.results.toList = some R.nat_Add := by kernel_rfl
theorem E.nat_Add : Try.prog.funcs[F.nat_Add]? = some Try.f56 := Try.func56
theorem B.nat_Add : Try.f56.body = some (Try.f56.body.getD .skip) := by kernel_rfl
theorem N.nat_Add : Try.f56.ntmps = 61 := Try.ntmps56

def C.nat_From : VC :=
  .seq (.region false [⟨some 2, .mov (.c nil1), none⟩]) (.seq (.seq (.region false [⟨some 3, .mov (.t 0), none⟩,
   ⟨some 4, .bin .eql false (.t 3) (.c (nv 0)), none⟩]) (.cond (.t 4) (.seq (.region false [⟨some 2, .mov (.c nil1), none⟩]) .ret) .skip)) (.seq (.region false [⟨some 5, .mov (.t 0), none⟩,
   ⟨some 6, .bsl true 1 1 [.int .u64 0] [(0, (1, .t 5))], none⟩,
   ⟨some 2, .mov (.t 6), none⟩]) .ret))
def R.nat_From : List VRes := [.tmp 2]
theorem K.nat_From : resCode Try.prog Try.f57.ntmps (Try.f57.body.getD .skip) = C.nat_From := by kernel_rfl
theorem Q.nat_From : resResults Try.prog Try.f57.results.toList = some R.nat_From := by kernel_rfl
theorem E.nat_From : Try.prog.funcs[F.nat_From]? = some Try.f57 := Try.func57
theorem B.nat_From : Try.f57.body = some (Try.f57.body.getD .skip) := by kernel_rfl
theorem N.nat_From : Try.f57.ntmps = 7 := Try.ntmps57

def C.surdref01_Num_Limbs : VC :=
  .seq (.region false [⟨some 2, .mov (.c nil1), none⟩]) (.seq (.region false [⟨some 3, .mov (.c nil1), none⟩]) (.seq (.seq (.region false [⟨some 4, .mov (.c (iv 0)), none⟩]) (.block 0 (.loop (.seq (.seq (.region false [⟨some 6, .mov (.t 4), none⟩,
   ⟨some 7, .mov (.t 0), none⟩,
   ⟨some 8, .len (.t 7), none⟩,
   ⟨some 9, .bin .lss false (.t 6) (.t 8), none⟩]) (.cond (.t 9) .skip (.exit 0))) (.seq (.block 1 (.seq (.region false [⟨some 12, .mov (.t 0), none⟩,
   ⟨some 13, .mov (.t 4), none⟩,
   ⟨some 14, .ixa 1 (.t 12) (.t 13), none⟩,
   ⟨some 15, .load none (.t 14), none⟩,
   ⟨some 5, .mov (.t 15), none⟩]) (.seq (.seq (.region false [⟨some 16, .mov (.t 4), none⟩,
   ⟨some 17, .bin .add false (.t 16) (.c (iv 1)), none⟩,
   ⟨some 18, .mov (.t 0), none⟩,
   ⟨some 19, .len (.t 18), none⟩,
   ⟨some 20, .bin .lss false (.t 17) (.t 19), none⟩]) (.cond (.t 20) (.region false [⟨some 21, .mov (.t 5), none⟩,
   ⟨some 22, .mov (.t 0), none⟩,
   ⟨some 23, .mov (.t 4), none⟩,
   ⟨some 24, .bin .add false (.t 23) (.c (iv 1)), none⟩,
   ⟨some 25, .ixa 1 (.t 22) (.t 24), none⟩,
   ⟨some 26, .load none (.t 25), none⟩,
   ⟨some 27, .bin .mul false (.t 26) (.c (nv 4294967296)), none⟩,
   ⟨some 28, .bin .add false (.t 21) (.t 27), none⟩,
   ⟨some 5, .mov (.t 28), none⟩]) .skip)) (.region false [⟨some 29, .mov (.t 3), none⟩,
   ⟨some 30, .mov (.t 5), none⟩,
   ⟨some 31, .bsl true 1 1 [.int .u64 0] [(0, (1, .t 30))], none⟩,
   ⟨some 32, .app 1 8 [.int .u64 0] (.t 29) (.t 31), none⟩,
   ⟨some 3, .mov (.t 32), none⟩])))) (.region false [⟨some 10, .mov (.t 4), none⟩,
   ⟨some 11, .bin .add false (.t 10) (.c (iv 2)), none⟩,
   ⟨some 4, .mov (.t 11), none⟩])))))) (.seq (.region false [⟨some 33, .mov (.t 3), none⟩,
   ⟨some 2, .mov (.t 33), none⟩]) .ret)))
def R.surdref01_Num_Limbs : List VRes := [.tmp 2]
theorem K.surdref01_Num_Limbs : resCode Try.prog Try.f58.ntmps (Try.f58.body.getD .skip) = C.surdref01_Num_Limbs := by kernel_rfl
theorem Q.surdref01_Num_Limbs : resResults Try.prog Try.f58.results.toList = some R.surdref01_Num_Limbs := by kernel_rfl
theorem E.surdref01_Num_Limbs : Try.prog.funcs[F.surdref01_Num_Limbs]? = some Try.f58 := Try.func58
theorem B.surdref01_Num_Limbs : Try.f58.body = some (Try.f58.body.getD .skip) := by kernel_rfl
theorem N.surdref01_Num_Limbs : Try.f58.ntmps = 34 := Try.ntmps58

def C.mul_Square : VC :=
  .seq (.region false [⟨some 2, .mov (.c nil1), none⟩,
   ⟨some 3, .mov (.c (iv 0)), none⟩]) (.seq (.region false [⟨some 4, .mov (.t 0), none⟩,
   ⟨some 5, .mov (.t 0), none⟩,
   ⟨some 6, .call F.mul_Mul [.t 4, .t 5], none⟩,
   ⟨some 7, .ext (.t 6) 0, none⟩,
   ⟨some 8, .ext (.t 6) 1, none⟩,
   ⟨some 2, .mov (.t 7), none⟩,
   ⟨some 3, .mov (.t 8), none⟩]) .ret)
def R.mul_Square : List VRes := [.tmp 2, .tmp 3]
theorem K.mul_Square : resCode Try.prog Try.f59.ntmps (Try.f59.body.getD .skip) = C.mul_Square := by kernel_rfl
theorem Q.mul_Square : resResults Try.prog Try.f59.results.toList = some R.mul_Square := by kernel_rfl
theorem E.mul_Square : Try.prog.funcs[F.mul_Square]? = some Try.f59 := Try.func59
theorem B.mul_Square : Try.f59.body = some (Try.f59.body.getD .skip) := by kernel_rfl
theorem N.mul_Square : Try.f59.ntmps = 9 := Try.ntmps59

def C.nat_Compare : VC :=
  .seq (.region false [⟨some 4, .mov (.c (iv 0)), none⟩]) (.seq (.region false [⟨some 6, .mov (.t 0), none⟩,
   ⟨some 7, .call F.nat_trim [.t 6], none⟩,
   ⟨some 8, .mov (.t 1), none⟩,
   ⟨some 9, .call F.nat_trim [.t 8], none⟩,
   ⟨some 0, .mov (.t 7), none⟩,
   ⟨some 1, .mov (.t 9), none⟩]) (.seq (.seq (.region false [⟨some 10, .mov (.t 0), none⟩,
   ⟨some 11, .len (.t 10), none⟩,
   ⟨some 12, .mov (.t 1), none⟩,
   ⟨some 13, .len (.t 12), none⟩,
   ⟨some 14, .bin .neq false (.t 11) (.t 13), none⟩]) (.cond (.t 14) (.seq (.seq (.region false [⟨some 15, .mov (.t 0), none⟩,
   ⟨some 16, .len (.t 15), none⟩,
   ⟨some 17, .mov (.t 1), none⟩,
   ⟨some 18, .len (.t 17), none⟩,
   ⟨some 19, .bin .lss false (.t 16) (.t 18), none⟩]) (.cond (.t 19) (.seq (.region false [⟨some 4, .mov (.c (iv (-1))), none⟩]) .ret) .skip)) (.seq (.region false [⟨some 4, .mov (.c (iv 1)), none⟩]) .ret)) .skip)) (.seq (.seq (.region false [⟨some 20, .mov (.t 0), none⟩,
   ⟨some 21, .len (.t 20), none⟩,
   ⟨some 22, .bin .sub false (.t 21) (.c (iv 1)), none⟩,
   ⟨some 5, .mov (.t 22), none⟩]) (.block 0 (.loop (.seq (.seq (.region false [⟨some 23, .mov (.t 5), none⟩,
   ⟨some 24, .bin .geq false (.t 23) (.c (iv 0)), none⟩]) (.cond (.t 24) .skip (.exit 0))) (.seq (.block 1 (.seq (.seq (.region true [⟨some 27, .mov (.t 0), none⟩,
   ⟨some 28, .mov (.t 5), none⟩,
   ⟨some 29, .ixa 1 (.t 27) (.t 28), none⟩,
   ⟨some 30, .load none (.t 29), none⟩,
   ⟨some 31, .mov (.t 1), none⟩,
   ⟨some 32, .mov (.t 5), none⟩,
   ⟨some 33, .ixa 1 (.t 31) (.t 32), none⟩,
   ⟨some 34, .load none (.t 33), none⟩,
   ⟨some 35, .bin .lss false (.t 30) (.t 34), none⟩]) (.cond (.t 35) (.seq (.region false [⟨some 4, .mov (.c (iv (-1))), none⟩]) .ret) .skip)) (.seq (.region true [⟨some 36, .mov (.t 0), none⟩,
   ⟨some 37, .mov (.t 5), none⟩,
   ⟨some 38, .ixa 1 (.t 36) (.t 37), none⟩,
   ⟨some 39, .load none (.t 38), none⟩,
   ⟨some 40, .mov (.t 1), none⟩,
   ⟨some 41, .mov (.t 5), none⟩,
   ⟨some 42, .ixa 1 (.t 40) (.t 41), none⟩,
   ⟨some 43, .load none (.t 42), none⟩,
   ⟨some 44, .bin .gtr false (.t 39) (.t 43), none⟩]) (.cond (.t 44) (.seq (.region false [⟨some 4, .mov (.c (iv 1)), none⟩]) .ret) .skip)))) (.region false [⟨some 25, .mov (.t 5), none⟩,
   ⟨some 26, .bin .sub false (.t 25) (.c (iv 1)), none⟩,
   ⟨some 5, .mov (.t 26), none⟩])))))) (.seq (.region false [⟨some 4, .mov (.c (iv 0)), none⟩]) .ret))))
def R.nat_Compare : List VRes := [.tmp 4]
theorem K.nat_Compare : resCode Try.prog Try.f60.ntmps (Try.f60.body.getD .skip) = C.nat_Compare := by kernel_rfl
theorem Q.nat_Compare : resResults Try.prog Try.f60.results.toList = some R.nat_Compare := by kernel_rfl
theorem E.nat_Compare : Try.prog.funcs[F.nat_Compare]? = some Try.f60 := Try.func60
theorem B.nat_Compare : Try.f60.body = some (Try.f60.body.getD .skip) := by kernel_rfl
theorem N.nat_Compare : Try.f60.ntmps = 45 := Try.ntmps60

def C.mul_Mul : VC :=
  .seq (.region false [⟨some 4, .mov (.c nil1), none⟩,
   ⟨some 5, .mov (.c (iv 0)), none⟩]) (.seq (.region false [⟨some 6, .mov (.t 0), none⟩,
   ⟨some 7, .mov (.t 1), none⟩,
   ⟨some 8, .call F.mul_product [.t 6, .t 7, .c (.lit (.func (.func F.mul_Mul_1) #[] #[]))], none⟩,
   ⟨some 9, .ext (.t 8) 0, none⟩,
   ⟨some 10, .ext (.t 8) 1, none⟩,
   ⟨some 4, .mov (.t 9), none⟩,
   ⟨some 5, .mov (.t 10), none⟩]) .ret)
def R.mul_Mul : List VRes := [.tmp 4, .tmp 5]
theorem K.mul_Mul : resCode Try.prog Try.f61.ntmps (Try.f61.body.getD .skip) = C.mul_Mul := by kernel_rfl
theorem Q.mul_Mul : resResults Try.prog Try.f61.results.toList = some R.mul_Mul := by kernel_rfl
theorem E.mul_Mul : Try.prog.funcs[F.mul_Mul]? = some Try.f61 := Try.func61
theorem B.mul_Mul : Try.f61.body = some (Try.f61.body.getD .skip) := by kernel_rfl
theorem N.mul_Mul : Try.f61.ntmps = 11 := Try.ntmps61

def C.surdref04_told : VC :=
  .seq (.region false [⟨some 4, .mov (.c nil1), none⟩,
   ⟨some 5, .mov (.c nil1), none⟩,
   ⟨some 6, .mov (.c (iv 0)), none⟩]) (.seq (.seq (.region false [⟨some 7, .mov (.t 0), none⟩,
   ⟨some 8, .call F.surdref01_Num_Len [.t 7], none⟩,
   ⟨some 9, .bin .gtr false (.t 8) (.c (iv 67108864)), none⟩,
   ⟨some 10, .mov (.t 9), none⟩,
   ⟨some 11, .mov (.t 1), some (10, false)⟩,
   ⟨some 12, .call F.surdref01_Num_Len [.t 11], some (10, false)⟩,
   ⟨some 13, .bin .gtr false (.t 12) (.c (iv 67108864)), some (10, false)⟩,
   ⟨some 14, .pick (.t 10) (.c (bv true)) (.t 13), none⟩]) (.cond (.t 14) (.seq (.region false [⟨some 4, .mov (.c nil1), none⟩,
   ⟨some 5, .mov (.c nil1), none⟩,
   ⟨some 6, .mov (.c (iv 3)), none⟩]) .ret) .skip)) (.seq (.region false [⟨some 15, .mov (.t 0), none⟩,
   ⟨some 16, .mov (.t 1), none⟩,
   ⟨some 4, .mov (.t 15), none⟩,
   ⟨some 5, .mov (.t 16), none⟩,
   ⟨some 6, .mov (.c (iv 0)), none⟩]) .ret))
def R.surdref04_told : List VRes := [.tmp 4, .tmp 5, .tmp 6]
theorem K.surdref04_told : resCode Try.prog Try.f62.ntmps (Try.f62.body.getD .skip) = C.surdref04_told := by kernel_rfl
theorem Q.surdref04_told : resResults Try.prog Try.f62.results.toList = some R.surdref04_told := by kernel_rfl
theorem E.surdref04_told : Try.prog.funcs[F.surdref04_told]? = some Try.f62 := Try.func62
theorem B.surdref04_told : Try.f62.body = some (Try.f62.body.getD .skip) := by kernel_rfl
theorem N.surdref04_told : Try.f62.ntmps = 17 := Try.ntmps62

def C.surdref01_Shr : VC :=
  .seq (.region false [⟨some 4, .mov (.c nil1), none⟩]) (.seq (.seq (.region false [⟨some 9, .mov (.t 1), none⟩,
   ⟨some 10, .bin .quo false (.t 9) (.c (iv 32)), none⟩,
   ⟨some 11, .mov (.t 0), none⟩,
   ⟨some 12, .len (.t 11), none⟩,
   ⟨some 13, .bin .geq false (.t 10) (.t 12), none⟩]) (.cond (.t 13) (.seq (.region false [⟨some 4, .mov (.c nil1), none⟩]) .ret) .skip)) (.seq (.region false [⟨some 14, .mov (.t 0), none⟩,
   ⟨some 15, .len (.t 14), none⟩,
   ⟨some 16, .mov (.t 1), none⟩,
   ⟨some 17, .bin .quo false (.t 16) (.c (iv 32)), none⟩,
   ⟨some 18, .bin .sub false (.t 15) (.t 17), none⟩,
   ⟨some 19, .mk [.int .u64 0] 8 (.t 18) (.t 18), none⟩,
   ⟨some 5, .mov (.t 19), none⟩]) (.seq (.region false [⟨some 20, .mov (.t 1), none⟩,
   ⟨some 21, .bin .rem false (.t 20) (.c (iv 32)), none⟩,
   ⟨some 6, .mov (.t 21), none⟩]) (.seq (.seq (.region false [⟨some 22, .mov (.t 5), none⟩,
   ⟨some 23, .len (.t 22), none⟩,
   ⟨some 24, .mov (.c (iv 0)), none⟩]) (.block 0 (.loop (.seq (.region false [⟨some 25, .bin .lss false (.t 24) (.t 23), none⟩]) (.seq (.cond (.t 25) .skip (.exit 0)) (.seq (.block 1 (.seq (.region false [⟨some 26, .mov (.t 24), none⟩,
   ⟨some 7, .mov (.t 26), none⟩]) (.seq (.region true [⟨some 27, .mov (.t 0), none⟩,
   ⟨some 28, .mov (.t 7), none⟩,
   ⟨some 29, .mov (.t 1), none⟩,
   ⟨some 30, .bin .quo false (.t 29) (.c (iv 32)), none⟩,
   ⟨some 31, .bin .add false (.t 28) (.t 30), none⟩,
   ⟨some 32, .ixa 1 (.t 27) (.t 31), none⟩,
   ⟨some 33, .load none (.t 32), none⟩,
   ⟨some 34, .mov (.t 0), none⟩,
   ⟨some 35, .mov (.t 7), none⟩,
   ⟨some 36, .mov (.t 1), none⟩,
   ⟨some 37, .bin .quo false (.t 36) (.c (iv 32)), none⟩,
   ⟨some 38, .bin .add false (.t 35) (.t 37), none⟩,
   ⟨some 39, .bin .add false (.t 38) (.c (iv 1)), none⟩,
   ⟨some 40, .call F.surdref01_Num_at [.t 34, .t 39], none⟩,
   ⟨some 41, .bin .mul false (.t 40) (.c (nv 4294967296)), none⟩,
   ⟨some 42, .bin .add false (.t 33) (.t 41), none⟩,
   ⟨some 8, .mov (.t 42), none⟩]) (.region false [⟨some 43, .mov (.t 5), none⟩,
   ⟨some 44, .mov (.t 7), none⟩,
   ⟨some 45, .mov (.t 8), none⟩,
   ⟨some 46, .mov (.t 6), none⟩,
   ⟨some 47, .bin .shr false (.t 45) (.t 46), none⟩,
   ⟨some 48, .bin .rem false (.t 47) (.c (nv 4294967296)), none⟩,
   ⟨some 49, .ixa 1 (.t 43) (.t 44), none⟩,
   ⟨none, .store 1 (.t 49) (.t 48), none⟩])))) (.region false [⟨some 50, .bin .add false (.t 24) (.c (iv 1)), none⟩,
   ⟨some 24, .mov (.t 50), none⟩]))))))) (.seq (.region false [⟨some 51, .mov (.t 5), none⟩,
   ⟨some 52, .call F.surdref01_norm [.t 51], none⟩,
   ⟨some 4, .mov (.t 52), none⟩]) .ret)))))
def R.surdref01_Shr : List VRes := [.tmp 4]
theorem K.surdref01_Shr : resCode Try.prog Try.f63.ntmps (Try.f63.body.getD .skip) = C.surdref01_Shr := by kernel_rfl
theorem Q.surdref01_Shr : resResults Try.prog Try.f63.results.toList = some R.surdref01_Shr := by kernel_rfl
theorem E.surdref01_Shr : Try.prog.funcs[F.surdref01_Shr]? = some Try.f63 := Try.func63
theorem B.surdref01_Shr : Try.f63.body = some (Try.f63.body.getD .skip) := by kernel_rfl
theorem N.surdref01_Shr : Try.f63.ntmps = 53 := Try.ntmps63

def C.div_Quo : VC :=
  .seq (.region false [⟨some 4, .mov (.c nil1), none⟩,
   ⟨some 5, .mov (.c (iv 0)), none⟩]) (.seq (.region false [⟨some 8, .mov (.t 0), none⟩,
   ⟨some 9, .call F.nat_Norm [.t 8], none⟩,
   ⟨some 10, .mov (.t 1), none⟩,
   ⟨some 11, .call F.nat_Norm [.t 10], none⟩,
   ⟨some 0, .mov (.t 9), none⟩,
   ⟨some 1, .mov (.t 11), none⟩]) (.seq (.seq (.region false [⟨some 12, .mov (.t 1), none⟩,
   ⟨some 13, .len (.t 12), none⟩,
   ⟨some 14, .bin .eql false (.t 13) (.c (iv 0)), none⟩]) (.cond (.t 14) (.seq (.region false [⟨some 4, .mov (.c nil1), none⟩,
   ⟨some 5, .mov (.c (iv 30)), none⟩]) .ret) .skip)) (.seq (.region false [⟨some 16, .mov (.t 0), none⟩,
   ⟨some 17, .mov (.t 1), none⟩,
   ⟨some 18, .call F.div_divide [.t 16, .t 17], none⟩,
   ⟨some 15, .mov (.t 18), none⟩,
   ⟨some 19, .ext (.t 15) 0, none⟩,
   ⟨some 20, .ext (.t 15) 1, none⟩,
   ⟨some 6, .mov (.t 19), none⟩,
   ⟨some 7, .mov (.t 20), none⟩]) (.seq (.seq (.region false [⟨some 21, .mov (.t 6), none⟩,
   ⟨some 22, .call F.nat_Length [.t 21], none⟩,
   ⟨some 23, .bin .gtr false (.t 22) (.c (iv 67108864)), none⟩]) (.cond (.t 23) (.seq (.region false [⟨some 4, .mov (.c nil1), none⟩,
   ⟨some 5, .mov (.c (iv 3)), none⟩]) .ret) .skip)) (.seq (.region false [⟨some 24, .mov (.t 6), none⟩,
   ⟨some 4, .mov (.t 24), none⟩,
   ⟨some 5, .mov (.c (iv 0)), none⟩]) .ret)))))
def R.div_Quo : List VRes := [.tmp 4, .tmp 5]
theorem K.div_Quo : resCode Try.prog Try.f64.ntmps (Try.f64.body.getD .skip) = C.div_Quo := by kernel_rfl
theorem Q.div_Quo : resResults Try.prog Try.f64.results.toList = some R.div_Quo := by kernel_rfl
theorem E.div_Quo : Try.prog.funcs[F.div_Quo]? = some Try.f64 := Try.func64
theorem B.div_Quo : Try.f64.body = some (Try.f64.body.getD .skip) := by kernel_rfl
theorem N.div_Quo : Try.f64.ntmps = 25 := Try.ntmps64

def C.nat_Right : VC :=
  .seq (.region false [⟨some 4, .mov (.c nil1), none⟩,
   ⟨some 5, .mov (.c (iv 0)), none⟩]) (.seq (.seq (.region false [⟨some 10, .mov (.t 1), none⟩,
   ⟨some 11, .bin .lss false (.t 10) (.c (iv 0)), none⟩,
   ⟨some 12, .mov (.t 11), none⟩,
   ⟨some 13, .mov (.t 1), some (12, false)⟩,
   ⟨some 14, .bin .gtr false (.t 13) (.c (iv 1099511627776)), some (12, false)⟩,
   ⟨some 15, .pick (.t 12) (.c (bv true)) (.t 14), none⟩]) (.cond (.t 15) (.seq (.region false [⟨some 4, .mov (.c nil1), none⟩,
   ⟨some 5, .mov (.c (iv 1)), none⟩]) .ret) .skip)) (.seq (.region false [⟨some 16, .mov (.t 0), none⟩,
   ⟨some 17, .call F.nat_trim [.t 16], none⟩,
   ⟨some 0, .mov (.t 17), none⟩]) (.seq (.region false [⟨some 18, .mov (.t 1), none⟩,
   ⟨some 19, .bin .quo false (.t 18) (.c (iv 64)), none⟩,
   ⟨some 20, .mov (.t 1), none⟩,
   ⟨some 21, .bin .rem false (.t 20) (.c (iv 64)), none⟩,
   ⟨some 22, .conv .u64 (.t 21), none⟩,
   ⟨some 6, .mov (.t 19), none⟩,
   ⟨some 7, .mov (.t 22), none⟩]) (.seq (.seq (.region false [⟨some 23, .mov (.t 6), none⟩,
   ⟨some 24, .mov (.t 0), none⟩,
   ⟨some 25, .len (.t 24), none⟩,
   ⟨some 26, .bin .geq false (.t 23) (.t 25), none⟩]) (.cond (.t 26) (.seq (.region false [⟨some 4, .mov (.c nil1), none⟩,
   ⟨some 5, .mov (.c (iv 0)), none⟩]) .ret) .skip)) (.seq (.region false [⟨some 27, .mov (.t 0), none⟩,
   ⟨some 28, .len (.t 27), none⟩,
   ⟨some 29, .mov (.t 6), none⟩,
   ⟨some 30, .bin .sub false (.t 28) (.t 29), none⟩,
   ⟨some 31, .mk [.int .u64 0] 8 (.t 30) (.t 30), none⟩,
   ⟨some 8, .mov (.t 31), none⟩]) (.seq (.seq (.region false [⟨some 32, .mov (.t 8), none⟩,
   ⟨some 33, .len (.t 32), none⟩,
   ⟨some 34, .mov (.c (iv 0)), none⟩]) (.block 0 (.loop (.seq (.region false [⟨some 35, .bin .lss false (.t 34) (.t 33), none⟩]) (.seq (.cond (.t 35) .skip (.exit 0)) (.seq (.block 1 (.seq (.region false [⟨some 36, .mov (.t 34), none⟩,
   ⟨some 9, .mov (.t 36), none⟩]) (.seq (.region false [⟨some 37, .mov (.t 8), none⟩,
   ⟨some 38, .mov (.t 9), none⟩,
   ⟨some 39, .mov (.t 0), none⟩,
   ⟨some 40, .mov (.t 6), none⟩,
   ⟨some 41, .mov (.t 9), none⟩,
   ⟨some 42, .bin .add false (.t 40) (.t 41), none⟩,
   ⟨some 43, .ixa 1 (.t 39) (.t 42), none⟩,
   ⟨some 44, .load none (.t 43), none⟩,
   ⟨some 45, .mov (.t 7), none⟩,
   ⟨some 46, .bin .shr false (.t 44) (.t 45), none⟩,
   ⟨some 47, .ixa 1 (.t 37) (.t 38), none⟩,
   ⟨none, .store 1 (.t 47) (.t 46), none⟩]) (.seq (.region false [⟨some 48, .mov (.t 6), none⟩,
   ⟨some 49, .mov (.t 9), none⟩,
   ⟨some 50, .bin .add false (.t 48) (.t 49), none⟩,
   ⟨some 51, .bin .add false (.t 50) (.c (iv 1)), none⟩,
   ⟨some 52, .mov (.t 0), none⟩,
   ⟨some 53, .len (.t 52), none⟩,
   ⟨some 54, .bin .lss false (.t 51) (.t 53), none⟩]) (.cond (.t 54) (.region true [⟨some 55, .mov (.t 8), none⟩,
   ⟨some 56, .mov (.t 9), none⟩,
   ⟨some 57, .ixa 1 (.t 55) (.t 56), none⟩,
   ⟨some 58, .load none (.t 57), none⟩,
   ⟨some 59, .mov (.t 0), none⟩,
   ⟨some 60, .mov (.t 6), none⟩,
   ⟨some 61, .mov (.t 9), none⟩,
   ⟨some 62, .bin .add false (.t 60) (.t 61), none⟩,
   ⟨some 63, .bin .add false (.t 62) (.c (iv 1)), none⟩,
   ⟨some 64, .ixa 1 (.t 59) (.t 63), none⟩,
   ⟨some 65, .load none (.t 64), none⟩,
   ⟨some 66, .bin .shl false (.t 65) (.c (nv 1)), none⟩,
   ⟨some 67, .mov (.t 7), none⟩,
   ⟨some 68, .bin .sub false (.c (nv 63)) (.t 67), none⟩,
   ⟨some 69, .bin .shl false (.t 66) (.t 68), none⟩,
   ⟨some 70, .bin .or false (.t 58) (.t 69), none⟩,
   ⟨some 71, .ixa 1 (.t 55) (.t 56), none⟩,
   ⟨none, .store 1 (.t 71) (.t 70), none⟩]) .skip))))) (.region false [⟨some 72, .bin .add false (.t 34) (.c (iv 1)), none⟩,
   ⟨some 34, .mov (.t 72), none⟩]))))))) (.seq (.region false [⟨some 73, .mov (.t 8), none⟩,
   ⟨some 74, .call F.nat_told [.t 73], none⟩,
   ⟨some 75, .ext (.t 74) 0, none⟩,
   ⟨some 76, .ext (.t 74) 1, none⟩,
   ⟨some 4, .mov (.t 75), none⟩,
   ⟨some 5, .mov (.t 76), none⟩]) .ret)))))))
def R.nat_Right : List VRes := [.tmp 4, .tmp 5]
theorem K.nat_Right : resCode Try.prog Try.f65.ntmps (Try.f65.body.getD .skip) = C.nat_Right := by kernel_rfl
theorem Q.nat_Right : resResults Try.prog Try.f65.results.toList = some R.nat_Right := by kernel_rfl
theorem E.nat_Right : Try.prog.funcs[F.nat_Right]? = some Try.f65 := Try.func65
theorem B.nat_Right : Try.f65.body = some (Try.f65.body.getD .skip) := by kernel_rfl
theorem N.nat_Right : Try.f65.ntmps = 77 := Try.ntmps65

def C.nat_Bit : VC :=
  .seq (.region false [⟨some 4, .mov (.c (iv 0)), none⟩]) (.seq (.seq (.region false [⟨some 5, .mov (.t 1), none⟩,
   ⟨some 6, .bin .lss false (.t 5) (.c (iv 0)), none⟩,
   ⟨some 7, .mov (.t 6), none⟩,
   ⟨some 8, .mov (.t 1), some (7, false)⟩,
   ⟨some 9, .bin .quo false (.t 8) (.c (iv 64)), some (7, false)⟩,
   ⟨some 10, .mov (.t 0), some (7, false)⟩,
   ⟨some 11, .len (.t 10), some (7, false)⟩,
   ⟨some 12, .bin .geq false (.t 9) (.t 11), some (7, false)⟩,
   ⟨some 13, .pick (.t 7) (.c (bv true)) (.t 12), none⟩]) (.cond (.t 13) (.seq (.region false [⟨some 4, .mov (.c (iv 0)), none⟩]) .ret) .skip)) (.seq (.region false [⟨some 14, .mov (.t 0), none⟩,
   ⟨some 15, .mov (.t 1), none⟩,
   ⟨some 16, .bin .quo false (.t 15) (.c (iv 64)), none⟩,
   ⟨some 17, .ixa 1 (.t 14) (.t 16), none⟩,
   ⟨some 18, .load none (.t 17), none⟩,
   ⟨some 19, .mov (.t 1), none⟩,
   ⟨some 20, .bin .rem false (.t 19) (.c (iv 64)), none⟩,
   ⟨some 21, .conv .u64 (.t 20), none⟩,
   ⟨some 22, .bin .shr false (.t 18) (.t 21), none⟩,
   ⟨some 23, .bin .and false (.t 22) (.c (nv 1)), none⟩,
   ⟨some 24, .conv .i64 (.t 23), none⟩,
   ⟨some 4, .mov (.t 24), none⟩]) .ret))
def R.nat_Bit : List VRes := [.tmp 4]
theorem K.nat_Bit : resCode Try.prog Try.f66.ntmps (Try.f66.body.getD .skip) = C.nat_Bit := by kernel_rfl
theorem Q.nat_Bit : resResults Try.prog Try.f66.results.toList = some R.nat_Bit := by kernel_rfl
theorem E.nat_Bit : Try.prog.funcs[F.nat_Bit]? = some Try.f66 := Try.func66
theorem B.nat_Bit : Try.f66.body = some (Try.f66.body.getD .skip) := by kernel_rfl
theorem N.nat_Bit : Try.f66.ntmps = 25 := Try.ntmps66

def C.surdref01_Num_at : VC :=
  .seq (.region false [⟨some 4, .mov (.c (nv 0)), none⟩]) (.seq (.seq (.region false [⟨some 5, .mov (.t 1), none⟩,
   ⟨some 6, .mov (.t 0), none⟩,
   ⟨some 7, .len (.t 6), none⟩,
   ⟨some 8, .bin .lss false (.t 5) (.t 7), none⟩]) (.cond (.t 8) (.seq (.region false [⟨some 9, .mov (.t 0), none⟩,
   ⟨some 10, .mov (.t 1), none⟩,
   ⟨some 11, .ixa 1 (.t 9) (.t 10), none⟩,
   ⟨some 12, .load none (.t 11), none⟩,
   ⟨some 4, .mov (.t 12), none⟩]) .ret) .skip)) (.seq (.region false [⟨some 4, .mov (.c (nv 0)), none⟩]) .ret))
def R.surdref01_Num_at : List VRes := [.tmp 4]
theorem K.surdref01_Num_at : resCode Try.prog Try.f67.ntmps (Try.f67.body.getD .skip) = C.surdref01_Num_at := by kernel_rfl
theorem Q.surdref01_Num_at : resResults Try.prog Try.f67.results.toList = some R.surdref01_Num_at := by kernel_rfl
theorem E.surdref01_Num_at : Try.prog.funcs[F.surdref01_Num_at]? = some Try.f67 := Try.func67
theorem B.surdref01_Num_at : Try.f67.body = some (Try.f67.body.getD .skip) := by kernel_rfl
theorem N.surdref01_Num_at : Try.f67.ntmps = 13 := Try.ntmps67

def C.roots_next : VC :=
  .seq (.region false [⟨some 6, .mov (.c nil1), none⟩]) (.seq (.region false [⟨some 12, .mov (.t 1), none⟩,
   ⟨some 13, .mov (.t 0), none⟩,
   ⟨some 14, .call F.nat_Times [.t 12, .t 13], none⟩,
   ⟨some 11, .mov (.t 14), none⟩,
   ⟨some 15, .ext (.t 11) 0, none⟩,
   ⟨some 16, .ext (.t 11) 1, none⟩,
   ⟨some 7, .mov (.t 15), none⟩,
   ⟨some 8, .mov (.t 16), none⟩]) (.seq (.region false [⟨some 18, .mov (.t 7), none⟩,
   ⟨some 19, .mov (.t 2), none⟩,
   ⟨some 20, .call F.nat_Add [.t 18, .t 19], none⟩,
   ⟨some 17, .mov (.t 20), none⟩,
   ⟨some 21, .ext (.t 17) 0, none⟩,
   ⟨some 22, .ext (.t 17) 1, none⟩,
   ⟨some 9, .mov (.t 21), none⟩,
   ⟨some 10, .mov (.t 22), none⟩]) (.seq (.region false [⟨some 23, .mov (.t 9), none⟩,
   ⟨some 6, .mov (.t 23), none⟩]) .ret)))
def R.roots_next : List VRes := [.tmp 6]
theorem K.roots_next : resCode Try.prog Try.f68.ntmps (Try.f68.body.getD .skip) = C.roots_next := by kernel_rfl
theorem Q.roots_next : resResults Try.prog Try.f68.results.toList = some R.roots_next := by kernel_rfl
theorem E.roots_next : Try.prog.funcs[F.roots_next]? = some Try.f68 := Try.func68
theorem B.roots_next : Try.f68.body = some (Try.f68.body.getD .skip) := by kernel_rfl
theorem N.roots_next : Try.f68.ntmps = 24 := Try.ntmps68

def C.nat_trim : VC :=
  .seq (.region false [⟨some 2, .mov (.c nil1), none⟩]) (.seq (.block 0 (.loop (.seq (.seq (.region false [⟨some 3, .mov (.t 0), none⟩,
   ⟨some 4, .len (.t 3), none⟩,
   ⟨some 5, .bin .gtr false (.t 4) (.c (iv 0)), none⟩,
   ⟨some 6, .mov (.t 5), none⟩,
   ⟨some 7, .mov (.t 0), some (6, true)⟩,
   ⟨some 8, .mov (.t 0), some (6, true)⟩,
   ⟨some 9, .len (.t 8), some (6, true)⟩,
   ⟨some 10, .bin .sub false (.t 9) (.c (iv 1)), some (6, true)⟩,
   ⟨some 11, .ixa 1 (.t 7) (.t 10), some (6, true)⟩,
   ⟨some 12, .load none (.t 11), some (6, true)⟩,
   ⟨some 13, .bin .eql false (.t 12) (.c (nv 0)), some (6, true)⟩,
   ⟨some 14, .pick (.t 6) (.t 13) (.c (bv false)), none⟩]) (.cond (.t 14) .skip (.exit 0))) (.block 1 (.region false [⟨some 15, .mov (.t 0), none⟩,
   ⟨some 16, .mov (.t 0), none⟩,
   ⟨some 17, .len (.t 16), none⟩,
   ⟨some 18, .bin .sub false (.t 17) (.c (iv 1)), none⟩,
   ⟨some 19, .slc 1 (.t 15) none (some (.t 18)) none, none⟩,
   ⟨some 0, .mov (.t 19), none⟩]))))) (.seq (.region false [⟨some 20, .mov (.t 0), none⟩,
   ⟨some 2, .mov (.t 20), none⟩]) .ret))
def R.nat_trim : List VRes := [.tmp 2]
theorem K.nat_trim : resCode Try.prog Try.f69.ntmps (Try.f69.body.getD .skip) = C.nat_trim := by kernel_rfl
theorem Q.nat_trim : resResults Try.prog Try.f69.results.toList = some R.nat_trim := by kernel_rfl
theorem E.nat_trim : Try.prog.funcs[F.nat_trim]? = some Try.f69 := Try.func69
theorem B.nat_trim : Try.f69.body = some (Try.f69.body.getD .skip) := by kernel_rfl
theorem N.nat_trim : Try.f69.ntmps = 21 := Try.ntmps69

def C.bits_Div64 : VC :=
  .seq (.region false [⟨some 6, .mov (.c (nv 0)), none⟩,
   ⟨some 7, .mov (.c (nv 0)), none⟩]) (.seq (.seq (.region false [⟨some 19, .mov (.t 2), none⟩,
   ⟨some 20, .bin .eql false (.t 19) (.c (nv 0)), none⟩]) (.cond (.t 20) (.region false [⟨some 21, .load none (.c (.gptr 0 0)), none⟩,
   ⟨none, .bad, none⟩]) .skip)) (.seq (.seq (.region false [⟨some 22, .mov (.t 2), none⟩,
   ⟨some 23, .mov (.t 0), none⟩,
   ⟨some 24, .bin .leq false (.t 22) (.t 23), none⟩]) (.cond (.t 24) (.region false [⟨some 25, .load none (.c (.gptr 1 0)), none⟩,
   ⟨none, .bad, none⟩]) .skip)) (.seq (.seq (.region false [⟨some 26, .mov (.t 0), none⟩,
   ⟨some 27, .bin .eql false (.t 26) (.c (nv 0)), none⟩]) (.cond (.t 27) (.seq (.region true [⟨some 28, .mov (.t 1), none⟩,
   ⟨some 29, .mov (.t 2), none⟩,
   ⟨some 30, .bin .quo false (.t 28) (.t 29), none⟩,
   ⟨some 31, .mov (.t 1), none⟩,
   ⟨some 32, .mov (.t 2), none⟩,
   ⟨some 33, .bin .rem false (.t 31) (.t 32), none⟩,
   ⟨some 6, .mov (.t 30), none⟩,
   ⟨some 7, .mov (.t 33), none⟩]) .ret) .skip)) (.seq (.region false [⟨some 34, .mov (.t 2), none⟩,
   ⟨some 35, .call F.bits_LeadingZeros64 [.t 34], none⟩,
   ⟨some 36, .conv .u64 (.t 35), none⟩,
   ⟨some 8, .mov (.t 36), none⟩]) (.seq (.region false [⟨some 37, .mov (.t 2), none⟩,
   ⟨some 38, .mov (.t 8), none⟩,
   ⟨some 39, .bin .shl false (.t 37) (.t 38), none⟩,
   ⟨some 2, .mov (.t 39), none⟩]) (.seq (.region false [⟨some 40, .mov (.t 2), none⟩,
   ⟨some 41, .bin .shr false (.t 40) (.c (nv 32)), none⟩,
   ⟨some 9, .mov (.t 41), none⟩]) (.seq (.region false [⟨some 42, .mov (.t 2), none⟩,
   ⟨some 43, .bin .and false (.t 42) (.c (nv 4294967295)), none⟩,
   ⟨some 10, .mov (.t 43), none⟩]) (.seq (.region false [⟨some 44, .mov (.t 0), none⟩,
   ⟨some 45, .mov (.t 8), none⟩,
   ⟨some 46, .bin .shl false (.t 44) (.t 45), none⟩,
   ⟨some 47, .mov (.t 1), none⟩,
   ⟨some 48, .mov (.t 8), none⟩,
   ⟨some 49, .bin .sub false (.c (nv 64)) (.t 48), none⟩,
   ⟨some 50, .bin .shr false (.t 47) (.t 49), none⟩,
   ⟨some 51, .bin .or false (.t 46) (.t 50), none⟩,
   ⟨some 11, .mov (.t 51), none⟩]) (.seq (.region false [⟨some 52, .mov (.t 1), none⟩,
   ⟨some 53, .mov (.t 8), none⟩,
   ⟨some 54, .bin .shl false (.t 52) (.t 53), none⟩,
   ⟨some 12, .mov (.t 54), none⟩]) (.seq (.region false [⟨some 55, .mov (.t 12), none⟩,
   ⟨some 56, .bin .shr false (.t 55) (.c (nv 32)), none⟩,
   ⟨some 13, .mov (.t 56), none⟩]) (.seq (.region false [⟨some 57, .mov (.t 12), none⟩,
   ⟨some 58, .bin .and false (.t 57) (.c (nv 4294967295)), none⟩,
   ⟨some 14, .mov (.t 58), none⟩]) (.seq (.region false [⟨some 59, .mov (.t 11), none⟩,
   ⟨some 60, .mov (.t 9), none⟩,
   ⟨some 61, .bin .quo false (.t 59) (.t 60), none⟩,
   ⟨some 15, .mov (.t 61), none⟩]) (.seq (.region false [⟨some 62, .mov (.t 11), none⟩,
   ⟨some 63, .mov (.t 15), none⟩,
   ⟨some 64, .mov (.t 9), none⟩,
   ⟨some 65, .bin .mul false (.t 63) (.t 64), none⟩,
   ⟨some 66, .bin .sub false (.t 62) (.t 65), none⟩,
   ⟨some 16, .mov (.t 66), none⟩]) (.seq (.block 0 (.loop (.seq (.seq (.region false [⟨some 67, .mov (.t 15), none⟩,
   ⟨some 68, .bin .geq false (.t 67) (.c (nv 4294967296)), none⟩,
   ⟨some 69, .mov (.t 68), none⟩,
   ⟨some 70, .mov (.t 15), some (69, false)⟩,
   ⟨some 71, .mov (.t 10), some (69, false)⟩,
   ⟨some 72, .bin .mul false (.t 70) (.t 71), some (69, false)⟩,
   ⟨some 73, .mov (.t 16), some (69, false)⟩,
   ⟨some 74, .bin .mul false (.c (nv 4294967296)) (.t 73), some (69, false)⟩,
   ⟨some 75, .mov (.t 13), some (69, false)⟩,
   ⟨some 76, .bin .add false (.t 74) (.t 75), some (69, false)⟩,
   ⟨some 77, .bin .gtr false (.t 72) (.t 76), some (69, false)⟩,
   ⟨some 78, .pick (.t 69) (.c (bv true)) (.t 77), none⟩]) (.cond (.t 78) .skip (.exit 0))) (.block 1 (.seq (.region false [⟨some 79, .mov (.t 15), none⟩,
   ⟨some 80, .bin .sub false (.t 79) (.c (nv 1)), none⟩,
   ⟨some 15, .mov (.t 80), none⟩]) (.seq (.region false [⟨some 81, .mov (.t 16), none⟩,
   ⟨some 82, .mov (.t 9), none⟩,
   ⟨some 83, .bin .add false (.t 81) (.t 82), none⟩,
   ⟨some 16, .mov (.t 83), none⟩]) (.seq (.region false [⟨some 84, .mov (.t 16), none⟩,
   ⟨some 85, .bin .geq false (.t 84) (.c (nv 4294967296)), none⟩]) (.cond (.t 85) (.exit 0) .skip)))))))) (.seq (.region false [⟨some 86, .mov (.t 11), none⟩,
   ⟨some 87, .bin .mul false (.t 86) (.c (nv 4294967296)), none⟩,
   ⟨some 88, .mov (.t 13), none⟩,
   ⟨some 89, .bin .add false (.t 87) (.t 88), none⟩,
   ⟨some 90, .mov (.t 15), none⟩,
   ⟨some 91, .mov (.t 2), none⟩,
   ⟨some 92, .bin .mul false (.t 90) (.t 91), none⟩,
   ⟨some 93, .bin .sub false (.t 89) (.t 92), none⟩,
   ⟨some 17, .mov (.t 93), none⟩]) (.seq (.region false [⟨some 94, .mov (.t 17), none⟩,
   ⟨some 95, .mov (.t 9), none⟩,
   ⟨some 96, .bin .quo false (.t 94) (.t 95), none⟩,
   ⟨some 18, .mov (.t 96), none⟩]) (.seq (.region false [⟨some 97, .mov (.t 17), none⟩,
   ⟨some 98, .mov (.t 18), none⟩,
   ⟨some 99, .mov (.t 9), none⟩,
   ⟨some 100, .bin .mul false (.t 98) (.t 99), none⟩,
   ⟨some 101, .bin .sub false (.t 97) (.t 100), none⟩,
   ⟨some 16, .mov (.t 101), none⟩]) (.seq (.block 2 (.loop (.seq (.seq (.region false [⟨some 102, .mov (.t 18), none⟩,
   ⟨some 103, .bin .geq false (.t 102) (.c (nv 4294967296)), none⟩,
   ⟨some 104, .mov (.t 103), none⟩,
   ⟨some 105, .mov (.t 18), some (104, false)⟩,
   ⟨some 106, .mov (.t 10), some (104, false)⟩,
   ⟨some 107, .bin .mul false (.t 105) (.t 106), some (104, false)⟩,
   ⟨some 108, .mov (.t 16), some (104, false)⟩,
   ⟨some 109, .bin .mul false (.c (nv 4294967296)) (.t 108), some (104, false)⟩,
   ⟨some 110, .mov (.t 14), some (104, false)⟩,
   ⟨some 111, .bin .add false (.t 109) (.t 110), some (104, false)⟩,
   ⟨some 112, .bin .gtr false (.t 107) (.t 111), some (104, false)⟩,
   ⟨some 113, .pick (.t 104) (.c (bv true)) (.t 112), none⟩]) (.cond (.t 113) .skip (.exit 2))) (.block 3 (.seq (.region false [⟨some 114, .mov (.t 18), none⟩,
   ⟨some 115, .bin .sub false (.t 114) (.c (nv 1)), none⟩,
   ⟨some 18, .mov (.t 115), none⟩]) (.seq (.region false [⟨some 116, .mov (.t 16), none⟩,
   ⟨some 117, .mov (.t 9), none⟩,
   ⟨some 118, .bin .add false (.t 116) (.t 117), none⟩,
   ⟨some 16, .mov (.t 118), none⟩]) (.seq (.region false [⟨some 119, .mov (.t 16), none⟩,
   ⟨some 120, .bin .geq false (.t 119) (.c (nv 4294967296)), none⟩]) (.cond (.t 120) (.exit 2) .skip)))))))) (.seq (.region false [⟨some 121, .mov (.t 15), none⟩,
   ⟨some 122, .bin .mul false (.t 121) (.c (nv 4294967296)), none⟩,
   ⟨some 123, .mov (.t 18), none⟩,
   ⟨some 124, .bin .add false (.t 122) (.t 123), none⟩,
   ⟨some 125, .mov (.t 17), none⟩,
   ⟨some 126, .bin .mul false (.t 125) (.c (nv 4294967296)), none⟩,
   ⟨some 127, .mov (.t 14), none⟩,
   ⟨some 128, .bin .add false (.t 126) (.t 127), none⟩,
   ⟨some 129, .mov (.t 18), none⟩,
   ⟨some 130, .mov (.t 2), none⟩,
   ⟨some 131, .bin .mul false (.t 129) (.t 130), none⟩,
   ⟨some 132, .bin .sub false (.t 128) (.t 131), none⟩,
   ⟨some 133, .mov (.t 8), none⟩,
   ⟨some 134, .bin .shr false (.t 132) (.t 133), none⟩,
   ⟨some 6, .mov (.t 124), none⟩,
   ⟨some 7, .mov (.t 134), none⟩]) .ret)))))))))))))))))))
def R.bits_Div64 : List VRes := [.tmp 6, .tmp 7]
theorem K.bits_Div64 : resCode Try.prog Try.f70.ntmps (Try.f70.body.getD .skip) = C.bits_Div64 := by kernel_rfl
theorem Q.bits_Div64 : resResults Try.prog Try.f70.results.toList = some R.bits_Div64 := by kernel_rfl
theorem E.bits_Div64 : Try.prog.funcs[F.bits_Div64]? = some Try.f70 := Try.func70
theorem B.bits_Div64 : Try.f70.body = some (Try.f70.body.getD .skip) := by kernel_rfl
theorem N.bits_Div64 : Try.f70.ntmps = 135 := Try.ntmps70

def C.nat_told : VC :=
  .seq (.region false [⟨some 2, .mov (.c nil1), none⟩,
   ⟨some 3, .mov (.c (iv 0)), none⟩]) (.seq (.region false [⟨some 4, .mov (.t 0), none⟩,
   ⟨some 5, .call F.nat_trim [.t 4], none⟩,
   ⟨some 0, .mov (.t 5), none⟩]) (.seq (.seq (.region false [⟨some 6, .mov (.t 0), none⟩,
   ⟨some 7, .call F.nat_Length [.t 6], none⟩,
   ⟨some 8, .bin .gtr false (.t 7) (.c (iv 67108864)), none⟩]) (.cond (.t 8) (.seq (.region false [⟨some 2, .mov (.c nil1), none⟩,
   ⟨some 3, .mov (.c (iv 3)), none⟩]) .ret) .skip)) (.seq (.region false [⟨some 9, .mov (.t 0), none⟩,
   ⟨some 2, .mov (.t 9), none⟩,
   ⟨some 3, .mov (.c (iv 0)), none⟩]) .ret)))
def R.nat_told : List VRes := [.tmp 2, .tmp 3]
theorem K.nat_told : resCode Try.prog Try.f71.ntmps (Try.f71.body.getD .skip) = C.nat_told := by kernel_rfl
theorem Q.nat_told : resResults Try.prog Try.f71.results.toList = some R.nat_told := by kernel_rfl
theorem E.nat_told : Try.prog.funcs[F.nat_told]? = some Try.f71 := Try.func71
theorem B.nat_told : Try.f71.body = some (Try.f71.body.getD .skip) := by kernel_rfl
theorem N.nat_told : Try.f71.ntmps = 10 := Try.ntmps71

def C.surdref01_Sub : VC :=
  .seq (.region false [⟨some 4, .mov (.c nil1), none⟩]) (.seq (.region false [⟨some 9, .mov (.t 0), none⟩,
   ⟨some 10, .len (.t 9), none⟩,
   ⟨some 11, .mk [.int .u64 0] 8 (.t 10) (.t 10), none⟩,
   ⟨some 5, .mov (.t 11), none⟩]) (.seq (.region false [⟨some 6, .mov (.c (nv 0)), none⟩]) (.seq (.seq (.region false [⟨some 12, .mov (.t 0), none⟩,
   ⟨some 13, .len (.t 12), none⟩,
   ⟨some 14, .mov (.c (iv 0)), none⟩]) (.block 0 (.loop (.seq (.region false [⟨some 15, .bin .lss false (.t 14) (.t 13), none⟩]) (.seq (.cond (.t 15) .skip (.exit 0)) (.seq (.block 1 (.seq (.region false [⟨some 16, .mov (.t 14), none⟩,
   ⟨some 7, .mov (.t 16), none⟩]) (.seq (.region true [⟨some 17, .mov (.t 0), none⟩,
   ⟨some 18, .mov (.t 7), none⟩,
   ⟨some 19, .ixa 1 (.t 17) (.t 18), none⟩,
   ⟨some 20, .load none (.t 19), none⟩,
   ⟨some 21, .bin .add false (.t 20) (.c (nv 4294967296)), none⟩,
   ⟨some 22, .mov (.t 1), none⟩,
   ⟨some 23, .mov (.t 7), none⟩,
   ⟨some 24, .call F.surdref01_Num_at [.t 22, .t 23], none⟩,
   ⟨some 25, .bin .sub false (.t 21) (.t 24), none⟩,
   ⟨some 26, .mov (.t 6), none⟩,
   ⟨some 27, .bin .sub false (.t 25) (.t 26), none⟩,
   ⟨some 8, .mov (.t 27), none⟩]) (.seq (.region false [⟨some 28, .mov (.t 5), none⟩,
   ⟨some 29, .mov (.t 7), none⟩,
   ⟨some 30, .mov (.t 8), none⟩,
   ⟨some 31, .bin .rem false (.t 30) (.c (nv 4294967296)), none⟩,
   ⟨some 32, .ixa 1 (.t 28) (.t 29), none⟩,
   ⟨none, .store 1 (.t 32) (.t 31), none⟩]) (.region false [⟨some 33, .mov (.t 8), none⟩,
   ⟨some 34, .bin .quo false (.t 33) (.c (nv 4294967296)), none⟩,
   ⟨some 35, .bin .sub false (.c (nv 1)) (.t 34), none⟩,
   ⟨some 6, .mov (.t 35), none⟩]))))) (.region false [⟨some 36, .bin .add false (.t 14) (.c (iv 1)), none⟩,
   ⟨some 14, .mov (.t 36), none⟩]))))))) (.seq (.region false [⟨some 37, .mov (.t 5), none⟩,
   ⟨some 38, .call F.surdref01_norm [.t 37], none⟩,
   ⟨some 4, .mov (.t 38), none⟩]) .ret))))
def R.surdref01_Sub : List VRes := [.tmp 4]
theorem K.surdref01_Sub : resCode Try.prog Try.f72.ntmps (Try.f72.body.getD .skip) = C.surdref01_Sub := by kernel_rfl
theorem Q.surdref01_Sub : resResults Try.prog Try.f72.results.toList = some R.surdref01_Sub := by kernel_rfl
theorem E.surdref01_Sub : Try.prog.funcs[F.surdref01_Sub]? = some Try.f72 := Try.func72
theorem B.surdref01_Sub : Try.f72.body = some (Try.f72.body.getD .skip) := by kernel_rfl
theorem N.surdref01_Sub : Try.f72.ntmps = 39 := Try.ntmps72

def C.nat_Norm : VC :=
  .seq (.region false [⟨some 2, .mov (.c nil1), none⟩]) (.seq (.region false [⟨some 3, .mov (.t 0), none⟩,
   ⟨some 4, .call F.nat_trim [.t 3], none⟩,
   ⟨some 5, .app 1 8 [.int .u64 0] (.c nil1) (.t 4), none⟩,
   ⟨some 2, .mov (.t 5), none⟩]) .ret)
def R.nat_Norm : List VRes := [.tmp 2]
theorem K.nat_Norm : resCode Try.prog Try.f73.ntmps (Try.f73.body.getD .skip) = C.nat_Norm := by kernel_rfl
theorem Q.nat_Norm : resResults Try.prog Try.f73.results.toList = some R.nat_Norm := by kernel_rfl
theorem E.nat_Norm : Try.prog.funcs[F.nat_Norm]? = some Try.f73 := Try.func73
theorem B.nat_Norm : Try.f73.body = some (Try.f73.body.getD .skip) := by kernel_rfl
theorem N.nat_Norm : Try.f73.ntmps = 6 := Try.ntmps73

def C.bits_Len64 : VC :=
  .seq (.region false [⟨some 2, .mov (.c (iv 0)), none⟩]) (.seq (.seq (.region false [⟨some 3, .mov (.t 0), none⟩,
   ⟨some 4, .bin .geq false (.t 3) (.c (nv 4294967296)), none⟩]) (.cond (.t 4) (.seq (.region false [⟨some 5, .mov (.t 0), none⟩,
   ⟨some 6, .bin .shr false (.t 5) (.c (nv 32)), none⟩,
   ⟨some 0, .mov (.t 6), none⟩]) (.region false [⟨some 2, .mov (.c (iv 32)), none⟩])) .skip)) (.seq (.seq (.region false [⟨some 7, .mov (.t 0), none⟩,
   ⟨some 8, .bin .geq false (.t 7) (.c (nv 65536)), none⟩]) (.cond (.t 8) (.seq (.region false [⟨some 9, .mov (.t 0), none⟩,
   ⟨some 10, .bin .shr false (.t 9) (.c (nv 16)), none⟩,
   ⟨some 0, .mov (.t 10), none⟩]) (.region false [⟨some 11, .mov (.t 2), none⟩,
   ⟨some 12, .bin .add false (.t 11) (.c (iv 16)), none⟩,
   ⟨some 2, .mov (.t 12), none⟩])) .skip)) (.seq (.seq (.region false [⟨some 13, .mov (.t 0), none⟩,
   ⟨some 14, .bin .geq false (.t 13) (.c (nv 256)), none⟩]) (.cond (.t 14) (.seq (.region false [⟨some 15, .mov (.t 0), none⟩,
   ⟨some 16, .bin .shr false (.t 15) (.c (nv 8)), none⟩,
   ⟨some 0, .mov (.t 16), none⟩]) (.region false [⟨some 17, .mov (.t 2), none⟩,
   ⟨some 18, .bin .add false (.t 17) (.c (iv 8)), none⟩,
   ⟨some 2, .mov (.t 18), none⟩])) .skip)) (.seq (.region false [⟨some 19, .mov (.t 2), none⟩,
   ⟨some 20, .mov (.t 0), none⟩,
   ⟨some 21, .conv .u8 (.t 20), none⟩,
   ⟨some 22, .six (.c (.lit (.string ⟨#[0, 1, 2, 2, 3, 3, 3, 3, 4, 4, 4, 4, 4, 4, 4, 4, 5, 5, 5, 5, 5, 5, 5, 5, 5, 5, 5, 5, 5, 5, 5, 5, 6, 6, 6, 6, 6, 6, 6, 6, 6, 6, 6, 6, 6, 6, 6, 6, 6, 6, 6, 6, 6, 6, 6, 6, 6, 6, 6, 6, 6, 6, 6, 6, 7, 7, 7, 7, 7, 7, 7, 7, 7, 7, 7, 7, 7, 7, 7, 7, 7, 7, 7, 7, 7, 7, 7, 7, 7, 7, 7, 7, 7, 7, 7, 7, 7, 7, 7, 7, 7, 7, 7, 7, 7, 7, 7, 7, 7, 7, 7, 7, 7, 7, 7, 7, 7, 7, 7, 7, 7, 7, 7, 7, 7, 7, 7, 7, 8, 8, 8, 8, 8, 8, 8, 8, 8, 8, 8, 8, 8, 8, 8, 8, 8, 8, 8, 8, 8, 8, 8, 8, 8, 8, 8, 8, 8, 8, 8, 8, 8, 8, 8, 8, 8, 8, 8, 8, 8, 8, 8, 8, 8, 8, 8, 8, 8, 8, 8, 8, 8, 8, 8, 8, 8, 8, 8, 8, 8, 8, 8, 8, 8, 8, 8, 8, 8, 8, 8, 8, 8, 8, 8, 8, 8, 8, 8, 8, 8, 8, 8, 8, 8, 8, 8, 8, 8, 8, 8, 8, 8, 8, 8, 8, 8, 8, 8, 8, 8, 8, 8, 8, 8, 8, 8, 8, 8, 8, 8, 8, 8, 8, 8, 8, 8, 8, 8, 8, 8, 8, 8, 8, 8, 8, 8, 8]⟩))) (.t 21), none⟩,
   ⟨some 23, .conv .i64 (.t 22), none⟩,
   ⟨some 24, .bin .add false (.t 19) (.t 23), none⟩,
   ⟨some 2, .mov (.t 24), none⟩]) .ret))))
def R.bits_Len64 : List VRes := [.tmp 2]
theorem K.bits_Len64 : resCode Try.prog Try.f74.ntmps (Try.f74.body.getD .skip) = C.bits_Len64 := by kernel_rfl
theorem Q.bits_Len64 : resResults Try.prog Try.f74.results.toList = some R.bits_Len64 := by kernel_rfl
theorem E.bits_Len64 : Try.prog.funcs[F.bits_Len64]? = some Try.f74 := Try.func74
theorem B.bits_Len64 : Try.f74.body = some (Try.f74.body.getD .skip) := by kernel_rfl
theorem N.bits_Len64 : Try.f74.ntmps = 25 := Try.ntmps74

def C.roots_power : VC :=
  .seq (.region false [⟨some 2, .mov (.c nil1), none⟩]) (.seq (.region false [⟨some 6, .call F.nat_From [.c (nv 1)], none⟩,
   ⟨some 7, .mov (.t 0), none⟩,
   ⟨some 8, .call F.nat_Left [.t 6, .t 7], none⟩,
   ⟨some 5, .mov (.t 8), none⟩,
   ⟨some 9, .ext (.t 5) 0, none⟩,
   ⟨some 10, .ext (.t 5) 1, none⟩,
   ⟨some 3, .mov (.t 9), none⟩,
   ⟨some 4, .mov (.t 10), none⟩]) (.seq (.region false [⟨some 11, .mov (.t 3), none⟩,
   ⟨some 2, .mov (.t 11), none⟩]) .ret))
def R.roots_power : List VRes := [.tmp 2]
theorem K.roots_power : resCode Try.prog Try.f75.ntmps (Try.f75.body.getD .skip) = C.roots_power := by kernel_rfl
theorem Q.roots_power : resResults Try.prog Try.f75.results.toList = some R.roots_power := by kernel_rfl
theorem E.roots_power : Try.prog.funcs[F.roots_power]? = some Try.f75 := Try.func75
theorem B.roots_power : Try.f75.body = some (Try.f75.body.getD .skip) := by kernel_rfl
theorem N.roots_power : Try.f75.ntmps = 12 := Try.ntmps75

def C.nat_Times : VC :=
  .seq (.region false [⟨some 4, .mov (.c nil1), none⟩,
   ⟨some 5, .mov (.c (iv 0)), none⟩]) (.seq (.region false [⟨some 14, .mov (.t 0), none⟩,
   ⟨some 15, .call F.nat_trim [.t 14], none⟩,
   ⟨some 0, .mov (.t 15), none⟩]) (.seq (.region false [⟨some 16, .mov (.t 0), none⟩,
   ⟨some 17, .len (.t 16), none⟩,
   ⟨some 18, .bin .add false (.t 17) (.c (iv 1)), none⟩,
   ⟨some 19, .mk [.int .u64 0] 8 (.t 18) (.t 18), none⟩,
   ⟨some 6, .mov (.t 19), none⟩]) (.seq (.region false [⟨some 7, .mov (.c (nv 0)), none⟩]) (.seq (.seq (.region false [⟨some 20, .mov (.t 0), none⟩,
   ⟨some 21, .len (.t 20), none⟩,
   ⟨some 22, .mov (.c (iv 0)), none⟩]) (.block 0 (.loop (.seq (.region false [⟨some 23, .bin .lss false (.t 22) (.t 21), none⟩]) (.seq (.cond (.t 23) .skip (.exit 0)) (.seq (.block 1 (.seq (.region false [⟨some 24, .mov (.t 22), none⟩,
   ⟨some 25, .ixa 1 (.t 20) (.t 22), none⟩,
   ⟨some 26, .load none (.t 25), none⟩,
   ⟨some 8, .mov (.t 24), none⟩,
   ⟨some 9, .mov (.t 26), none⟩]) (.seq (.region false [⟨some 28, .mov (.t 9), none⟩,
   ⟨some 29, .mov (.t 1), none⟩,
   ⟨some 30, .call F.bits_Mul64 [.t 28, .t 29], none⟩,
   ⟨some 27, .mov (.t 30), none⟩,
   ⟨some 31, .ext (.t 27) 0, none⟩,
   ⟨some 32, .ext (.t 27) 1, none⟩,
   ⟨some 10, .mov (.t 31), none⟩,
   ⟨some 11, .mov (.t 32), none⟩]) (.seq (.region false [⟨some 34, .mov (.t 11), none⟩,
   ⟨some 35, .mov (.t 7), none⟩,
   ⟨some 36, .ext64 false (.t 34) (.t 35) (.c (nv 0)), none⟩,
   ⟨some 33, .mov (.t 36), none⟩,
   ⟨some 37, .ext (.t 33) 0, none⟩,
   ⟨some 38, .ext (.t 33) 1, none⟩,
   ⟨some 12, .mov (.t 37), none⟩,
   ⟨some 13, .mov (.t 38), none⟩]) (.seq (.region false [⟨some 39, .mov (.t 6), none⟩,
   ⟨some 40, .mov (.t 8), none⟩,
   ⟨some 41, .mov (.t 12), none⟩,
   ⟨some 42, .ixa 1 (.t 39) (.t 40), none⟩,
   ⟨none, .store 1 (.t 42) (.t 41), none⟩]) (.region false [⟨some 43, .mov (.t 10), none⟩,
   ⟨some 44, .mov (.t 13), none⟩,
   ⟨some 45, .bin .add false (.t 43) (.t 44), none⟩,
   ⟨some 7, .mov (.t 45), none⟩])))))) (.region false [⟨some 46, .bin .add false (.t 22) (.c (iv 1)), none⟩,
   ⟨some 22, .mov (.t 46), none⟩]))))))) (.seq (.region false [⟨some 47, .mov (.t 6), none⟩,
   ⟨some 48, .mov (.t 0), none⟩,
   ⟨some 49, .len (.t 48), none⟩,
   ⟨some 50, .mov (.t 7), none⟩,
   ⟨some 51, .ixa 1 (.t 47) (.t 49), none⟩,
   ⟨none, .store 1 (.t 51) (.t 50), none⟩]) (.seq (.region false [⟨some 52, .mov (.t 6), none⟩,
   ⟨some 53, .call F.nat_told [.t 52], none⟩,
   ⟨some 54, .ext (.t 53) 0, none⟩,
   ⟨some 55, .ext (.t 53) 1, none⟩,
   ⟨some 4, .mov (.t 54), none⟩,
   ⟨some 5, .mov (.t 55), none⟩]) .ret))))))
def R.nat_Times : List VRes := [.tmp 4, .tmp 5]
theorem K.nat_Times : resCode Try.prog Try.f76.ntmps (Try.f76.body.getD .skip) = C.nat_Times := by kernel_rfl
theorem Q.nat_Times : resResults Try.prog Try.f76.results.toList = some R.nat_Times := by kernel_rfl
theorem E.nat_Times : Try.prog.funcs[F.nat_Times]? = some Try.f76 := Try.func76
theorem B.nat_Times : Try.f76.body = some (Try.f76.body.getD .skip) := by kernel_rfl
theorem N.nat_Times : Try.f76.ntmps = 56 := Try.ntmps76

def C.nat_Sub : VC :=
  .seq (.region false [⟨some 4, .mov (.c nil1), none⟩,
   ⟨some 5, .mov (.c (iv 0)), none⟩]) (.seq (.seq (.region false [⟨some 10, .mov (.t 0), none⟩,
   ⟨some 11, .mov (.t 1), none⟩,
   ⟨some 12, .call F.nat_Compare [.t 10, .t 11], none⟩,
   ⟨some 13, .bin .lss false (.t 12) (.c (iv 0)), none⟩]) (.cond (.t 13) (.seq (.region false [⟨some 4, .mov (.c nil1), none⟩,
   ⟨some 5, .mov (.c (iv 10)), none⟩]) .ret) .skip)) (.seq (.region false [⟨some 14, .mov (.t 0), none⟩,
   ⟨some 15, .call F.nat_trim [.t 14], none⟩,
   ⟨some 16, .mov (.t 1), none⟩,
   ⟨some 17, .call F.nat_trim [.t 16], none⟩,
   ⟨some 0, .mov (.t 15), none⟩,
   ⟨some 1, .mov (.t 17), none⟩]) (.seq (.region false [⟨some 18, .mov (.t 0), none⟩,
   ⟨some 19, .len (.t 18), none⟩,
   ⟨some 20, .mk [.int .u64 0] 8 (.t 19) (.t 19), none⟩,
   ⟨some 6, .mov (.t 20), none⟩]) (.seq (.region false [⟨some 7, .mov (.c (nv 0)), none⟩]) (.seq (.seq (.region false [⟨some 21, .mov (.t 0), none⟩,
   ⟨some 22, .len (.t 21), none⟩,
   ⟨some 23, .mov (.c (iv 0)), none⟩]) (.block 0 (.loop (.seq (.region false [⟨some 24, .bin .lss false (.t 23) (.t 22), none⟩]) (.seq (.cond (.t 24) .skip (.exit 0)) (.seq (.block 1 (.seq (.region false [⟨some 25, .mov (.t 23), none⟩,
   ⟨some 8, .mov (.t 25), none⟩]) (.seq (.region false [⟨some 9, .mov (.c (nv 0)), none⟩]) (.seq (.seq (.region false [⟨some 26, .mov (.t 8), none⟩,
   ⟨some 27, .mov (.t 1), none⟩,
   ⟨some 28, .len (.t 27), none⟩,
   ⟨some 29, .bin .lss false (.t 26) (.t 28), none⟩]) (.cond (.t 29) (.region false [⟨some 30, .mov (.t 1), none⟩,
   ⟨some 31, .mov (.t 8), none⟩,
   ⟨some 32, .ixa 1 (.t 30) (.t 31), none⟩,
   ⟨some 33, .load none (.t 32), none⟩,
   ⟨some 9, .mov (.t 33), none⟩]) .skip)) (.region false [⟨some 35, .mov (.t 6), none⟩,
   ⟨some 36, .mov (.t 8), none⟩,
   ⟨some 37, .mov (.t 0), none⟩,
   ⟨some 38, .mov (.t 8), none⟩,
   ⟨some 39, .ixa 1 (.t 37) (.t 38), none⟩,
   ⟨some 40, .load none (.t 39), none⟩,
   ⟨some 41, .mov (.t 9), none⟩,
   ⟨some 42, .mov (.t 7), none⟩,
   ⟨some 43, .ext64 true (.t 40) (.t 41) (.t 42), none⟩,
   ⟨some 34, .mov (.t 43), none⟩,
   ⟨some 44, .ext (.t 34) 0, none⟩,
   ⟨some 45, .ext (.t 34) 1, none⟩,
   ⟨some 46, .ixa 1 (.t 35) (.t 36), none⟩,
   ⟨none, .store 1 (.t 46) (.t 44), none⟩,
   ⟨some 7, .mov (.t 45), none⟩]))))) (.region false [⟨some 47, .bin .add false (.t 23) (.c (iv 1)), none⟩,
   ⟨some 23, .mov (.t 47), none⟩]))))))) (.seq (.region false [⟨some 48, .mov (.t 6), none⟩,
   ⟨some 49, .call F.nat_told [.t 48], none⟩,
   ⟨some 50, .ext (.t 49) 0, none⟩,
   ⟨some 51, .ext (.t 49) 1, none⟩,
   ⟨some 4, .mov (.t 50), none⟩,
   ⟨some 5, .mov (.t 51), none⟩]) .ret))))))
def R.nat_Sub : List VRes := [.tmp 4, .tmp 5]
theorem K.nat_Sub : resCode Try.prog Try.f77.ntmps (Try.f77.body.getD .skip) = C.nat_Sub := by kernel_rfl
theorem Q.nat_Sub : resResults Try.prog Try.f77.results.toList = some R.nat_Sub := by kernel_rfl
theorem E.nat_Sub : Try.prog.funcs[F.nat_Sub]? = some Try.f77 := Try.func77
theorem B.nat_Sub : Try.f77.body = some (Try.f77.body.getD .skip) := by kernel_rfl
theorem N.nat_Sub : Try.f77.ntmps = 52 := Try.ntmps77

def C.mul_product : VC :=
  .seq (.region false [⟨some 6, .mov (.c nil1), none⟩,
   ⟨some 7, .mov (.c (iv 0)), none⟩]) (.seq (.region false [⟨some 8, .mov (.t 0), none⟩,
   ⟨some 9, .call F.nat_Norm [.t 8], none⟩,
   ⟨some 10, .mov (.t 1), none⟩,
   ⟨some 11, .call F.nat_Norm [.t 10], none⟩,
   ⟨some 0, .mov (.t 9), none⟩,
   ⟨some 1, .mov (.t 11), none⟩]) (.seq (.seq (.region false [⟨some 12, .mov (.t 0), none⟩,
   ⟨some 13, .mov (.t 1), none⟩,
   ⟨some 14, .call F.mul_great [.t 12, .t 13], none⟩]) (.cond (.t 14) (.seq (.region false [⟨some 6, .mov (.c nil1), none⟩,
   ⟨some 7, .mov (.c (iv 3)), none⟩]) .ret) .skip)) (.seq (.region false [⟨some 15, .mov (.t 2), none⟩,
   ⟨some 16, .mov (.t 0), none⟩,
   ⟨some 17, .mov (.t 1), none⟩,
   ⟨some 18, .callv (.t 15) [.t 16, .t 17], none⟩,
   ⟨some 19, .call F.mul_fits [.t 18], none⟩,
   ⟨some 20, .ext (.t 19) 0, none⟩,
   ⟨some 21, .ext (.t 19) 1, none⟩,
   ⟨some 6, .mov (.t 20), none⟩,
   ⟨some 7, .mov (.t 21), none⟩]) .ret)))
def R.mul_product : List VRes := [.tmp 6, .tmp 7]
theorem K.mul_product : resCode Try.prog Try.f79.ntmps (Try.f79.body.getD .skip) = C.mul_product := by kernel_rfl
theorem Q.mul_product : resResults Try.prog Try.f79.results.toList = some R.mul_product := by kernel_rfl
theorem E.mul_product : Try.prog.funcs[F.mul_product]? = some Try.f79 := Try.func79
theorem B.mul_product : Try.f79.body = some (Try.f79.body.getD .skip) := by kernel_rfl
theorem N.mul_product : Try.f79.ntmps = 22 := Try.ntmps79

def C.mul_Mul_1 : VC :=
  .seq (.region false [⟨some 4, .mov (.c nil1), none⟩]) (.seq (.region false [⟨some 5, .mov (.t 0), none⟩,
   ⟨some 6, .mov (.t 1), none⟩,
   ⟨some 7, .call F.mul_halved [.t 5, .t 6, .c (iv 40)], none⟩,
   ⟨some 4, .mov (.t 7), none⟩]) .ret)
def R.mul_Mul_1 : List VRes := [.tmp 4]
theorem K.mul_Mul_1 : resCode Try.prog Try.f80.ntmps (Try.f80.body.getD .skip) = C.mul_Mul_1 := by kernel_rfl
theorem Q.mul_Mul_1 : resResults Try.prog Try.f80.results.toList = some R.mul_Mul_1 := by kernel_rfl
theorem E.mul_Mul_1 : Try.prog.funcs[F.mul_Mul_1]? = some Try.f80 := Try.func80
theorem B.mul_Mul_1 : Try.f80.body = some (Try.f80.body.getD .skip) := by kernel_rfl
theorem N.mul_Mul_1 : Try.f80.ntmps = 8 := Try.ntmps80

def C.mul_halved : VC :=
  .seq (.region false [⟨some 6, .mov (.c nil1), none⟩]) (.seq (.seq (.region false [⟨some 17, .mov (.t 0), none⟩,
   ⟨some 18, .len (.t 17), none⟩,
   ⟨some 19, .mov (.t 1), none⟩,
   ⟨some 20, .len (.t 19), none⟩,
   ⟨some 21, .bin .lss false (.t 18) (.t 20), none⟩]) (.cond (.t 21) (.region false [⟨some 22, .mov (.t 1), none⟩,
   ⟨some 23, .mov (.t 0), none⟩,
   ⟨some 0, .mov (.t 22), none⟩,
   ⟨some 1, .mov (.t 23), none⟩]) .skip)) (.seq (.seq (.region false [⟨some 24, .mov (.t 1), none⟩,
   ⟨some 25, .len (.t 24), none⟩,
   ⟨some 26, .mov (.t 2), none⟩,
   ⟨some 27, .bin .lss false (.t 25) (.t 26), none⟩]) (.cond (.t 27) (.seq (.region false [⟨some 28, .mov (.t 0), none⟩,
   ⟨some 29, .mov (.t 1), none⟩,
   ⟨some 30, .call F.mul_school [.t 28, .t 29], none⟩,
   ⟨some 6, .mov (.t 30), none⟩]) .ret) .skip)) (.seq (.region false [⟨some 31, .mov (.t 0), none⟩,
   ⟨some 32, .len (.t 31), none⟩,
   ⟨some 33, .bin .add false (.t 32) (.c (iv 1)), none⟩,
   ⟨some 34, .bin .quo false (.t 33) (.c (iv 2)), none⟩,
   ⟨some 7, .mov (.t 34), none⟩]) (.seq (.seq (.region false [⟨some 35, .mov (.t 1), none⟩,
   ⟨some 36, .len (.t 35), none⟩,
   ⟨some 37, .mov (.t 7), none⟩,
   ⟨some 38, .bin .leq false (.t 36) (.t 37), none⟩]) (.cond (.t 38) (.seq (.region false [⟨some 39, .mov (.t 0), none⟩,
   ⟨some 40, .len (.t 39), none⟩,
   ⟨some 41, .mov (.t 1), none⟩,
   ⟨some 42, .len (.t 41), none⟩,
   ⟨some 43, .bin .add false (.t 40) (.t 42), none⟩,
   ⟨some 44, .bin .add false (.t 43) (.c (iv 1)), none⟩,
   ⟨some 45, .mk [.int .u64 0] 8 (.t 44) (.t 44), none⟩,
   ⟨some 8, .mov (.t 45), none⟩]) (.seq (.region false [⟨some 46, .mov (.t 8), none⟩,
   ⟨some 47, .mov (.t 0), none⟩,
   ⟨some 48, .mov (.t 7), none⟩,
   ⟨some 49, .call F.mul_part [.t 47, .c (iv 0), .t 48], none⟩,
   ⟨some 50, .mov (.t 1), none⟩,
   ⟨some 51, .mov (.t 2), none⟩,
   ⟨some 52, .call F.mul_halved [.t 49, .t 50, .t 51], none⟩,
   ⟨some 53, .call F.mul_addAt [.t 46, .t 52, .c (iv 0)], none⟩]) (.seq (.region false [⟨some 54, .mov (.t 8), none⟩,
   ⟨some 55, .mov (.t 0), none⟩,
   ⟨some 56, .mov (.t 7), none⟩,
   ⟨some 57, .mov (.t 0), none⟩,
   ⟨some 58, .len (.t 57), none⟩,
   ⟨some 59, .call F.mul_part [.t 55, .t 56, .t 58], none⟩,
   ⟨some 60, .mov (.t 1), none⟩,
   ⟨some 61, .mov (.t 2), none⟩,
   ⟨some 62, .call F.mul_halved [.t 59, .t 60, .t 61], none⟩,
   ⟨some 63, .mov (.t 7), none⟩,
   ⟨some 64, .call F.mul_addAt [.t 54, .t 62, .t 63], none⟩]) (.seq (.region false [⟨some 65, .mov (.t 8), none⟩,
   ⟨some 6, .mov (.t 65), none⟩]) .ret)))) .skip)) (.seq (.region false [⟨some 66, .mov (.t 0), none⟩,
   ⟨some 67, .mov (.t 7), none⟩,
   ⟨some 68, .call F.mul_part [.t 66, .c (iv 0), .t 67], none⟩,
   ⟨some 69, .mov (.t 0), none⟩,
   ⟨some 70, .mov (.t 7), none⟩,
   ⟨some 71, .mov (.t 0), none⟩,
   ⟨some 72, .len (.t 71), none⟩,
   ⟨some 73, .call F.mul_part [.t 69, .t 70, .t 72], none⟩,
   ⟨some 74, .mov (.t 1), none⟩,
   ⟨some 75, .mov (.t 7), none⟩,
   ⟨some 76, .call F.mul_part [.t 74, .c (iv 0), .t 75], none⟩,
   ⟨some 77, .mov (.t 1), none⟩,
   ⟨some 78, .mov (.t 7), none⟩,
   ⟨some 79, .mov (.t 1), none⟩,
   ⟨some 80, .len (.t 79), none⟩,
   ⟨some 81, .call F.mul_part [.t 77, .t 78, .t 80], none⟩,
   ⟨some 9, .mov (.t 68), none⟩,
   ⟨some 10, .mov (.t 73), none⟩,
   ⟨some 11, .mov (.t 76), none⟩,
   ⟨some 12, .mov (.t 81), none⟩]) (.seq (.region false [⟨some 82, .mov (.t 9), none⟩,
   ⟨some 83, .mov (.t 11), none⟩,
   ⟨some 84, .mov (.t 2), none⟩,
   ⟨some 85, .call F.mul_halved [.t 82, .t 83, .t 84], none⟩,
   ⟨some 86, .mov (.t 10), none⟩,
   ⟨some 87, .mov (.t 12), none⟩,
   ⟨some 88, .mov (.t 2), none⟩,
   ⟨some 89, .call F.mul_halved [.t 86, .t 87, .t 88], none⟩,
   ⟨some 13, .mov (.t 85), none⟩,
   ⟨some 14, .mov (.t 89), none⟩]) (.seq (.region false [⟨some 90, .mov (.t 9), none⟩,
   ⟨some 91, .mov (.t 10), none⟩,
   ⟨some 92, .call F.mul_sum [.t 90, .t 91], none⟩,
   ⟨some 93, .call F.nat_Norm [.t 92], none⟩,
   ⟨some 94, .mov (.t 11), none⟩,
   ⟨some 95, .mov (.t 12), none⟩,
   ⟨some 96, .call F.mul_sum [.t 94, .t 95], none⟩,
   ⟨some 97, .call F.nat_Norm [.t 96], none⟩,
   ⟨some 98, .mov (.t 2), none⟩,
   ⟨some 99, .call F.mul_halved [.t 93, .t 97, .t 98], none⟩,
   ⟨some 100, .mov (.t 13), none⟩,
   ⟨some 101, .call F.mul_less [.t 99, .t 100], none⟩,
   ⟨some 102, .mov (.t 14), none⟩,
   ⟨some 103, .call F.mul_less [.t 101, .t 102], none⟩,
   ⟨some 15, .mov (.t 103), none⟩]) (.seq (.region false [⟨some 104, .mov (.t 0), none⟩,
   ⟨some 105, .len (.t 104), none⟩,
   ⟨some 106, .mov (.t 1), none⟩,
   ⟨some 107, .len (.t 106), none⟩,
   ⟨some 108, .bin .add false (.t 105) (.t 107), none⟩,
   ⟨some 109, .bin .add false (.t 108) (.c (iv 1)), none⟩,
   ⟨some 110, .mk [.int .u64 0] 8 (.t 109) (.t 109), none⟩,
   ⟨some 16, .mov (.t 110), none⟩]) (.seq (.region false [⟨some 111, .mov (.t 16), none⟩,
   ⟨some 112, .mov (.t 13), none⟩,
   ⟨some 113, .call F.mul_addAt [.t 111, .t 112, .c (iv 0)], none⟩]) (.seq (.region false [⟨some 114, .mov (.t 16), none⟩,
   ⟨some 115, .mov (.t 15), none⟩,
   ⟨some 116, .mov (.t 7), none⟩,
   ⟨some 117, .call F.mul_addAt [.t 114, .t 115, .t 116], none⟩]) (.seq (.region false [⟨some 118, .mov (.t 16), none⟩,
   ⟨some 119, .mov (.t 14), none⟩,
   ⟨some 120, .mov (.t 7), none⟩,
   ⟨some 121, .bin .mul false (.c (iv 2)) (.t 120), none⟩,
   ⟨some 122, .call F.mul_addAt [.t 118, .t 119, .t 121], none⟩]) (.seq (.region false [⟨some 123, .mov (.t 16), none⟩,
   ⟨some 6, .mov (.t 123), none⟩]) .ret))))))))))))
def R.mul_halved : List VRes := [.tmp 6]
theorem K.mul_halved : resCode Try.prog Try.f81.ntmps (Try.f81.body.getD .skip) = C.mul_halved := by kernel_rfl
theorem Q.mul_halved : resResults Try.prog Try.f81.results.toList = some R.mul_halved := by kernel_rfl
theorem E.mul_halved : Try.prog.funcs[F.mul_halved]? = some Try.f81 := Try.func81
theorem B.mul_halved : Try.f81.body = some (Try.f81.body.getD .skip) := by kernel_rfl
theorem N.mul_halved : Try.f81.ntmps = 124 := Try.ntmps81

def C.div_divide : VC :=
  .seq (.region false [⟨some 4, .mov (.c nil1), none⟩,
   ⟨some 5, .mov (.c nil1), none⟩]) (.seq (.seq (.region false [⟨some 15, .mov (.t 0), none⟩,
   ⟨some 16, .mov (.t 1), none⟩,
   ⟨some 17, .call F.nat_Compare [.t 15, .t 16], none⟩,
   ⟨some 18, .bin .lss false (.t 17) (.c (iv 0)), none⟩]) (.cond (.t 18) (.seq (.region false [⟨some 19, .mov (.t 0), none⟩,
   ⟨some 4, .mov (.c nil1), none⟩,
   ⟨some 5, .mov (.t 19), none⟩]) .ret) .skip)) (.seq (.seq (.region false [⟨some 20, .mov (.t 1), none⟩,
   ⟨some 21, .len (.t 20), none⟩,
   ⟨some 22, .bin .eql false (.t 21) (.c (iv 1)), none⟩]) (.cond (.t 22) (.seq (.region false [⟨some 23, .mov (.t 0), none⟩,
   ⟨some 24, .len (.t 23), none⟩,
   ⟨some 25, .mk [.int .u64 0] 8 (.t 24) (.t 24), none⟩,
   ⟨some 6, .mov (.t 25), none⟩,
   ⟨some 7, .mov (.c (nv 0)), none⟩]) (.seq (.seq (.region false [⟨some 26, .mov (.t 0), none⟩,
   ⟨some 27, .len (.t 26), none⟩,
   ⟨some 28, .bin .sub false (.t 27) (.c (iv 1)), none⟩,
   ⟨some 8, .mov (.t 28), none⟩]) (.block 0 (.loop (.seq (.seq (.region false [⟨some 29, .mov (.t 8), none⟩,
   ⟨some 30, .bin .geq false (.t 29) (.c (iv 0)), none⟩]) (.cond (.t 30) .skip (.exit 0))) (.seq (.block 1 (.region true [⟨some 34, .mov (.t 6), none⟩,
   ⟨some 35, .mov (.t 8), none⟩,
   ⟨some 36, .mov (.t 7), none⟩,
   ⟨some 37, .mov (.t 0), none⟩,
   ⟨some 38, .mov (.t 8), none⟩,
   ⟨some 39, .ixa 1 (.t 37) (.t 38), none⟩,
   ⟨some 40, .load none (.t 39), none⟩,
   ⟨some 41, .mov (.t 1), none⟩,
   ⟨some 42, .ixa 1 (.t 41) (.c (iv 0)), none⟩,
   ⟨some 43, .load none (.t 42), none⟩,
   ⟨some 44, .call F.bits_Div64 [.t 36, .t 40, .t 43], none⟩,
   ⟨some 33, .mov (.t 44), none⟩,
   ⟨some 45, .ext (.t 33) 0, none⟩,
   ⟨some 46, .ext (.t 33) 1, none⟩,
   ⟨some 47, .ixa 1 (.t 34) (.t 35), none⟩,
   ⟨none, .store 1 (.t 47) (.t 45), none⟩,
   ⟨some 7, .mov (.t 46), none⟩])) (.region false [⟨some 31, .mov (.t 8), none⟩,
   ⟨some 32, .bin .sub false (.t 31) (.c (iv 1)), none⟩,
   ⟨some 8, .mov (.t 32), none⟩])))))) (.seq (.region false [⟨some 48, .mov (.t 6), none⟩,
   ⟨some 49, .call F.nat_Norm [.t 48], none⟩,
   ⟨some 50, .mov (.t 7), none⟩,
   ⟨some 51, .call F.nat_From [.t 50], none⟩,
   ⟨some 4, .mov (.t 49), none⟩,
   ⟨some 5, .mov (.t 51), none⟩]) .ret))) .skip)) (.seq (.region false [⟨some 52, .mov (.t 1), none⟩,
   ⟨some 53, .mov (.t 1), none⟩,
   ⟨some 54, .len (.t 53), none⟩,
   ⟨some 55, .bin .sub false (.t 54) (.c (iv 1)), none⟩,
   ⟨some 56, .ixa 1 (.t 52) (.t 55), none⟩,
   ⟨some 57, .load none (.t 56), none⟩,
   ⟨some 58, .call F.bits_LeadingZeros64 [.t 57], none⟩,
   ⟨some 59, .conv .u64 (.t 58), none⟩,
   ⟨some 9, .mov (.t 59), none⟩]) (.seq (.region true [⟨some 60, .mov (.t 0), none⟩,
   ⟨some 61, .mov (.t 9), none⟩,
   ⟨some 62, .call F.div_up [.t 60, .t 61], none⟩,
   ⟨some 63, .mov (.t 1), none⟩,
   ⟨some 64, .mov (.t 9), none⟩,
   ⟨some 65, .call F.div_up [.t 63, .t 64], none⟩,
   ⟨some 66, .mov (.t 1), none⟩,
   ⟨some 67, .len (.t 66), none⟩,
   ⟨some 68, .slc 1 (.t 65) none (some (.t 67)) none, none⟩,
   ⟨some 10, .mov (.t 62), none⟩,
   ⟨some 11, .mov (.t 68), none⟩]) (.seq (.region false [⟨some 69, .mov (.t 11), none⟩,
   ⟨some 70, .len (.t 69), none⟩,
   ⟨some 12, .mov (.t 70), none⟩]) (.seq (.region false [⟨some 71, .mov (.t 0), none⟩,
   ⟨some 72, .len (.t 71), none⟩,
   ⟨some 73, .mov (.t 12), none⟩,
   ⟨some 74, .bin .sub false (.t 72) (.t 73), none⟩,
   ⟨some 75, .bin .add false (.t 74) (.c (iv 1)), none⟩,
   ⟨some 76, .mk [.int .u64 0] 8 (.t 75) (.t 75), none⟩,
   ⟨some 13, .mov (.t 76), none⟩]) (.seq (.seq (.region false [⟨some 77, .mov (.t 0), none⟩,
   ⟨some 78, .len (.t 77), none⟩,
   ⟨some 79, .mov (.t 12), none⟩,
   ⟨some 80, .bin .sub false (.t 78) (.t 79), none⟩,
   ⟨some 14, .mov (.t 80), none⟩]) (.block 2 (.loop (.seq (.seq (.region false [⟨some 81, .mov (.t 14), none⟩,
   ⟨some 82, .bin .geq false (.t 81) (.c (iv 0)), none⟩]) (.cond (.t 82) .skip (.exit 2))) (.seq (.block 3 (.region false [⟨some 85, .mov (.t 13), none⟩,
   ⟨some 86, .mov (.t 14), none⟩,
   ⟨some 87, .mov (.t 10), none⟩,
   ⟨some 88, .mov (.t 14), none⟩,
   ⟨some 89, .mov (.t 14), none⟩,
   ⟨some 90, .mov (.t 12), none⟩,
   ⟨some 91, .bin .add false (.t 89) (.t 90), none⟩,
   ⟨some 92, .bin .add false (.t 91) (.c (iv 1)), none⟩,
   ⟨some 93, .slc 1 (.t 87) (some (.t 88)) (some (.t 92)) none, none⟩,
   ⟨some 94, .mov (.t 11), none⟩,
   ⟨some 95, .call F.div_guess [.t 93, .t 94], none⟩,
   ⟨some 96, .ixa 1 (.t 85) (.t 86), none⟩,
   ⟨none, .store 1 (.t 96) (.t 95), none⟩])) (.region false [⟨some 83, .mov (.t 14), none⟩,
   ⟨some 84, .bin .sub false (.t 83) (.c (iv 1)), none⟩,
   ⟨some 14, .mov (.t 84), none⟩])))))) (.seq (.region true [⟨some 97, .mov (.t 13), none⟩,
   ⟨some 98, .call F.nat_Norm [.t 97], none⟩,
   ⟨some 99, .mov (.t 10), none⟩,
   ⟨some 100, .mov (.t 12), none⟩,
   ⟨some 101, .slc 1 (.t 99) none (some (.t 100)) none, none⟩,
   ⟨some 102, .mov (.t 9), none⟩,
   ⟨some 103, .call F.div_down [.t 101, .t 102], none⟩,
   ⟨some 4, .mov (.t 98), none⟩,
   ⟨some 5, .mov (.t 103), none⟩]) .ret))))))))
def R.div_divide : List VRes := [.tmp 4, .tmp 5]
theorem K.div_divide : resCode Try.prog Try.f82.ntmps (Try.f82.body.getD .skip) = C.div_divide := by kernel_rfl
theorem Q.div_divide : resResults Try.prog Try.f82.results.toList = some R.div_divide := by kernel_rfl
theorem E.div_divide : Try.prog.funcs[F.div_divide]? = some Try.f82 := Try.func82
theorem B.div_divide : Try.f82.body = some (Try.f82.body.getD .skip) := by kernel_rfl
theorem N.div_divide : Try.f82.ntmps = 104 := Try.ntmps82

def C.bits_LeadingZeros64 : VC :=
  .seq (.region false [⟨some 2, .mov (.c (iv 0)), none⟩]) (.seq (.region false [⟨some 3, .mov (.t 0), none⟩,
   ⟨some 4, .call F.bits_Len64 [.t 3], none⟩,
   ⟨some 5, .bin .sub false (.c (iv 64)) (.t 4), none⟩,
   ⟨some 2, .mov (.t 5), none⟩]) .ret)
def R.bits_LeadingZeros64 : List VRes := [.tmp 2]
theorem K.bits_LeadingZeros64 : resCode Try.prog Try.f83.ntmps (Try.f83.body.getD .skip) = C.bits_LeadingZeros64 := by kernel_rfl
theorem Q.bits_LeadingZeros64 : resResults Try.prog Try.f83.results.toList = some R.bits_LeadingZeros64 := by kernel_rfl
theorem E.bits_LeadingZeros64 : Try.prog.funcs[F.bits_LeadingZeros64]? = some Try.f83 := Try.func83
theorem B.bits_LeadingZeros64 : Try.f83.body = some (Try.f83.body.getD .skip) := by kernel_rfl
theorem N.bits_LeadingZeros64 : Try.f83.ntmps = 6 := Try.ntmps83

def C.nat_Left : VC :=
  .seq (.region false [⟨some 4, .mov (.c nil1), none⟩,
   ⟨some 5, .mov (.c (iv 0)), none⟩]) (.seq (.seq (.region false [⟨some 11, .mov (.t 1), none⟩,
   ⟨some 12, .bin .lss false (.t 11) (.c (iv 0)), none⟩,
   ⟨some 13, .mov (.t 12), none⟩,
   ⟨some 14, .mov (.t 1), some (13, false)⟩,
   ⟨some 15, .bin .gtr false (.t 14) (.c (iv 1099511627776)), some (13, false)⟩,
   ⟨some 16, .pick (.t 13) (.c (bv true)) (.t 15), none⟩]) (.cond (.t 16) (.seq (.region false [⟨some 4, .mov (.c nil1), none⟩,
   ⟨some 5, .mov (.c (iv 1)), none⟩]) .ret) .skip)) (.seq (.region false [⟨some 17, .mov (.t 0), none⟩,
   ⟨some 18, .call F.nat_trim [.t 17], none⟩,
   ⟨some 0, .mov (.t 18), none⟩]) (.seq (.seq (.region false [⟨some 19, .mov (.t 0), none⟩,
   ⟨some 20, .len (.t 19), none⟩,
   ⟨some 21, .bin .eql false (.t 20) (.c (iv 0)), none⟩]) (.cond (.t 21) (.seq (.region false [⟨some 4, .mov (.c nil1), none⟩,
   ⟨some 5, .mov (.c (iv 0)), none⟩]) .ret) .skip)) (.seq (.seq (.region false [⟨some 22, .mov (.t 0), none⟩,
   ⟨some 23, .call F.nat_Length [.t 22], none⟩,
   ⟨some 24, .mov (.t 1), none⟩,
   ⟨some 25, .bin .add false (.t 23) (.t 24), none⟩,
   ⟨some 26, .bin .gtr false (.t 25) (.c (iv 67108864)), none⟩]) (.cond (.t 26) (.seq (.region false [⟨some 4, .mov (.c nil1), none⟩,
   ⟨some 5, .mov (.c (iv 3)), none⟩]) .ret) .skip)) (.seq (.region false [⟨some 27, .mov (.t 1), none⟩,
   ⟨some 28, .bin .quo false (.t 27) (.c (iv 64)), none⟩,
   ⟨some 29, .mov (.t 1), none⟩,
   ⟨some 30, .bin .rem false (.t 29) (.c (iv 64)), none⟩,
   ⟨some 31, .conv .u64 (.t 30), none⟩,
   ⟨some 6, .mov (.t 28), none⟩,
   ⟨some 7, .mov (.t 31), none⟩]) (.seq (.region false [⟨some 32, .mov (.t 6), none⟩,
   ⟨some 33, .mov (.t 0), none⟩,
   ⟨some 34, .len (.t 33), none⟩,
   ⟨some 35, .bin .add false (.t 32) (.t 34), none⟩,
   ⟨some 36, .bin .add false (.t 35) (.c (iv 1)), none⟩,
   ⟨some 37, .mk [.int .u64 0] 8 (.t 36) (.t 36), none⟩,
   ⟨some 8, .mov (.t 37), none⟩]) (.seq (.seq (.region false [⟨some 38, .mov (.t 0), none⟩,
   ⟨some 39, .len (.t 38), none⟩,
   ⟨some 40, .mov (.c (iv 0)), none⟩]) (.block 0 (.loop (.seq (.region false [⟨some 41, .bin .lss false (.t 40) (.t 39), none⟩]) (.seq (.cond (.t 41) .skip (.exit 0)) (.seq (.block 1 (.seq (.region false [⟨some 42, .mov (.t 40), none⟩,
   ⟨some 43, .ixa 1 (.t 38) (.t 40), none⟩,
   ⟨some 44, .load none (.t 43), none⟩,
   ⟨some 9, .mov (.t 42), none⟩,
   ⟨some 10, .mov (.t 44), none⟩]) (.seq (.region false [⟨some 45, .mov (.t 8), none⟩,
   ⟨some 46, .mov (.t 6), none⟩,
   ⟨some 47, .mov (.t 9), none⟩,
   ⟨some 48, .bin .add false (.t 46) (.t 47), none⟩,
   ⟨some 49, .ixa 1 (.t 45) (.t 48), none⟩,
   ⟨some 50, .load none (.t 49), none⟩,
   ⟨some 51, .mov (.t 10), none⟩,
   ⟨some 52, .mov (.t 7), none⟩,
   ⟨some 53, .bin .shl false (.t 51) (.t 52), none⟩,
   ⟨some 54, .bin .or false (.t 50) (.t 53), none⟩,
   ⟨some 55, .ixa 1 (.t 45) (.t 48), none⟩,
   ⟨none, .store 1 (.t 55) (.t 54), none⟩]) (.region false [⟨some 56, .mov (.t 8), none⟩,
   ⟨some 57, .mov (.t 6), none⟩,
   ⟨some 58, .mov (.t 9), none⟩,
   ⟨some 59, .bin .add false (.t 57) (.t 58), none⟩,
   ⟨some 60, .bin .add false (.t 59) (.c (iv 1)), none⟩,
   ⟨some 61, .ixa 1 (.t 56) (.t 60), none⟩,
   ⟨some 62, .load none (.t 61), none⟩,
   ⟨some 63, .mov (.t 10), none⟩,
   ⟨some 64, .bin .shr false (.t 63) (.c (nv 1)), none⟩,
   ⟨some 65, .mov (.t 7), none⟩,
   ⟨some 66, .bin .sub false (.c (nv 63)) (.t 65), none⟩,
   ⟨some 67, .bin .shr false (.t 64) (.t 66), none⟩,
   ⟨some 68, .bin .or false (.t 62) (.t 67), none⟩,
   ⟨some 69, .ixa 1 (.t 56) (.t 60), none⟩,
   ⟨none, .store 1 (.t 69) (.t 68), none⟩])))) (.region false [⟨some 70, .bin .add false (.t 40) (.c (iv 1)), none⟩,
   ⟨some 40, .mov (.t 70), none⟩]))))))) (.seq (.region false [⟨some 71, .mov (.t 8), none⟩,
   ⟨some 72, .call F.nat_trim [.t 71], none⟩,
   ⟨some 4, .mov (.t 72), none⟩,
   ⟨some 5, .mov (.c (iv 0)), none⟩]) .ret))))))))
def R.nat_Left : List VRes := [.tmp 4, .tmp 5]
theorem K.nat_Left : resCode Try.prog Try.f84.ntmps (Try.f84.body.getD .skip) = C.nat_Left := by kernel_rfl
theorem Q.nat_Left : resResults Try.prog Try.f84.results.toList = some R.nat_Left := by kernel_rfl
theorem E.nat_Left : Try.prog.funcs[F.nat_Left]? = some Try.f84 := Try.func84
theorem B.nat_Left : Try.f84.body = some (Try.f84.body.getD .skip) := by kernel_rfl
theorem N.nat_Left : Try.f84.ntmps = 73 := Try.ntmps84

def C.bits_Mul64 : VC :=
  .seq (.region false [⟨some 4, .mov (.c (nv 0)), none⟩,
   ⟨some 5, .mov (.c (nv 0)), none⟩]) (.seq (.region false [⟨some 14, .mov (.t 0), none⟩,
   ⟨some 15, .bin .and false (.t 14) (.c (nv 4294967295)), none⟩,
   ⟨some 6, .mov (.t 15), none⟩]) (.seq (.region false [⟨some 16, .mov (.t 0), none⟩,
   ⟨some 17, .bin .shr false (.t 16) (.c (nv 32)), none⟩,
   ⟨some 7, .mov (.t 17), none⟩]) (.seq (.region false [⟨some 18, .mov (.t 1), none⟩,
   ⟨some 19, .bin .and false (.t 18) (.c (nv 4294967295)), none⟩,
   ⟨some 8, .mov (.t 19), none⟩]) (.seq (.region false [⟨some 20, .mov (.t 1), none⟩,
   ⟨some 21, .bin .shr false (.t 20) (.c (nv 32)), none⟩,
   ⟨some 9, .mov (.t 21), none⟩]) (.seq (.region false [⟨some 22, .mov (.t 6), none⟩,
   ⟨some 23, .mov (.t 8), none⟩,
   ⟨some 24, .bin .mul false (.t 22) (.t 23), none⟩,
   ⟨some 10, .mov (.t 24), none⟩]) (.seq (.region false [⟨some 25, .mov (.t 7), none⟩,
   ⟨some 26, .mov (.t 8), none⟩,
   ⟨some 27, .bin .mul false (.t 25) (.t 26), none⟩,
   ⟨some 28, .mov (.t 10), none⟩,
   ⟨some 29, .bin .shr false (.t 28) (.c (nv 32)), none⟩,
   ⟨some 30, .bin .add false (.t 27) (.t 29), none⟩,
   ⟨some 11, .mov (.t 30), none⟩]) (.seq (.region false [⟨some 31, .mov (.t 11), none⟩,
   ⟨some 32, .bin .and false (.t 31) (.c (nv 4294967295)), none⟩,
   ⟨some 12, .mov (.t 32), none⟩]) (.seq (.region false [⟨some 33, .mov (.t 11), none⟩,
   ⟨some 34, .bin .shr false (.t 33) (.c (nv 32)), none⟩,
   ⟨some 13, .mov (.t 34), none⟩]) (.seq (.region false [⟨some 35, .mov (.t 12), none⟩,
   ⟨some 36, .mov (.t 6), none⟩,
   ⟨some 37, .mov (.t 9), none⟩,
   ⟨some 38, .bin .mul false (.t 36) (.t 37), none⟩,
   ⟨some 39, .bin .add false (.t 35) (.t 38), none⟩,
   ⟨some 12, .mov (.t 39), none⟩]) (.seq (.region false [⟨some 40, .mov (.t 7), none⟩,
   ⟨some 41, .mov (.t 9), none⟩,
   ⟨some 42, .bin .mul false (.t 40) (.t 41), none⟩,
   ⟨some 43, .mov (.t 13), none⟩,
   ⟨some 44, .bin .add false (.t 42) (.t 43), none⟩,
   ⟨some 45, .mov (.t 12), none⟩,
   ⟨some 46, .bin .shr false (.t 45) (.c (nv 32)), none⟩,
   ⟨some 47, .bin .add false (.t 44) (.t 46), none⟩,
   ⟨some 4, .mov (.t 47), none⟩]) (.seq (.region false [⟨some 48, .mov (.t 0), none⟩,
   ⟨some 49, .mov (.t 1), none⟩,
   ⟨some 50, .bin .mul false (.t 48) (.t 49), none⟩,
   ⟨some 5, .mov (.t 50), none⟩]) .ret)))))))))))
def R.bits_Mul64 : List VRes := [.tmp 4, .tmp 5]
theorem K.bits_Mul64 : resCode Try.prog Try.f85.ntmps (Try.f85.body.getD .skip) = C.bits_Mul64 := by kernel_rfl
theorem Q.bits_Mul64 : resResults Try.prog Try.f85.results.toList = some R.bits_Mul64 := by kernel_rfl
theorem E.bits_Mul64 : Try.prog.funcs[F.bits_Mul64]? = some Try.f85 := Try.func85
theorem B.bits_Mul64 : Try.f85.body = some (Try.f85.body.getD .skip) := by kernel_rfl
theorem N.bits_Mul64 : Try.f85.ntmps = 51 := Try.ntmps85

def C.mul_great : VC :=
  .seq (.region false [⟨some 4, .mov (.c (bv false)), none⟩]) (.seq (.region false [⟨some 7, .mov (.t 0), none⟩,
   ⟨some 8, .call F.nat_Length [.t 7], none⟩,
   ⟨some 9, .mov (.t 1), none⟩,
   ⟨some 10, .call F.nat_Length [.t 9], none⟩,
   ⟨some 5, .mov (.t 8), none⟩,
   ⟨some 6, .mov (.t 10), none⟩]) (.seq (.region false [⟨some 11, .mov (.t 5), none⟩,
   ⟨some 12, .bin .gtr false (.t 11) (.c (iv 0)), none⟩,
   ⟨some 13, .mov (.t 12), none⟩,
   ⟨some 14, .mov (.t 6), some (13, true)⟩,
   ⟨some 15, .bin .gtr false (.t 14) (.c (iv 0)), some (13, true)⟩,
   ⟨some 16, .pick (.t 13) (.t 15) (.c (bv false)), none⟩,
   ⟨some 17, .mov (.t 16), none⟩,
   ⟨some 18, .mov (.t 5), some (17, true)⟩,
   ⟨some 19, .mov (.t 6), some (17, true)⟩,
   ⟨some 20, .bin .add false (.t 18) (.t 19), some (17, true)⟩,
   ⟨some 21, .bin .sub false (.t 20) (.c (iv 1)), some (17, true)⟩,
   ⟨some 22, .bin .gtr false (.t 21) (.c (iv 67108864)), some (17, true)⟩,
   ⟨some 23, .pick (.t 17) (.t 22) (.c (bv false)), none⟩,
   ⟨some 4, .mov (.t 23), none⟩]) .ret))
def R.mul_great : List VRes := [.tmp 4]
theorem K.mul_great : resCode Try.prog Try.f87.ntmps (Try.f87.body.getD .skip) = C.mul_great := by kernel_rfl
theorem Q.mul_great : resResults Try.prog Try.f87.results.toList = some R.mul_great := by kernel_rfl
theorem E.mul_great : Try.prog.funcs[F.mul_great]? = some Try.f87 := Try.func87
theorem B.mul_great : Try.f87.body = some (Try.f87.body.getD .skip) := by kernel_rfl
theorem N.mul_great : Try.f87.ntmps = 24 := Try.ntmps87

def C.mul_fits : VC :=
  .seq (.region false [⟨some 2, .mov (.c nil1), none⟩,
   ⟨some 3, .mov (.c (iv 0)), none⟩]) (.seq (.region false [⟨some 4, .mov (.t 0), none⟩,
   ⟨some 5, .call F.nat_Norm [.t 4], none⟩,
   ⟨some 0, .mov (.t 5), none⟩]) (.seq (.seq (.region false [⟨some 6, .mov (.t 0), none⟩,
   ⟨some 7, .call F.nat_Length [.t 6], none⟩,
   ⟨some 8, .bin .gtr false (.t 7) (.c (iv 67108864)), none⟩]) (.cond (.t 8) (.seq (.region false [⟨some 2, .mov (.c nil1), none⟩,
   ⟨some 3, .mov (.c (iv 3)), none⟩]) .ret) .skip)) (.seq (.region false [⟨some 9, .mov (.t 0), none⟩,
   ⟨some 2, .mov (.t 9), none⟩,
   ⟨some 3, .mov (.c (iv 0)), none⟩]) .ret)))
def R.mul_fits : List VRes := [.tmp 2, .tmp 3]
theorem K.mul_fits : resCode Try.prog Try.f88.ntmps (Try.f88.body.getD .skip) = C.mul_fits := by kernel_rfl
theorem Q.mul_fits : resResults Try.prog Try.f88.results.toList = some R.mul_fits := by kernel_rfl
theorem E.mul_fits : Try.prog.funcs[F.mul_fits]? = some Try.f88 := Try.func88
theorem B.mul_fits : Try.f88.body = some (Try.f88.body.getD .skip) := by kernel_rfl
theorem N.mul_fits : Try.f88.ntmps = 10 := Try.ntmps88

def C.mul_school : VC :=
  .seq (.region false [⟨some 4, .mov (.c nil1), none⟩]) (.seq (.region false [⟨some 14, .mov (.t 0), none⟩,
   ⟨some 15, .len (.t 14), none⟩,
   ⟨some 16, .mov (.t 1), none⟩,
   ⟨some 17, .len (.t 16), none⟩,
   ⟨some 18, .bin .add false (.t 15) (.t 17), none⟩,
   ⟨some 19, .mk [.int .u64 0] 8 (.t 18) (.t 18), none⟩,
   ⟨some 5, .mov (.t 19), none⟩]) (.seq (.seq (.region false [⟨some 20, .mov (.t 0), none⟩,
   ⟨some 21, .len (.t 20), none⟩,
   ⟨some 22, .mov (.c (iv 0)), none⟩]) (.block 0 (.loop (.seq (.region false [⟨some 23, .bin .lss false (.t 22) (.t 21), none⟩]) (.seq (.cond (.t 23) .skip (.exit 0)) (.seq (.block 1 (.seq (.region false [⟨some 24, .mov (.t 22), none⟩,
   ⟨some 25, .ixa 1 (.t 20) (.t 22), none⟩,
   ⟨some 26, .load none (.t 25), none⟩,
   ⟨some 6, .mov (.t 24), none⟩,
   ⟨some 7, .mov (.t 26), none⟩]) (.seq (.region false [⟨some 8, .mov (.c (nv 0)), none⟩]) (.seq (.seq (.region false [⟨some 27, .mov (.t 1), none⟩,
   ⟨some 28, .len (.t 27), none⟩,
   ⟨some 29, .mov (.c (iv 0)), none⟩]) (.block 2 (.loop (.seq (.region false [⟨some 30, .bin .lss false (.t 29) (.t 28), none⟩]) (.seq (.cond (.t 30) .skip (.exit 2)) (.seq (.block 3 (.seq (.region false [⟨some 31, .mov (.t 29), none⟩,
   ⟨some 32, .ixa 1 (.t 27) (.t 29), none⟩,
   ⟨some 33, .load none (.t 32), none⟩,
   ⟨some 9, .mov (.t 31), none⟩,
   ⟨some 10, .mov (.t 33), none⟩]) (.seq (.region false [⟨some 35, .mov (.t 7), none⟩,
   ⟨some 36, .mov (.t 10), none⟩,
   ⟨some 37, .call F.bits_Mul64 [.t 35, .t 36], none⟩,
   ⟨some 34, .mov (.t 37), none⟩,
   ⟨some 38, .ext (.t 34) 0, none⟩,
   ⟨some 39, .ext (.t 34) 1, none⟩,
   ⟨some 11, .mov (.t 38), none⟩,
   ⟨some 12, .mov (.t 39), none⟩]) (.seq (.region false [⟨some 13, .mov (.c (nv 0)), none⟩]) (.seq (.region false [⟨some 41, .mov (.t 12), none⟩,
   ⟨some 42, .mov (.t 8), none⟩,
   ⟨some 43, .ext64 false (.t 41) (.t 42) (.c (nv 0)), none⟩,
   ⟨some 40, .mov (.t 43), none⟩,
   ⟨some 44, .ext (.t 40) 0, none⟩,
   ⟨some 45, .ext (.t 40) 1, none⟩,
   ⟨some 12, .mov (.t 44), none⟩,
   ⟨some 13, .mov (.t 45), none⟩]) (.seq (.region false [⟨some 46, .mov (.t 11), none⟩,
   ⟨some 47, .mov (.t 13), none⟩,
   ⟨some 48, .bin .add false (.t 46) (.t 47), none⟩,
   ⟨some 11, .mov (.t 48), none⟩]) (.seq (.region false [⟨some 50, .mov (.t 5), none⟩,
   ⟨some 51, .mov (.t 6), none⟩,
   ⟨some 52, .mov (.t 9), none⟩,
   ⟨some 53, .bin .add false (.t 51) (.t 52), none⟩,
   ⟨some 54, .mov (.t 5), none⟩,
   ⟨some 55, .mov (.t 6), none⟩,
   ⟨some 56, .mov (.t 9), none⟩,
   ⟨some 57, .bin .add false (.t 55) (.t 56), none⟩,
   ⟨some 58, .ixa 1 (.t 54) (.t 57), none⟩,
   ⟨some 59, .load none (.t 58), none⟩,
   ⟨some 60, .mov (.t 12), none⟩,
   ⟨some 61, .ext64 false (.t 59) (.t 60) (.c (nv 0)), none⟩,
   ⟨some 49, .mov (.t 61), none⟩,
   ⟨some 62, .ext (.t 49) 0, none⟩,
   ⟨some 63, .ext (.t 49) 1, none⟩,
   ⟨some 64, .ixa 1 (.t 50) (.t 53), none⟩,
   ⟨none, .store 1 (.t 64) (.t 62), none⟩,
   ⟨some 13, .mov (.t 63), none⟩]) (.region false [⟨some 65, .mov (.t 11), none⟩,
   ⟨some 66, .mov (.t 13), none⟩,
   ⟨some 67, .bin .add false (.t 65) (.t 66), none⟩,
   ⟨some 8, .mov (.t 67), none⟩])))))))) (.region false [⟨some 68, .bin .add false (.t 29) (.c (iv 1)), none⟩,
   ⟨some 29, .mov (.t 68), none⟩]))))))) (.region false [⟨some 69, .mov (.t 5), none⟩,
   ⟨some 70, .mov (.t 6), none⟩,
   ⟨some 71, .mov (.t 1), none⟩,
   ⟨some 72, .len (.t 71), none⟩,
   ⟨some 73, .bin .add false (.t 70) (.t 72), none⟩,
   ⟨some 74, .mov (.t 8), none⟩,
   ⟨some 75, .ixa 1 (.t 69) (.t 73), none⟩,
   ⟨none, .store 1 (.t 75) (.t 74), none⟩]))))) (.region false [⟨some 76, .bin .add false (.t 22) (.c (iv 1)), none⟩,
   ⟨some 22, .mov (.t 76), none⟩]))))))) (.seq (.region false [⟨some 77, .mov (.t 5), none⟩,
   ⟨some 4, .mov (.t 77), none⟩]) .ret)))
def R.mul_school : List VRes := [.tmp 4]
theorem K.mul_school : resCode Try.prog Try.f89.ntmps (Try.f89.body.getD .skip) = C.mul_school := by kernel_rfl
theorem Q.mul_school : resResults Try.prog Try.f89.results.toList = some R.mul_school := by kernel_rfl
theorem E.mul_school : Try.prog.funcs[F.mul_school]? = some Try.f89 := Try.func89
theorem B.mul_school : Try.f89.body = some (Try.f89.body.getD .skip) := by kernel_rfl
theorem N.mul_school : Try.f89.ntmps = 78 := Try.ntmps89

def C.mul_addAt : VC :=
  .seq (.region false [⟨some 6, .mov (.c (nv 0)), none⟩]) (.seq (.region false [⟨some 9, .mov (.t 2), none⟩,
   ⟨some 7, .mov (.t 9), none⟩]) (.block 0 (.loop (.seq (.seq (.region false [⟨some 10, .mov (.t 7), none⟩,
   ⟨some 11, .mov (.t 0), none⟩,
   ⟨some 12, .len (.t 11), none⟩,
   ⟨some 13, .bin .lss false (.t 10) (.t 12), none⟩,
   ⟨some 14, .mov (.t 13), none⟩,
   ⟨some 15, .mov (.t 7), some (14, true)⟩,
   ⟨some 16, .mov (.t 2), some (14, true)⟩,
   ⟨some 17, .bin .sub false (.t 15) (.t 16), some (14, true)⟩,
   ⟨some 18, .mov (.t 1), some (14, true)⟩,
   ⟨some 19, .len (.t 18), some (14, true)⟩,
   ⟨some 20, .bin .lss false (.t 17) (.t 19), some (14, true)⟩,
   ⟨some 21, .mov (.t 20), some (14, true)⟩,
   ⟨some 22, .mov (.t 6), some (21, false)⟩,
   ⟨some 23, .bin .gtr false (.t 22) (.c (nv 0)), some (21, false)⟩,
   ⟨some 24, .pick (.t 21) (.c (bv true)) (.t 23), some (14, true)⟩,
   ⟨some 25, .pick (.t 14) (.t 24) (.c (bv false)), none⟩]) (.cond (.t 25) .skip (.exit 0))) (.seq (.block 1 (.seq (.region false [⟨some 8, .mov (.c (nv 0)), none⟩]) (.seq (.seq (.region false [⟨some 28, .mov (.t 7), none⟩,
   ⟨some 29, .mov (.t 2), none⟩,
   ⟨some 30, .bin .sub false (.t 28) (.t 29), none⟩,
   ⟨some 31, .mov (.t 1), none⟩,
   ⟨some 32, .len (.t 31), none⟩,
   ⟨some 33, .bin .lss false (.t 30) (.t 32), none⟩]) (.cond (.t 33) (.region false [⟨some 34, .mov (.t 1), none⟩,
   ⟨some 35, .mov (.t 7), none⟩,
   ⟨some 36, .mov (.t 2), none⟩,
   ⟨some 37, .bin .sub false (.t 35) (.t 36), none⟩,
   ⟨some 38, .ixa 1 (.t 34) (.t 37), none⟩,
   ⟨some 39, .load none (.t 38), none⟩,
   ⟨some 8, .mov (.t 39), none⟩]) .skip)) (.region false [⟨some 41, .mov (.t 0), none⟩,
   ⟨some 42, .mov (.t 7), none⟩,
   ⟨some 43, .mov (.t 0), none⟩,
   ⟨some 44, .mov (.t 7), none⟩,
   ⟨some 45, .ixa 1 (.t 43) (.t 44), none⟩,
   ⟨some 46, .load none (.t 45), none⟩,
   ⟨some 47, .mov (.t 8), none⟩,
   ⟨some 48, .mov (.t 6), none⟩,
   ⟨some 49, .ext64 false (.t 46) (.t 47) (.t 48), none⟩,
   ⟨some 40, .mov (.t 49), none⟩,
   ⟨some 50, .ext (.t 40) 0, none⟩,
   ⟨some 51, .ext (.t 40) 1, none⟩,
   ⟨some 52, .ixa 1 (.t 41) (.t 42), none⟩,
   ⟨none, .store 1 (.t 52) (.t 50), none⟩,
   ⟨some 6, .mov (.t 51), none⟩])))) (.region false [⟨some 26, .mov (.t 7), none⟩,
   ⟨some 27, .bin .add false (.t 26) (.c (iv 1)), none⟩,
   ⟨some 7, .mov (.t 27), none⟩]))))))
def R.mul_addAt : List VRes := []
theorem K.mul_addAt : resCode Try.prog Try.f90.ntmps (Try.f90.body.getD .skip) = C.mul_addAt := by kernel_rfl
theorem Q.mul_addAt : resResults Try.prog Try.f90.results.toList = some R.mul_addAt := by kernel_rfl
theorem E.mul_addAt : Try.prog.funcs[F.mul_addAt]? = some Try.f90 := Try.func90
theorem B.mul_addAt : Try.f90.body = some (Try.f90.body.getD .skip) := by kernel_rfl
theorem N.mul_addAt : Try.f90.ntmps = 53 := Try.ntmps90

def C.mul_part : VC :=
  .seq (.region false [⟨some 6, .mov (.c nil1), none⟩]) (.seq (.region false [⟨some 7, .mov (.t 1), none⟩,
   ⟨some 8, .mov (.t 0), none⟩,
   ⟨some 9, .len (.t 8), none⟩,
   ⟨some 10, .mm false (.t 7) (.t 9), none⟩,
   ⟨some 11, .mov (.t 2), none⟩,
   ⟨some 12, .mov (.t 0), none⟩,
   ⟨some 13, .len (.t 12), none⟩,
   ⟨some 14, .mm false (.t 11) (.t 13), none⟩,
   ⟨some 1, .mov (.t 10), none⟩,
   ⟨some 2, .mov (.t 14), none⟩]) (.seq (.block 0 (.loop (.seq (.seq (.region false [⟨some 15, .mov (.t 2), none⟩,
   ⟨some 16, .mov (.t 1), none⟩,
   ⟨some 17, .bin .gtr false (.t 15) (.t 16), none⟩,
   ⟨some 18, .mov (.t 17), none⟩,
   ⟨some 19, .mov (.t 0), some (18, true)⟩,
   ⟨some 20, .mov (.t 2), some (18, true)⟩,
   ⟨some 21, .bin .sub false (.t 20) (.c (iv 1)), some (18, true)⟩,
   ⟨some 22, .ixa 1 (.t 19) (.t 21), some (18, true)⟩,
   ⟨some 23, .load none (.t 22), some (18, true)⟩,
   ⟨some 24, .bin .eql false (.t 23) (.c (nv 0)), some (18, true)⟩,
   ⟨some 25, .pick (.t 18) (.t 24) (.c (bv false)), none⟩]) (.cond (.t 25) .skip (.exit 0))) (.block 1 (.region false [⟨some 26, .mov (.t 2), none⟩,
   ⟨some 27, .bin .sub false (.t 26) (.c (iv 1)), none⟩,
   ⟨some 2, .mov (.t 27), none⟩]))))) (.seq (.region false [⟨some 28, .mov (.t 0), none⟩,
   ⟨some 29, .mov (.t 1), none⟩,
   ⟨some 30, .mov (.t 2), none⟩,
   ⟨some 31, .slc 1 (.t 28) (some (.t 29)) (some (.t 30)) none, none⟩,
   ⟨some 6, .mov (.t 31), none⟩]) .ret)))
def R.mul_part : List VRes := [.tmp 6]
theorem K.mul_part : resCode Try.prog Try.f91.ntmps (Try.f91.body.getD .skip) = C.mul_part := by kernel_rfl
theorem Q.mul_part : resResults Try.prog Try.f91.results.toList = some R.mul_part := by kernel_rfl
theorem E.mul_part : Try.prog.funcs[F.mul_part]? = some Try.f91 := Try.func91
theorem B.mul_part : Try.f91.body = some (Try.f91.body.getD .skip) := by kernel_rfl
theorem N.mul_part : Try.f91.ntmps = 32 := Try.ntmps91

def C.mul_less : VC :=
  .seq (.region false [⟨some 4, .mov (.c nil1), none⟩]) (.seq (.region false [⟨some 9, .mov (.t 0), none⟩,
   ⟨some 10, .len (.t 9), none⟩,
   ⟨some 11, .mk [.int .u64 0] 8 (.t 10) (.t 10), none⟩,
   ⟨some 5, .mov (.t 11), none⟩]) (.seq (.region false [⟨some 12, .mov (.t 5), none⟩,
   ⟨some 13, .mov (.t 0), none⟩,
   ⟨some 14, .cpy 1 (.t 12) (.t 13), none⟩]) (.seq (.region false [⟨some 6, .mov (.c (nv 0)), none⟩]) (.seq (.seq (.region false [⟨some 15, .mov (.t 5), none⟩,
   ⟨some 16, .len (.t 15), none⟩,
   ⟨some 17, .mov (.c (iv 0)), none⟩]) (.block 0 (.loop (.seq (.region false [⟨some 18, .bin .lss false (.t 17) (.t 16), none⟩]) (.seq (.cond (.t 18) .skip (.exit 0)) (.seq (.block 1 (.seq (.region false [⟨some 19, .mov (.t 17), none⟩,
   ⟨some 7, .mov (.t 19), none⟩]) (.seq (.region false [⟨some 8, .mov (.c (nv 0)), none⟩]) (.seq (.seq (.region false [⟨some 20, .mov (.t 7), none⟩,
   ⟨some 21, .mov (.t 1), none⟩,
   ⟨some 22, .len (.t 21), none⟩,
   ⟨some 23, .bin .lss false (.t 20) (.t 22), none⟩]) (.cond (.t 23) (.region false [⟨some 24, .mov (.t 1), none⟩,
   ⟨some 25, .mov (.t 7), none⟩,
   ⟨some 26, .ixa 1 (.t 24) (.t 25), none⟩,
   ⟨some 27, .load none (.t 26), none⟩,
   ⟨some 8, .mov (.t 27), none⟩]) .skip)) (.region false [⟨some 29, .mov (.t 5), none⟩,
   ⟨some 30, .mov (.t 7), none⟩,
   ⟨some 31, .mov (.t 5), none⟩,
   ⟨some 32, .mov (.t 7), none⟩,
   ⟨some 33, .ixa 1 (.t 31) (.t 32), none⟩,
   ⟨some 34, .load none (.t 33), none⟩,
   ⟨some 35, .mov (.t 8), none⟩,
   ⟨some 36, .mov (.t 6), none⟩,
   ⟨some 37, .ext64 true (.t 34) (.t 35) (.t 36), none⟩,
   ⟨some 28, .mov (.t 37), none⟩,
   ⟨some 38, .ext (.t 28) 0, none⟩,
   ⟨some 39, .ext (.t 28) 1, none⟩,
   ⟨some 40, .ixa 1 (.t 29) (.t 30), none⟩,
   ⟨none, .store 1 (.t 40) (.t 38), none⟩,
   ⟨some 6, .mov (.t 39), none⟩]))))) (.region false [⟨some 41, .bin .add false (.t 17) (.c (iv 1)), none⟩,
   ⟨some 17, .mov (.t 41), none⟩]))))))) (.seq (.region false [⟨some 42, .mov (.t 5), none⟩,
   ⟨some 4, .mov (.t 42), none⟩]) .ret)))))
def R.mul_less : List VRes := [.tmp 4]
theorem K.mul_less : resCode Try.prog Try.f92.ntmps (Try.f92.body.getD .skip) = C.mul_less := by kernel_rfl
theorem Q.mul_less : resResults Try.prog Try.f92.results.toList = some R.mul_less := by kernel_rfl
theorem E.mul_less : Try.prog.funcs[F.mul_less]? = some Try.f92 := Try.func92
theorem B.mul_less : Try.f92.body = some (Try.f92.body.getD .skip) := by kernel_rfl
theorem N.mul_less : Try.f92.ntmps = 43 := Try.ntmps92

def C.mul_sum : VC :=
  .seq (.region false [⟨some 4, .mov (.c nil1), none⟩]) (.seq (.region false [⟨some 6, .mov (.t 0), none⟩,
   ⟨some 7, .len (.t 6), none⟩,
   ⟨some 8, .mov (.t 1), none⟩,
   ⟨some 9, .len (.t 8), none⟩,
   ⟨some 10, .mm true (.t 7) (.t 9), none⟩,
   ⟨some 11, .bin .add false (.t 10) (.c (iv 1)), none⟩,
   ⟨some 12, .mk [.int .u64 0] 8 (.t 11) (.t 11), none⟩,
   ⟨some 5, .mov (.t 12), none⟩]) (.seq (.region false [⟨some 13, .mov (.t 5), none⟩,
   ⟨some 14, .mov (.t 0), none⟩,
   ⟨some 15, .cpy 1 (.t 13) (.t 14), none⟩]) (.seq (.region false [⟨some 16, .mov (.t 5), none⟩,
   ⟨some 17, .mov (.t 1), none⟩,
   ⟨some 18, .call F.mul_addAt [.t 16, .t 17, .c (iv 0)], none⟩]) (.seq (.region false [⟨some 19, .mov (.t 5), none⟩,
   ⟨some 4, .mov (.t 19), none⟩]) .ret))))
def R.mul_sum : List VRes := [.tmp 4]
theorem K.mul_sum : resCode Try.prog Try.f93.ntmps (Try.f93.body.getD .skip) = C.mul_sum := by kernel_rfl
theorem Q.mul_sum : resResults Try.prog Try.f93.results.toList = some R.mul_sum := by kernel_rfl
theorem E.mul_sum : Try.prog.funcs[F.mul_sum]? = some Try.f93 := Try.func93
theorem B.mul_sum : Try.f93.body = some (Try.f93.body.getD .skip) := by kernel_rfl
theorem N.mul_sum : Try.f93.ntmps = 20 := Try.ntmps93

def C.div_up : VC :=
  .seq (.region false [⟨some 4, .mov (.c nil1), none⟩]) (.seq (.region false [⟨some 8, .mov (.t 0), none⟩,
   ⟨some 9, .len (.t 8), none⟩,
   ⟨some 10, .bin .add false (.t 9) (.c (iv 1)), none⟩,
   ⟨some 11, .mk [.int .u64 0] 8 (.t 10) (.t 10), none⟩,
   ⟨some 5, .mov (.t 11), none⟩]) (.seq (.seq (.region false [⟨some 12, .mov (.t 0), none⟩,
   ⟨some 13, .len (.t 12), none⟩,
   ⟨some 14, .mov (.c (iv 0)), none⟩]) (.block 0 (.loop (.seq (.region false [⟨some 15, .bin .lss false (.t 14) (.t 13), none⟩]) (.seq (.cond (.t 15) .skip (.exit 0)) (.seq (.block 1 (.seq (.region false [⟨some 16, .mov (.t 14), none⟩,
   ⟨some 17, .ixa 1 (.t 12) (.t 14), none⟩,
   ⟨some 18, .load none (.t 17), none⟩,
   ⟨some 6, .mov (.t 16), none⟩,
   ⟨some 7, .mov (.t 18), none⟩]) (.seq (.region false [⟨some 19, .mov (.t 5), none⟩,
   ⟨some 20, .mov (.t 6), none⟩,
   ⟨some 21, .ixa 1 (.t 19) (.t 20), none⟩,
   ⟨some 22, .load none (.t 21), none⟩,
   ⟨some 23, .mov (.t 7), none⟩,
   ⟨some 24, .mov (.t 1), none⟩,
   ⟨some 25, .bin .shl false (.t 23) (.t 24), none⟩,
   ⟨some 26, .bin .or false (.t 22) (.t 25), none⟩,
   ⟨some 27, .ixa 1 (.t 19) (.t 20), none⟩,
   ⟨none, .store 1 (.t 27) (.t 26), none⟩]) (.region false [⟨some 28, .mov (.t 5), none⟩,
   ⟨some 29, .mov (.t 6), none⟩,
   ⟨some 30, .bin .add false (.t 29) (.c (iv 1)), none⟩,
   ⟨some 31, .mov (.t 7), none⟩,
   ⟨some 32, .bin .shr false (.t 31) (.c (nv 1)), none⟩,
   ⟨some 33, .mov (.t 1), none⟩,
   ⟨some 34, .bin .sub false (.c (nv 63)) (.t 33), none⟩,
   ⟨some 35, .bin .shr false (.t 32) (.t 34), none⟩,
   ⟨some 36, .ixa 1 (.t 28) (.t 30), none⟩,
   ⟨none, .store 1 (.t 36) (.t 35), none⟩])))) (.region false [⟨some 37, .bin .add false (.t 14) (.c (iv 1)), none⟩,
   ⟨some 14, .mov (.t 37), none⟩]))))))) (.seq (.region false [⟨some 38, .mov (.t 5), none⟩,
   ⟨some 4, .mov (.t 38), none⟩]) .ret)))
def R.div_up : List VRes := [.tmp 4]
theorem K.div_up : resCode Try.prog Try.f94.ntmps (Try.f94.body.getD .skip) = C.div_up := by kernel_rfl
theorem Q.div_up : resResults Try.prog Try.f94.results.toList = some R.div_up := by kernel_rfl
theorem E.div_up : Try.prog.funcs[F.div_up]? = some Try.f94 := Try.func94
theorem B.div_up : Try.f94.body = some (Try.f94.body.getD .skip) := by kernel_rfl
theorem N.div_up : Try.f94.ntmps = 39 := Try.ntmps94

end Go.Proofs.Ytladcfeibpddeab
