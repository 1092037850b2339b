/- Texts of a claim, merged: what they prove is told at the last one's head. -/
import Derived.Test.YtladcfeibpddeabChaM2
import Derived.Test.YtladcfeibpddeabProg
import Derived.Test.YtladcfeibpddeabChecked
import Derived.Lib.Mul64
set_option linter.unusedVariables false
namespace Go.Proofs.Ytladcfeibpddeab
open Go.VM

/-- a row of very many cells, by the type's own zero -/
noncomputable def Z.big : List Value := match Try.t81.zero with | some z => z.cells.toList | none => []
abbrev F.surdlaw04_RootLists : FuncId := 3
abbrev F.surdlaw04_RootOwn : FuncId := 4
abbrev F.surdlaw04_RootLogs : FuncId := 5
abbrev F.surdlaw04_RootOnce : FuncId := 6
abbrev F.surdlaw04_RootSteps : FuncId := 7
abbrev F.surdlaw04_RootNewton : FuncId := 8
abbrev F.surdlaw04_RootChains : FuncId := 9
abbrev F.surdlaw04_RootPell : FuncId := 10
abbrev F.surdref01_Lend : FuncId := 11
abbrev F.roots_Roots : FuncId := 12
abbrev F.roots_Residue : FuncId := 13
abbrev F.surdref04_Roots : FuncId := 14
abbrev F.surdref01_Of : FuncId := 15
abbrev F.surdlaw04_num : FuncId := 16
abbrev F.surdref01_Kept : FuncId := 17
abbrev F.surdlaw04_skew : FuncId := 18
abbrev F.surdlaw04_awake : FuncId := 19
abbrev F.surdref01_Num_Len : FuncId := 20
abbrev F.surdref01_Root : FuncId := 21
abbrev F.roots_Root : FuncId := 22
abbrev F.roots_Sqrt : FuncId := 23
abbrev F.roots_Ceil : FuncId := 24
abbrev F.roots_Perfect : FuncId := 25
abbrev F.surdref01_Num_Is : FuncId := 26
abbrev F.surdref01_Own : FuncId := 27
abbrev F.surdref01_Copy : FuncId := 28
abbrev F.surdref04_Log : FuncId := 29
abbrev F.roots_Log : FuncId := 30
abbrev F.surdref01_Cmp : FuncId := 31
abbrev F.surdlaw04_of : FuncId := 32
abbrev F.roots_IsSquare : FuncId := 33
abbrev F.surdref01_Pow : FuncId := 34
abbrev F.surdref04_Step : FuncId := 35
abbrev F.roots_Step : FuncId := 36
abbrev F.surdlaw04_alike : FuncId := 37
abbrev F.surdref01_Num_Zero : FuncId := 38
abbrev F.surdref01_Add : FuncId := 39
abbrev F.surdlaw04_one : FuncId := 40
abbrev F.roots_Chain : FuncId := 41
abbrev F.surdref04_Chain : FuncId := 42
abbrev F.roots_Pell : FuncId := 43
abbrev F.surdref04_Pell : FuncId := 44
abbrev F.surdref01_Mul : FuncId := 45
abbrev F.surdref01_Int : FuncId := 46
abbrev F.nat_Through : FuncId := 47
abbrev F.surdref01_Div : FuncId := 48
abbrev F.surdref01_norm : FuncId := 49
abbrev F.surdref01_Shl : FuncId := 50
abbrev F.roots_fits : FuncId := 51
abbrev F.nat_Length : FuncId := 52
abbrev F.roots_newton : FuncId := 53
abbrev F.mul_Pow : FuncId := 54
abbrev F.roots_less : FuncId := 55
abbrev F.nat_Add : FuncId := 56
abbrev F.nat_From : FuncId := 57
abbrev F.surdref01_Num_Limbs : FuncId := 58
abbrev F.mul_Square : FuncId := 59
abbrev F.nat_Compare : FuncId := 60
abbrev F.mul_Mul : FuncId := 61
abbrev F.surdref04_told : FuncId := 62
abbrev F.surdref01_Shr : FuncId := 63
abbrev F.div_Quo : FuncId := 64
abbrev F.nat_Right : FuncId := 65
abbrev F.nat_Bit : FuncId := 66
abbrev F.surdref01_Num_at : FuncId := 67
abbrev F.roots_next : FuncId := 68
abbrev F.nat_trim : FuncId := 69
abbrev F.bits_Div64 : FuncId := 70
abbrev F.nat_told : FuncId := 71
abbrev F.surdref01_Sub : FuncId := 72
abbrev F.nat_Norm : FuncId := 73
abbrev F.bits_Len64 : FuncId := 74
abbrev F.roots_power : FuncId := 75
abbrev F.nat_Times : FuncId := 76
abbrev F.nat_Sub : FuncId := 77
abbrev F.mul_product : FuncId := 79
abbrev F.mul_Mul_1 : FuncId := 80
abbrev F.mul_halved : FuncId := 81
abbrev F.div_divide : FuncId := 82
abbrev F.bits_LeadingZeros64 : FuncId := 83
abbrev F.nat_Left : FuncId := 84
abbrev F.bits_Mul64 : FuncId := 85
abbrev F.mul_great : FuncId := 87
abbrev F.mul_fits : FuncId := 88
abbrev F.mul_school : FuncId := 89
abbrev F.mul_addAt : FuncId := 90
abbrev F.mul_part : FuncId := 91
abbrev F.mul_less : FuncId := 92
abbrev F.mul_sum : FuncId := 93
abbrev F.div_up : FuncId := 94
abbrev F.div_guess : FuncId := 95
abbrev F.div_down : FuncId := 96
def C.surdlaw04_RootChains : VC :=
  .seq (.region false [⟨some 2, .mov (.c (bv false)), none⟩]) (.seq (.region false [⟨some 21, .mov (.t 0), none⟩,
   ⟨some 22, .call F.roots_Chain [.t 21], none⟩,
   ⟨some 20, .mov (.t 22), none⟩,
   ⟨some 23, .ext (.t 20) 0, none⟩,
   ⟨some 24, .ext (.t 20) 1, none⟩,
   ⟨some 25, .ext (.t 20) 2, none⟩,
   ⟨some 3, .mov (.t 23), none⟩,
   ⟨some 4, .mov (.t 24), none⟩,
   ⟨some 5, .mov (.t 25), none⟩]) (.seq (.region false [⟨some 27, .mov (.t 0), none⟩,
   ⟨some 28, .call F.roots_Chain [.t 27], none⟩,
   ⟨some 26, .mov (.t 28), none⟩,
   ⟨some 29, .ext (.t 26) 0, none⟩,
   ⟨some 30, .ext (.t 26) 1, none⟩,
   ⟨some 31, .ext (.t 26) 2, none⟩,
   ⟨some 6, .mov (.t 29), none⟩,
   ⟨some 7, .mov (.t 30), none⟩,
   ⟨some 8, .mov (.t 31), none⟩]) (.seq (.region false [⟨some 33, .mov (.t 0), none⟩,
   ⟨some 34, .call F.surdref04_Chain [.t 33], none⟩,
   ⟨some 32, .mov (.t 34), none⟩,
   ⟨some 35, .ext (.t 32) 0, none⟩,
   ⟨some 36, .ext (.t 32) 1, none⟩,
   ⟨some 37, .ext (.t 32) 2, none⟩,
   ⟨some 9, .mov (.t 35), none⟩,
   ⟨some 10, .mov (.t 36), none⟩,
   ⟨some 11, .mov (.t 37), none⟩]) (.seq (.region false [⟨some 39, .mov (.t 0), none⟩,
   ⟨some 40, .call F.roots_Pell [.t 39], none⟩,
   ⟨some 38, .mov (.t 40), none⟩,
   ⟨some 41, .ext (.t 38) 0, none⟩,
   ⟨some 42, .ext (.t 38) 1, none⟩,
   ⟨some 43, .ext (.t 38) 2, none⟩,
   ⟨some 12, .mov (.t 41), none⟩,
   ⟨some 13, .mov (.t 42), none⟩,
   ⟨some 14, .mov (.t 43), none⟩]) (.seq (.region false [⟨some 45, .mov (.t 0), none⟩,
   ⟨some 46, .call F.surdref04_Pell [.t 45], none⟩,
   ⟨some 44, .mov (.t 46), none⟩,
   ⟨some 47, .ext (.t 44) 0, none⟩,
   ⟨some 48, .ext (.t 44) 1, none⟩,
   ⟨some 49, .ext (.t 44) 2, none⟩,
   ⟨some 15, .mov (.t 47), none⟩,
   ⟨some 16, .mov (.t 48), none⟩,
   ⟨some 17, .mov (.t 49), none⟩]) (.seq (.seq (.region false [⟨some 50, .mov (.t 5), none⟩,
   ⟨some 51, .call F.surdlaw04_num [.t 50], none⟩,
   ⟨some 52, .mov (.t 11), none⟩,
   ⟨some 53, .bin .neq false (.t 51) (.t 52), none⟩,
   ⟨some 54, .mov (.t 53), none⟩,
   ⟨some 55, .mov (.t 8), some (54, false)⟩,
   ⟨some 56, .call F.surdlaw04_num [.t 55], some (54, false)⟩,
   ⟨some 57, .mov (.t 11), some (54, false)⟩,
   ⟨some 58, .bin .neq false (.t 56) (.t 57), some (54, false)⟩,
   ⟨some 59, .pick (.t 54) (.c (bv true)) (.t 58), none⟩,
   ⟨some 60, .mov (.t 59), none⟩,
   ⟨some 61, .mov (.t 3), some (60, false)⟩,
   ⟨some 62, .mov (.t 9), some (60, false)⟩,
   ⟨some 63, .bin .neq false (.t 61) (.t 62), some (60, false)⟩,
   ⟨some 64, .pick (.t 60) (.c (bv true)) (.t 63), none⟩,
   ⟨some 65, .mov (.t 64), none⟩,
   ⟨some 66, .mov (.t 6), some (65, false)⟩,
   ⟨some 67, .mov (.t 9), some (65, false)⟩,
   ⟨some 68, .bin .neq false (.t 66) (.t 67), some (65, false)⟩,
   ⟨some 69, .pick (.t 65) (.c (bv true)) (.t 68), none⟩,
   ⟨some 70, .mov (.t 69), none⟩,
   ⟨some 71, .mov (.t 4), some (70, false)⟩,
   ⟨some 72, .len (.t 71), some (70, false)⟩,
   ⟨some 73, .mov (.t 10), some (70, false)⟩,
   ⟨some 74, .len (.t 73), some (70, false)⟩,
   ⟨some 75, .bin .neq false (.t 72) (.t 74), some (70, false)⟩,
   ⟨some 76, .pick (.t 70) (.c (bv true)) (.t 75), none⟩,
   ⟨some 77, .mov (.t 76), none⟩,
   ⟨some 78, .mov (.t 7), some (77, false)⟩,
   ⟨some 79, .len (.t 78), some (77, false)⟩,
   ⟨some 80, .mov (.t 10), some (77, false)⟩,
   ⟨some 81, .len (.t 80), some (77, false)⟩,
   ⟨some 82, .bin .neq false (.t 79) (.t 81), some (77, false)⟩,
   ⟨some 83, .pick (.t 77) (.c (bv true)) (.t 82), none⟩,
   ⟨some 84, .mov (.t 83), none⟩,
   ⟨some 85, .mov (.t 12), some (84, false)⟩,
   ⟨some 86, .mov (.t 14), some (84, false)⟩,
   ⟨some 87, .mov (.t 15), some (84, false)⟩,
   ⟨some 88, .mov (.t 17), some (84, false)⟩,
   ⟨some 89, .call F.surdlaw04_alike [.t 85, .t 86, .t 87, .t 88], some (84, false)⟩,
   ⟨some 90, .un .not (.t 89), some (84, false)⟩,
   ⟨some 91, .pick (.t 84) (.c (bv true)) (.t 90), none⟩,
   ⟨some 92, .mov (.t 91), none⟩,
   ⟨some 93, .mov (.t 13), some (92, false)⟩,
   ⟨some 94, .mov (.t 14), some (92, false)⟩,
   ⟨some 95, .mov (.t 16), some (92, false)⟩,
   ⟨some 96, .mov (.t 17), some (92, false)⟩,
   ⟨some 97, .call F.surdlaw04_alike [.t 93, .t 94, .t 95, .t 96], some (92, false)⟩,
   ⟨some 98, .un .not (.t 97), some (92, false)⟩,
   ⟨some 99, .pick (.t 92) (.c (bv true)) (.t 98), none⟩]) (.cond (.t 99) (.seq (.region false [⟨some 2, .mov (.c (bv false)), none⟩]) .ret) .skip)) (.seq (.seq (.region false [⟨some 100, .mov (.t 10), none⟩,
   ⟨some 101, .len (.t 100), none⟩,
   ⟨some 102, .mov (.c (iv 0)), none⟩]) (.block 0 (.loop (.seq (.region false [⟨some 103, .bin .lss false (.t 102) (.t 101), none⟩]) (.seq (.cond (.t 103) .skip (.exit 0)) (.seq (.block 1 (.seq (.region false [⟨some 104, .mov (.t 102), none⟩,
   ⟨some 18, .mov (.t 104), none⟩]) (.seq (.seq (.region true [⟨some 105, .mov (.t 4), none⟩,
   ⟨some 106, .mov (.t 18), none⟩,
   ⟨some 107, .ixa 1 (.t 105) (.t 106), none⟩,
   ⟨some 108, .load none (.t 107), none⟩,
   ⟨some 109, .mov (.t 10), none⟩,
   ⟨some 110, .mov (.t 18), none⟩,
   ⟨some 111, .ixa 1 (.t 109) (.t 110), none⟩,
   ⟨some 112, .load none (.t 111), none⟩,
   ⟨some 113, .bin .neq false (.t 108) (.t 112), none⟩]) (.cond (.t 113) (.seq (.region false [⟨some 2, .mov (.c (bv false)), none⟩]) .ret) .skip)) (.region false [⟨some 114, .mov (.t 4), none⟩,
   ⟨some 115, .mov (.t 18), none⟩,
   ⟨some 116, .ixa 1 (.t 114) (.t 115), none⟩,
   ⟨none, .store 1 (.t 116) (.c (iv (-7))), none⟩])))) (.region false [⟨some 117, .bin .add false (.t 102) (.c (iv 1)), none⟩,
   ⟨some 102, .mov (.t 117), none⟩]))))))) (.seq (.seq (.region false [⟨some 118, .mov (.t 10), none⟩,
   ⟨some 119, .len (.t 118), none⟩,
   ⟨some 120, .mov (.c (iv 0)), none⟩]) (.block 2 (.loop (.seq (.region false [⟨some 121, .bin .lss false (.t 120) (.t 119), none⟩]) (.seq (.cond (.t 121) .skip (.exit 2)) (.seq (.block 3 (.seq (.region false [⟨some 122, .mov (.t 120), none⟩,
   ⟨some 19, .mov (.t 122), none⟩]) (.seq (.region true [⟨some 123, .mov (.t 7), none⟩,
   ⟨some 124, .mov (.t 19), none⟩,
   ⟨some 125, .ixa 1 (.t 123) (.t 124), none⟩,
   ⟨some 126, .load none (.t 125), none⟩,
   ⟨some 127, .mov (.t 10), none⟩,
   ⟨some 128, .mov (.t 19), none⟩,
   ⟨some 129, .ixa 1 (.t 127) (.t 128), none⟩,
   ⟨some 130, .load none (.t 129), none⟩,
   ⟨some 131, .bin .neq false (.t 126) (.t 130), none⟩]) (.cond (.t 131) (.seq (.region false [⟨some 2, .mov (.c (bv false)), none⟩]) .ret) .skip)))) (.region false [⟨some 132, .bin .add false (.t 120) (.c (iv 1)), none⟩,
   ⟨some 120, .mov (.t 132), none⟩]))))))) (.seq (.region false [⟨some 133, .mov (.t 12), none⟩,
   ⟨some 134, .mov (.t 13), none⟩,
   ⟨some 135, .bsl true 1 2 [.slice none 0 0] [(0, (1, .t 133)), (1, (1, .t 134))], none⟩,
   ⟨some 136, .call F.surdref01_Own [.t 135], none⟩,
   ⟨some 137, .mov (.t 136), none⟩,
   ⟨some 138, .call F.surdlaw04_awake [], some (137, true)⟩,
   ⟨some 139, .pick (.t 137) (.t 138) (.c (bv false)), none⟩,
   ⟨some 2, .mov (.t 139), none⟩]) .ret)))))))))
def R.surdlaw04_RootChains : List VRes := [.tmp 2]
theorem K.surdlaw04_RootChains : resCode Try.prog Try.f9.ntmps (Try.f9.body.getD .skip) = C.surdlaw04_RootChains := by kernel_rfl
theorem Q.surdlaw04_RootChains : resResults Try.prog Try.f9.results.toList = some R.surdlaw04_RootChains := by kernel_rfl
theorem E.surdlaw04_RootChains : Try.prog.funcs[F.surdlaw04_RootChains]? = some Try.f9 := Try.func9
theorem B.surdlaw04_RootChains : Try.f9.body = some (Try.f9.body.getD .skip) := by kernel_rfl
theorem N.surdlaw04_RootChains : Try.f9.ntmps = 140 := Try.ntmps9

def C.surdref01_Lend : VC :=
  .seq (.region false [⟨some 2, .mov (.c nil1), none⟩,
   ⟨some 3, .mov (.c nil1), none⟩]) (.seq (.region false [⟨some 8, .mov (.t 0), none⟩,
   ⟨some 9, .len (.t 8), none⟩,
   ⟨some 10, .bin .add false (.t 9) (.c (iv 4)), none⟩,
   ⟨some 11, .mk [.int .u64 0] 8 (.t 10) (.t 10), none⟩,
   ⟨some 4, .mov (.t 11), none⟩]) (.seq (.seq (.region false [⟨some 12, .mov (.t 4), none⟩,
   ⟨some 13, .len (.t 12), none⟩,
   ⟨some 14, .mov (.c (iv 0)), none⟩]) (.block 0 (.loop (.seq (.region false [⟨some 15, .bin .lss false (.t 14) (.t 13), none⟩]) (.seq (.cond (.t 15) .skip (.exit 0)) (.seq (.block 1 (.seq (.region false [⟨some 16, .mov (.t 14), none⟩,
   ⟨some 5, .mov (.t 16), none⟩]) (.region false [⟨some 17, .mov (.t 4), none⟩,
   ⟨some 18, .mov (.t 5), none⟩,
   ⟨some 19, .ixa 1 (.t 17) (.t 18), none⟩,
   ⟨none, .store 1 (.t 19) (.c (nv 10855845)), none⟩]))) (.region false [⟨some 20, .bin .add false (.t 14) (.c (iv 1)), none⟩,
   ⟨some 14, .mov (.t 20), none⟩]))))))) (.seq (.seq (.region false [⟨some 21, .mov (.t 0), none⟩,
   ⟨some 22, .len (.t 21), none⟩,
   ⟨some 23, .mov (.c (iv 0)), none⟩]) (.block 2 (.loop (.seq (.region false [⟨some 24, .bin .lss false (.t 23) (.t 22), none⟩]) (.seq (.cond (.t 24) .skip (.exit 2)) (.seq (.block 3 (.seq (.region false [⟨some 25, .mov (.t 23), none⟩,
   ⟨some 26, .ixa 1 (.t 21) (.t 23), none⟩,
   ⟨some 27, .load none (.t 26), none⟩,
   ⟨some 6, .mov (.t 25), none⟩,
   ⟨some 7, .mov (.t 27), none⟩]) (.region false [⟨some 28, .mov (.t 4), none⟩,
   ⟨some 29, .mov (.t 6), none⟩,
   ⟨some 30, .bin .add false (.t 29) (.c (iv 2)), none⟩,
   ⟨some 31, .mov (.t 7), none⟩,
   ⟨some 32, .ixa 1 (.t 28) (.t 30), none⟩,
   ⟨none, .store 1 (.t 32) (.t 31), none⟩]))) (.region false [⟨some 33, .bin .add false (.t 23) (.c (iv 1)), none⟩,
   ⟨some 23, .mov (.t 33), none⟩]))))))) (.seq (.region true [⟨some 34, .mov (.t 4), none⟩,
   ⟨some 35, .mov (.t 4), none⟩,
   ⟨some 36, .mov (.t 0), none⟩,
   ⟨some 37, .len (.t 36), none⟩,
   ⟨some 38, .bin .add false (.t 37) (.c (iv 2)), none⟩,
   ⟨some 39, .slc 1 (.t 35) (some (.c (iv 2))) (some (.t 38)) none, none⟩,
   ⟨some 2, .mov (.t 34), none⟩,
   ⟨some 3, .mov (.t 39), none⟩]) .ret))))
def R.surdref01_Lend : List VRes := [.tmp 2, .tmp 3]
theorem K.surdref01_Lend : resCode Try.prog Try.f11.ntmps (Try.f11.body.getD .skip) = C.surdref01_Lend := by kernel_rfl
theorem Q.surdref01_Lend : resResults Try.prog Try.f11.results.toList = some R.surdref01_Lend := by kernel_rfl
theorem E.surdref01_Lend : Try.prog.funcs[F.surdref01_Lend]? = some Try.f11 := Try.func11
theorem B.surdref01_Lend : Try.f11.body = some (Try.f11.body.getD .skip) := by kernel_rfl
theorem N.surdref01_Lend : Try.f11.ntmps = 40 := Try.ntmps11

def C.surdref01_Of : VC :=
  .seq (.region false [⟨some 2, .mov (.c nil1), none⟩]) (.seq (.region false [⟨some 6, .mov (.t 0), none⟩,
   ⟨some 7, .len (.t 6), none⟩,
   ⟨some 8, .bin .mul false (.c (iv 2)) (.t 7), none⟩,
   ⟨some 9, .mk [.int .u64 0] 8 (.c (iv 0)) (.t 8), none⟩,
   ⟨some 3, .mov (.t 9), none⟩]) (.seq (.seq (.region false [⟨some 10, .mov (.t 0), none⟩,
   ⟨some 11, .len (.t 10), none⟩,
   ⟨some 12, .mov (.c (iv 0)), none⟩]) (.block 0 (.loop (.seq (.region false [⟨some 13, .bin .lss false (.t 12) (.t 11), none⟩]) (.seq (.cond (.t 13) .skip (.exit 0)) (.seq (.block 1 (.seq (.region false [⟨some 14, .ixa 1 (.t 10) (.t 12), none⟩,
   ⟨some 15, .load none (.t 14), none⟩,
   ⟨some 5, .mov (.t 15), none⟩]) (.region false [⟨some 16, .mov (.t 3), none⟩,
   ⟨some 17, .mov (.t 5), none⟩,
   ⟨some 18, .bin .rem false (.t 17) (.c (nv 4294967296)), none⟩,
   ⟨some 19, .mov (.t 5), none⟩,
   ⟨some 20, .bin .quo false (.t 19) (.c (nv 4294967296)), none⟩,
   ⟨some 21, .bsl true 1 2 [.int .u64 0] [(0, (1, .t 18)), (1, (1, .t 20))], none⟩,
   ⟨some 22, .app 1 8 [.int .u64 0] (.t 16) (.t 21), none⟩,
   ⟨some 3, .mov (.t 22), none⟩]))) (.region false [⟨some 23, .bin .add false (.t 12) (.c (iv 1)), none⟩,
   ⟨some 12, .mov (.t 23), none⟩]))))))) (.seq (.region false [⟨some 24, .mov (.t 3), none⟩,
   ⟨some 25, .call F.surdref01_norm [.t 24], none⟩,
   ⟨some 2, .mov (.t 25), none⟩]) .ret)))
def R.surdref01_Of : List VRes := [.tmp 2]
theorem K.surdref01_Of : resCode Try.prog Try.f15.ntmps (Try.f15.body.getD .skip) = C.surdref01_Of := by kernel_rfl
theorem Q.surdref01_Of : resResults Try.prog Try.f15.results.toList = some R.surdref01_Of := by kernel_rfl
theorem E.surdref01_Of : Try.prog.funcs[F.surdref01_Of]? = some Try.f15 := Try.func15
theorem B.surdref01_Of : Try.f15.body = some (Try.f15.body.getD .skip) := by kernel_rfl
theorem N.surdref01_Of : Try.f15.ntmps = 26 := Try.ntmps15

def C.surdlaw04_num : VC :=
  .seq (.region false [⟨some 2, .mov (.c (iv 0)), none⟩]) (.seq (.region false [⟨some 3, .mov (.t 0), none⟩,
   ⟨some 2, .mov (.t 3), none⟩]) .ret)
def R.surdlaw04_num : List VRes := [.tmp 2]
theorem K.surdlaw04_num : resCode Try.prog Try.f16.ntmps (Try.f16.body.getD .skip) = C.surdlaw04_num := by kernel_rfl
theorem Q.surdlaw04_num : resResults Try.prog Try.f16.results.toList = some R.surdlaw04_num := by kernel_rfl
theorem E.surdlaw04_num : Try.prog.funcs[F.surdlaw04_num]? = some Try.f16 := Try.func16
theorem B.surdlaw04_num : Try.f16.body = some (Try.f16.body.getD .skip) := by kernel_rfl
theorem N.surdlaw04_num : Try.f16.ntmps = 4 := Try.ntmps16

def C.surdref01_Kept : VC :=
  .seq (.region false [⟨some 4, .mov (.c (bv false)), none⟩]) (.seq (.seq (.region false [⟨some 7, .mov (.t 0), none⟩,
   ⟨some 8, .len (.t 7), none⟩,
   ⟨some 9, .mov (.t 1), none⟩,
   ⟨some 10, .len (.t 9), none⟩,
   ⟨some 11, .bin .add false (.t 10) (.c (iv 4)), none⟩,
   ⟨some 12, .bin .neq false (.t 8) (.t 11), none⟩]) (.cond (.t 12) (.seq (.region false [⟨some 4, .mov (.c (bv false)), none⟩]) .ret) .skip)) (.seq (.seq (.region false [⟨some 13, .mov (.t 0), none⟩,
   ⟨some 14, .len (.t 13), none⟩,
   ⟨some 15, .mov (.c (iv 0)), none⟩]) (.block 0 (.loop (.seq (.region false [⟨some 16, .bin .lss false (.t 15) (.t 14), none⟩]) (.seq (.cond (.t 16) .skip (.exit 0)) (.seq (.block 1 (.seq (.region false [⟨some 17, .mov (.t 15), none⟩,
   ⟨some 18, .ixa 1 (.t 13) (.t 15), none⟩,
   ⟨some 19, .load none (.t 18), none⟩,
   ⟨some 5, .mov (.t 17), none⟩,
   ⟨some 6, .mov (.t 19), none⟩]) (.seq (.region false [⟨some 20, .mov (.t 5), none⟩,
   ⟨some 21, .bin .lss false (.t 20) (.c (iv 2)), none⟩,
   ⟨some 22, .mov (.t 21), none⟩,
   ⟨some 23, .mov (.t 5), some (22, false)⟩,
   ⟨some 24, .mov (.t 1), some (22, false)⟩,
   ⟨some 25, .len (.t 24), some (22, false)⟩,
   ⟨some 26, .bin .add false (.t 25) (.c (iv 2)), some (22, false)⟩,
   ⟨some 27, .bin .geq false (.t 23) (.t 26), some (22, false)⟩,
   ⟨some 28, .pick (.t 22) (.c (bv true)) (.t 27), none⟩]) (.cond (.t 28) (.seq (.region false [⟨some 29, .mov (.t 6), none⟩,
   ⟨some 30, .bin .neq false (.t 29) (.c (nv 10855845)), none⟩]) (.cond (.t 30) (.seq (.region false [⟨some 4, .mov (.c (bv false)), none⟩]) .ret) .skip)) (.seq (.region false [⟨some 31, .mov (.t 6), none⟩,
   ⟨some 32, .mov (.t 1), none⟩,
   ⟨some 33, .mov (.t 5), none⟩,
   ⟨some 34, .bin .sub false (.t 33) (.c (iv 2)), none⟩,
   ⟨some 35, .ixa 1 (.t 32) (.t 34), none⟩,
   ⟨some 36, .load none (.t 35), none⟩,
   ⟨some 37, .bin .neq false (.t 31) (.t 36), none⟩]) (.cond (.t 37) (.seq (.region false [⟨some 4, .mov (.c (bv false)), none⟩]) .ret) .skip)))))) (.region false [⟨some 38, .bin .add false (.t 15) (.c (iv 1)), none⟩,
   ⟨some 15, .mov (.t 38), none⟩]))))))) (.seq (.region false [⟨some 4, .mov (.c (bv true)), none⟩]) .ret)))
def R.surdref01_Kept : List VRes := [.tmp 4]
theorem K.surdref01_Kept : resCode Try.prog Try.f17.ntmps (Try.f17.body.getD .skip) = C.surdref01_Kept := by kernel_rfl
theorem Q.surdref01_Kept : resResults Try.prog Try.f17.results.toList = some R.surdref01_Kept := by kernel_rfl
theorem E.surdref01_Kept : Try.prog.funcs[F.surdref01_Kept]? = some Try.f17 := Try.func17
theorem B.surdref01_Kept : Try.f17.body = some (Try.f17.body.getD .skip) := by kernel_rfl
theorem N.surdref01_Kept : Try.f17.ntmps = 39 := Try.ntmps17

def C.surdlaw04_awake : VC :=
  .seq (.region false [⟨some 0, .mov (.c (bv false)), none⟩]) (.seq (.region false [⟨some 5, .bsl true 1 1 [.int .u64 0] [(0, (1, .c (nv 15)))], none⟩,
   ⟨some 6, .call F.roots_Sqrt [.t 5], none⟩,
   ⟨some 4, .mov (.t 6), none⟩,
   ⟨some 7, .ext (.t 4) 0, none⟩,
   ⟨some 8, .ext (.t 4) 1, none⟩,
   ⟨some 9, .ext (.t 4) 2, none⟩,
   ⟨some 1, .mov (.t 7), none⟩,
   ⟨some 2, .mov (.t 8), none⟩,
   ⟨some 3, .mov (.t 9), none⟩]) (.seq (.region false [⟨some 10, .mov (.t 3), none⟩,
   ⟨some 11, .call F.surdlaw04_num [.t 10], none⟩,
   ⟨some 12, .bin .eql false (.t 11) (.c (iv 0)), none⟩,
   ⟨some 13, .mov (.t 12), none⟩,
   ⟨some 14, .call F.surdref01_Int [.c (iv 3)], some (13, true)⟩,
   ⟨some 15, .mov (.t 1), some (13, true)⟩,
   ⟨some 16, .call F.surdref01_Num_Is [.t 14, .t 15], some (13, true)⟩,
   ⟨some 17, .pick (.t 13) (.t 16) (.c (bv false)), none⟩,
   ⟨some 18, .mov (.t 17), none⟩,
   ⟨some 19, .call F.surdref01_Int [.c (iv 6)], some (18, true)⟩,
   ⟨some 20, .mov (.t 2), some (18, true)⟩,
   ⟨some 21, .call F.surdref01_Num_Is [.t 19, .t 20], some (18, true)⟩,
   ⟨some 22, .pick (.t 18) (.t 21) (.c (bv false)), none⟩,
   ⟨some 0, .mov (.t 22), none⟩]) .ret))
def R.surdlaw04_awake : List VRes := [.tmp 0]
theorem K.surdlaw04_awake : resCode Try.prog Try.f19.ntmps (Try.f19.body.getD .skip) = C.surdlaw04_awake := by kernel_rfl
theorem Q.surdlaw04_awake : resResults Try.prog Try.f19.results.toList = some R.surdlaw04_awake := by kernel_rfl
theorem E.surdlaw04_awake : Try.prog.funcs[F.surdlaw04_awake]? = some Try.f19 := Try.func19
theorem B.surdlaw04_awake : Try.f19.body = some (Try.f19.body.getD .skip) := by kernel_rfl
theorem N.surdlaw04_awake : Try.f19.ntmps = 23 := Try.ntmps19

def C.surdref01_Num_Len : VC :=
  .seq (.region false [⟨some 2, .mov (.c (iv 0)), none⟩]) (.seq (.seq (.region false [⟨some 5, .mov (.t 0), none⟩,
   ⟨some 6, .len (.t 5), none⟩,
   ⟨some 7, .bin .eql false (.t 6) (.c (iv 0)), none⟩]) (.cond (.t 7) (.seq (.region false [⟨some 2, .mov (.c (iv 0)), none⟩]) .ret) .skip)) (.seq (.region false [⟨some 8, .mov (.t 0), none⟩,
   ⟨some 9, .len (.t 8), none⟩,
   ⟨some 10, .bin .sub false (.t 9) (.c (iv 1)), none⟩,
   ⟨some 11, .bin .mul false (.c (iv 32)) (.t 10), none⟩,
   ⟨some 3, .mov (.t 11), none⟩]) (.seq (.seq (.region false [⟨some 12, .mov (.t 0), none⟩,
   ⟨some 13, .mov (.t 0), none⟩,
   ⟨some 14, .len (.t 13), none⟩,
   ⟨some 15, .bin .sub false (.t 14) (.c (iv 1)), none⟩,
   ⟨some 16, .ixa 1 (.t 12) (.t 15), none⟩,
   ⟨some 17, .load none (.t 16), none⟩,
   ⟨some 4, .mov (.t 17), none⟩]) (.block 0 (.loop (.seq (.seq (.region false [⟨some 18, .mov (.t 4), none⟩,
   ⟨some 19, .bin .gtr false (.t 18) (.c (nv 0)), none⟩]) (.cond (.t 19) .skip (.exit 0))) (.seq (.block 1 (.region false [⟨some 22, .mov (.t 3), none⟩,
   ⟨some 23, .bin .add false (.t 22) (.c (iv 1)), none⟩,
   ⟨some 3, .mov (.t 23), none⟩])) (.region false [⟨some 20, .mov (.t 4), none⟩,
   ⟨some 21, .bin .quo false (.t 20) (.c (nv 2)), none⟩,
   ⟨some 4, .mov (.t 21), none⟩])))))) (.seq (.region false [⟨some 24, .mov (.t 3), none⟩,
   ⟨some 2, .mov (.t 24), none⟩]) .ret))))
def R.surdref01_Num_Len : List VRes := [.tmp 2]
theorem K.surdref01_Num_Len : resCode Try.prog Try.f20.ntmps (Try.f20.body.getD .skip) = C.surdref01_Num_Len := by kernel_rfl
theorem Q.surdref01_Num_Len : resResults Try.prog Try.f20.results.toList = some R.surdref01_Num_Len := by kernel_rfl
theorem E.surdref01_Num_Len : Try.prog.funcs[F.surdref01_Num_Len]? = some Try.f20 := Try.func20
theorem B.surdref01_Num_Len : Try.f20.body = some (Try.f20.body.getD .skip) := by kernel_rfl
theorem N.surdref01_Num_Len : Try.f20.ntmps = 25 := Try.ntmps20

def C.roots_Root : VC :=
  .seq (.region false [⟨some 4, .mov (.c nil1), none⟩,
   ⟨some 5, .mov (.c nil1), none⟩,
   ⟨some 6, .mov (.c (iv 0)), none⟩]) (.seq (.seq (.region false [⟨some 11, .mov (.t 1), none⟩,
   ⟨some 12, .bin .lss false (.t 11) (.c (iv 1)), none⟩]) (.cond (.t 12) (.seq (.region false [⟨some 4, .mov (.c nil1), none⟩,
   ⟨some 5, .mov (.c nil1), none⟩,
   ⟨some 6, .mov (.c (iv 40)), none⟩]) .ret) .skip)) (.seq (.region false [⟨some 14, .mov (.t 0), none⟩,
   ⟨some 15, .call F.roots_fits [.t 14], none⟩,
   ⟨some 13, .mov (.t 15), none⟩,
   ⟨some 16, .ext (.t 13) 0, none⟩,
   ⟨some 17, .ext (.t 13) 1, none⟩,
   ⟨some 0, .mov (.t 16), none⟩,
   ⟨some 7, .mov (.t 17), none⟩]) (.seq (.seq (.region false [⟨some 18, .mov (.t 7), none⟩,
   ⟨some 19, .bin .neq false (.t 18) (.c (iv 0)), none⟩]) (.cond (.t 19) (.seq (.region false [⟨some 20, .mov (.t 7), none⟩,
   ⟨some 4, .mov (.c nil1), none⟩,
   ⟨some 5, .mov (.c nil1), none⟩,
   ⟨some 6, .mov (.t 20), none⟩]) .ret) .skip)) (.seq (.seq (.region false [⟨some 21, .mov (.t 1), none⟩,
   ⟨some 22, .bin .eql false (.t 21) (.c (iv 1)), none⟩,
   ⟨some 23, .mov (.t 22), none⟩,
   ⟨some 24, .mov (.t 0), some (23, false)⟩,
   ⟨some 25, .call F.nat_Length [.t 24], some (23, false)⟩,
   ⟨some 26, .bin .eql false (.t 25) (.c (iv 0)), some (23, false)⟩,
   ⟨some 27, .pick (.t 23) (.c (bv true)) (.t 26), none⟩]) (.cond (.t 27) (.seq (.region false [⟨some 28, .mov (.t 0), none⟩,
   ⟨some 4, .mov (.t 28), none⟩,
   ⟨some 5, .mov (.c nil1), none⟩,
   ⟨some 6, .mov (.c (iv 0)), none⟩]) .ret) .skip)) (.seq (.region false [⟨some 29, .mov (.t 0), none⟩,
   ⟨some 30, .mov (.t 1), none⟩,
   ⟨some 31, .call F.roots_newton [.t 29, .t 30], none⟩,
   ⟨some 8, .mov (.t 31), none⟩]) (.seq (.region false [⟨some 33, .mov (.t 8), none⟩,
   ⟨some 34, .mov (.t 1), none⟩,
   ⟨some 35, .call F.mul_Pow [.t 33, .t 34], none⟩,
   ⟨some 32, .mov (.t 35), none⟩,
   ⟨some 36, .ext (.t 32) 0, none⟩,
   ⟨some 37, .ext (.t 32) 1, none⟩,
   ⟨some 9, .mov (.t 36), none⟩,
   ⟨some 10, .mov (.t 37), none⟩]) (.seq (.region false [⟨some 38, .mov (.t 8), none⟩,
   ⟨some 39, .mov (.t 0), none⟩,
   ⟨some 40, .mov (.t 9), none⟩,
   ⟨some 41, .call F.roots_less [.t 39, .t 40], none⟩,
   ⟨some 4, .mov (.t 38), none⟩,
   ⟨some 5, .mov (.t 41), none⟩,
   ⟨some 6, .mov (.c (iv 0)), none⟩]) .ret)))))))
def R.roots_Root : List VRes := [.tmp 4, .tmp 5, .tmp 6]
theorem K.roots_Root : resCode Try.prog Try.f22.ntmps (Try.f22.body.getD .skip) = C.roots_Root := by kernel_rfl
theorem Q.roots_Root : resResults Try.prog Try.f22.results.toList = some R.roots_Root := by kernel_rfl
theorem E.roots_Root : Try.prog.funcs[F.roots_Root]? = some Try.f22 := Try.func22
theorem B.roots_Root : Try.f22.body = some (Try.f22.body.getD .skip) := by kernel_rfl
theorem N.roots_Root : Try.f22.ntmps = 42 := Try.ntmps22

def C.roots_Sqrt : VC :=
  .seq (.region false [⟨some 2, .mov (.c nil1), none⟩,
   ⟨some 3, .mov (.c nil1), none⟩,
   ⟨some 4, .mov (.c (iv 0)), none⟩]) (.seq (.region false [⟨some 5, .mov (.t 0), none⟩,
   ⟨some 6, .call F.roots_Root [.t 5, .c (iv 2)], none⟩,
   ⟨some 7, .ext (.t 6) 0, none⟩,
   ⟨some 8, .ext (.t 6) 1, none⟩,
   ⟨some 9, .ext (.t 6) 2, none⟩,
   ⟨some 2, .mov (.t 7), none⟩,
   ⟨some 3, .mov (.t 8), none⟩,
   ⟨some 4, .mov (.t 9), none⟩]) .ret)
def R.roots_Sqrt : List VRes := [.tmp 2, .tmp 3, .tmp 4]
theorem K.roots_Sqrt : resCode Try.prog Try.f23.ntmps (Try.f23.body.getD .skip) = C.roots_Sqrt := by kernel_rfl
theorem Q.roots_Sqrt : resResults Try.prog Try.f23.results.toList = some R.roots_Sqrt := by kernel_rfl
theorem E.roots_Sqrt : Try.prog.funcs[F.roots_Sqrt]? = some Try.f23 := Try.func23
theorem B.roots_Sqrt : Try.f23.body = some (Try.f23.body.getD .skip) := by kernel_rfl
theorem N.roots_Sqrt : Try.f23.ntmps = 10 := Try.ntmps23

def C.surdref01_Num_Is : VC :=
  .seq (.region false [⟨some 4, .mov (.c (bv false)), none⟩]) (.seq (.region false [⟨some 7, .mov (.t 0), none⟩,
   ⟨some 8, .call F.surdref01_Num_Limbs [.t 7], none⟩,
   ⟨some 5, .mov (.t 8), none⟩]) (.seq (.seq (.region false [⟨some 9, .mov (.t 5), none⟩,
   ⟨some 10, .len (.t 9), none⟩,
   ⟨some 11, .mov (.t 1), none⟩,
   ⟨some 12, .len (.t 11), none⟩,
   ⟨some 13, .bin .neq false (.t 10) (.t 12), none⟩]) (.cond (.t 13) (.seq (.region false [⟨some 4, .mov (.c (bv false)), none⟩]) .ret) .skip)) (.seq (.seq (.region false [⟨some 14, .mov (.t 5), none⟩,
   ⟨some 15, .len (.t 14), none⟩,
   ⟨some 16, .mov (.c (iv 0)), none⟩]) (.block 0 (.loop (.seq (.region false [⟨some 17, .bin .lss false (.t 16) (.t 15), none⟩]) (.seq (.cond (.t 17) .skip (.exit 0)) (.seq (.block 1 (.seq (.region false [⟨some 18, .mov (.t 16), none⟩,
   ⟨some 6, .mov (.t 18), none⟩]) (.seq (.region true [⟨some 19, .mov (.t 5), none⟩,
   ⟨some 20, .mov (.t 6), none⟩,
   ⟨some 21, .ixa 1 (.t 19) (.t 20), none⟩,
   ⟨some 22, .load none (.t 21), none⟩,
   ⟨some 23, .mov (.t 1), none⟩,
   ⟨some 24, .mov (.t 6), none⟩,
   ⟨some 25, .ixa 1 (.t 23) (.t 24), none⟩,
   ⟨some 26, .load none (.t 25), none⟩,
   ⟨some 27, .bin .neq false (.t 22) (.t 26), none⟩]) (.cond (.t 27) (.seq (.region false [⟨some 4, .mov (.c (bv false)), none⟩]) .ret) .skip)))) (.region false [⟨some 28, .bin .add false (.t 16) (.c (iv 1)), none⟩,
   ⟨some 16, .mov (.t 28), none⟩]))))))) (.seq (.region false [⟨some 4, .mov (.c (bv true)), none⟩]) .ret))))
def R.surdref01_Num_Is : List VRes := [.tmp 4]
theorem K.surdref01_Num_Is : resCode Try.prog Try.f26.ntmps (Try.f26.body.getD .skip) = C.surdref01_Num_Is := by kernel_rfl
theorem Q.surdref01_Num_Is : resResults Try.prog Try.f26.results.toList = some R.surdref01_Num_Is := by kernel_rfl
theorem E.surdref01_Num_Is : Try.prog.funcs[F.surdref01_Num_Is]? = some Try.f26 := Try.func26
theorem B.surdref01_Num_Is : Try.f26.body = some (Try.f26.body.getD .skip) := by kernel_rfl
theorem N.surdref01_Num_Is : Try.f26.ntmps = 29 := Try.ntmps26

def C.surdref01_Own : VC :=
  .seq (.region false [⟨some 2, .mov (.c (bv false)), none⟩]) (.seq (.seq (.region false [⟨some 13, .mov (.t 0), none⟩,
   ⟨some 14, .len (.t 13), none⟩,
   ⟨some 15, .mov (.c (iv 0)), none⟩]) (.block 0 (.loop (.seq (.region false [⟨some 16, .bin .lss false (.t 15) (.t 14), none⟩]) (.seq (.cond (.t 16) .skip (.exit 0)) (.seq (.block 1 (.seq (.region false [⟨some 17, .mov (.t 15), none⟩,
   ⟨some 18, .ixa 1 (.t 13) (.t 15), none⟩,
   ⟨some 19, .load none (.t 18), none⟩,
   ⟨some 3, .mov (.t 17), none⟩,
   ⟨some 4, .mov (.t 19), none⟩]) (.seq (.region false [⟨some 20, .mov (.t 4), none⟩,
   ⟨some 21, .len (.t 20), none⟩,
   ⟨some 22, .mov (.c (iv 0)), none⟩]) (.block 2 (.loop (.seq (.region false [⟨some 23, .bin .lss false (.t 22) (.t 21), none⟩]) (.seq (.cond (.t 23) .skip (.exit 2)) (.seq (.block 3 (.seq (.region false [⟨some 24, .mov (.t 22), none⟩,
   ⟨some 5, .mov (.t 24), none⟩]) (.region false [⟨some 25, .mov (.t 4), none⟩,
   ⟨some 26, .mov (.t 5), none⟩,
   ⟨some 27, .mov (.t 3), none⟩,
   ⟨some 28, .bin .rem false (.t 27) (.c (iv 251)), none⟩,
   ⟨some 29, .bin .add false (.t 28) (.c (iv 1)), none⟩,
   ⟨some 30, .conv .u64 (.t 29), none⟩,
   ⟨some 31, .ixa 1 (.t 25) (.t 26), none⟩,
   ⟨none, .store 1 (.t 31) (.t 30), none⟩]))) (.region false [⟨some 32, .bin .add false (.t 22) (.c (iv 1)), none⟩,
   ⟨some 22, .mov (.t 32), none⟩]))))))))) (.region false [⟨some 33, .bin .add false (.t 15) (.c (iv 1)), none⟩,
   ⟨some 15, .mov (.t 33), none⟩]))))))) (.seq (.seq (.region false [⟨some 34, .mov (.t 0), none⟩,
   ⟨some 35, .len (.t 34), none⟩,
   ⟨some 36, .mov (.c (iv 0)), none⟩]) (.block 4 (.loop (.seq (.region false [⟨some 37, .bin .lss false (.t 36) (.t 35), none⟩]) (.seq (.cond (.t 37) .skip (.exit 4)) (.seq (.block 5 (.seq (.region false [⟨some 38, .mov (.t 36), none⟩,
   ⟨some 39, .ixa 1 (.t 34) (.t 36), none⟩,
   ⟨some 40, .load none (.t 39), none⟩,
   ⟨some 6, .mov (.t 38), none⟩,
   ⟨some 7, .mov (.t 40), none⟩]) (.seq (.region false [⟨some 41, .mov (.t 6), none⟩,
   ⟨some 42, .bin .mul false (.c (iv 5)) (.t 41), none⟩,
   ⟨some 43, .bin .add false (.c (iv 300)) (.t 42), none⟩,
   ⟨some 44, .conv .u64 (.t 43), none⟩,
   ⟨some 8, .mov (.t 44), none⟩]) (.seq (.region false [⟨some 45, .mov (.t 7), none⟩,
   ⟨some 46, .mov (.t 8), none⟩,
   ⟨some 47, .mov (.t 8), none⟩,
   ⟨some 48, .bin .add false (.t 47) (.c (nv 1)), none⟩,
   ⟨some 49, .mov (.t 8), none⟩,
   ⟨some 50, .bin .add false (.t 49) (.c (nv 2)), none⟩,
   ⟨some 51, .mov (.t 8), none⟩,
   ⟨some 52, .bin .add false (.t 51) (.c (nv 3)), none⟩,
   ⟨some 53, .mov (.t 8), none⟩,
   ⟨some 54, .bin .add false (.t 53) (.c (nv 4)), none⟩,
   ⟨some 55, .bsl true 1 5 [.int .u64 0] [(0, (1, .t 46)), (1, (1, .t 48)), (2, (1, .t 50)), (3, (1, .t 52)), (4, (1, .t 54))], none⟩,
   ⟨some 56, .app 1 8 [.int .u64 0] (.t 45) (.t 55), none⟩,
   ⟨some 7, .mov (.t 56), none⟩]) (.region false [⟨some 57, .mov (.t 0), none⟩,
   ⟨some 58, .mov (.t 6), none⟩,
   ⟨some 59, .mov (.t 7), none⟩,
   ⟨some 60, .ixa 1 (.t 57) (.t 58), none⟩,
   ⟨none, .store 1 (.t 60) (.t 59), none⟩]))))) (.region false [⟨some 61, .bin .add false (.t 36) (.c (iv 1)), none⟩,
   ⟨some 36, .mov (.t 61), none⟩]))))))) (.seq (.seq (.region false [⟨some 62, .mov (.t 0), none⟩,
   ⟨some 63, .len (.t 62), none⟩,
   ⟨some 64, .mov (.c (iv 0)), none⟩]) (.block 6 (.loop (.seq (.region false [⟨some 65, .bin .lss false (.t 64) (.t 63), none⟩]) (.seq (.cond (.t 65) .skip (.exit 6)) (.seq (.block 7 (.seq (.region false [⟨some 66, .mov (.t 64), none⟩,
   ⟨some 67, .ixa 1 (.t 62) (.t 64), none⟩,
   ⟨some 68, .load none (.t 67), none⟩,
   ⟨some 9, .mov (.t 66), none⟩,
   ⟨some 10, .mov (.t 68), none⟩]) (.seq (.region false [⟨some 69, .mov (.t 10), none⟩,
   ⟨some 70, .len (.t 69), none⟩,
   ⟨some 71, .mov (.c (iv 0)), none⟩]) (.block 8 (.loop (.seq (.region false [⟨some 72, .bin .lss false (.t 71) (.t 70), none⟩]) (.seq (.cond (.t 72) .skip (.exit 8)) (.seq (.block 9 (.seq (.region false [⟨some 73, .mov (.t 71), none⟩,
   ⟨some 74, .ixa 1 (.t 69) (.t 71), none⟩,
   ⟨some 75, .load none (.t 74), none⟩,
   ⟨some 11, .mov (.t 73), none⟩,
   ⟨some 12, .mov (.t 75), none⟩]) (.seq (.region false [⟨some 76, .mov (.t 11), none⟩,
   ⟨some 77, .mov (.t 10), none⟩,
   ⟨some 78, .len (.t 77), none⟩,
   ⟨some 79, .bin .sub false (.t 78) (.c (iv 5)), none⟩,
   ⟨some 80, .bin .lss false (.t 76) (.t 79), none⟩,
   ⟨some 81, .mov (.t 80), none⟩,
   ⟨some 82, .mov (.t 12), some (81, true)⟩,
   ⟨some 83, .mov (.t 9), some (81, true)⟩,
   ⟨some 84, .bin .rem false (.t 83) (.c (iv 251)), some (81, true)⟩,
   ⟨some 85, .bin .add false (.t 84) (.c (iv 1)), some (81, true)⟩,
   ⟨some 86, .conv .u64 (.t 85), some (81, true)⟩,
   ⟨some 87, .bin .neq false (.t 82) (.t 86), some (81, true)⟩,
   ⟨some 88, .pick (.t 81) (.t 87) (.c (bv false)), none⟩,
   ⟨some 89, .mov (.t 88), none⟩,
   ⟨some 90, .mov (.t 11), some (89, false)⟩,
   ⟨some 91, .mov (.t 10), some (89, false)⟩,
   ⟨some 92, .len (.t 91), some (89, false)⟩,
   ⟨some 93, .bin .sub false (.t 92) (.c (iv 5)), some (89, false)⟩,
   ⟨some 94, .bin .geq false (.t 90) (.t 93), some (89, false)⟩,
   ⟨some 95, .mov (.t 94), some (89, false)⟩,
   ⟨some 96, .mov (.t 12), some (95, true)⟩,
   ⟨some 97, .mov (.t 9), some (95, true)⟩,
   ⟨some 98, .bin .mul false (.c (iv 5)) (.t 97), some (95, true)⟩,
   ⟨some 99, .bin .add false (.c (iv 300)) (.t 98), some (95, true)⟩,
   ⟨some 100, .mov (.t 11), some (95, true)⟩,
   ⟨some 101, .bin .add false (.t 99) (.t 100), some (95, true)⟩,
   ⟨some 102, .mov (.t 10), some (95, true)⟩,
   ⟨some 103, .len (.t 102), some (95, true)⟩,
   ⟨some 104, .bin .sub false (.t 101) (.t 103), some (95, true)⟩,
   ⟨some 105, .bin .add false (.t 104) (.c (iv 5)), some (95, true)⟩,
   ⟨some 106, .conv .u64 (.t 105), some (95, true)⟩,
   ⟨some 107, .bin .neq false (.t 96) (.t 106), some (95, true)⟩,
   ⟨some 108, .pick (.t 95) (.t 107) (.c (bv false)), some (89, false)⟩,
   ⟨some 109, .pick (.t 89) (.c (bv true)) (.t 108), none⟩]) (.cond (.t 109) (.seq (.region false [⟨some 2, .mov (.c (bv false)), none⟩]) .ret) .skip)))) (.region false [⟨some 110, .bin .add false (.t 71) (.c (iv 1)), none⟩,
   ⟨some 71, .mov (.t 110), none⟩]))))))))) (.region false [⟨some 111, .bin .add false (.t 64) (.c (iv 1)), none⟩,
   ⟨some 64, .mov (.t 111), none⟩]))))))) (.seq (.region false [⟨some 2, .mov (.c (bv true)), none⟩]) .ret))))
def R.surdref01_Own : List VRes := [.tmp 2]
theorem K.surdref01_Own : resCode Try.prog Try.f27.ntmps (Try.f27.body.getD .skip) = C.surdref01_Own := by kernel_rfl
theorem Q.surdref01_Own : resResults Try.prog Try.f27.results.toList = some R.surdref01_Own := by kernel_rfl
theorem E.surdref01_Own : Try.prog.funcs[F.surdref01_Own]? = some Try.f27 := Try.func27
theorem B.surdref01_Own : Try.f27.body = some (Try.f27.body.getD .skip) := by kernel_rfl
theorem N.surdref01_Own : Try.f27.ntmps = 112 := Try.ntmps27

def C.surdref01_Cmp : VC :=
  .seq (.region false [⟨some 4, .mov (.c (iv 0)), none⟩]) (.seq (.seq (.region false [⟨some 6, .mov (.t 0), none⟩,
   ⟨some 7, .len (.t 6), none⟩,
   ⟨some 8, .mov (.t 1), none⟩,
   ⟨some 9, .len (.t 8), none⟩,
   ⟨some 10, .bin .neq false (.t 7) (.t 9), none⟩]) (.cond (.t 10) (.seq (.seq (.region false [⟨some 11, .mov (.t 0), none⟩,
   ⟨some 12, .len (.t 11), none⟩,
   ⟨some 13, .mov (.t 1), none⟩,
   ⟨some 14, .len (.t 13), none⟩,
   ⟨some 15, .bin .lss false (.t 12) (.t 14), none⟩]) (.cond (.t 15) (.seq (.region false [⟨some 4, .mov (.c (iv (-1))), none⟩]) .ret) .skip)) (.seq (.region false [⟨some 4, .mov (.c (iv 1)), none⟩]) .ret)) .skip)) (.seq (.seq (.region false [⟨some 16, .mov (.t 0), none⟩,
   ⟨some 17, .len (.t 16), none⟩,
   ⟨some 18, .bin .sub false (.t 17) (.c (iv 1)), none⟩,
   ⟨some 5, .mov (.t 18), none⟩]) (.block 0 (.loop (.seq (.seq (.region false [⟨some 19, .mov (.t 5), none⟩,
   ⟨some 20, .bin .geq false (.t 19) (.c (iv 0)), none⟩]) (.cond (.t 20) .skip (.exit 0))) (.seq (.block 1 (.seq (.seq (.region true [⟨some 23, .mov (.t 0), none⟩,
   ⟨some 24, .mov (.t 5), none⟩,
   ⟨some 25, .ixa 1 (.t 23) (.t 24), none⟩,
   ⟨some 26, .load none (.t 25), none⟩,
   ⟨some 27, .mov (.t 1), none⟩,
   ⟨some 28, .mov (.t 5), none⟩,
   ⟨some 29, .ixa 1 (.t 27) (.t 28), none⟩,
   ⟨some 30, .load none (.t 29), none⟩,
   ⟨some 31, .bin .lss false (.t 26) (.t 30), none⟩]) (.cond (.t 31) (.seq (.region false [⟨some 4, .mov (.c (iv (-1))), none⟩]) .ret) .skip)) (.seq (.region true [⟨some 32, .mov (.t 0), none⟩,
   ⟨some 33, .mov (.t 5), none⟩,
   ⟨some 34, .ixa 1 (.t 32) (.t 33), none⟩,
   ⟨some 35, .load none (.t 34), none⟩,
   ⟨some 36, .mov (.t 1), none⟩,
   ⟨some 37, .mov (.t 5), none⟩,
   ⟨some 38, .ixa 1 (.t 36) (.t 37), none⟩,
   ⟨some 39, .load none (.t 38), none⟩,
   ⟨some 40, .bin .gtr false (.t 35) (.t 39), none⟩]) (.cond (.t 40) (.seq (.region false [⟨some 4, .mov (.c (iv 1)), none⟩]) .ret) .skip)))) (.region false [⟨some 21, .mov (.t 5), none⟩,
   ⟨some 22, .bin .sub false (.t 21) (.c (iv 1)), none⟩,
   ⟨some 5, .mov (.t 22), none⟩])))))) (.seq (.region false [⟨some 4, .mov (.c (iv 0)), none⟩]) .ret)))
def R.surdref01_Cmp : List VRes := [.tmp 4]
theorem K.surdref01_Cmp : resCode Try.prog Try.f31.ntmps (Try.f31.body.getD .skip) = C.surdref01_Cmp := by kernel_rfl
theorem Q.surdref01_Cmp : resResults Try.prog Try.f31.results.toList = some R.surdref01_Cmp := by kernel_rfl
theorem E.surdref01_Cmp : Try.prog.funcs[F.surdref01_Cmp]? = some Try.f31 := Try.func31
theorem B.surdref01_Cmp : Try.f31.body = some (Try.f31.body.getD .skip) := by kernel_rfl
theorem N.surdref01_Cmp : Try.f31.ntmps = 41 := Try.ntmps31

def C.surdlaw04_of : VC :=
  .seq (.region false [⟨some 2, .mov (.c nil1), none⟩]) (.seq (.region false [⟨some 3, .mov (.t 0), none⟩,
   ⟨some 4, .call F.surdref01_Of [.t 3], none⟩,
   ⟨some 2, .mov (.t 4), none⟩]) .ret)
def R.surdlaw04_of : List VRes := [.tmp 2]
theorem K.surdlaw04_of : resCode Try.prog Try.f32.ntmps (Try.f32.body.getD .skip) = C.surdlaw04_of := by kernel_rfl
theorem Q.surdlaw04_of : resResults Try.prog Try.f32.results.toList = some R.surdlaw04_of := by kernel_rfl
theorem E.surdlaw04_of : Try.prog.funcs[F.surdlaw04_of]? = some Try.f32 := Try.func32
theorem B.surdlaw04_of : Try.f32.body = some (Try.f32.body.getD .skip) := by kernel_rfl
theorem N.surdlaw04_of : Try.f32.ntmps = 5 := Try.ntmps32

def C.surdref01_Pow : VC :=
  .seq (.region false [⟨some 4, .mov (.c nil1), none⟩]) (.seq (.region false [⟨some 7, .call F.surdref01_Int [.c (iv 1)], none⟩,
   ⟨some 5, .mov (.t 7), none⟩]) (.seq (.seq (.region false [⟨some 6, .mov (.c (iv 62)), none⟩]) (.block 0 (.loop (.seq (.seq (.region false [⟨some 8, .mov (.t 6), none⟩,
   ⟨some 9, .bin .geq false (.t 8) (.c (iv 0)), none⟩]) (.cond (.t 9) .skip (.exit 0))) (.seq (.block 1 (.seq (.region false [⟨some 12, .mov (.t 5), none⟩,
   ⟨some 13, .mov (.t 5), none⟩,
   ⟨some 14, .call F.surdref01_Mul [.t 12, .t 13], none⟩,
   ⟨some 5, .mov (.t 14), none⟩]) (.seq (.region false [⟨some 15, .mov (.t 1), none⟩,
   ⟨some 16, .mov (.t 6), none⟩,
   ⟨some 17, .bin .shr false (.t 15) (.t 16), none⟩,
   ⟨some 18, .bin .and false (.t 17) (.c (iv 1)), none⟩,
   ⟨some 19, .bin .eql false (.t 18) (.c (iv 1)), none⟩]) (.cond (.t 19) (.region false [⟨some 20, .mov (.t 5), none⟩,
   ⟨some 21, .mov (.t 0), none⟩,
   ⟨some 22, .call F.surdref01_Mul [.t 20, .t 21], none⟩,
   ⟨some 5, .mov (.t 22), none⟩]) .skip)))) (.region false [⟨some 10, .mov (.t 6), none⟩,
   ⟨some 11, .bin .sub false (.t 10) (.c (iv 1)), none⟩,
   ⟨some 6, .mov (.t 11), none⟩])))))) (.seq (.region false [⟨some 23, .mov (.t 5), none⟩,
   ⟨some 4, .mov (.t 23), none⟩]) .ret)))
def R.surdref01_Pow : List VRes := [.tmp 4]
theorem K.surdref01_Pow : resCode Try.prog Try.f34.ntmps (Try.f34.body.getD .skip) = C.surdref01_Pow := by kernel_rfl
theorem Q.surdref01_Pow : resResults Try.prog Try.f34.results.toList = some R.surdref01_Pow := by kernel_rfl
theorem E.surdref01_Pow : Try.prog.funcs[F.surdref01_Pow]? = some Try.f34 := Try.func34
theorem B.surdref01_Pow : Try.f34.body = some (Try.f34.body.getD .skip) := by kernel_rfl
theorem N.surdref01_Pow : Try.f34.ntmps = 24 := Try.ntmps34

def C.surdlaw04_alike : VC :=
  .seq (.region false [⟨some 8, .mov (.c (bv false)), none⟩]) (.seq (.seq (.region false [⟨some 9, .mov (.t 1), none⟩,
   ⟨some 10, .call F.surdlaw04_num [.t 9], none⟩,
   ⟨some 11, .mov (.t 3), none⟩,
   ⟨some 12, .bin .neq false (.t 10) (.t 11), none⟩]) (.cond (.t 12) (.seq (.region false [⟨some 8, .mov (.c (bv false)), none⟩]) .ret) .skip)) (.seq (.seq (.region false [⟨some 13, .mov (.t 3), none⟩,
   ⟨some 14, .bin .neq false (.t 13) (.c (iv 0)), none⟩]) (.cond (.t 14) (.seq (.region false [⟨some 15, .mov (.t 0), none⟩,
   ⟨some 16, .len (.t 15), none⟩,
   ⟨some 17, .bin .eql false (.t 16) (.c (iv 0)), none⟩,
   ⟨some 8, .mov (.t 17), none⟩]) .ret) .skip)) (.seq (.region false [⟨some 18, .mov (.t 2), none⟩,
   ⟨some 19, .mov (.t 0), none⟩,
   ⟨some 20, .call F.surdref01_Num_Is [.t 18, .t 19], none⟩,
   ⟨some 8, .mov (.t 20), none⟩]) .ret)))
def R.surdlaw04_alike : List VRes := [.tmp 8]
theorem K.surdlaw04_alike : resCode Try.prog Try.f37.ntmps (Try.f37.body.getD .skip) = C.surdlaw04_alike := by kernel_rfl
theorem Q.surdlaw04_alike : resResults Try.prog Try.f37.results.toList = some R.surdlaw04_alike := by kernel_rfl
theorem E.surdlaw04_alike : Try.prog.funcs[F.surdlaw04_alike]? = some Try.f37 := Try.func37
theorem B.surdlaw04_alike : Try.f37.body = some (Try.f37.body.getD .skip) := by kernel_rfl
theorem N.surdlaw04_alike : Try.f37.ntmps = 21 := Try.ntmps37

def C.surdref01_Add : VC :=
  .seq (.region false [⟨some 4, .mov (.c nil1), none⟩]) (.seq (.region false [⟨some 10, .mov (.t 0), none⟩,
   ⟨some 11, .len (.t 10), none⟩,
   ⟨some 5, .mov (.t 11), none⟩]) (.seq (.seq (.region false [⟨some 12, .mov (.t 1), none⟩,
   ⟨some 13, .len (.t 12), none⟩,
   ⟨some 14, .mov (.t 5), none⟩,
   ⟨some 15, .bin .gtr false (.t 13) (.t 14), none⟩]) (.cond (.t 15) (.region false [⟨some 16, .mov (.t 1), none⟩,
   ⟨some 17, .len (.t 16), none⟩,
   ⟨some 5, .mov (.t 17), none⟩]) .skip)) (.seq (.region false [⟨some 18, .mov (.t 5), none⟩,
   ⟨some 19, .bin .add false (.t 18) (.c (iv 1)), none⟩,
   ⟨some 20, .mk [.int .u64 0] 8 (.t 19) (.t 19), none⟩,
   ⟨some 6, .mov (.t 20), none⟩]) (.seq (.region false [⟨some 7, .mov (.c (nv 0)), none⟩]) (.seq (.seq (.region false [⟨some 8, .mov (.c (iv 0)), none⟩]) (.block 0 (.loop (.seq (.seq (.region false [⟨some 21, .mov (.t 8), none⟩,
   ⟨some 22, .mov (.t 5), none⟩,
   ⟨some 23, .bin .leq false (.t 21) (.t 22), none⟩]) (.cond (.t 23) .skip (.exit 0))) (.seq (.block 1 (.seq (.region false [⟨some 26, .mov (.t 0), none⟩,
   ⟨some 27, .mov (.t 8), none⟩,
   ⟨some 28, .call F.surdref01_Num_at [.t 26, .t 27], none⟩,
   ⟨some 29, .mov (.t 1), none⟩,
   ⟨some 30, .mov (.t 8), none⟩,
   ⟨some 31, .call F.surdref01_Num_at [.t 29, .t 30], none⟩,
   ⟨some 32, .bin .add false (.t 28) (.t 31), none⟩,
   ⟨some 33, .mov (.t 7), none⟩,
   ⟨some 34, .bin .add false (.t 32) (.t 33), none⟩,
   ⟨some 9, .mov (.t 34), none⟩]) (.seq (.region false [⟨some 35, .mov (.t 6), none⟩,
   ⟨some 36, .mov (.t 8), none⟩,
   ⟨some 37, .mov (.t 9), none⟩,
   ⟨some 38, .bin .rem false (.t 37) (.c (nv 4294967296)), none⟩,
   ⟨some 39, .ixa 1 (.t 35) (.t 36), none⟩,
   ⟨none, .store 1 (.t 39) (.t 38), none⟩]) (.region false [⟨some 40, .mov (.t 9), none⟩,
   ⟨some 41, .bin .quo false (.t 40) (.c (nv 4294967296)), none⟩,
   ⟨some 7, .mov (.t 41), none⟩])))) (.region false [⟨some 24, .mov (.t 8), none⟩,
   ⟨some 25, .bin .add false (.t 24) (.c (iv 1)), none⟩,
   ⟨some 8, .mov (.t 25), none⟩])))))) (.seq (.region false [⟨some 42, .mov (.t 6), none⟩,
   ⟨some 43, .call F.surdref01_norm [.t 42], none⟩,
   ⟨some 4, .mov (.t 43), none⟩]) .ret))))))
def R.surdref01_Add : List VRes := [.tmp 4]
theorem K.surdref01_Add : resCode Try.prog Try.f39.ntmps (Try.f39.body.getD .skip) = C.surdref01_Add := by kernel_rfl
theorem Q.surdref01_Add : resResults Try.prog Try.f39.results.toList = some R.surdref01_Add := by kernel_rfl
theorem E.surdref01_Add : Try.prog.funcs[F.surdref01_Add]? = some Try.f39 := Try.func39
theorem B.surdref01_Add : Try.f39.body = some (Try.f39.body.getD .skip) := by kernel_rfl
theorem N.surdref01_Add : Try.f39.ntmps = 44 := Try.ntmps39

def C.surdlaw04_one : VC :=
  .seq (.region false [⟨some 0, .mov (.c nil1), none⟩]) (.seq (.region false [⟨some 1, .call F.surdref01_Int [.c (iv 1)], none⟩,
   ⟨some 0, .mov (.t 1), none⟩]) .ret)
def R.surdlaw04_one : List VRes := [.tmp 0]
theorem K.surdlaw04_one : resCode Try.prog Try.f40.ntmps (Try.f40.body.getD .skip) = C.surdlaw04_one := by kernel_rfl
theorem Q.surdlaw04_one : resResults Try.prog Try.f40.results.toList = some R.surdlaw04_one := by kernel_rfl
theorem E.surdlaw04_one : Try.prog.funcs[F.surdlaw04_one]? = some Try.f40 := Try.func40
theorem B.surdlaw04_one : Try.f40.body = some (Try.f40.body.getD .skip) := by kernel_rfl
theorem N.surdlaw04_one : Try.f40.ntmps = 2 := Try.ntmps40

def C.roots_Chain : VC :=
  .seq (.region false [⟨some 2, .mov (.c (iv 0)), none⟩,
   ⟨some 3, .mov (.c nil1), none⟩,
   ⟨some 4, .mov (.c (iv 0)), none⟩]) (.seq (.seq (.region false [⟨some 10, .mov (.t 0), none⟩,
   ⟨some 11, .bin .lss false (.t 10) (.c (iv 0)), none⟩,
   ⟨some 12, .mov (.t 11), none⟩,
   ⟨some 13, .mov (.t 0), some (12, false)⟩,
   ⟨some 14, .bin .gtr false (.t 13) (.c (iv 65536)), some (12, false)⟩,
   ⟨some 15, .pick (.t 12) (.c (bv true)) (.t 14), none⟩]) (.cond (.t 15) (.seq (.region false [⟨some 2, .mov (.c (iv 0)), none⟩,
   ⟨some 3, .mov (.c nil1), none⟩,
   ⟨some 4, .mov (.c (iv 1)), none⟩]) .ret) .skip)) (.seq (.region false [⟨some 5, .mov (.c (iv 0)), none⟩]) (.seq (.block 0 (.loop (.seq (.seq (.region false [⟨some 16, .mov (.t 5), none⟩,
   ⟨some 17, .bin .add false (.t 16) (.c (iv 1)), none⟩,
   ⟨some 18, .mov (.t 5), none⟩,
   ⟨some 19, .bin .add false (.t 18) (.c (iv 1)), none⟩,
   ⟨some 20, .bin .mul false (.t 17) (.t 19), none⟩,
   ⟨some 21, .mov (.t 0), none⟩,
   ⟨some 22, .bin .leq false (.t 20) (.t 21), none⟩]) (.cond (.t 22) .skip (.exit 0))) (.block 1 (.region false [⟨some 23, .mov (.t 5), none⟩,
   ⟨some 24, .bin .add false (.t 23) (.c (iv 1)), none⟩,
   ⟨some 5, .mov (.t 24), none⟩]))))) (.seq (.seq (.region false [⟨some 25, .mov (.t 5), none⟩,
   ⟨some 26, .mov (.t 5), none⟩,
   ⟨some 27, .bin .mul false (.t 25) (.t 26), none⟩,
   ⟨some 28, .mov (.t 0), none⟩,
   ⟨some 29, .bin .eql false (.t 27) (.t 28), none⟩]) (.cond (.t 29) (.seq (.region false [⟨some 30, .mov (.t 5), none⟩,
   ⟨some 2, .mov (.t 30), none⟩,
   ⟨some 3, .mov (.c nil1), none⟩,
   ⟨some 4, .mov (.c (iv 0)), none⟩]) .ret) .skip)) (.seq (.region false [⟨some 6, .mov (.c nil1), none⟩]) (.seq (.region false [⟨some 31, .mov (.t 5), none⟩,
   ⟨some 7, .mov (.c (iv 0)), none⟩,
   ⟨some 8, .mov (.c (iv 1)), none⟩,
   ⟨some 9, .mov (.t 31), none⟩]) (.seq (.block 2 (.loop (.seq (.seq (.region false [⟨some 32, .mov (.t 9), none⟩,
   ⟨some 33, .mov (.t 5), none⟩,
   ⟨some 34, .bin .mul false (.c (iv 2)) (.t 33), none⟩,
   ⟨some 35, .bin .neq false (.t 32) (.t 34), none⟩,
   ⟨some 36, .mov (.t 35), none⟩,
   ⟨some 37, .mov (.t 6), some (36, false)⟩,
   ⟨some 38, .len (.t 37), some (36, false)⟩,
   ⟨some 39, .bin .eql false (.t 38) (.c (iv 0)), some (36, false)⟩,
   ⟨some 40, .pick (.t 36) (.c (bv true)) (.t 39), none⟩]) (.cond (.t 40) .skip (.exit 2))) (.block 3 (.seq (.region false [⟨some 41, .mov (.t 8), none⟩,
   ⟨some 42, .mov (.t 9), none⟩,
   ⟨some 43, .bin .mul false (.t 41) (.t 42), none⟩,
   ⟨some 44, .mov (.t 7), none⟩,
   ⟨some 45, .bin .sub false (.t 43) (.t 44), none⟩,
   ⟨some 7, .mov (.t 45), none⟩]) (.seq (.region false [⟨some 46, .mov (.t 0), none⟩,
   ⟨some 47, .mov (.t 7), none⟩,
   ⟨some 48, .mov (.t 7), none⟩,
   ⟨some 49, .bin .mul false (.t 47) (.t 48), none⟩,
   ⟨some 50, .bin .sub false (.t 46) (.t 49), none⟩,
   ⟨some 51, .mov (.t 8), none⟩,
   ⟨some 52, .bin .quo false (.t 50) (.t 51), none⟩,
   ⟨some 8, .mov (.t 52), none⟩]) (.seq (.region false [⟨some 53, .mov (.t 5), none⟩,
   ⟨some 54, .mov (.t 7), none⟩,
   ⟨some 55, .bin .add false (.t 53) (.t 54), none⟩,
   ⟨some 56, .mov (.t 8), none⟩,
   ⟨some 57, .bin .quo false (.t 55) (.t 56), none⟩,
   ⟨some 9, .mov (.t 57), none⟩]) (.region false [⟨some 58, .mov (.t 6), none⟩,
   ⟨some 59, .mov (.t 9), none⟩,
   ⟨some 60, .bsl true 1 1 [.int .i64 0] [(0, (1, .t 59))], none⟩,
   ⟨some 61, .app 1 8 [.int .i64 0] (.t 58) (.t 60), none⟩,
   ⟨some 6, .mov (.t 61), none⟩])))))))) (.seq (.region false [⟨some 62, .mov (.t 5), none⟩,
   ⟨some 63, .mov (.t 6), none⟩,
   ⟨some 2, .mov (.t 62), none⟩,
   ⟨some 3, .mov (.t 63), none⟩,
   ⟨some 4, .mov (.c (iv 0)), none⟩]) .ret))))))))
def R.roots_Chain : List VRes := [.tmp 2, .tmp 3, .tmp 4]
theorem K.roots_Chain : resCode Try.prog Try.f41.ntmps (Try.f41.body.getD .skip) = C.roots_Chain := by kernel_rfl
theorem Q.roots_Chain : resResults Try.prog Try.f41.results.toList = some R.roots_Chain := by kernel_rfl
theorem E.roots_Chain : Try.prog.funcs[F.roots_Chain]? = some Try.f41 := Try.func41
theorem B.roots_Chain : Try.f41.body = some (Try.f41.body.getD .skip) := by kernel_rfl
theorem N.roots_Chain : Try.f41.ntmps = 64 := Try.ntmps41

def C.surdref04_Chain : VC :=
  .seq (.region false [⟨some 2, .mov (.c (iv 0)), none⟩,
   ⟨some 3, .mov (.c nil1), none⟩,
   ⟨some 4, .mov (.c (iv 0)), none⟩]) (.seq (.seq (.region false [⟨some 10, .mov (.t 0), none⟩,
   ⟨some 11, .bin .lss false (.t 10) (.c (iv 0)), none⟩,
   ⟨some 12, .mov (.t 11), none⟩,
   ⟨some 13, .mov (.t 0), some (12, false)⟩,
   ⟨some 14, .bin .gtr false (.t 13) (.c (iv 65536)), some (12, false)⟩,
   ⟨some 15, .pick (.t 12) (.c (bv true)) (.t 14), none⟩]) (.cond (.t 15) (.seq (.region false [⟨some 2, .mov (.c (iv 0)), none⟩,
   ⟨some 3, .mov (.c nil1), none⟩,
   ⟨some 4, .mov (.c (iv 1)), none⟩]) .ret) .skip)) (.seq (.region false [⟨some 5, .mov (.c (iv 0)), none⟩]) (.seq (.block 0 (.loop (.seq (.seq (.region false [⟨some 16, .mov (.t 5), none⟩,
   ⟨some 17, .bin .add false (.t 16) (.c (iv 1)), none⟩,
   ⟨some 18, .mov (.t 5), none⟩,
   ⟨some 19, .bin .add false (.t 18) (.c (iv 1)), none⟩,
   ⟨some 20, .bin .mul false (.t 17) (.t 19), none⟩,
   ⟨some 21, .mov (.t 0), none⟩,
   ⟨some 22, .bin .leq false (.t 20) (.t 21), none⟩]) (.cond (.t 22) .skip (.exit 0))) (.block 1 (.region false [⟨some 23, .mov (.t 5), none⟩,
   ⟨some 24, .bin .add false (.t 23) (.c (iv 1)), none⟩,
   ⟨some 5, .mov (.t 24), none⟩]))))) (.seq (.seq (.region false [⟨some 25, .mov (.t 5), none⟩,
   ⟨some 26, .mov (.t 5), none⟩,
   ⟨some 27, .bin .mul false (.t 25) (.t 26), none⟩,
   ⟨some 28, .mov (.t 0), none⟩,
   ⟨some 29, .bin .eql false (.t 27) (.t 28), none⟩]) (.cond (.t 29) (.seq (.region false [⟨some 30, .mov (.t 5), none⟩,
   ⟨some 2, .mov (.t 30), none⟩,
   ⟨some 3, .mov (.c nil1), none⟩,
   ⟨some 4, .mov (.c (iv 0)), none⟩]) .ret) .skip)) (.seq (.region false [⟨some 6, .mov (.c nil1), none⟩]) (.seq (.region false [⟨some 31, .mov (.t 5), none⟩,
   ⟨some 7, .mov (.c (iv 0)), none⟩,
   ⟨some 8, .mov (.c (iv 1)), none⟩,
   ⟨some 9, .mov (.t 31), none⟩]) (.block 2 (.loop (.block 3 (.seq (.region false [⟨some 32, .mov (.t 9), none⟩,
   ⟨some 33, .mov (.t 8), none⟩,
   ⟨some 34, .bin .mul false (.t 32) (.t 33), none⟩,
   ⟨some 35, .mov (.t 7), none⟩,
   ⟨some 36, .bin .sub false (.t 34) (.t 35), none⟩,
   ⟨some 7, .mov (.t 36), none⟩]) (.seq (.region false [⟨some 37, .mov (.t 0), none⟩,
   ⟨some 38, .mov (.t 7), none⟩,
   ⟨some 39, .mov (.t 7), none⟩,
   ⟨some 40, .bin .mul false (.t 38) (.t 39), none⟩,
   ⟨some 41, .bin .sub false (.t 37) (.t 40), none⟩,
   ⟨some 42, .mov (.t 8), none⟩,
   ⟨some 43, .bin .quo false (.t 41) (.t 42), none⟩,
   ⟨some 8, .mov (.t 43), none⟩]) (.seq (.region false [⟨some 44, .mov (.t 5), none⟩,
   ⟨some 45, .mov (.t 7), none⟩,
   ⟨some 46, .bin .add false (.t 44) (.t 45), none⟩,
   ⟨some 47, .mov (.t 8), none⟩,
   ⟨some 48, .bin .quo false (.t 46) (.t 47), none⟩,
   ⟨some 9, .mov (.t 48), none⟩]) (.seq (.region false [⟨some 49, .mov (.t 6), none⟩,
   ⟨some 50, .mov (.t 9), none⟩,
   ⟨some 51, .bsl true 1 1 [.int .i64 0] [(0, (1, .t 50))], none⟩,
   ⟨some 52, .app 1 8 [.int .i64 0] (.t 49) (.t 51), none⟩,
   ⟨some 6, .mov (.t 52), none⟩]) (.seq (.region false [⟨some 53, .mov (.t 9), none⟩,
   ⟨some 54, .mov (.t 5), none⟩,
   ⟨some 55, .bin .mul false (.c (iv 2)) (.t 54), none⟩,
   ⟨some 56, .bin .eql false (.t 53) (.t 55), none⟩]) (.cond (.t 56) (.seq (.region false [⟨some 57, .mov (.t 5), none⟩,
   ⟨some 58, .mov (.t 6), none⟩,
   ⟨some 2, .mov (.t 57), none⟩,
   ⟨some 3, .mov (.t 58), none⟩,
   ⟨some 4, .mov (.c (iv 0)), none⟩]) .ret) .skip)))))))))))))))
def R.surdref04_Chain : List VRes := [.tmp 2, .tmp 3, .tmp 4]
theorem K.surdref04_Chain : resCode Try.prog Try.f42.ntmps (Try.f42.body.getD .skip) = C.surdref04_Chain := by kernel_rfl
theorem Q.surdref04_Chain : resResults Try.prog Try.f42.results.toList = some R.surdref04_Chain := by kernel_rfl
theorem E.surdref04_Chain : Try.prog.funcs[F.surdref04_Chain]? = some Try.f42 := Try.func42
theorem B.surdref04_Chain : Try.f42.body = some (Try.f42.body.getD .skip) := by kernel_rfl
theorem N.surdref04_Chain : Try.f42.ntmps = 59 := Try.ntmps42

def C.roots_Pell : VC :=
  .seq (.region false [⟨some 2, .mov (.c nil1), none⟩,
   ⟨some 3, .mov (.c nil1), none⟩,
   ⟨some 4, .mov (.c (iv 0)), none⟩]) (.seq (.region false [⟨some 16, .mov (.t 0), none⟩,
   ⟨some 17, .call F.roots_Chain [.t 16], none⟩,
   ⟨some 15, .mov (.t 17), none⟩,
   ⟨some 18, .ext (.t 15) 0, none⟩,
   ⟨some 19, .ext (.t 15) 1, none⟩,
   ⟨some 20, .ext (.t 15) 2, none⟩,
   ⟨some 5, .mov (.t 18), none⟩,
   ⟨some 6, .mov (.t 19), none⟩,
   ⟨some 7, .mov (.t 20), none⟩]) (.seq (.seq (.region false [⟨some 21, .mov (.t 7), none⟩,
   ⟨some 22, .bin .neq false (.t 21) (.c (iv 0)), none⟩,
   ⟨some 23, .mov (.t 22), none⟩,
   ⟨some 24, .mov (.t 0), some (23, false)⟩,
   ⟨some 25, .bin .lss false (.t 24) (.c (iv 1)), some (23, false)⟩,
   ⟨some 26, .pick (.t 23) (.c (bv true)) (.t 25), none⟩,
   ⟨some 27, .mov (.t 26), none⟩,
   ⟨some 28, .mov (.t 6), some (27, false)⟩,
   ⟨some 29, .len (.t 28), some (27, false)⟩,
   ⟨some 30, .bin .eql false (.t 29) (.c (iv 0)), some (27, false)⟩,
   ⟨some 31, .pick (.t 27) (.c (bv true)) (.t 30), none⟩]) (.cond (.t 31) (.seq (.region false [⟨some 2, .mov (.c nil1), none⟩,
   ⟨some 3, .mov (.c nil1), none⟩,
   ⟨some 4, .mov (.c (iv 1)), none⟩]) .ret) .skip)) (.seq (.region false [⟨some 32, .mov (.t 6), none⟩,
   ⟨some 33, .len (.t 32), none⟩,
   ⟨some 34, .bin .sub false (.t 33) (.c (iv 1)), none⟩,
   ⟨some 8, .mov (.t 34), none⟩]) (.seq (.seq (.region false [⟨some 35, .mov (.t 6), none⟩,
   ⟨some 36, .len (.t 35), none⟩,
   ⟨some 37, .bin .rem false (.t 36) (.c (iv 2)), none⟩,
   ⟨some 38, .bin .eql false (.t 37) (.c (iv 1)), none⟩]) (.cond (.t 38) (.region false [⟨some 39, .mov (.t 6), none⟩,
   ⟨some 40, .len (.t 39), none⟩,
   ⟨some 41, .bin .mul false (.c (iv 2)) (.t 40), none⟩,
   ⟨some 42, .bin .sub false (.t 41) (.c (iv 1)), none⟩,
   ⟨some 8, .mov (.t 42), none⟩]) .skip)) (.seq (.region false [⟨some 43, .mov (.t 5), none⟩,
   ⟨some 44, .conv .u64 (.t 43), none⟩,
   ⟨some 45, .call F.nat_From [.t 44], none⟩,
   ⟨some 46, .call F.nat_From [.c (nv 1)], none⟩,
   ⟨some 9, .mov (.t 45), none⟩,
   ⟨some 10, .mov (.t 46), none⟩]) (.seq (.region false [⟨some 47, .call F.nat_From [.c (nv 1)], none⟩,
   ⟨some 11, .mov (.t 47), none⟩,
   ⟨some 12, .mov (.c nil1), none⟩]) (.seq (.seq (.region false [⟨some 48, .mov (.t 8), none⟩,
   ⟨some 49, .mov (.c (iv 0)), none⟩]) (.block 0 (.loop (.seq (.region false [⟨some 50, .bin .lss false (.t 49) (.t 48), none⟩]) (.seq (.cond (.t 50) .skip (.exit 0)) (.seq (.block 1 (.seq (.region false [⟨some 51, .mov (.t 49), none⟩,
   ⟨some 13, .mov (.t 51), none⟩]) (.seq (.region false [⟨some 52, .mov (.t 6), none⟩,
   ⟨some 53, .mov (.t 13), none⟩,
   ⟨some 54, .mov (.t 6), none⟩,
   ⟨some 55, .len (.t 54), none⟩,
   ⟨some 56, .bin .rem false (.t 53) (.t 55), none⟩,
   ⟨some 57, .ixa 1 (.t 52) (.t 56), none⟩,
   ⟨some 58, .load none (.t 57), none⟩,
   ⟨some 59, .conv .u64 (.t 58), none⟩,
   ⟨some 14, .mov (.t 59), none⟩]) (.seq (.region false [⟨some 60, .mov (.t 14), none⟩,
   ⟨some 61, .mov (.t 9), none⟩,
   ⟨some 62, .mov (.t 11), none⟩,
   ⟨some 63, .call F.roots_next [.t 60, .t 61, .t 62], none⟩,
   ⟨some 64, .mov (.t 9), none⟩,
   ⟨some 9, .mov (.t 63), none⟩,
   ⟨some 11, .mov (.t 64), none⟩]) (.region false [⟨some 65, .mov (.t 14), none⟩,
   ⟨some 66, .mov (.t 10), none⟩,
   ⟨some 67, .mov (.t 12), none⟩,
   ⟨some 68, .call F.roots_next [.t 65, .t 66, .t 67], none⟩,
   ⟨some 69, .mov (.t 10), none⟩,
   ⟨some 10, .mov (.t 68), none⟩,
   ⟨some 12, .mov (.t 69), none⟩]))))) (.region false [⟨some 70, .bin .add false (.t 49) (.c (iv 1)), none⟩,
   ⟨some 49, .mov (.t 70), none⟩]))))))) (.seq (.region false [⟨some 71, .mov (.t 9), none⟩,
   ⟨some 72, .mov (.t 10), none⟩,
   ⟨some 2, .mov (.t 71), none⟩,
   ⟨some 3, .mov (.t 72), none⟩,
   ⟨some 4, .mov (.c (iv 0)), none⟩]) .ret))))))))
def R.roots_Pell : List VRes := [.tmp 2, .tmp 3, .tmp 4]
theorem K.roots_Pell : resCode Try.prog Try.f43.ntmps (Try.f43.body.getD .skip) = C.roots_Pell := by kernel_rfl
theorem Q.roots_Pell : resResults Try.prog Try.f43.results.toList = some R.roots_Pell := by kernel_rfl
theorem E.roots_Pell : Try.prog.funcs[F.roots_Pell]? = some Try.f43 := Try.func43
theorem B.roots_Pell : Try.f43.body = some (Try.f43.body.getD .skip) := by kernel_rfl
theorem N.roots_Pell : Try.f43.ntmps = 73 := Try.ntmps43

def C.surdref04_Pell : VC :=
  .seq (.region false [⟨some 2, .mov (.c nil1), none⟩,
   ⟨some 3, .mov (.c nil1), none⟩,
   ⟨some 4, .mov (.c (iv 0)), none⟩]) (.seq (.region false [⟨some 18, .mov (.t 0), none⟩,
   ⟨some 19, .call F.surdref04_Chain [.t 18], none⟩,
   ⟨some 17, .mov (.t 19), none⟩,
   ⟨some 20, .ext (.t 17) 0, none⟩,
   ⟨some 21, .ext (.t 17) 1, none⟩,
   ⟨some 22, .ext (.t 17) 2, none⟩,
   ⟨some 5, .mov (.t 20), none⟩,
   ⟨some 6, .mov (.t 21), none⟩,
   ⟨some 7, .mov (.t 22), none⟩]) (.seq (.seq (.region false [⟨some 23, .mov (.t 7), none⟩,
   ⟨some 24, .bin .neq false (.t 23) (.c (iv 0)), none⟩,
   ⟨some 25, .mov (.t 24), none⟩,
   ⟨some 26, .mov (.t 6), some (25, false)⟩,
   ⟨some 27, .len (.t 26), some (25, false)⟩,
   ⟨some 28, .bin .eql false (.t 27) (.c (iv 0)), some (25, false)⟩,
   ⟨some 29, .pick (.t 25) (.c (bv true)) (.t 28), none⟩]) (.cond (.t 29) (.seq (.region false [⟨some 2, .mov (.c nil1), none⟩,
   ⟨some 3, .mov (.c nil1), none⟩,
   ⟨some 4, .mov (.c (iv 1)), none⟩]) .ret) .skip)) (.seq (.region false [⟨some 30, .call F.surdref01_Int [.c (iv 1)], none⟩,
   ⟨some 8, .mov (.t 30), none⟩]) (.seq (.region false [⟨some 31, .mov (.t 8), none⟩,
   ⟨some 9, .mov (.t 31), none⟩,
   ⟨some 10, .mov (.c nil1), none⟩]) (.seq (.region false [⟨some 32, .mov (.t 5), none⟩,
   ⟨some 33, .call F.surdref01_Int [.t 32], none⟩,
   ⟨some 34, .mov (.t 8), none⟩,
   ⟨some 11, .mov (.t 33), none⟩,
   ⟨some 12, .mov (.t 34), none⟩]) (.seq (.region false [⟨some 13, .mov (.c (iv 0)), none⟩]) (.block 0 (.loop (.seq (.block 1 (.seq (.region false [⟨some 37, .mov (.t 11), none⟩,
   ⟨some 38, .mov (.t 11), none⟩,
   ⟨some 39, .call F.surdref01_Mul [.t 37, .t 38], none⟩,
   ⟨some 14, .mov (.t 39), none⟩]) (.seq (.region false [⟨some 40, .mov (.t 0), none⟩,
   ⟨some 41, .call F.surdref01_Int [.t 40], none⟩,
   ⟨some 42, .mov (.t 12), none⟩,
   ⟨some 43, .mov (.t 12), none⟩,
   ⟨some 44, .call F.surdref01_Mul [.t 42, .t 43], none⟩,
   ⟨some 45, .call F.surdref01_Mul [.t 41, .t 44], none⟩,
   ⟨some 46, .mov (.t 8), none⟩,
   ⟨some 47, .call F.surdref01_Add [.t 45, .t 46], none⟩,
   ⟨some 15, .mov (.t 47), none⟩]) (.seq (.seq (.region false [⟨some 48, .mov (.t 14), none⟩,
   ⟨some 49, .mov (.t 15), none⟩,
   ⟨some 50, .call F.surdref01_Cmp [.t 48, .t 49], none⟩,
   ⟨some 51, .bin .eql false (.t 50) (.c (iv 0)), none⟩]) (.cond (.t 51) (.seq (.region false [⟨some 52, .mov (.t 11), none⟩,
   ⟨some 53, .mov (.t 12), none⟩,
   ⟨some 2, .mov (.t 52), none⟩,
   ⟨some 3, .mov (.t 53), none⟩,
   ⟨some 4, .mov (.c (iv 0)), none⟩]) .ret) .skip)) (.seq (.region false [⟨some 54, .mov (.t 6), none⟩,
   ⟨some 55, .mov (.t 13), none⟩,
   ⟨some 56, .mov (.t 6), none⟩,
   ⟨some 57, .len (.t 56), none⟩,
   ⟨some 58, .bin .rem false (.t 55) (.t 57), none⟩,
   ⟨some 59, .ixa 1 (.t 54) (.t 58), none⟩,
   ⟨some 60, .load none (.t 59), none⟩,
   ⟨some 61, .call F.surdref01_Int [.t 60], none⟩,
   ⟨some 16, .mov (.t 61), none⟩]) (.seq (.region false [⟨some 62, .mov (.t 16), none⟩,
   ⟨some 63, .mov (.t 11), none⟩,
   ⟨some 64, .call F.surdref01_Mul [.t 62, .t 63], none⟩,
   ⟨some 65, .mov (.t 9), none⟩,
   ⟨some 66, .call F.surdref01_Add [.t 64, .t 65], none⟩,
   ⟨some 67, .mov (.t 11), none⟩,
   ⟨some 11, .mov (.t 66), none⟩,
   ⟨some 9, .mov (.t 67), none⟩]) (.region false [⟨some 68, .mov (.t 16), none⟩,
   ⟨some 69, .mov (.t 12), none⟩,
   ⟨some 70, .call F.surdref01_Mul [.t 68, .t 69], none⟩,
   ⟨some 71, .mov (.t 10), none⟩,
   ⟨some 72, .call F.surdref01_Add [.t 70, .t 71], none⟩,
   ⟨some 73, .mov (.t 12), none⟩,
   ⟨some 12, .mov (.t 72), none⟩,
   ⟨some 10, .mov (.t 73), none⟩]))))))) (.region false [⟨some 35, .mov (.t 13), none⟩,
   ⟨some 36, .bin .add false (.t 35) (.c (iv 1)), none⟩,
   ⟨some 13, .mov (.t 36), none⟩]))))))))))
def R.surdref04_Pell : List VRes := [.tmp 2, .tmp 3, .tmp 4]
theorem K.surdref04_Pell : resCode Try.prog Try.f44.ntmps (Try.f44.body.getD .skip) = C.surdref04_Pell := by kernel_rfl
theorem Q.surdref04_Pell : resResults Try.prog Try.f44.results.toList = some R.surdref04_Pell := by kernel_rfl
theorem E.surdref04_Pell : Try.prog.funcs[F.surdref04_Pell]? = some Try.f44 := Try.func44
theorem B.surdref04_Pell : Try.f44.body = some (Try.f44.body.getD .skip) := by kernel_rfl
theorem N.surdref04_Pell : Try.f44.ntmps = 74 := Try.ntmps44

def C.surdref01_Mul : VC :=
  .seq (.region false [⟨some 4, .mov (.c nil1), none⟩]) (.seq (.region false [⟨some 12, .mov (.t 0), none⟩,
   ⟨some 13, .len (.t 12), none⟩,
   ⟨some 14, .mov (.t 1), none⟩,
   ⟨some 15, .len (.t 14), none⟩,
   ⟨some 16, .bin .add false (.t 13) (.t 15), none⟩,
   ⟨some 17, .bin .add false (.t 16) (.c (iv 1)), none⟩,
   ⟨some 18, .mk [.int .u64 0] 8 (.t 17) (.t 17), none⟩,
   ⟨some 5, .mov (.t 18), none⟩]) (.seq (.seq (.region false [⟨some 19, .mov (.t 0), none⟩,
   ⟨some 20, .len (.t 19), none⟩,
   ⟨some 21, .mov (.c (iv 0)), none⟩]) (.block 0 (.loop (.seq (.region false [⟨some 22, .bin .lss false (.t 21) (.t 20), none⟩]) (.seq (.cond (.t 22) .skip (.exit 0)) (.seq (.block 1 (.seq (.region false [⟨some 23, .mov (.t 21), none⟩,
   ⟨some 24, .ixa 1 (.t 19) (.t 21), none⟩,
   ⟨some 25, .load none (.t 24), none⟩,
   ⟨some 6, .mov (.t 23), none⟩,
   ⟨some 7, .mov (.t 25), none⟩]) (.seq (.region false [⟨some 8, .mov (.c (nv 0)), none⟩]) (.seq (.seq (.region false [⟨some 26, .mov (.t 1), none⟩,
   ⟨some 27, .len (.t 26), none⟩,
   ⟨some 28, .mov (.c (iv 0)), none⟩]) (.block 2 (.loop (.seq (.region false [⟨some 29, .bin .lss false (.t 28) (.t 27), none⟩]) (.seq (.cond (.t 29) .skip (.exit 2)) (.seq (.block 3 (.seq (.region false [⟨some 30, .mov (.t 28), none⟩,
   ⟨some 31, .ixa 1 (.t 26) (.t 28), none⟩,
   ⟨some 32, .load none (.t 31), none⟩,
   ⟨some 9, .mov (.t 30), none⟩,
   ⟨some 10, .mov (.t 32), none⟩]) (.seq (.region false [⟨some 33, .mov (.t 7), none⟩,
   ⟨some 34, .mov (.t 10), none⟩,
   ⟨some 35, .bin .mul false (.t 33) (.t 34), none⟩,
   ⟨some 36, .mov (.t 5), none⟩,
   ⟨some 37, .mov (.t 6), none⟩,
   ⟨some 38, .mov (.t 9), none⟩,
   ⟨some 39, .bin .add false (.t 37) (.t 38), none⟩,
   ⟨some 40, .ixa 1 (.t 36) (.t 39), none⟩,
   ⟨some 41, .load none (.t 40), none⟩,
   ⟨some 42, .bin .add false (.t 35) (.t 41), none⟩,
   ⟨some 43, .mov (.t 8), none⟩,
   ⟨some 44, .bin .add false (.t 42) (.t 43), none⟩,
   ⟨some 11, .mov (.t 44), none⟩]) (.seq (.region false [⟨some 45, .mov (.t 5), none⟩,
   ⟨some 46, .mov (.t 6), none⟩,
   ⟨some 47, .mov (.t 9), none⟩,
   ⟨some 48, .bin .add false (.t 46) (.t 47), none⟩,
   ⟨some 49, .mov (.t 11), none⟩,
   ⟨some 50, .bin .rem false (.t 49) (.c (nv 4294967296)), none⟩,
   ⟨some 51, .ixa 1 (.t 45) (.t 48), none⟩,
   ⟨none, .store 1 (.t 51) (.t 50), none⟩]) (.region false [⟨some 52, .mov (.t 11), none⟩,
   ⟨some 53, .bin .quo false (.t 52) (.c (nv 4294967296)), none⟩,
   ⟨some 8, .mov (.t 53), none⟩]))))) (.region false [⟨some 54, .bin .add false (.t 28) (.c (iv 1)), none⟩,
   ⟨some 28, .mov (.t 54), none⟩]))))))) (.region false [⟨some 55, .mov (.t 5), none⟩,
   ⟨some 56, .mov (.t 6), none⟩,
   ⟨some 57, .mov (.t 1), none⟩,
   ⟨some 58, .len (.t 57), none⟩,
   ⟨some 59, .bin .add false (.t 56) (.t 58), none⟩,
   ⟨some 60, .mov (.t 8), none⟩,
   ⟨some 61, .ixa 1 (.t 55) (.t 59), none⟩,
   ⟨none, .store 1 (.t 61) (.t 60), none⟩]))))) (.region false [⟨some 62, .bin .add false (.t 21) (.c (iv 1)), none⟩,
   ⟨some 21, .mov (.t 62), none⟩]))))))) (.seq (.region false [⟨some 63, .mov (.t 5), none⟩,
   ⟨some 64, .call F.surdref01_norm [.t 63], none⟩,
   ⟨some 4, .mov (.t 64), none⟩]) .ret)))
def R.surdref01_Mul : List VRes := [.tmp 4]
theorem K.surdref01_Mul : resCode Try.prog Try.f45.ntmps (Try.f45.body.getD .skip) = C.surdref01_Mul := by kernel_rfl
theorem Q.surdref01_Mul : resResults Try.prog Try.f45.results.toList = some R.surdref01_Mul := by kernel_rfl
theorem E.surdref01_Mul : Try.prog.funcs[F.surdref01_Mul]? = some Try.f45 := Try.func45
theorem B.surdref01_Mul : Try.f45.body = some (Try.f45.body.getD .skip) := by kernel_rfl
theorem N.surdref01_Mul : Try.f45.ntmps = 65 := Try.ntmps45

def C.surdref01_Int : VC :=
  .seq (.region false [⟨some 2, .mov (.c nil1), none⟩]) (.seq (.region false [⟨some 3, .mov (.t 0), none⟩,
   ⟨some 4, .conv .u64 (.t 3), none⟩,
   ⟨some 5, .bsl true 1 1 [.int .u64 0] [(0, (1, .t 4))], none⟩,
   ⟨some 6, .call F.surdref01_Of [.t 5], none⟩,
   ⟨some 2, .mov (.t 6), none⟩]) .ret)
def R.surdref01_Int : List VRes := [.tmp 2]
theorem K.surdref01_Int : resCode Try.prog Try.f46.ntmps (Try.f46.body.getD .skip) = C.surdref01_Int := by kernel_rfl
theorem Q.surdref01_Int : resResults Try.prog Try.f46.results.toList = some R.surdref01_Int := by kernel_rfl
theorem E.surdref01_Int : Try.prog.funcs[F.surdref01_Int]? = some Try.f46 := Try.func46
theorem B.surdref01_Int : Try.f46.body = some (Try.f46.body.getD .skip) := by kernel_rfl
theorem N.surdref01_Int : Try.f46.ntmps = 7 := Try.ntmps46

def C.nat_Through : VC :=
  .seq (.region false [⟨some 4, .mov (.c nil1), none⟩,
   ⟨some 5, .mov (.c (nv 0)), none⟩,
   ⟨some 6, .mov (.c (iv 0)), none⟩]) (.seq (.seq (.region false [⟨some 11, .mov (.t 1), none⟩,
   ⟨some 12, .bin .eql false (.t 11) (.c (nv 0)), none⟩]) (.cond (.t 12) (.seq (.region false [⟨some 4, .mov (.c nil1), none⟩,
   ⟨some 5, .mov (.c (nv 0)), none⟩,
   ⟨some 6, .mov (.c (iv 1)), none⟩]) .ret) .skip)) (.seq (.region false [⟨some 13, .mov (.t 0), none⟩,
   ⟨some 14, .call F.nat_trim [.t 13], none⟩,
   ⟨some 0, .mov (.t 14), none⟩]) (.seq (.region false [⟨some 15, .mov (.t 0), none⟩,
   ⟨some 16, .len (.t 15), none⟩,
   ⟨some 17, .mk [.int .u64 0] 8 (.t 16) (.t 16), none⟩,
   ⟨some 7, .mov (.t 17), none⟩]) (.seq (.region false [⟨some 8, .mov (.c (nv 0)), none⟩]) (.seq (.seq (.region false [⟨some 18, .mov (.t 0), none⟩,
   ⟨some 19, .len (.t 18), none⟩,
   ⟨some 20, .bin .sub false (.t 19) (.c (iv 1)), none⟩,
   ⟨some 9, .mov (.t 20), none⟩]) (.block 0 (.loop (.seq (.seq (.region false [⟨some 21, .mov (.t 9), none⟩,
   ⟨some 22, .bin .geq false (.t 21) (.c (iv 0)), none⟩]) (.cond (.t 22) .skip (.exit 0))) (.seq (.block 1 (.region false [⟨some 26, .mov (.t 7), none⟩,
   ⟨some 27, .mov (.t 9), none⟩,
   ⟨some 28, .mov (.t 8), none⟩,
   ⟨some 29, .mov (.t 0), none⟩,
   ⟨some 30, .mov (.t 9), none⟩,
   ⟨some 31, .ixa 1 (.t 29) (.t 30), none⟩,
   ⟨some 32, .load none (.t 31), none⟩,
   ⟨some 33, .mov (.t 1), none⟩,
   ⟨some 34, .call F.bits_Div64 [.t 28, .t 32, .t 33], none⟩,
   ⟨some 25, .mov (.t 34), none⟩,
   ⟨some 35, .ext (.t 25) 0, none⟩,
   ⟨some 36, .ext (.t 25) 1, none⟩,
   ⟨some 37, .ixa 1 (.t 26) (.t 27), none⟩,
   ⟨none, .store 1 (.t 37) (.t 35), none⟩,
   ⟨some 8, .mov (.t 36), none⟩])) (.region false [⟨some 23, .mov (.t 9), none⟩,
   ⟨some 24, .bin .sub false (.t 23) (.c (iv 1)), none⟩,
   ⟨some 9, .mov (.t 24), none⟩])))))) (.seq (.region false [⟨some 39, .mov (.t 7), none⟩,
   ⟨some 40, .call F.nat_told [.t 39], none⟩,
   ⟨some 38, .mov (.t 40), none⟩,
   ⟨some 41, .ext (.t 38) 0, none⟩,
   ⟨some 42, .ext (.t 38) 1, none⟩,
   ⟨some 7, .mov (.t 41), none⟩,
   ⟨some 10, .mov (.t 42), none⟩]) (.seq (.seq (.region false [⟨some 43, .mov (.t 10), none⟩,
   ⟨some 44, .bin .neq false (.t 43) (.c (iv 0)), none⟩]) (.cond (.t 44) (.seq (.region false [⟨some 45, .mov (.t 10), none⟩,
   ⟨some 4, .mov (.c nil1), none⟩,
   ⟨some 5, .mov (.c (nv 0)), none⟩,
   ⟨some 6, .mov (.t 45), none⟩]) .ret) .skip)) (.seq (.region false [⟨some 46, .mov (.t 7), none⟩,
   ⟨some 47, .mov (.t 8), none⟩,
   ⟨some 4, .mov (.t 46), none⟩,
   ⟨some 5, .mov (.t 47), none⟩,
   ⟨some 6, .mov (.c (iv 0)), none⟩]) .ret))))))))
def R.nat_Through : List VRes := [.tmp 4, .tmp 5, .tmp 6]
theorem K.nat_Through : resCode Try.prog Try.f47.ntmps (Try.f47.body.getD .skip) = C.nat_Through := by kernel_rfl
theorem Q.nat_Through : resResults Try.prog Try.f47.results.toList = some R.nat_Through := by kernel_rfl
theorem E.nat_Through : Try.prog.funcs[F.nat_Through]? = some Try.f47 := Try.func47
theorem B.nat_Through : Try.f47.body = some (Try.f47.body.getD .skip) := by kernel_rfl
theorem N.nat_Through : Try.f47.ntmps = 48 := Try.ntmps47

def C.surdref01_norm : VC :=
  .seq (.region false [⟨some 2, .mov (.c nil1), none⟩]) (.seq (.region false [⟨some 4, .mov (.t 0), none⟩,
   ⟨some 5, .len (.t 4), none⟩,
   ⟨some 3, .mov (.t 5), none⟩]) (.seq (.block 0 (.loop (.seq (.seq (.region false [⟨some 6, .mov (.t 3), none⟩,
   ⟨some 7, .bin .gtr false (.t 6) (.c (iv 0)), none⟩,
   ⟨some 8, .mov (.t 7), none⟩,
   ⟨some 9, .mov (.t 0), some (8, true)⟩,
   ⟨some 10, .mov (.t 3), some (8, true)⟩,
   ⟨some 11, .bin .sub false (.t 10) (.c (iv 1)), some (8, true)⟩,
   ⟨some 12, .ixa 1 (.t 9) (.t 11), some (8, true)⟩,
   ⟨some 13, .load none (.t 12), some (8, true)⟩,
   ⟨some 14, .bin .eql false (.t 13) (.c (nv 0)), some (8, true)⟩,
   ⟨some 15, .pick (.t 8) (.t 14) (.c (bv false)), none⟩]) (.cond (.t 15) .skip (.exit 0))) (.block 1 (.region false [⟨some 16, .mov (.t 3), none⟩,
   ⟨some 17, .bin .sub false (.t 16) (.c (iv 1)), none⟩,
   ⟨some 3, .mov (.t 17), none⟩]))))) (.seq (.region false [⟨some 18, .mov (.t 0), none⟩,
   ⟨some 19, .mov (.t 3), none⟩,
   ⟨some 20, .mov (.t 3), none⟩,
   ⟨some 21, .slc 1 (.t 18) none (some (.t 19)) (some (.t 20)), none⟩,
   ⟨some 2, .mov (.t 21), none⟩]) .ret)))
def R.surdref01_norm : List VRes := [.tmp 2]
theorem K.surdref01_norm : resCode Try.prog Try.f49.ntmps (Try.f49.body.getD .skip) = C.surdref01_norm := by kernel_rfl
theorem Q.surdref01_norm : resResults Try.prog Try.f49.results.toList = some R.surdref01_norm := by kernel_rfl
theorem E.surdref01_norm : Try.prog.funcs[F.surdref01_norm]? = some Try.f49 := Try.func49
theorem B.surdref01_norm : Try.f49.body = some (Try.f49.body.getD .skip) := by kernel_rfl
theorem N.surdref01_norm : Try.f49.ntmps = 22 := Try.ntmps49

def C.surdref01_Shl : VC :=
  .seq (.region false [⟨some 4, .mov (.c nil1), none⟩]) (.seq (.seq (.region false [⟨some 9, .mov (.t 0), none⟩,
   ⟨some 10, .len (.t 9), none⟩,
   ⟨some 11, .bin .eql false (.t 10) (.c (iv 0)), none⟩]) (.cond (.t 11) (.seq (.region false [⟨some 4, .mov (.c nil1), none⟩]) .ret) .skip)) (.seq (.region false [⟨some 12, .mov (.t 0), none⟩,
   ⟨some 13, .len (.t 12), none⟩,
   ⟨some 14, .mov (.t 1), none⟩,
   ⟨some 15, .bin .quo false (.t 14) (.c (iv 32)), none⟩,
   ⟨some 16, .bin .add false (.t 13) (.t 15), none⟩,
   ⟨some 17, .bin .add false (.t 16) (.c (iv 1)), none⟩,
   ⟨some 18, .mk [.int .u64 0] 8 (.t 17) (.t 17), none⟩,
   ⟨some 5, .mov (.t 18), none⟩]) (.seq (.region false [⟨some 19, .mov (.t 1), none⟩,
   ⟨some 20, .bin .rem false (.t 19) (.c (iv 32)), none⟩,
   ⟨some 6, .mov (.t 20), none⟩]) (.seq (.seq (.region false [⟨some 21, .mov (.t 0), none⟩,
   ⟨some 22, .len (.t 21), none⟩,
   ⟨some 23, .mov (.c (iv 0)), none⟩]) (.block 0 (.loop (.seq (.region false [⟨some 24, .bin .lss false (.t 23) (.t 22), none⟩]) (.seq (.cond (.t 24) .skip (.exit 0)) (.seq (.block 1 (.seq (.region false [⟨some 25, .mov (.t 23), none⟩,
   ⟨some 26, .ixa 1 (.t 21) (.t 23), none⟩,
   ⟨some 27, .load none (.t 26), none⟩,
   ⟨some 7, .mov (.t 25), none⟩,
   ⟨some 8, .mov (.t 27), none⟩]) (.seq (.region true [⟨some 28, .mov (.t 5), none⟩,
   ⟨some 29, .mov (.t 7), none⟩,
   ⟨some 30, .mov (.t 1), none⟩,
   ⟨some 31, .bin .quo false (.t 30) (.c (iv 32)), none⟩,
   ⟨some 32, .bin .add false (.t 29) (.t 31), none⟩,
   ⟨some 33, .ixa 1 (.t 28) (.t 32), none⟩,
   ⟨some 34, .load none (.t 33), none⟩,
   ⟨some 35, .mov (.t 8), none⟩,
   ⟨some 36, .mov (.t 6), none⟩,
   ⟨some 37, .bin .shl false (.t 35) (.t 36), none⟩,
   ⟨some 38, .bin .rem false (.t 37) (.c (nv 4294967296)), none⟩,
   ⟨some 39, .bin .add false (.t 34) (.t 38), none⟩,
   ⟨some 40, .ixa 1 (.t 28) (.t 32), none⟩,
   ⟨none, .store 1 (.t 40) (.t 39), none⟩]) (.region false [⟨some 41, .mov (.t 5), none⟩,
   ⟨some 42, .mov (.t 7), none⟩,
   ⟨some 43, .mov (.t 1), none⟩,
   ⟨some 44, .bin .quo false (.t 43) (.c (iv 32)), none⟩,
   ⟨some 45, .bin .add false (.t 42) (.t 44), none⟩,
   ⟨some 46, .bin .add false (.t 45) (.c (iv 1)), none⟩,
   ⟨some 47, .mov (.t 8), none⟩,
   ⟨some 48, .mov (.t 6), none⟩,
   ⟨some 49, .bin .shl false (.t 47) (.t 48), none⟩,
   ⟨some 50, .bin .quo false (.t 49) (.c (nv 4294967296)), none⟩,
   ⟨some 51, .ixa 1 (.t 41) (.t 46), none⟩,
   ⟨none, .store 1 (.t 51) (.t 50), none⟩])))) (.region false [⟨some 52, .bin .add false (.t 23) (.c (iv 1)), none⟩,
   ⟨some 23, .mov (.t 52), none⟩]))))))) (.seq (.region false [⟨some 53, .mov (.t 5), none⟩,
   ⟨some 54, .call F.surdref01_norm [.t 53], none⟩,
   ⟨some 4, .mov (.t 54), none⟩]) .ret)))))
def R.surdref01_Shl : List VRes := [.tmp 4]
theorem K.surdref01_Shl : resCode Try.prog Try.f50.ntmps (Try.f50.body.getD .skip) = C.surdref01_Shl := by kernel_rfl
theorem Q.surdref01_Shl : resResults Try.prog Try.f50.results.toList = some R.surdref01_Shl := by kernel_rfl
theorem E.surdref01_Shl : Try.prog.funcs[F.surdref01_Shl]? = some Try.f50 := Try.func50
theorem B.surdref01_Shl : Try.f50.body = some (Try.f50.body.getD .skip) := by kernel_rfl
theorem N.surdref01_Shl : Try.f50.ntmps = 55 := Try.ntmps50

def C.roots_fits : VC :=
  .seq (.region false [⟨some 2, .mov (.c nil1), none⟩,
   ⟨some 3, .mov (.c (iv 0)), none⟩]) (.seq (.seq (.region false [⟨some 4, .mov (.t 0), none⟩,
   ⟨some 5, .call F.nat_Length [.t 4], none⟩,
   ⟨some 6, .bin .gtr false (.t 5) (.c (iv 67108864)), none⟩]) (.cond (.t 6) (.seq (.region false [⟨some 2, .mov (.c nil1), none⟩,
   ⟨some 3, .mov (.c (iv 3)), none⟩]) .ret) .skip)) (.seq (.region false [⟨some 7, .mov (.t 0), none⟩,
   ⟨some 8, .call F.nat_Norm [.t 7], none⟩,
   ⟨some 2, .mov (.t 8), none⟩,
   ⟨some 3, .mov (.c (iv 0)), none⟩]) .ret))
def R.roots_fits : List VRes := [.tmp 2, .tmp 3]
theorem K.roots_fits : resCode Try.prog Try.f51.ntmps (Try.f51.body.getD .skip) = C.roots_fits := by kernel_rfl
theorem Q.roots_fits : resResults Try.prog Try.f51.results.toList = some R.roots_fits := by kernel_rfl
theorem E.roots_fits : Try.prog.funcs[F.roots_fits]? = some Try.f51 := Try.func51
theorem B.roots_fits : Try.f51.body = some (Try.f51.body.getD .skip) := by kernel_rfl
theorem N.roots_fits : Try.f51.ntmps = 9 := Try.ntmps51

def C.nat_Length : VC :=
  .seq (.region false [⟨some 2, .mov (.c (iv 0)), none⟩]) (.seq (.region false [⟨some 3, .mov (.t 0), none⟩,
   ⟨some 4, .call F.nat_trim [.t 3], none⟩,
   ⟨some 0, .mov (.t 4), none⟩]) (.seq (.seq (.region false [⟨some 5, .mov (.t 0), none⟩,
   ⟨some 6, .len (.t 5), none⟩,
   ⟨some 7, .bin .eql false (.t 6) (.c (iv 0)), none⟩]) (.cond (.t 7) (.seq (.region false [⟨some 2, .mov (.c (iv 0)), none⟩]) .ret) .skip)) (.seq (.region false [⟨some 8, .mov (.t 0), none⟩,
   ⟨some 9, .len (.t 8), none⟩,
   ⟨some 10, .bin .sub false (.t 9) (.c (iv 1)), none⟩,
   ⟨some 11, .bin .mul false (.c (iv 64)) (.t 10), none⟩,
   ⟨some 12, .mov (.t 0), none⟩,
   ⟨some 13, .mov (.t 0), none⟩,
   ⟨some 14, .len (.t 13), none⟩,
   ⟨some 15, .bin .sub false (.t 14) (.c (iv 1)), none⟩,
   ⟨some 16, .ixa 1 (.t 12) (.t 15), none⟩,
   ⟨some 17, .load none (.t 16), none⟩,
   ⟨some 18, .call F.bits_Len64 [.t 17], none⟩,
   ⟨some 19, .bin .add false (.t 11) (.t 18), none⟩,
   ⟨some 2, .mov (.t 19), none⟩]) .ret)))
def R.nat_Length : List VRes := [.tmp 2]
theorem K.nat_Length : resCode Try.prog Try.f52.ntmps (Try.f52.body.getD .skip) = C.nat_Length := by kernel_rfl
theorem Q.nat_Length : resResults Try.prog Try.f52.results.toList = some R.nat_Length := by kernel_rfl
theorem E.nat_Length : Try.prog.funcs[F.nat_Length]? = some Try.f52 := Try.func52
theorem B.nat_Length : Try.f52.body = some (Try.f52.body.getD .skip) := by kernel_rfl
theorem N.nat_Length : Try.f52.ntmps = 20 := Try.ntmps52

def C.roots_newton : VC :=
  .seq (.region false [⟨some 4, .mov (.c nil1), none⟩]) (.seq (.region false [⟨some 18, .mov (.t 0), none⟩,
   ⟨some 19, .call F.nat_Length [.t 18], none⟩,
   ⟨some 5, .mov (.t 19), none⟩]) (.seq (.seq (.region false [⟨some 20, .mov (.t 1), none⟩,
   ⟨some 21, .mov (.t 5), none⟩,
   ⟨some 22, .bin .geq false (.t 20) (.t 21), none⟩]) (.cond (.t 22) (.seq (.region false [⟨some 23, .call F.nat_From [.c (nv 1)], none⟩,
   ⟨some 4, .mov (.t 23), none⟩]) .ret) .skip)) (.seq (.region false [⟨some 24, .mov (.t 5), none⟩,
   ⟨some 25, .mov (.t 1), none⟩,
   ⟨some 26, .bin .add false (.t 24) (.t 25), none⟩,
   ⟨some 27, .bin .sub false (.t 26) (.c (iv 1)), none⟩,
   ⟨some 28, .mov (.t 1), none⟩,
   ⟨some 29, .bin .quo false (.t 27) (.t 28), none⟩,
   ⟨some 30, .call F.roots_power [.t 29], none⟩,
   ⟨some 6, .mov (.t 30), none⟩]) (.block 0 (.loop (.block 1 (.seq (.region false [⟨some 32, .mov (.t 6), none⟩,
   ⟨some 33, .mov (.t 1), none⟩,
   ⟨some 34, .bin .sub false (.t 33) (.c (iv 1)), none⟩,
   ⟨some 35, .call F.mul_Pow [.t 32, .t 34], none⟩,
   ⟨some 31, .mov (.t 35), none⟩,
   ⟨some 36, .ext (.t 31) 0, none⟩,
   ⟨some 37, .ext (.t 31) 1, none⟩,
   ⟨some 7, .mov (.t 36), none⟩,
   ⟨some 8, .mov (.t 37), none⟩]) (.seq (.region false [⟨some 39, .mov (.t 0), none⟩,
   ⟨some 40, .mov (.t 7), none⟩,
   ⟨some 41, .call F.div_Quo [.t 39, .t 40], none⟩,
   ⟨some 38, .mov (.t 41), none⟩,
   ⟨some 42, .ext (.t 38) 0, none⟩,
   ⟨some 43, .ext (.t 38) 1, none⟩,
   ⟨some 9, .mov (.t 42), none⟩,
   ⟨some 10, .mov (.t 43), none⟩]) (.seq (.region false [⟨some 45, .mov (.t 6), none⟩,
   ⟨some 46, .mov (.t 1), none⟩,
   ⟨some 47, .bin .sub false (.t 46) (.c (iv 1)), none⟩,
   ⟨some 48, .conv .u64 (.t 47), none⟩,
   ⟨some 49, .call F.nat_Times [.t 45, .t 48], none⟩,
   ⟨some 44, .mov (.t 49), none⟩,
   ⟨some 50, .ext (.t 44) 0, none⟩,
   ⟨some 51, .ext (.t 44) 1, none⟩,
   ⟨some 11, .mov (.t 50), none⟩,
   ⟨some 12, .mov (.t 51), none⟩]) (.seq (.region false [⟨some 53, .mov (.t 11), none⟩,
   ⟨some 54, .mov (.t 9), none⟩,
   ⟨some 55, .call F.nat_Add [.t 53, .t 54], none⟩,
   ⟨some 52, .mov (.t 55), none⟩,
   ⟨some 56, .ext (.t 52) 0, none⟩,
   ⟨some 57, .ext (.t 52) 1, none⟩,
   ⟨some 13, .mov (.t 56), none⟩,
   ⟨some 14, .mov (.t 57), none⟩]) (.seq (.region false [⟨some 59, .mov (.t 13), none⟩,
   ⟨some 60, .mov (.t 1), none⟩,
   ⟨some 61, .conv .u64 (.t 60), none⟩,
   ⟨some 62, .call F.nat_Through [.t 59, .t 61], none⟩,
   ⟨some 58, .mov (.t 62), none⟩,
   ⟨some 63, .ext (.t 58) 0, none⟩,
   ⟨some 64, .ext (.t 58) 1, none⟩,
   ⟨some 65, .ext (.t 58) 2, none⟩,
   ⟨some 15, .mov (.t 63), none⟩,
   ⟨some 16, .mov (.t 64), none⟩,
   ⟨some 17, .mov (.t 65), none⟩]) (.seq (.seq (.region false [⟨some 66, .mov (.t 15), none⟩,
   ⟨some 67, .mov (.t 6), none⟩,
   ⟨some 68, .call F.nat_Compare [.t 66, .t 67], none⟩,
   ⟨some 69, .bin .geq false (.t 68) (.c (iv 0)), none⟩]) (.cond (.t 69) (.seq (.region false [⟨some 70, .mov (.t 6), none⟩,
   ⟨some 4, .mov (.t 70), none⟩]) .ret) .skip)) (.region false [⟨some 71, .mov (.t 15), none⟩,
   ⟨some 6, .mov (.t 71), none⟩])))))))))))))
def R.roots_newton : List VRes := [.tmp 4]
theorem K.roots_newton : resCode Try.prog Try.f53.ntmps (Try.f53.body.getD .skip) = C.roots_newton := by kernel_rfl
theorem Q.roots_newton : resResults Try.prog Try.f53.results.toList = some R.roots_newton := by kernel_rfl
theorem E.roots_newton : Try.prog.funcs[F.roots_newton]? = some Try.f53 := Try.func53
theorem B.roots_newton : Try.f53.body = some (Try.f53.body.getD .skip) := by kernel_rfl
theorem N.roots_newton : Try.f53.ntmps = 72 := Try.ntmps53

def C.mul_Pow : VC :=
  .seq (.region false [⟨some 4, .mov (.c nil1), none⟩,
   ⟨some 5, .mov (.c (iv 0)), none⟩]) (.seq (.seq (.region false [⟨some 10, .mov (.t 1), none⟩,
   ⟨some 11, .bin .lss false (.t 10) (.c (iv 0)), none⟩]) (.cond (.t 11) (.seq (.region false [⟨some 4, .mov (.c nil1), none⟩,
   ⟨some 5, .mov (.c (iv 1)), none⟩]) .ret) .skip)) (.seq (.region false [⟨some 12, .mov (.t 0), none⟩,
   ⟨some 13, .call F.nat_Norm [.t 12], none⟩,
   ⟨some 0, .mov (.t 13), none⟩]) (.seq (.seq (.region false [⟨some 14, .mov (.t 1), none⟩,
   ⟨some 15, .bin .eql false (.t 14) (.c (iv 0)), none⟩]) (.cond (.t 15) (.seq (.region false [⟨some 16, .call F.nat_From [.c (nv 1)], none⟩,
   ⟨some 4, .mov (.t 16), none⟩,
   ⟨some 5, .mov (.c (iv 0)), none⟩]) .ret) .skip)) (.seq (.region false [⟨some 17, .mov (.t 0), none⟩,
   ⟨some 18, .call F.nat_Length [.t 17], none⟩,
   ⟨some 6, .mov (.t 18), none⟩]) (.seq (.seq (.region false [⟨some 19, .mov (.t 6), none⟩,
   ⟨some 20, .bin .leq false (.t 19) (.c (iv 1)), none⟩]) (.cond (.t 20) (.seq (.region false [⟨some 21, .mov (.t 0), none⟩,
   ⟨some 4, .mov (.t 21), none⟩,
   ⟨some 5, .mov (.c (iv 0)), none⟩]) .ret) .skip)) (.seq (.seq (.region false [⟨some 22, .mov (.t 1), none⟩,
   ⟨some 23, .bin .gtr false (.t 22) (.c (iv 67108864)), none⟩,
   ⟨some 24, .mov (.t 23), none⟩,
   ⟨some 25, .mov (.t 6), some (24, false)⟩,
   ⟨some 26, .bin .sub false (.t 25) (.c (iv 1)), some (24, false)⟩,
   ⟨some 27, .mov (.t 1), some (24, false)⟩,
   ⟨some 28, .bin .mul false (.t 26) (.t 27), some (24, false)⟩,
   ⟨some 29, .bin .add false (.t 28) (.c (iv 1)), some (24, false)⟩,
   ⟨some 30, .bin .gtr false (.t 29) (.c (iv 67108864)), some (24, false)⟩,
   ⟨some 31, .pick (.t 24) (.c (bv true)) (.t 30), none⟩]) (.cond (.t 31) (.seq (.region false [⟨some 4, .mov (.c nil1), none⟩,
   ⟨some 5, .mov (.c (iv 3)), none⟩]) .ret) .skip)) (.seq (.region false [⟨some 32, .call F.nat_From [.c (nv 1)], none⟩,
   ⟨some 7, .mov (.t 32), none⟩]) (.seq (.seq (.region false [⟨some 8, .mov (.c (iv 62)), none⟩]) (.block 0 (.loop (.seq (.seq (.region false [⟨some 33, .mov (.t 8), none⟩,
   ⟨some 34, .bin .geq false (.t 33) (.c (iv 0)), none⟩]) (.cond (.t 34) .skip (.exit 0))) (.seq (.block 1 (.seq (.region false [⟨some 9, .mov (.c (iv 0)), none⟩]) (.seq (.seq (.region false [⟨some 37, .mov (.t 7), none⟩,
   ⟨some 38, .len (.t 37), none⟩,
   ⟨some 39, .bin .gtr false (.t 38) (.c (iv 0)), none⟩]) (.cond (.t 39) (.seq (.region false [⟨some 41, .mov (.t 7), none⟩,
   ⟨some 42, .call F.mul_Square [.t 41], none⟩,
   ⟨some 40, .mov (.t 42), none⟩,
   ⟨some 43, .ext (.t 40) 0, none⟩,
   ⟨some 44, .ext (.t 40) 1, none⟩,
   ⟨some 7, .mov (.t 43), none⟩,
   ⟨some 9, .mov (.t 44), none⟩]) (.seq (.region false [⟨some 45, .mov (.t 9), none⟩,
   ⟨some 46, .bin .neq false (.t 45) (.c (iv 0)), none⟩]) (.cond (.t 46) (.seq (.region false [⟨some 47, .mov (.t 9), none⟩,
   ⟨some 4, .mov (.c nil1), none⟩,
   ⟨some 5, .mov (.t 47), none⟩]) .ret) .skip))) .skip)) (.seq (.region false [⟨some 48, .mov (.t 1), none⟩,
   ⟨some 49, .mov (.t 8), none⟩,
   ⟨some 50, .bin .shr false (.t 48) (.t 49), none⟩,
   ⟨some 51, .bin .and false (.t 50) (.c (iv 1)), none⟩,
   ⟨some 52, .bin .eql false (.t 51) (.c (iv 1)), none⟩]) (.cond (.t 52) (.seq (.region false [⟨some 54, .mov (.t 7), none⟩,
   ⟨some 55, .mov (.t 0), none⟩,
   ⟨some 56, .call F.mul_Mul [.t 54, .t 55], none⟩,
   ⟨some 53, .mov (.t 56), none⟩,
   ⟨some 57, .ext (.t 53) 0, none⟩,
   ⟨some 58, .ext (.t 53) 1, none⟩,
   ⟨some 7, .mov (.t 57), none⟩,
   ⟨some 9, .mov (.t 58), none⟩]) (.seq (.region false [⟨some 59, .mov (.t 9), none⟩,
   ⟨some 60, .bin .neq false (.t 59) (.c (iv 0)), none⟩]) (.cond (.t 60) (.seq (.region false [⟨some 61, .mov (.t 9), none⟩,
   ⟨some 4, .mov (.c nil1), none⟩,
   ⟨some 5, .mov (.t 61), none⟩]) .ret) .skip))) .skip))))) (.region false [⟨some 35, .mov (.t 8), none⟩,
   ⟨some 36, .bin .sub false (.t 35) (.c (iv 1)), none⟩,
   ⟨some 8, .mov (.t 36), none⟩])))))) (.seq (.region false [⟨some 62, .mov (.t 7), none⟩,
   ⟨some 4, .mov (.t 62), none⟩,
   ⟨some 5, .mov (.c (iv 0)), none⟩]) .ret)))))))))
def R.mul_Pow : List VRes := [.tmp 4, .tmp 5]
theorem K.mul_Pow : resCode Try.prog Try.f54.ntmps (Try.f54.body.getD .skip) = C.mul_Pow := by kernel_rfl
theorem Q.mul_Pow : resResults Try.prog Try.f54.results.toList = some R.mul_Pow := by kernel_rfl
theorem E.mul_Pow : Try.prog.funcs[F.mul_Pow]? = some Try.f54 := Try.func54
theorem B.mul_Pow : Try.f54.body = some (Try.f54.body.getD .skip) := by kernel_rfl
theorem N.mul_Pow : Try.f54.ntmps = 63 := Try.ntmps54

def C.roots_less : VC :=
  .seq (.region false [⟨some 4, .mov (.c nil1), none⟩]) (.seq (.region false [⟨some 8, .mov (.t 0), none⟩,
   ⟨some 9, .mov (.t 1), none⟩,
   ⟨some 10, .call F.nat_Sub [.t 8, .t 9], none⟩,
   ⟨some 7, .mov (.t 10), none⟩,
   ⟨some 11, .ext (.t 7) 0, none⟩,
   ⟨some 12, .ext (.t 7) 1, none⟩,
   ⟨some 5, .mov (.t 11), none⟩,
   ⟨some 6, .mov (.t 12), none⟩]) (.seq (.region false [⟨some 13, .mov (.t 5), none⟩,
   ⟨some 4, .mov (.t 13), none⟩]) .ret))
def R.roots_less : List VRes := [.tmp 4]
theorem K.roots_less : resCode Try.prog Try.f55.ntmps (Try.f55.body.getD .skip) = C.roots_less := by kernel_rfl
theorem Q.roots_less : resResults Try.prog Try.f55.results.toList = some R.roots_less := by kernel_rfl
theorem E.roots_less : Try.prog.funcs[F.roots_less]? = some Try.f55 := Try.func55
theorem B.roots_less : Try.f55.body = some (Try.f55.body.getD .skip) := by kernel_rfl
theorem N.roots_less : Try.f55.ntmps = 14 := Try.ntmps55

def C.nat_Add : VC :=
  .seq (.region false [⟨some 4, .mov (.c nil1), none⟩,
   ⟨some 5, .mov (.c (iv 0)), none⟩]) (.seq (.region false [⟨some 10, .mov (.t 0), none⟩,
   ⟨some 11, .call F.nat_trim [.t 10], none⟩,
   ⟨some 12, .mov (.t 1), none⟩,
   ⟨some 13, .call F.nat_trim [.t 12], none⟩,
   ⟨some 0, .mov (.t 11), none⟩,
   ⟨some 1, .mov (.t 13), none⟩]) (.seq (.seq (.region false [⟨some 14, .mov (.t 0), none⟩,
   ⟨some 15, .len (.t 14), none⟩,
   ⟨some 16, .mov (.t 1), none⟩,
   ⟨some 17, .len (.t 16), none⟩,
   ⟨some 18, .bin .lss false (.t 15) (.t 17), none⟩]) (.cond (.t 18) (.region false [⟨some 19, .mov (.t 1), none⟩,
   ⟨some 20, .mov (.t 0), none⟩,
   ⟨some 0, .mov (.t 19), none⟩,
   ⟨some 1, .mov (.t 20), none⟩]) .skip)) (.seq (.region false [⟨some 21, .mov (.t 0), none⟩,
   ⟨some 22, .len (.t 21), none⟩,
   ⟨some 23, .bin .add false (.t 22) (.c (iv 1)), none⟩,
   ⟨some 24, .mk [.int .u64 0] 8 (.t 23) (.t 23), none⟩,
   ⟨some 6, .mov (.t 24), none⟩]) (.seq (.region false [⟨some 7, .mov (.c (nv 0)), none⟩]) (.seq (.seq (.region false [⟨some 25, .mov (.t 0), none⟩,
   ⟨some 26, .len (.t 25), none⟩,
   ⟨some 27, .mov (.c (iv 0)), none⟩]) (.block 0 (.loop (.seq (.region false [⟨some 28, .bin .lss false (.t 27) (.t 26), none⟩]) (.seq (.cond (.t 28) .skip (.exit 0)) (.seq (.block 1 (.seq (.region false [⟨some 29, .mov (.t 27), none⟩,
   ⟨some 8, .mov (.t 29), none⟩]) (.seq (.region false [⟨some 9, .mov (.c (nv 0)), none⟩]) (.seq (.seq (.region false [⟨some 30, .mov (.t 8), none⟩,
   ⟨some 31, .mov (.t 1), none⟩,
   ⟨some 32, .len (.t 31), none⟩,
   ⟨some 33, .bin .lss false (.t 30) (.t 32), none⟩]) (.cond (.t 33) (.region false [⟨some 34, .mov (.t 1), none⟩,
   ⟨some 35, .mov (.t 8), none⟩,
   ⟨some 36, .ixa 1 (.t 34) (.t 35), none⟩,
   ⟨some 37, .load none (.t 36), none⟩,
   ⟨some 9, .mov (.t 37), none⟩]) .skip)) (.region false [⟨some 39, .mov (.t 6), none⟩,
   ⟨some 40, .mov (.t 8), none⟩,
   ⟨some 41, .mov (.t 0), none⟩,
   ⟨some 42, .mov (.t 8), none⟩,
   ⟨some 43, .ixa 1 (.t 41) (.t 42), none⟩,
   ⟨some 44, .load none (.t 43), none⟩,
   ⟨some 45, .mov (.t 9), none⟩,
   ⟨some 46, .mov (.t 7), none⟩,
   ⟨some 47, .ext64 false (.t 44) (.t 45) (.t 46), none⟩,
   ⟨some 38, .mov (.t 47), none⟩,
   ⟨some 48, .ext (.t 38) 0, none⟩,
   ⟨some 49, .ext (.t 38) 1, none⟩,
   ⟨some 50, .ixa 1 (.t 39) (.t 40), none⟩,
   ⟨none, .store 1 (.t 50) (.t 48), none⟩,
   ⟨some 7, .mov (.t 49), none⟩]))))) (.region false [⟨some 51, .bin .add false (.t 27) (.c (iv 1)), none⟩,
   ⟨some 27, .mov (.t 51), none⟩]))))))) (.seq (.region false [⟨some 52, .mov (.t 6), none⟩,
   ⟨some 53, .mov (.t 0), none⟩,
   ⟨some 54, .len (.t 53), none⟩,
   ⟨some 55, .mov (.t 7), none⟩,
   ⟨some 56, .ixa 1 (.t 52) (.t 54), none⟩,
   ⟨none, .store 1 (.t 56) (.t 55), none⟩]) (.seq (.region false [⟨some 57, .mov (.t 6), none⟩,
   ⟨some 58, .call F.nat_told [.t 57], none⟩,
   ⟨some 59, .ext (.t 58) 0, none⟩,
   ⟨some 60, .ext (.t 58) 1, none⟩,
   ⟨some 4, .mov (.t 59), none⟩,
   ⟨some 5, .mov (.t 60), none⟩]) .ret)))))))
def R.nat_Add : List VRes := [.tmp 4, .tmp 5]
theorem K.nat_Add : resCode Try.prog Try.f56.ntmps (Try.f56.body.getD .skip) = C.nat_Add := by kernel_rfl
theorem Q.nat_Add : resResults Try.prog Try.f56.results.toList = some R.nat_Add := by kernel_rfl
theorem E.nat_Add : Try.prog.funcs[F.nat_Add]? = some Try.f56 := Try.func56
theorem B.nat_Add : Try.f56.body = some (Try.f56.body.getD .skip) := by kernel_rfl
theorem N.nat_Add : Try.f56.ntmps = 61 := Try.ntmps56

def C.nat_From : VC :=
  .seq (.region false [⟨some 2, .mov (.c nil1), none⟩]) (.seq (.seq (.region false [⟨some 3, .mov (.t 0), none⟩,
   ⟨some 4, .bin .eql false (.t 3) (.c (nv 0)), none⟩]) (.cond (.t 4) (.seq (.region false [⟨some 2, .mov (.c nil1), none⟩]) .ret) .skip)) (.seq (.region false [⟨some 5, .mov (.t 0), none⟩,
   ⟨some 6, .bsl true 1 1 [.int .u64 0] [(0, (1, .t 5))], none⟩,
   ⟨some 2, .mov (.t 6), none⟩]) .ret))
def R.nat_From : List VRes := [.tmp 2]
theorem K.nat_From : resCode Try.prog Try.f57.ntmps (Try.f57.body.getD .skip) = C.nat_From := by kernel_rfl
theorem Q.nat_From : resResults Try.prog Try.f57.results.toList = some R.nat_From := by kernel_rfl
theorem E.nat_From : Try.prog.funcs[F.nat_From]? = some Try.f57 := Try.func57
theorem B.nat_From : Try.f57.body = some (Try.f57.body.getD .skip) := by kernel_rfl
theorem N.nat_From : Try.f57.ntmps = 7 := Try.ntmps57

def C.surdref01_Num_Limbs : VC :=
  .seq (.region false [⟨some 2, .mov (.c nil1), none⟩]) (.seq (.region false [⟨some 3, .mov (.c nil1), none⟩]) (.seq (.seq (.region false [⟨some 4, .mov (.c (iv 0)), none⟩]) (.block 0 (.loop (.seq (.seq (.region false [⟨some 6, .mov (.t 4), none⟩,
   ⟨some 7, .mov (.t 0), none⟩,
   ⟨some 8, .len (.t 7), none⟩,
   ⟨some 9, .bin .lss false (.t 6) (.t 8), none⟩]) (.cond (.t 9) .skip (.exit 0))) (.seq (.block 1 (.seq (.region false [⟨some 12, .mov (.t 0), none⟩,
   ⟨some 13, .mov (.t 4), none⟩,
   ⟨some 14, .ixa 1 (.t 12) (.t 13), none⟩,
   ⟨some 15, .load none (.t 14), none⟩,
   ⟨some 5, .mov (.t 15), none⟩]) (.seq (.seq (.region false [⟨some 16, .mov (.t 4), none⟩,
   ⟨some 17, .bin .add false (.t 16) (.c (iv 1)), none⟩,
   ⟨some 18, .mov (.t 0), none⟩,
   ⟨some 19, .len (.t 18), none⟩,
   ⟨some 20, .bin .lss false (.t 17) (.t 19), none⟩]) (.cond (.t 20) (.region false [⟨some 21, .mov (.t 5), none⟩,
   ⟨some 22, .mov (.t 0), none⟩,
   ⟨some 23, .mov (.t 4), none⟩,
   ⟨some 24, .bin .add false (.t 23) (.c (iv 1)), none⟩,
   ⟨some 25, .ixa 1 (.t 22) (.t 24), none⟩,
   ⟨some 26, .load none (.t 25), none⟩,
   ⟨some 27, .bin .mul false (.t 26) (.c (nv 4294967296)), none⟩,
   ⟨some 28, .bin .add false (.t 21) (.t 27), none⟩,
   ⟨some 5, .mov (.t 28), none⟩]) .skip)) (.region false [⟨some 29, .mov (.t 3), none⟩,
   ⟨some 30, .mov (.t 5), none⟩,
   ⟨some 31, .bsl true 1 1 [.int .u64 0] [(0, (1, .t 30))], none⟩,
   ⟨some 32, .app 1 8 [.int .u64 0] (.t 29) (.t 31), none⟩,
   ⟨some 3, .mov (.t 32), none⟩])))) (.region false [⟨some 10, .mov (.t 4), none⟩,
   ⟨some 11, .bin .add false (.t 10) (.c (iv 2)), none⟩,
   ⟨some 4, .mov (.t 11), none⟩])))))) (.seq (.region false [⟨some 33, .mov (.t 3), none⟩,
   ⟨some 2, .mov (.t 33), none⟩]) .ret)))
def R.surdref01_Num_Limbs : List VRes := [.tmp 2]
theorem K.surdref01_Num_Limbs : resCode Try.prog Try.f58.ntmps (Try.f58.body.getD .skip) = C.surdref01_Num_Limbs := by kernel_rfl
theorem Q.surdref01_Num_Limbs : resResults Try.prog Try.f58.results.toList = some R.surdref01_Num_Limbs := by kernel_rfl
theorem E.surdref01_Num_Limbs : Try.prog.funcs[F.surdref01_Num_Limbs]? = some Try.f58 := Try.func58
theorem B.surdref01_Num_Limbs : Try.f58.body = some (Try.f58.body.getD .skip) := by kernel_rfl
theorem N.surdref01_Num_Limbs : Try.f58.ntmps = 34 := Try.ntmps58

def C.mul_Square : VC :=
  .seq (.region false [⟨some 2, .mov (.c nil1), none⟩,
   ⟨some 3, .mov (.c (iv 0)), none⟩]) (.seq (.region false [⟨some 4, .mov (.t 0), none⟩,
   ⟨some 5, .mov (.t 0), none⟩,
   ⟨some 6, .call F.mul_Mul [.t 4, .t 5], none⟩,
   ⟨some 7, .ext (.t 6) 0, none⟩,
   ⟨some 8, .ext (.t 6) 1, none⟩,
   ⟨some 2, .mov (.t 7), none⟩,
   ⟨some 3, .mov (.t 8), none⟩]) .ret)
def R.mul_Square : List VRes := [.tmp 2, .tmp 3]
theorem K.mul_Square : resCode Try.prog Try.f59.ntmps (Try.f59.body.getD .skip) = C.mul_Square := by kernel_rfl
theorem Q.mul_Square : resResults Try.prog Try.f59.results.toList = some R.mul_Square := by kernel_rfl
theorem E.mul_Square : Try.prog.funcs[F.mul_Square]? = some Try.f59 := Try.func59
theorem B.mul_Square : Try.f59.body = some (Try.f59.body.getD .skip) := by kernel_rfl
theorem N.mul_Square : Try.f59.ntmps = 9 := Try.ntmps59

def C.nat_Compare : VC :=
  .seq (.region false [⟨some 4, .mov (.c (iv 0)), none⟩]) (.seq (.region false [⟨some 6, .mov (.t 0), none⟩,
   ⟨some 7, .call F.nat_trim [.t 6], none⟩,
   ⟨some 8, .mov (.t 1), none⟩,
   ⟨some 9, .call F.nat_trim [.t 8], none⟩,
   ⟨some 0, .mov (.t 7), none⟩,
   ⟨some 1, .mov (.t 9), none⟩]) (.seq (.seq (.region false [⟨some 10, .mov (.t 0), none⟩,
   ⟨some 11, .len (.t 10), none⟩,
   ⟨some 12, .mov (.t 1), none⟩,
   ⟨some 13, .len (.t 12), none⟩,
   ⟨some 14, .bin .neq false (.t 11) (.t 13), none⟩]) (.cond (.t 14) (.seq (.seq (.region false [⟨some 15, .mov (.t 0), none⟩,
   ⟨some 16, .len (.t 15), none⟩,
   ⟨some 17, .mov (.t 1), none⟩,
   ⟨some 18, .len (.t 17), none⟩,
   ⟨some 19, .bin .lss false (.t 16) (.t 18), none⟩]) (.cond (.t 19) (.seq (.region false [⟨some 4, .mov (.c (iv (-1))), none⟩]) .ret) .skip)) (.seq (.region false [⟨some 4, .mov (.c (iv 1)), none⟩]) .ret)) .skip)) (.seq (.seq (.region false [⟨some 20, .mov (.t 0), none⟩,
   ⟨some 21, .len (.t 20), none⟩,
   ⟨some 22, .bin .sub false (.t 21) (.c (iv 1)), none⟩,
   ⟨some 5, .mov (.t 22), none⟩]) (.block 0 (.loop (.seq (.seq (.region false [⟨some 23, .mov (.t 5), none⟩,
   ⟨some 24, .bin .geq false (.t 23) (.c (iv 0)), none⟩]) (.cond (.t 24) .skip (.exit 0))) (.seq (.block 1 (.seq (.seq (.region true [⟨some 27, .mov (.t 0), none⟩,
   ⟨some 28, .mov (.t 5), none⟩,
   ⟨some 29, .ixa 1 (.t 27) (.t 28), none⟩,
   ⟨some 30, .load none (.t 29), none⟩,
   ⟨some 31, .mov (.t 1), none⟩,
   ⟨some 32, .mov (.t 5), none⟩,
   ⟨some 33, .ixa 1 (.t 31) (.t 32), none⟩,
   ⟨some 34, .load none (.t 33), none⟩,
   ⟨some 35, .bin .lss false (.t 30) (.t 34), none⟩]) (.cond (.t 35) (.seq (.region false [⟨some 4, .mov (.c (iv (-1))), none⟩]) .ret) .skip)) (.seq (.region true [⟨some 36, .mov (.t 0), none⟩,
   ⟨some 37, .mov (.t 5), none⟩,
   ⟨some 38, .ixa 1 (.t 36) (.t 37), none⟩,
   ⟨some 39, .load none (.t 38), none⟩,
   ⟨some 40, .mov (.t 1), none⟩,
   ⟨some 41, .mov (.t 5), none⟩,
   ⟨some 42, .ixa 1 (.t 40) (.t 41), none⟩,
   ⟨some 43, .load none (.t 42), none⟩,
   ⟨some 44, .bin .gtr false (.t 39) (.t 43), none⟩]) (.cond (.t 44) (.seq (.region false [⟨some 4, .mov (.c (iv 1)), none⟩]) .ret) .skip)))) (.region false [⟨some 25, .mov (.t 5), none⟩,
   ⟨some 26, .bin .sub false (.t 25) (.c (iv 1)), none⟩,
   ⟨some 5, .mov (.t 26), none⟩])))))) (.seq (.region false [⟨some 4, .mov (.c (iv 0)), none⟩]) .ret))))
def R.nat_Compare : List VRes := [.tmp 4]
theorem K.nat_Compare : resCode Try.prog Try.f60.ntmps (Try.f60.body.getD .skip) = C.nat_Compare := by kernel_rfl
theorem Q.nat_Compare : resResults Try.prog Try.f60.results.toList = some R.nat_Compare := by kernel_rfl
theorem E.nat_Compare : Try.prog.funcs[F.nat_Compare]? = some Try.f60 := Try.func60
theorem B.nat_Compare : Try.f60.body = some (Try.f60.body.getD .skip) := by kernel_rfl
theorem N.nat_Compare : Try.f60.ntmps = 45 := Try.ntmps60

def C.mul_Mul : VC :=
  .seq (.region false [⟨some 4, .mov (.c nil1), none⟩,
   ⟨some 5, .mov (.c (iv 0)), none⟩]) (.seq (.region false [⟨some 6, .mov (.t 0), none⟩,
   ⟨some 7, .mov (.t 1), none⟩,
   ⟨some 8, .call F.mul_product [.t 6, .t 7, .c (.lit (.func (.func F.mul_Mul_1) #[] #[]))], none⟩,
   ⟨some 9, .ext (.t 8) 0, none⟩,
   ⟨some 10, .ext (.t 8) 1, none⟩,
   ⟨some 4, .mov (.t 9), none⟩,
   ⟨some 5, .mov (.t 10), none⟩]) .ret)
def R.mul_Mul : List VRes := [.tmp 4, .tmp 5]
theorem K.mul_Mul : resCode Try.prog Try.f61.ntmps (Try.f61.body.getD .skip) = C.mul_Mul := by kernel_rfl
theorem Q.mul_Mul : resResults Try.prog Try.f61.results.toList = some R.mul_Mul := by kernel_rfl
theorem E.mul_Mul : Try.prog.funcs[F.mul_Mul]? = some Try.f61 := Try.func61
theorem B.mul_Mul : Try.f61.body = some (Try.f61.body.getD .skip) := by kernel_rfl
theorem N.mul_Mul : Try.f61.ntmps = 11 := Try.ntmps61

def C.surdref04_told : VC :=
  .seq (.region false [⟨some 4, .mov (.c nil1), none⟩,
   ⟨some 5, .mov (.c nil1), none⟩,
   ⟨some 6, .mov (.c (iv 0)), none⟩]) (.seq (.seq (.region false [⟨some 7, .mov (.t 0), none⟩,
   ⟨some 8, .call F.surdref01_Num_Len [.t 7], none⟩,
   ⟨some 9, .bin .gtr false (.t 8) (.c (iv 67108864)), none⟩,
   ⟨some 10, .mov (.t 9), none⟩,
   ⟨some 11, .mov (.t 1), some (10, false)⟩,
   ⟨some 12, .call F.surdref01_Num_Len [.t 11], some (10, false)⟩,
   ⟨some 13, .bin .gtr false (.t 12) (.c (iv 67108864)), some (10, false)⟩,
   ⟨some 14, .pick (.t 10) (.c (bv true)) (.t 13), none⟩]) (.cond (.t 14) (.seq (.region false [⟨some 4, .mov (.c nil1), none⟩,
   ⟨some 5, .mov (.c nil1), none⟩,
   ⟨some 6, .mov (.c (iv 3)), none⟩]) .ret) .skip)) (.seq (.region false [⟨some 15, .mov (.t 0), none⟩,
   ⟨some 16, .mov (.t 1), none⟩,
   ⟨some 4, .mov (.t 15), none⟩,
   ⟨some 5, .mov (.t 16), none⟩,
   ⟨some 6, .mov (.c (iv 0)), none⟩]) .ret))
def R.surdref04_told : List VRes := [.tmp 4, .tmp 5, .tmp 6]
theorem K.surdref04_told : resCode Try.prog Try.f62.ntmps (Try.f62.body.getD .skip) = C.surdref04_told := by kernel_rfl
theorem Q.surdref04_told : resResults Try.prog Try.f62.results.toList = some R.surdref04_told := by kernel_rfl
theorem E.surdref04_told : Try.prog.funcs[F.surdref04_told]? = some Try.f62 := Try.func62
theorem B.surdref04_told : Try.f62.body = some (Try.f62.body.getD .skip) := by kernel_rfl
theorem N.surdref04_told : Try.f62.ntmps = 17 := Try.ntmps62

def C.div_Quo : VC :=
  .seq (.region false [⟨some 4, .mov (.c nil1), none⟩,
   ⟨some 5, .mov (.c (iv 0)), none⟩]) (.seq (.region false [⟨some 8, .mov (.t 0), none⟩,
   ⟨some 9, .call F.nat_Norm [.t 8], none⟩,
   ⟨some 10, .mov (.t 1), none⟩,
   ⟨some 11, .call F.nat_Norm [.t 10], none⟩,
   ⟨some 0, .mov (.t 9), none⟩,
   ⟨some 1, .mov (.t 11), none⟩]) (.seq (.seq (.region false [⟨some 12, .mov (.t 1), none⟩,
   ⟨some 13, .len (.t 12), none⟩,
   ⟨some 14, .bin .eql false (.t 13) (.c (iv 0)), none⟩]) (.cond (.t 14) (.seq (.region false [⟨some 4, .mov (.c nil1), none⟩,
   ⟨some 5, .mov (.c (iv 30)), none⟩]) .ret) .skip)) (.seq (.region false [⟨some 16, .mov (.t 0), none⟩,
   ⟨some 17, .mov (.t 1), none⟩,
   ⟨some 18, .call F.div_divide [.t 16, .t 17], none⟩,
   ⟨some 15, .mov (.t 18), none⟩,
   ⟨some 19, .ext (.t 15) 0, none⟩,
   ⟨some 20, .ext (.t 15) 1, none⟩,
   ⟨some 6, .mov (.t 19), none⟩,
   ⟨some 7, .mov (.t 20), none⟩]) (.seq (.seq (.region false [⟨some 21, .mov (.t 6), none⟩,
   ⟨some 22, .call F.nat_Length [.t 21], none⟩,
   ⟨some 23, .bin .gtr false (.t 22) (.c (iv 67108864)), none⟩]) (.cond (.t 23) (.seq (.region false [⟨some 4, .mov (.c nil1), none⟩,
   ⟨some 5, .mov (.c (iv 3)), none⟩]) .ret) .skip)) (.seq (.region false [⟨some 24, .mov (.t 6), none⟩,
   ⟨some 4, .mov (.t 24), none⟩,
   ⟨some 5, .mov (.c (iv 0)), none⟩]) .ret)))))
def R.div_Quo : List VRes := [.tmp 4, .tmp 5]
theorem K.div_Quo : resCode Try.prog Try.f64.ntmps (Try.f64.body.getD .skip) = C.div_Quo := by kernel_rfl
theorem Q.div_Quo : resResults Try.prog Try.f64.results.toList = some R.div_Quo := by kernel_rfl
theorem E.div_Quo : Try.prog.funcs[F.div_Quo]? = some Try.f64 := Try.func64
theorem B.div_Quo : Try.f64.body = some (Try.f64.body.getD .skip) := by kernel_rfl
theorem N.div_Quo : Try.f64.ntmps = 25 := Try.ntmps64

def C.surdref01_Num_at : VC :=
  .seq (.region false [⟨some 4, .mov (.c (nv 0)), none⟩]) (.seq (.seq (.region false [⟨some 5, .mov (.t 1), none⟩,
   ⟨some 6, .mov (.t 0), none⟩,
   ⟨some 7, .len (.t 6), none⟩,
   ⟨some 8, .bin .lss false (.t 5) (.t 7), none⟩]) (.cond (.t 8) (.seq (.region false [⟨some 9, .mov (.t 0), none⟩,
   ⟨some 10, .mov (.t 1), none⟩,
   ⟨some 11, .ixa 1 (.t 9) (.t 10), none⟩,
   ⟨some 12, .load none (.t 11), none⟩,
   ⟨some 4, .mov (.t 12), none⟩]) .ret) .skip)) (.seq (.region false [⟨some 4, .mov (.c (nv 0)), none⟩]) .ret))
def R.surdref01_Num_at : List VRes := [.tmp 4]
theorem K.surdref01_Num_at : resCode Try.prog Try.f67.ntmps (Try.f67.body.getD .skip) = C.surdref01_Num_at := by kernel_rfl
theorem Q.surdref01_Num_at : resResults Try.prog Try.f67.results.toList = some R.surdref01_Num_at := by kernel_rfl
theorem E.surdref01_Num_at : Try.prog.funcs[F.surdref01_Num_at]? = some Try.f67 := Try.func67
theorem B.surdref01_Num_at : Try.f67.body = some (Try.f67.body.getD .skip) := by kernel_rfl
theorem N.surdref01_Num_at : Try.f67.ntmps = 13 := Try.ntmps67

def C.roots_next : VC :=
  .seq (.region false [⟨some 6, .mov (.c nil1), none⟩]) (.seq (.region false [⟨some 12, .mov (.t 1), none⟩,
   ⟨some 13, .mov (.t 0), none⟩,
   ⟨some 14, .call F.nat_Times [.t 12, .t 13], none⟩,
   ⟨some 11, .mov (.t 14), none⟩,
   ⟨some 15, .ext (.t 11) 0, none⟩,
   ⟨some 16, .ext (.t 11) 1, none⟩,
   ⟨some 7, .mov (.t 15), none⟩,
   ⟨some 8, .mov (.t 16), none⟩]) (.seq (.region false [⟨some 18, .mov (.t 7), none⟩,
   ⟨some 19, .mov (.t 2), none⟩,
   ⟨some 20, .call F.nat_Add [.t 18, .t 19], none⟩,
   ⟨some 17, .mov (.t 20), none⟩,
   ⟨some 21, .ext (.t 17) 0, none⟩,
   ⟨some 22, .ext (.t 17) 1, none⟩,
   ⟨some 9, .mov (.t 21), none⟩,
   ⟨some 10, .mov (.t 22), none⟩]) (.seq (.region false [⟨some 23, .mov (.t 9), none⟩,
   ⟨some 6, .mov (.t 23), none⟩]) .ret)))
def R.roots_next : List VRes := [.tmp 6]
theorem K.roots_next : resCode Try.prog Try.f68.ntmps (Try.f68.body.getD .skip) = C.roots_next := by kernel_rfl
theorem Q.roots_next : resResults Try.prog Try.f68.results.toList = some R.roots_next := by kernel_rfl
theorem E.roots_next : Try.prog.funcs[F.roots_next]? = some Try.f68 := Try.func68
theorem B.roots_next : Try.f68.body = some (Try.f68.body.getD .skip) := by kernel_rfl
theorem N.roots_next : Try.f68.ntmps = 24 := Try.ntmps68

def C.nat_trim : VC :=
  .seq (.region false [⟨some 2, .mov (.c nil1), none⟩]) (.seq (.block 0 (.loop (.seq (.seq (.region false [⟨some 3, .mov (.t 0), none⟩,
   ⟨some 4, .len (.t 3), none⟩,
   ⟨some 5, .bin .gtr false (.t 4) (.c (iv 0)), none⟩,
   ⟨some 6, .mov (.t 5), none⟩,
   ⟨some 7, .mov (.t 0), some (6, true)⟩,
   ⟨some 8, .mov (.t 0), some (6, true)⟩,
   ⟨some 9, .len (.t 8), some (6, true)⟩,
   ⟨some 10, .bin .sub false (.t 9) (.c (iv 1)), some (6, true)⟩,
   ⟨some 11, .ixa 1 (.t 7) (.t 10), some (6, true)⟩,
   ⟨some 12, .load none (.t 11), some (6, true)⟩,
   ⟨some 13, .bin .eql false (.t 12) (.c (nv 0)), some (6, true)⟩,
   ⟨some 14, .pick (.t 6) (.t 13) (.c (bv false)), none⟩]) (.cond (.t 14) .skip (.exit 0))) (.block 1 (.region false [⟨some 15, .mov (.t 0), none⟩,
   ⟨some 16, .mov (.t 0), none⟩,
   ⟨some 17, .len (.t 16), none⟩,
   ⟨some 18, .bin .sub false (.t 17) (.c (iv 1)), none⟩,
   ⟨some 19, .slc 1 (.t 15) none (some (.t 18)) none, none⟩,
   ⟨some 0, .mov (.t 19), none⟩]))))) (.seq (.region false [⟨some 20, .mov (.t 0), none⟩,
   ⟨some 2, .mov (.t 20), none⟩]) .ret))
def R.nat_trim : List VRes := [.tmp 2]
theorem K.nat_trim : resCode Try.prog Try.f69.ntmps (Try.f69.body.getD .skip) = C.nat_trim := by kernel_rfl
theorem Q.nat_trim : resResults Try.prog Try.f69.results.toList = some R.nat_trim := by kernel_rfl
theorem E.nat_trim : Try.prog.funcs[F.nat_trim]? = some Try.f69 := Try.func69
theorem B.nat_trim : Try.f69.body = some (Try.f69.body.getD .skip) := by kernel_rfl
theorem N.nat_trim : Try.f69.ntmps = 21 := Try.ntmps69

def C.bits_Div64 : VC :=
  .seq (.region false [⟨some 6, .mov (.c (nv 0)), none⟩,
   ⟨some 7, .mov (.c (nv 0)), none⟩]) (.seq (.seq (.region false [⟨some 19, .mov (.t 2), none⟩,
   ⟨some 20, .bin .eql false (.t 19) (.c (nv 0)), none⟩]) (.cond (.t 20) (.region false [⟨some 21, .load none (.c (.gptr 0 0)), none⟩,
   ⟨none, .bad, none⟩]) .skip)) (.seq (.seq (.region false [⟨some 22, .mov (.t 2), none⟩,
   ⟨some 23, .mov (.t 0), none⟩,
   ⟨some 24, .bin .leq false (.t 22) (.t 23), none⟩]) (.cond (.t 24) (.region false [⟨some 25, .load none (.c (.gptr 1 0)), none⟩,
   ⟨none, .bad, none⟩]) .skip)) (.seq (.seq (.region false [⟨some 26, .mov (.t 0), none⟩,
   ⟨some 27, .bin .eql false (.t 26) (.c (nv 0)), none⟩]) (.cond (.t 27) (.seq (.region true [⟨some 28, .mov (.t 1), none⟩,
   ⟨some 29, .mov (.t 2), none⟩,
   ⟨some 30, .bin .quo false (.t 28) (.t 29), none⟩,
   ⟨some 31, .mov (.t 1), none⟩,
   ⟨some 32, .mov (.t 2), none⟩,
   ⟨some 33, .bin .rem false (.t 31) (.t 32), none⟩,
   ⟨some 6, .mov (.t 30), none⟩,
   ⟨some 7, .mov (.t 33), none⟩]) .ret) .skip)) (.seq (.region false [⟨some 34, .mov (.t 2), none⟩,
   ⟨some 35, .call F.bits_LeadingZeros64 [.t 34], none⟩,
   ⟨some 36, .conv .u64 (.t 35), none⟩,
   ⟨some 8, .mov (.t 36), none⟩]) (.seq (.region false [⟨some 37, .mov (.t 2), none⟩,
   ⟨some 38, .mov (.t 8), none⟩,
   ⟨some 39, .bin .shl false (.t 37) (.t 38), none⟩,
   ⟨some 2, .mov (.t 39), none⟩]) (.seq (.region false [⟨some 40, .mov (.t 2), none⟩,
   ⟨some 41, .bin .shr false (.t 40) (.c (nv 32)), none⟩,
   ⟨some 9, .mov (.t 41), none⟩]) (.seq (.region false [⟨some 42, .mov (.t 2), none⟩,
   ⟨some 43, .bin .and false (.t 42) (.c (nv 4294967295)), none⟩,
   ⟨some 10, .mov (.t 43), none⟩]) (.seq (.region false [⟨some 44, .mov (.t 0), none⟩,
   ⟨some 45, .mov (.t 8), none⟩,
   ⟨some 46, .bin .shl false (.t 44) (.t 45), none⟩,
   ⟨some 47, .mov (.t 1), none⟩,
   ⟨some 48, .mov (.t 8), none⟩,
   ⟨some 49, .bin .sub false (.c (nv 64)) (.t 48), none⟩,
   ⟨some 50, .bin .shr false (.t 47) (.t 49), none⟩,
   ⟨some 51, .bin .or false (.t 46) (.t 50), none⟩,
   ⟨some 11, .mov (.t 51), none⟩]) (.seq (.region false [⟨some 52, .mov (.t 1), none⟩,
   ⟨some 53, .mov (.t 8), none⟩,
   ⟨some 54, .bin .shl false (.t 52) (.t 53), none⟩,
   ⟨some 12, .mov (.t 54), none⟩]) (.seq (.region false [⟨some 55, .mov (.t 12), none⟩,
   ⟨some 56, .bin .shr false (.t 55) (.c (nv 32)), none⟩,
   ⟨some 13, .mov (.t 56), none⟩]) (.seq (.region false [⟨some 57, .mov (.t 12), none⟩,
   ⟨some 58, .bin .and false (.t 57) (.c (nv 4294967295)), none⟩,
   ⟨some 14, .mov (.t 58), none⟩]) (.seq (.region false [⟨some 59, .mov (.t 11), none⟩,
   ⟨some 60, .mov (.t 9), none⟩,
   ⟨some 61, .bin .quo false (.t 59) (.t 60), none⟩,
   ⟨some 15, .mov (.t 61), none⟩]) (.seq (.region false [⟨some 62, .mov (.t 11), none⟩,
   ⟨some 63, .mov (.t 15), none⟩,
   ⟨some 64, .mov (.t 9), none⟩,
   ⟨some 65, .bin .mul false (.t 63) (.t 64), none⟩,
   ⟨some 66, .bin .sub false (.t 62) (.t 65), none⟩,
   ⟨some 16, .mov (.t 66), none⟩]) (.seq (.block 0 (.loop (.seq (.seq (.region false [⟨some 67, .mov (.t 15), none⟩,
   ⟨some 68, .bin .geq false (.t 67) (.c (nv 4294967296)), none⟩,
   ⟨some 69, .mov (.t 68), none⟩,
   ⟨some 70, .mov (.t 15), some (69, false)⟩,
   ⟨some 71, .mov (.t 10), some (69, false)⟩,
   ⟨some 72, .bin .mul false (.t 70) (.t 71), some (69, false)⟩,
   ⟨some 73, .mov (.t 16), some (69, false)⟩,
   ⟨some 74, .bin .mul false (.c (nv 4294967296)) (.t 73), some (69, false)⟩,
   ⟨some 75, .mov (.t 13), some (69, false)⟩,
   ⟨some 76, .bin .add false (.t 74) (.t 75), some (69, false)⟩,
   ⟨some 77, .bin .gtr false (.t 72) (.t 76), some (69, false)⟩,
   ⟨some 78, .pick (.t 69) (.c (bv true)) (.t 77), none⟩]) (.cond (.t 78) .skip (.exit 0))) (.block 1 (.seq (.region false [⟨some 79, .mov (.t 15), none⟩,
   ⟨some 80, .bin .sub false (.t 79) (.c (nv 1)), none⟩,
   ⟨some 15, .mov (.t 80), none⟩]) (.seq (.region false [⟨some 81, .mov (.t 16), none⟩,
   ⟨some 82, .mov (.t 9), none⟩,
   ⟨some 83, .bin .add false (.t 81) (.t 82), none⟩,
   ⟨some 16, .mov (.t 83), none⟩]) (.seq (.region false [⟨some 84, .mov (.t 16), none⟩,
   ⟨some 85, .bin .geq false (.t 84) (.c (nv 4294967296)), none⟩]) (.cond (.t 85) (.exit 0) .skip)))))))) (.seq (.region false [⟨some 86, .mov (.t 11), none⟩,
   ⟨some 87, .bin .mul false (.t 86) (.c (nv 4294967296)), none⟩,
   ⟨some 88, .mov (.t 13), none⟩,
   ⟨some 89, .bin .add false (.t 87) (.t 88), none⟩,
   ⟨some 90, .mov (.t 15), none⟩,
   ⟨some 91, .mov (.t 2), none⟩,
   ⟨some 92, .bin .mul false (.t 90) (.t 91), none⟩,
   ⟨some 93, .bin .sub false (.t 89) (.t 92), none⟩,
   ⟨some 17, .mov (.t 93), none⟩]) (.seq (.region false [⟨some 94, .mov (.t 17), none⟩,
   ⟨some 95, .mov (.t 9), none⟩,
   ⟨some 96, .bin .quo false (.t 94) (.t 95), none⟩,
   ⟨some 18, .mov (.t 96), none⟩]) (.seq (.region false [⟨some 97, .mov (.t 17), none⟩,
   ⟨some 98, .mov (.t 18), none⟩,
   ⟨some 99, .mov (.t 9), none⟩,
   ⟨some 100, .bin .mul false (.t 98) (.t 99), none⟩,
   ⟨some 101, .bin .sub false (.t 97) (.t 100), none⟩,
   ⟨some 16, .mov (.t 101), none⟩]) (.seq (.block 2 (.loop (.seq (.seq (.region false [⟨some 102, .mov (.t 18), none⟩,
   ⟨some 103, .bin .geq false (.t 102) (.c (nv 4294967296)), none⟩,
   ⟨some 104, .mov (.t 103), none⟩,
   ⟨some 105, .mov (.t 18), some (104, false)⟩,
   ⟨some 106, .mov (.t 10), some (104, false)⟩,
   ⟨some 107, .bin .mul false (.t 105) (.t 106), some (104, false)⟩,
   ⟨some 108, .mov (.t 16), some (104, false)⟩,
   ⟨some 109, .bin .mul false (.c (nv 4294967296)) (.t 108), some (104, false)⟩,
   ⟨some 110, .mov (.t 14), some (104, false)⟩,
   ⟨some 111, .bin .add false (.t 109) (.t 110), some (104, false)⟩,
   ⟨some 112, .bin .gtr false (.t 107) (.t 111), some (104, false)⟩,
   ⟨some 113, .pick (.t 104) (.c (bv true)) (.t 112), none⟩]) (.cond (.t 113) .skip (.exit 2))) (.block 3 (.seq (.region false [⟨some 114, .mov (.t 18), none⟩,
   ⟨some 115, .bin .sub false (.t 114) (.c (nv 1)), none⟩,
   ⟨some 18, .mov (.t 115), none⟩]) (.seq (.region false [⟨some 116, .mov (.t 16), none⟩,
   ⟨some 117, .mov (.t 9), none⟩,
   ⟨some 118, .bin .add false (.t 116) (.t 117), none⟩,
   ⟨some 16, .mov (.t 118), none⟩]) (.seq (.region false [⟨some 119, .mov (.t 16), none⟩,
   ⟨some 120, .bin .geq false (.t 119) (.c (nv 4294967296)), none⟩]) (.cond (.t 120) (.exit 2) .skip)))))))) (.seq (.region false [⟨some 121, .mov (.t 15), none⟩,
   ⟨some 122, .bin .mul false (.t 121) (.c (nv 4294967296)), none⟩,
   ⟨some 123, .mov (.t 18), none⟩,
   ⟨some 124, .bin .add false (.t 122) (.t 123), none⟩,
   ⟨some 125, .mov (.t 17), none⟩,
   ⟨some 126, .bin .mul false (.t 125) (.c (nv 4294967296)), none⟩,
   ⟨some 127, .mov (.t 14), none⟩,
   ⟨some 128, .bin .add false (.t 126) (.t 127), none⟩,
   ⟨some 129, .mov (.t 18), none⟩,
   ⟨some 130, .mov (.t 2), none⟩,
   ⟨some 131, .bin .mul false (.t 129) (.t 130), none⟩,
   ⟨some 132, .bin .sub false (.t 128) (.t 131), none⟩,
   ⟨some 133, .mov (.t 8), none⟩,
   ⟨some 134, .bin .shr false (.t 132) (.t 133), none⟩,
   ⟨some 6, .mov (.t 124), none⟩,
   ⟨some 7, .mov (.t 134), none⟩]) .ret)))))))))))))))))))
def R.bits_Div64 : List VRes := [.tmp 6, .tmp 7]
theorem K.bits_Div64 : resCode Try.prog Try.f70.ntmps (Try.f70.body.getD .skip) = C.bits_Div64 := by kernel_rfl
theorem Q.bits_Div64 : resResults Try.prog Try.f70.results.toList = some R.bits_Div64 := by kernel_rfl
theorem E.bits_Div64 : Try.prog.funcs[F.bits_Div64]? = some Try.f70 := Try.func70
theorem B.bits_Div64 : Try.f70.body = some (Try.f70.body.getD .skip) := by kernel_rfl
theorem N.bits_Div64 : Try.f70.ntmps = 135 := Try.ntmps70

def C.nat_told : VC :=
  .seq (.region false [⟨some 2, .mov (.c nil1), none⟩,
   ⟨some 3, .mov (.c (iv 0)), none⟩]) (.seq (.region false [⟨some 4, .mov (.t 0), none⟩,
   ⟨some 5, .call F.nat_trim [.t 4], none⟩,
   ⟨some 0, .mov (.t 5), none⟩]) (.seq (.seq (.region false [⟨some 6, .mov (.t 0), none⟩,
   ⟨some 7, .call F.nat_Length [.t 6], none⟩,
   ⟨some 8, .bin .gtr false (.t 7) (.c (iv 67108864)), none⟩]) (.cond (.t 8) (.seq (.region false [⟨some 2, .mov (.c nil1), none⟩,
   ⟨some 3, .mov (.c (iv 3)), none⟩]) .ret) .skip)) (.seq (.region false [⟨some 9, .mov (.t 0), none⟩,
   ⟨some 2, .mov (.t 9), none⟩,
   ⟨some 3, .mov (.c (iv 0)), none⟩]) .ret)))
def R.nat_told : List VRes := [.tmp 2, .tmp 3]
theorem K.nat_told : resCode Try.prog Try.f71.ntmps (Try.f71.body.getD .skip) = C.nat_told := by kernel_rfl
theorem Q.nat_told : resResults Try.prog Try.f71.results.toList = some R.nat_told := by kernel_rfl
theorem E.nat_told : Try.prog.funcs[F.nat_told]? = some Try.f71 := Try.func71
theorem B.nat_told : Try.f71.body = some (Try.f71.body.getD .skip) := by kernel_rfl
theorem N.nat_told : Try.f71.ntmps = 10 := Try.ntmps71

def C.surdref01_Sub : VC :=
  .seq (.region false [⟨some 4, .mov (.c nil1), none⟩]) (.seq (.region false [⟨some 9, .mov (.t 0), none⟩,
   ⟨some 10, .len (.t 9), none⟩,
   ⟨some 11, .mk [.int .u64 0] 8 (.t 10) (.t 10), none⟩,
   ⟨some 5, .mov (.t 11), none⟩]) (.seq (.region false [⟨some 6, .mov (.c (nv 0)), none⟩]) (.seq (.seq (.region false [⟨some 12, .mov (.t 0), none⟩,
   ⟨some 13, .len (.t 12), none⟩,
   ⟨some 14, .mov (.c (iv 0)), none⟩]) (.block 0 (.loop (.seq (.region false [⟨some 15, .bin .lss false (.t 14) (.t 13), none⟩]) (.seq (.cond (.t 15) .skip (.exit 0)) (.seq (.block 1 (.seq (.region false [⟨some 16, .mov (.t 14), none⟩,
   ⟨some 7, .mov (.t 16), none⟩]) (.seq (.region true [⟨some 17, .mov (.t 0), none⟩,
   ⟨some 18, .mov (.t 7), none⟩,
   ⟨some 19, .ixa 1 (.t 17) (.t 18), none⟩,
   ⟨some 20, .load none (.t 19), none⟩,
   ⟨some 21, .bin .add false (.t 20) (.c (nv 4294967296)), none⟩,
   ⟨some 22, .mov (.t 1), none⟩,
   ⟨some 23, .mov (.t 7), none⟩,
   ⟨some 24, .call F.surdref01_Num_at [.t 22, .t 23], none⟩,
   ⟨some 25, .bin .sub false (.t 21) (.t 24), none⟩,
   ⟨some 26, .mov (.t 6), none⟩,
   ⟨some 27, .bin .sub false (.t 25) (.t 26), none⟩,
   ⟨some 8, .mov (.t 27), none⟩]) (.seq (.region false [⟨some 28, .mov (.t 5), none⟩,
   ⟨some 29, .mov (.t 7), none⟩,
   ⟨some 30, .mov (.t 8), none⟩,
   ⟨some 31, .bin .rem false (.t 30) (.c (nv 4294967296)), none⟩,
   ⟨some 32, .ixa 1 (.t 28) (.t 29), none⟩,
   ⟨none, .store 1 (.t 32) (.t 31), none⟩]) (.region false [⟨some 33, .mov (.t 8), none⟩,
   ⟨some 34, .bin .quo false (.t 33) (.c (nv 4294967296)), none⟩,
   ⟨some 35, .bin .sub false (.c (nv 1)) (.t 34), none⟩,
   ⟨some 6, .mov (.t 35), none⟩]))))) (.region false [⟨some 36, .bin .add false (.t 14) (.c (iv 1)), none⟩,
   ⟨some 14, .mov (.t 36), none⟩]))))))) (.seq (.region false [⟨some 37, .mov (.t 5), none⟩,
   ⟨some 38, .call F.surdref01_norm [.t 37], none⟩,
   ⟨some 4, .mov (.t 38), none⟩]) .ret))))
def R.surdref01_Sub : List VRes := [.tmp 4]
theorem K.surdref01_Sub : resCode Try.prog Try.f72.ntmps (Try.f72.body.getD .skip) = C.surdref01_Sub := by kernel_rfl
theorem Q.surdref01_Sub : resResults Try.prog Try.f72.results.toList = some R.surdref01_Sub := by kernel_rfl
theorem E.surdref01_Sub : Try.prog.funcs[F.surdref01_Sub]? = some Try.f72 := Try.func72
theorem B.surdref01_Sub : Try.f72.body = some (Try.f72.body.getD .skip) := by kernel_rfl
theorem N.surdref01_Sub : Try.f72.ntmps = 39 := Try.ntmps72

def C.nat_Norm : VC :=
  .seq (.region false [⟨some 2, .mov (.c nil1), none⟩]) (.seq (.region false [⟨some 3, .mov (.t 0), none⟩,
   ⟨some 4, .call F.nat_trim [.t 3], none⟩,
   ⟨some 5, .app 1 8 [.int .u64 0] (.c nil1) (.t 4), none⟩,
   ⟨some 2, .mov (.t 5), none⟩]) .ret)
def R.nat_Norm : List VRes := [.tmp 2]
theorem K.nat_Norm : resCode Try.prog Try.f73.ntmps (Try.f73.body.getD .skip) = C.nat_Norm := by kernel_rfl
theorem Q.nat_Norm : resResults Try.prog Try.f73.results.toList = some R.nat_Norm := by kernel_rfl
theorem E.nat_Norm : Try.prog.funcs[F.nat_Norm]? = some Try.f73 := Try.func73
theorem B.nat_Norm : Try.f73.body = some (Try.f73.body.getD .skip) := by kernel_rfl
theorem N.nat_Norm : Try.f73.ntmps = 6 := Try.ntmps73

def C.bits_Len64 : VC :=
  .seq (.region false [⟨some 2, .mov (.c (iv 0)), none⟩]) (.seq (.seq (.region false [⟨some 3, .mov (.t 0), none⟩,
   ⟨some 4, .bin .geq false (.t 3) (.c (nv 4294967296)), none⟩]) (.cond (.t 4) (.seq (.region false [⟨some 5, .mov (.t 0), none⟩,
   ⟨some 6, .bin .shr false (.t 5) (.c (nv 32)), none⟩,
   ⟨some 0, .mov (.t 6), none⟩]) (.region false [⟨some 2, .mov (.c (iv 32)), none⟩])) .skip)) (.seq (.seq (.region false [⟨some 7, .mov (.t 0), none⟩,
   ⟨some 8, .bin .geq false (.t 7) (.c (nv 65536)), none⟩]) (.cond (.t 8) (.seq (.region false [⟨some 9, .mov (.t 0), none⟩,
   ⟨some 10, .bin .shr false (.t 9) (.c (nv 16)), none⟩,
   ⟨some 0, .mov (.t 10), none⟩]) (.region false [⟨some 11, .mov (.t 2), none⟩,
   ⟨some 12, .bin .add false (.t 11) (.c (iv 16)), none⟩,
   ⟨some 2, .mov (.t 12), none⟩])) .skip)) (.seq (.seq (.region false [⟨some 13, .mov (.t 0), none⟩,
   ⟨some 14, .bin .geq false (.t 13) (.c (nv 256)), none⟩]) (.cond (.t 14) (.seq (.region false [⟨some 15, .mov (.t 0), none⟩,
   ⟨some 16, .bin .shr false (.t 15) (.c (nv 8)), none⟩,
   ⟨some 0, .mov (.t 16), none⟩]) (.region false [⟨some 17, .mov (.t 2), none⟩,
   ⟨some 18, .bin .add false (.t 17) (.c (iv 8)), none⟩,
   ⟨some 2, .mov (.t 18), none⟩])) .skip)) (.seq (.region false [⟨some 19, .mov (.t 2), none⟩,
   ⟨some 20, .mov (.t 0), none⟩,
   ⟨some 21, .conv .u8 (.t 20), none⟩,
   ⟨some 22, .six (.c (.lit (.string ⟨#[0, 1, 2, 2, 3, 3, 3, 3, 4, 4, 4, 4, 4, 4, 4, 4, 5, 5, 5, 5, 5, 5, 5, 5, 5, 5, 5, 5, 5, 5, 5, 5, 6, 6, 6, 6, 6, 6, 6, 6, 6, 6, 6, 6, 6, 6, 6, 6, 6, 6, 6, 6, 6, 6, 6, 6, 6, 6, 6, 6, 6, 6, 6, 6, 7, 7, 7, 7, 7, 7, 7, 7, 7, 7, 7, 7, 7, 7, 7, 7, 7, 7, 7, 7, 7, 7, 7, 7, 7, 7, 7, 7, 7, 7, 7, 7, 7, 7, 7, 7, 7, 7, 7, 7, 7, 7, 7, 7, 7, 7, 7, 7, 7, 7, 7, 7, 7, 7, 7, 7, 7, 7, 7, 7, 7, 7, 7, 7, 8, 8, 8, 8, 8, 8, 8, 8, 8, 8, 8, 8, 8, 8, 8, 8, 8, 8, 8, 8, 8, 8, 8, 8, 8, 8, 8, 8, 8, 8, 8, 8, 8, 8, 8, 8, 8, 8, 8, 8, 8, 8, 8, 8, 8, 8, 8, 8, 8, 8, 8, 8, 8, 8, 8, 8, 8, 8, 8, 8, 8, 8, 8, 8, 8, 8, 8, 8, 8, 8, 8, 8, 8, 8, 8, 8, 8, 8, 8, 8, 8, 8, 8, 8, 8, 8, 8, 8, 8, 8, 8, 8, 8, 8, 8, 8, 8, 8, 8, 8, 8, 8, 8, 8, 8, 8, 8, 8, 8, 8, 8, 8, 8, 8, 8, 8, 8, 8, 8, 8, 8, 8, 8, 8, 8, 8, 8, 8]⟩))) (.t 21), none⟩,
   ⟨some 23, .conv .i64 (.t 22), none⟩,
   ⟨some 24, .bin .add false (.t 19) (.t 23), none⟩,
   ⟨some 2, .mov (.t 24), none⟩]) .ret))))
def R.bits_Len64 : List VRes := [.tmp 2]
theorem K.bits_Len64 : resCode Try.prog Try.f74.ntmps (Try.f74.body.getD .skip) = C.bits_Len64 := by kernel_rfl
theorem Q.bits_Len64 : resResults Try.prog Try.f74.results.toList = some R.bits_Len64 := by kernel_rfl
theorem E.bits_Len64 : Try.prog.funcs[F.bits_Len64]? = some Try.f74 := Try.func74
theorem B.bits_Len64 : Try.f74.body = some (Try.f74.body.getD .skip) := by kernel_rfl
theorem N.bits_Len64 : Try.f74.ntmps = 25 := Try.ntmps74

def C.roots_power : VC :=
  .seq (.region false [⟨some 2, .mov (.c nil1), none⟩]) (.seq (.region false [⟨some 6, .call F.nat_From [.c (nv 1)], none⟩,
   ⟨some 7, .mov (.t 0), none⟩,
   ⟨some 8, .call F.nat_Left [.t 6, .t 7], none⟩,
   ⟨some 5, .mov (.t 8), none⟩,
   ⟨some 9, .ext (.t 5) 0, none⟩,
   ⟨some 10, .ext (.t 5) 1, none⟩,
   ⟨some 3, .mov (.t 9), none⟩,
   ⟨some 4, .mov (.t 10), none⟩]) (.seq (.region false [⟨some 11, .mov (.t 3), none⟩,
   ⟨some 2, .mov (.t 11), none⟩]) .ret))
def R.roots_power : List VRes := [.tmp 2]
theorem K.roots_power : resCode Try.prog Try.f75.ntmps (Try.f75.body.getD .skip) = C.roots_power := by kernel_rfl
theorem Q.roots_power : resResults Try.prog Try.f75.results.toList = some R.roots_power := by kernel_rfl
theorem E.roots_power : Try.prog.funcs[F.roots_power]? = some Try.f75 := Try.func75
theorem B.roots_power : Try.f75.body = some (Try.f75.body.getD .skip) := by kernel_rfl
theorem N.roots_power : Try.f75.ntmps = 12 := Try.ntmps75

def C.nat_Times : VC :=
  .seq (.region false [⟨some 4, .mov (.c nil1), none⟩,
   ⟨some 5, .mov (.c (iv 0)), none⟩]) (.seq (.region false [⟨some 14, .mov (.t 0), none⟩,
   ⟨some 15, .call F.nat_trim [.t 14], none⟩,
   ⟨some 0, .mov (.t 15), none⟩]) (.seq (.region false [⟨some 16, .mov (.t 0), none⟩,
   ⟨some 17, .len (.t 16), none⟩,
   ⟨some 18, .bin .add false (.t 17) (.c (iv 1)), none⟩,
   ⟨some 19, .mk [.int .u64 0] 8 (.t 18) (.t 18), none⟩,
   ⟨some 6, .mov (.t 19), none⟩]) (.seq (.region false [⟨some 7, .mov (.c (nv 0)), none⟩]) (.seq (.seq (.region false [⟨some 20, .mov (.t 0), none⟩,
   ⟨some 21, .len (.t 20), none⟩,
   ⟨some 22, .mov (.c (iv 0)), none⟩]) (.block 0 (.loop (.seq (.region false [⟨some 23, .bin .lss false (.t 22) (.t 21), none⟩]) (.seq (.cond (.t 23) .skip (.exit 0)) (.seq (.block 1 (.seq (.region false [⟨some 24, .mov (.t 22), none⟩,
   ⟨some 25, .ixa 1 (.t 20) (.t 22), none⟩,
   ⟨some 26, .load none (.t 25), none⟩,
   ⟨some 8, .mov (.t 24), none⟩,
   ⟨some 9, .mov (.t 26), none⟩]) (.seq (.region false [⟨some 28, .mov (.t 9), none⟩,
   ⟨some 29, .mov (.t 1), none⟩,
   ⟨some 30, .call F.bits_Mul64 [.t 28, .t 29], none⟩,
   ⟨some 27, .mov (.t 30), none⟩,
   ⟨some 31, .ext (.t 27) 0, none⟩,
   ⟨some 32, .ext (.t 27) 1, none⟩,
   ⟨some 10, .mov (.t 31), none⟩,
   ⟨some 11, .mov (.t 32), none⟩]) (.seq (.region false [⟨some 34, .mov (.t 11), none⟩,
   ⟨some 35, .mov (.t 7), none⟩,
   ⟨some 36, .ext64 false (.t 34) (.t 35) (.c (nv 0)), none⟩,
   ⟨some 33, .mov (.t 36), none⟩,
   ⟨some 37, .ext (.t 33) 0, none⟩,
   ⟨some 38, .ext (.t 33) 1, none⟩,
   ⟨some 12, .mov (.t 37), none⟩,
   ⟨some 13, .mov (.t 38), none⟩]) (.seq (.region false [⟨some 39, .mov (.t 6), none⟩,
   ⟨some 40, .mov (.t 8), none⟩,
   ⟨some 41, .mov (.t 12), none⟩,
   ⟨some 42, .ixa 1 (.t 39) (.t 40), none⟩,
   ⟨none, .store 1 (.t 42) (.t 41), none⟩]) (.region false [⟨some 43, .mov (.t 10), none⟩,
   ⟨some 44, .mov (.t 13), none⟩,
   ⟨some 45, .bin .add false (.t 43) (.t 44), none⟩,
   ⟨some 7, .mov (.t 45), none⟩])))))) (.region false [⟨some 46, .bin .add false (.t 22) (.c (iv 1)), none⟩,
   ⟨some 22, .mov (.t 46), none⟩]))))))) (.seq (.region false [⟨some 47, .mov (.t 6), none⟩,
   ⟨some 48, .mov (.t 0), none⟩,
   ⟨some 49, .len (.t 48), none⟩,
   ⟨some 50, .mov (.t 7), none⟩,
   ⟨some 51, .ixa 1 (.t 47) (.t 49), none⟩,
   ⟨none, .store 1 (.t 51) (.t 50), none⟩]) (.seq (.region false [⟨some 52, .mov (.t 6), none⟩,
   ⟨some 53, .call F.nat_told [.t 52], none⟩,
   ⟨some 54, .ext (.t 53) 0, none⟩,
   ⟨some 55, .ext (.t 53) 1, none⟩,
   ⟨some 4, .mov (.t 54), none⟩,
   ⟨some 5, .mov (.t 55), none⟩]) .ret))))))
def R.nat_Times : List VRes := [.tmp 4, .tmp 5]
theorem K.nat_Times : resCode Try.prog Try.f76.ntmps (Try.f76.body.getD .skip) = C.nat_Times := by kernel_rfl
theorem Q.nat_Times : resResults Try.prog Try.f76.results.toList = some R.nat_Times := by kernel_rfl
theorem E.nat_Times : Try.prog.funcs[F.nat_Times]? = some Try.f76 := Try.func76
theorem B.nat_Times : Try.f76.body = some (Try.f76.body.getD .skip) := by kernel_rfl
theorem N.nat_Times : Try.f76.ntmps = 56 := Try.ntmps76

def C.nat_Sub : VC :=
  .seq (.region false [⟨some 4, .mov (.c nil1), none⟩,
   ⟨some 5, .mov (.c (iv 0)), none⟩]) (.seq (.seq (.region false [⟨some 10, .mov (.t 0), none⟩,
   ⟨some 11, .mov (.t 1), none⟩,
   ⟨some 12, .call F.nat_Compare [.t 10, .t 11], none⟩,
   ⟨some 13, .bin .lss false (.t 12) (.c (iv 0)), none⟩]) (.cond (.t 13) (.seq (.region false [⟨some 4, .mov (.c nil1), none⟩,
   ⟨some 5, .mov (.c (iv 10)), none⟩]) .ret) .skip)) (.seq (.region false [⟨some 14, .mov (.t 0), none⟩,
   ⟨some 15, .call F.nat_trim [.t 14], none⟩,
   ⟨some 16, .mov (.t 1), none⟩,
   ⟨some 17, .call F.nat_trim [.t 16], none⟩,
   ⟨some 0, .mov (.t 15), none⟩,
   ⟨some 1, .mov (.t 17), none⟩]) (.seq (.region false [⟨some 18, .mov (.t 0), none⟩,
   ⟨some 19, .len (.t 18), none⟩,
   ⟨some 20, .mk [.int .u64 0] 8 (.t 19) (.t 19), none⟩,
   ⟨some 6, .mov (.t 20), none⟩]) (.seq (.region false [⟨some 7, .mov (.c (nv 0)), none⟩]) (.seq (.seq (.region false [⟨some 21, .mov (.t 0), none⟩,
   ⟨some 22, .len (.t 21), none⟩,
   ⟨some 23, .mov (.c (iv 0)), none⟩]) (.block 0 (.loop (.seq (.region false [⟨some 24, .bin .lss false (.t 23) (.t 22), none⟩]) (.seq (.cond (.t 24) .skip (.exit 0)) (.seq (.block 1 (.seq (.region false [⟨some 25, .mov (.t 23), none⟩,
   ⟨some 8, .mov (.t 25), none⟩]) (.seq (.region false [⟨some 9, .mov (.c (nv 0)), none⟩]) (.seq (.seq (.region false [⟨some 26, .mov (.t 8), none⟩,
   ⟨some 27, .mov (.t 1), none⟩,
   ⟨some 28, .len (.t 27), none⟩,
   ⟨some 29, .bin .lss false (.t 26) (.t 28), none⟩]) (.cond (.t 29) (.region false [⟨some 30, .mov (.t 1), none⟩,
   ⟨some 31, .mov (.t 8), none⟩,
   ⟨some 32, .ixa 1 (.t 30) (.t 31), none⟩,
   ⟨some 33, .load none (.t 32), none⟩,
   ⟨some 9, .mov (.t 33), none⟩]) .skip)) (.region false [⟨some 35, .mov (.t 6), none⟩,
   ⟨some 36, .mov (.t 8), none⟩,
   ⟨some 37, .mov (.t 0), none⟩,
   ⟨some 38, .mov (.t 8), none⟩,
   ⟨some 39, .ixa 1 (.t 37) (.t 38), none⟩,
   ⟨some 40, .load none (.t 39), none⟩,
   ⟨some 41, .mov (.t 9), none⟩,
   ⟨some 42, .mov (.t 7), none⟩,
   ⟨some 43, .ext64 true (.t 40) (.t 41) (.t 42), none⟩,
   ⟨some 34, .mov (.t 43), none⟩,
   ⟨some 44, .ext (.t 34) 0, none⟩,
   ⟨some 45, .ext (.t 34) 1, none⟩,
   ⟨some 46, .ixa 1 (.t 35) (.t 36), none⟩,
   ⟨none, .store 1 (.t 46) (.t 44), none⟩,
   ⟨some 7, .mov (.t 45), none⟩]))))) (.region false [⟨some 47, .bin .add false (.t 23) (.c (iv 1)), none⟩,
   ⟨some 23, .mov (.t 47), none⟩]))))))) (.seq (.region false [⟨some 48, .mov (.t 6), none⟩,
   ⟨some 49, .call F.nat_told [.t 48], none⟩,
   ⟨some 50, .ext (.t 49) 0, none⟩,
   ⟨some 51, .ext (.t 49) 1, none⟩,
   ⟨some 4, .mov (.t 50), none⟩,
   ⟨some 5, .mov (.t 51), none⟩]) .ret))))))
def R.nat_Sub : List VRes := [.tmp 4, .tmp 5]
theorem K.nat_Sub : resCode Try.prog Try.f77.ntmps (Try.f77.body.getD .skip) = C.nat_Sub := by kernel_rfl
theorem Q.nat_Sub : resResults Try.prog Try.f77.results.toList = some R.nat_Sub := by kernel_rfl
theorem E.nat_Sub : Try.prog.funcs[F.nat_Sub]? = some Try.f77 := Try.func77
theorem B.nat_Sub : Try.f77.body = some (Try.f77.body.getD .skip) := by kernel_rfl
theorem N.nat_Sub : Try.f77.ntmps = 52 := Try.ntmps77

def C.mul_product : VC :=
  .seq (.region false [⟨some 6, .mov (.c nil1), none⟩,
   ⟨some 7, .mov (.c (iv 0)), none⟩]) (.seq (.region false [⟨some 8, .mov (.t 0), none⟩,
   ⟨some 9, .call F.nat_Norm [.t 8], none⟩,
   ⟨some 10, .mov (.t 1), none⟩,
   ⟨some 11, .call F.nat_Norm [.t 10], none⟩,
   ⟨some 0, .mov (.t 9), none⟩,
   ⟨some 1, .mov (.t 11), none⟩]) (.seq (.seq (.region false [⟨some 12, .mov (.t 0), none⟩,
   ⟨some 13, .mov (.t 1), none⟩,
   ⟨some 14, .call F.mul_great [.t 12, .t 13], none⟩]) (.cond (.t 14) (.seq (.region false [⟨some 6, .mov (.c nil1), none⟩,
   ⟨some 7, .mov (.c (iv 3)), none⟩]) .ret) .skip)) (.seq (.region false [⟨some 15, .mov (.t 2), none⟩,
   ⟨some 16, .mov (.t 0), none⟩,
   ⟨some 17, .mov (.t 1), none⟩,
   ⟨some 18, .callv (.t 15) [.t 16, .t 17], none⟩,
   ⟨some 19, .call F.mul_fits [.t 18], none⟩,
   ⟨some 20, .ext (.t 19) 0, none⟩,
   ⟨some 21, .ext (.t 19) 1, none⟩,
   ⟨some 6, .mov (.t 20), none⟩,
   ⟨some 7, .mov (.t 21), none⟩]) .ret)))
def R.mul_product : List VRes := [.tmp 6, .tmp 7]
theorem K.mul_product : resCode Try.prog Try.f79.ntmps (Try.f79.body.getD .skip) = C.mul_product := by kernel_rfl
theorem Q.mul_product : resResults Try.prog Try.f79.results.toList = some R.mul_product := by kernel_rfl
theorem E.mul_product : Try.prog.funcs[F.mul_product]? = some Try.f79 := Try.func79
theorem B.mul_product : Try.f79.body = some (Try.f79.body.getD .skip) := by kernel_rfl
theorem N.mul_product : Try.f79.ntmps = 22 := Try.ntmps79

def C.mul_Mul_1 : VC :=
  .seq (.region false [⟨some 4, .mov (.c nil1), none⟩]) (.seq (.region false [⟨some 5, .mov (.t 0), none⟩,
   ⟨some 6, .mov (.t 1), none⟩,
   ⟨some 7, .call F.mul_halved [.t 5, .t 6, .c (iv 40)], none⟩,
   ⟨some 4, .mov (.t 7), none⟩]) .ret)
def R.mul_Mul_1 : List VRes := [.tmp 4]
theorem K.mul_Mul_1 : resCode Try.prog Try.f80.ntmps (Try.f80.body.getD .skip) = C.mul_Mul_1 := by kernel_rfl
theorem Q.mul_Mul_1 : resResults Try.prog Try.f80.results.toList = some R.mul_Mul_1 := by kernel_rfl
theorem E.mul_Mul_1 : Try.prog.funcs[F.mul_Mul_1]? = some Try.f80 := Try.func80
theorem B.mul_Mul_1 : Try.f80.body = some (Try.f80.body.getD .skip) := by kernel_rfl
theorem N.mul_Mul_1 : Try.f80.ntmps = 8 := Try.ntmps80

def C.mul_halved : VC :=
  .seq (.region false [⟨some 6, .mov (.c nil1), none⟩]) (.seq (.seq (.region false [⟨some 17, .mov (.t 0), none⟩,
   ⟨some 18, .len (.t 17), none⟩,
   ⟨some 19, .mov (.t 1), none⟩,
   ⟨some 20, .len (.t 19), none⟩,
   ⟨some 21, .bin .lss false (.t 18) (.t 20), none⟩]) (.cond (.t 21) (.region false [⟨some 22, .mov (.t 1), none⟩,
   ⟨some 23, .mov (.t 0), none⟩,
   ⟨some 0, .mov (.t 22), none⟩,
   ⟨some 1, .mov (.t 23), none⟩]) .skip)) (.seq (.seq (.region false [⟨some 24, .mov (.t 1), none⟩,
   ⟨some 25, .len (.t 24), none⟩,
   ⟨some 26, .mov (.t 2), none⟩,
   ⟨some 27, .bin .lss false (.t 25) (.t 26), none⟩]) (.cond (.t 27) (.seq (.region false [⟨some 28, .mov (.t 0), none⟩,
   ⟨some 29, .mov (.t 1), none⟩,
   ⟨some 30, .call F.mul_school [.t 28, .t 29], none⟩,
   ⟨some 6, .mov (.t 30), none⟩]) .ret) .skip)) (.seq (.region false [⟨some 31, .mov (.t 0), none⟩,
   ⟨some 32, .len (.t 31), none⟩,
   ⟨some 33, .bin .add false (.t 32) (.c (iv 1)), none⟩,
   ⟨some 34, .bin .quo false (.t 33) (.c (iv 2)), none⟩,
   ⟨some 7, .mov (.t 34), none⟩]) (.seq (.seq (.region false [⟨some 35, .mov (.t 1), none⟩,
   ⟨some 36, .len (.t 35), none⟩,
   ⟨some 37, .mov (.t 7), none⟩,
   ⟨some 38, .bin .leq false (.t 36) (.t 37), none⟩]) (.cond (.t 38) (.seq (.region false [⟨some 39, .mov (.t 0), none⟩,
   ⟨some 40, .len (.t 39), none⟩,
   ⟨some 41, .mov (.t 1), none⟩,
   ⟨some 42, .len (.t 41), none⟩,
   ⟨some 43, .bin .add false (.t 40) (.t 42), none⟩,
   ⟨some 44, .bin .add false (.t 43) (.c (iv 1)), none⟩,
   ⟨some 45, .mk [.int .u64 0] 8 (.t 44) (.t 44), none⟩,
   ⟨some 8, .mov (.t 45), none⟩]) (.seq (.region false [⟨some 46, .mov (.t 8), none⟩,
   ⟨some 47, .mov (.t 0), none⟩,
   ⟨some 48, .mov (.t 7), none⟩,
   ⟨some 49, .call F.mul_part [.t 47, .c (iv 0), .t 48], none⟩,
   ⟨some 50, .mov (.t 1), none⟩,
   ⟨some 51, .mov (.t 2), none⟩,
   ⟨some 52, .call F.mul_halved [.t 49, .t 50, .t 51], none⟩,
   ⟨some 53, .call F.mul_addAt [.t 46, .t 52, .c (iv 0)], none⟩]) (.seq (.region false [⟨some 54, .mov (.t 8), none⟩,
   ⟨some 55, .mov (.t 0), none⟩,
   ⟨some 56, .mov (.t 7), none⟩,
   ⟨some 57, .mov (.t 0), none⟩,
   ⟨some 58, .len (.t 57), none⟩,
   ⟨some 59, .call F.mul_part [.t 55, .t 56, .t 58], none⟩,
   ⟨some 60, .mov (.t 1), none⟩,
   ⟨some 61, .mov (.t 2), none⟩,
   ⟨some 62, .call F.mul_halved [.t 59, .t 60, .t 61], none⟩,
   ⟨some 63, .mov (.t 7), none⟩,
   ⟨some 64, .call F.mul_addAt [.t 54, .t 62, .t 63], none⟩]) (.seq (.region false [⟨some 65, .mov (.t 8), none⟩,
   ⟨some 6, .mov (.t 65), none⟩]) .ret)))) .skip)) (.seq (.region false [⟨some 66, .mov (.t 0), none⟩,
   ⟨some 67, .mov (.t 7), none⟩,
   ⟨some 68, .call F.mul_part [.t 66, .c (iv 0), .t 67], none⟩,
   ⟨some 69, .mov (.t 0), none⟩,
   ⟨some 70, .mov (.t 7), none⟩,
   ⟨some 71, .mov (.t 0), none⟩,
   ⟨some 72, .len (.t 71), none⟩,
   ⟨some 73, .call F.mul_part [.t 69, .t 70, .t 72], none⟩,
   ⟨some 74, .mov (.t 1), none⟩,
   ⟨some 75, .mov (.t 7), none⟩,
   ⟨some 76, .call F.mul_part [.t 74, .c (iv 0), .t 75], none⟩,
   ⟨some 77, .mov (.t 1), none⟩,
   ⟨some 78, .mov (.t 7), none⟩,
   ⟨some 79, .mov (.t 1), none⟩,
   ⟨some 80, .len (.t 79), none⟩,
   ⟨some 81, .call F.mul_part [.t 77, .t 78, .t 80], none⟩,
   ⟨some 9, .mov (.t 68), none⟩,
   ⟨some 10, .mov (.t 73), none⟩,
   ⟨some 11, .mov (.t 76), none⟩,
   ⟨some 12, .mov (.t 81), none⟩]) (.seq (.region false [⟨some 82, .mov (.t 9), none⟩,
   ⟨some 83, .mov (.t 11), none⟩,
   ⟨some 84, .mov (.t 2), none⟩,
   ⟨some 85, .call F.mul_halved [.t 82, .t 83, .t 84], none⟩,
   ⟨some 86, .mov (.t 10), none⟩,
   ⟨some 87, .mov (.t 12), none⟩,
   ⟨some 88, .mov (.t 2), none⟩,
   ⟨some 89, .call F.mul_halved [.t 86, .t 87, .t 88], none⟩,
   ⟨some 13, .mov (.t 85), none⟩,
   ⟨some 14, .mov (.t 89), none⟩]) (.seq (.region false [⟨some 90, .mov (.t 9), none⟩,
   ⟨some 91, .mov (.t 10), none⟩,
   ⟨some 92, .call F.mul_sum [.t 90, .t 91], none⟩,
   ⟨some 93, .call F.nat_Norm [.t 92], none⟩,
   ⟨some 94, .mov (.t 11), none⟩,
   ⟨some 95, .mov (.t 12), none⟩,
   ⟨some 96, .call F.mul_sum [.t 94, .t 95], none⟩,
   ⟨some 97, .call F.nat_Norm [.t 96], none⟩,
   ⟨some 98, .mov (.t 2), none⟩,
   ⟨some 99, .call F.mul_halved [.t 93, .t 97, .t 98], none⟩,
   ⟨some 100, .mov (.t 13), none⟩,
   ⟨some 101, .call F.mul_less [.t 99, .t 100], none⟩,
   ⟨some 102, .mov (.t 14), none⟩,
   ⟨some 103, .call F.mul_less [.t 101, .t 102], none⟩,
   ⟨some 15, .mov (.t 103), none⟩]) (.seq (.region false [⟨some 104, .mov (.t 0), none⟩,
   ⟨some 105, .len (.t 104), none⟩,
   ⟨some 106, .mov (.t 1), none⟩,
   ⟨some 107, .len (.t 106), none⟩,
   ⟨some 108, .bin .add false (.t 105) (.t 107), none⟩,
   ⟨some 109, .bin .add false (.t 108) (.c (iv 1)), none⟩,
   ⟨some 110, .mk [.int .u64 0] 8 (.t 109) (.t 109), none⟩,
   ⟨some 16, .mov (.t 110), none⟩]) (.seq (.region false [⟨some 111, .mov (.t 16), none⟩,
   ⟨some 112, .mov (.t 13), none⟩,
   ⟨some 113, .call F.mul_addAt [.t 111, .t 112, .c (iv 0)], none⟩]) (.seq (.region false [⟨some 114, .mov (.t 16), none⟩,
   ⟨some 115, .mov (.t 15), none⟩,
   ⟨some 116, .mov (.t 7), none⟩,
   ⟨some 117, .call F.mul_addAt [.t 114, .t 115, .t 116], none⟩]) (.seq (.region false [⟨some 118, .mov (.t 16), none⟩,
   ⟨some 119, .mov (.t 14), none⟩,
   ⟨some 120, .mov (.t 7), none⟩,
   ⟨some 121, .bin .mul false (.c (iv 2)) (.t 120), none⟩,
   ⟨some 122, .call F.mul_addAt [.t 118, .t 119, .t 121], none⟩]) (.seq (.region false [⟨some 123, .mov (.t 16), none⟩,
   ⟨some 6, .mov (.t 123), none⟩]) .ret))))))))))))
def R.mul_halved : List VRes := [.tmp 6]
theorem K.mul_halved : resCode Try.prog Try.f81.ntmps (Try.f81.body.getD .skip) = C.mul_halved := by kernel_rfl
theorem Q.mul_halved : resResults Try.prog Try.f81.results.toList = some R.mul_halved := by kernel_rfl
theorem E.mul_halved : Try.prog.funcs[F.mul_halved]? = some Try.f81 := Try.func81
theorem B.mul_halved : Try.f81.body = some (Try.f81.body.getD .skip) := by kernel_rfl
theorem N.mul_halved : Try.f81.ntmps = 124 := Try.ntmps81

def C.div_divide : VC :=
  .seq (.region false [⟨some 4, .mov (.c nil1), none⟩,
   ⟨some 5, .mov (.c nil1), none⟩]) (.seq (.seq (.region false [⟨some 15, .mov (.t 0), none⟩,
   ⟨some 16, .mov (.t 1), none⟩,
   ⟨some 17, .call F.nat_Compare [.t 15, .t 16], none⟩,
   ⟨some 18, .bin .lss false (.t 17) (.c (iv 0)), none⟩]) (.cond (.t 18) (.seq (.region false [⟨some 19, .mov (.t 0), none⟩,
   ⟨some 4, .mov (.c nil1), none⟩,
   ⟨some 5, .mov (.t 19), none⟩]) .ret) .skip)) (.seq (.seq (.region false [⟨some 20, .mov (.t 1), none⟩,
   ⟨some 21, .len (.t 20), none⟩,
   ⟨some 22, .bin .eql false (.t 21) (.c (iv 1)), none⟩]) (.cond (.t 22) (.seq (.region false [⟨some 23, .mov (.t 0), none⟩,
   ⟨some 24, .len (.t 23), none⟩,
   ⟨some 25, .mk [.int .u64 0] 8 (.t 24) (.t 24), none⟩,
   ⟨some 6, .mov (.t 25), none⟩,
   ⟨some 7, .mov (.c (nv 0)), none⟩]) (.seq (.seq (.region false [⟨some 26, .mov (.t 0), none⟩,
   ⟨some 27, .len (.t 26), none⟩,
   ⟨some 28, .bin .sub false (.t 27) (.c (iv 1)), none⟩,
   ⟨some 8, .mov (.t 28), none⟩]) (.block 0 (.loop (.seq (.seq (.region false [⟨some 29, .mov (.t 8), none⟩,
   ⟨some 30, .bin .geq false (.t 29) (.c (iv 0)), none⟩]) (.cond (.t 30) .skip (.exit 0))) (.seq (.block 1 (.region true [⟨some 34, .mov (.t 6), none⟩,
   ⟨some 35, .mov (.t 8), none⟩,
   ⟨some 36, .mov (.t 7), none⟩,
   ⟨some 37, .mov (.t 0), none⟩,
   ⟨some 38, .mov (.t 8), none⟩,
   ⟨some 39, .ixa 1 (.t 37) (.t 38), none⟩,
   ⟨some 40, .load none (.t 39), none⟩,
   ⟨some 41, .mov (.t 1), none⟩,
   ⟨some 42, .ixa 1 (.t 41) (.c (iv 0)), none⟩,
   ⟨some 43, .load none (.t 42), none⟩,
   ⟨some 44, .call F.bits_Div64 [.t 36, .t 40, .t 43], none⟩,
   ⟨some 33, .mov (.t 44), none⟩,
   ⟨some 45, .ext (.t 33) 0, none⟩,
   ⟨some 46, .ext (.t 33) 1, none⟩,
   ⟨some 47, .ixa 1 (.t 34) (.t 35), none⟩,
   ⟨none, .store 1 (.t 47) (.t 45), none⟩,
   ⟨some 7, .mov (.t 46), none⟩])) (.region false [⟨some 31, .mov (.t 8), none⟩,
   ⟨some 32, .bin .sub false (.t 31) (.c (iv 1)), none⟩,
   ⟨some 8, .mov (.t 32), none⟩])))))) (.seq (.region false [⟨some 48, .mov (.t 6), none⟩,
   ⟨some 49, .call F.nat_Norm [.t 48], none⟩,
   ⟨some 50, .mov (.t 7), none⟩,
   ⟨some 51, .call F.nat_From [.t 50], none⟩,
   ⟨some 4, .mov (.t 49), none⟩,
   ⟨some 5, .mov (.t 51), none⟩]) .ret))) .skip)) (.seq (.region false [⟨some 52, .mov (.t 1), none⟩,
   ⟨some 53, .mov (.t 1), none⟩,
   ⟨some 54, .len (.t 53), none⟩,
   ⟨some 55, .bin .sub false (.t 54) (.c (iv 1)), none⟩,
   ⟨some 56, .ixa 1 (.t 52) (.t 55), none⟩,
   ⟨some 57, .load none (.t 56), none⟩,
   ⟨some 58, .call F.bits_LeadingZeros64 [.t 57], none⟩,
   ⟨some 59, .conv .u64 (.t 58), none⟩,
   ⟨some 9, .mov (.t 59), none⟩]) (.seq (.region true [⟨some 60, .mov (.t 0), none⟩,
   ⟨some 61, .mov (.t 9), none⟩,
   ⟨some 62, .call F.div_up [.t 60, .t 61], none⟩,
   ⟨some 63, .mov (.t 1), none⟩,
   ⟨some 64, .mov (.t 9), none⟩,
   ⟨some 65, .call F.div_up [.t 63, .t 64], none⟩,
   ⟨some 66, .mov (.t 1), none⟩,
   ⟨some 67, .len (.t 66), none⟩,
   ⟨some 68, .slc 1 (.t 65) none (some (.t 67)) none, none⟩,
   ⟨some 10, .mov (.t 62), none⟩,
   ⟨some 11, .mov (.t 68), none⟩]) (.seq (.region false [⟨some 69, .mov (.t 11), none⟩,
   ⟨some 70, .len (.t 69), none⟩,
   ⟨some 12, .mov (.t 70), none⟩]) (.seq (.region false [⟨some 71, .mov (.t 0), none⟩,
   ⟨some 72, .len (.t 71), none⟩,
   ⟨some 73, .mov (.t 12), none⟩,
   ⟨some 74, .bin .sub false (.t 72) (.t 73), none⟩,
   ⟨some 75, .bin .add false (.t 74) (.c (iv 1)), none⟩,
   ⟨some 76, .mk [.int .u64 0] 8 (.t 75) (.t 75), none⟩,
   ⟨some 13, .mov (.t 76), none⟩]) (.seq (.seq (.region false [⟨some 77, .mov (.t 0), none⟩,
   ⟨some 78, .len (.t 77), none⟩,
   ⟨some 79, .mov (.t 12), none⟩,
   ⟨some 80, .bin .sub false (.t 78) (.t 79), none⟩,
   ⟨some 14, .mov (.t 80), none⟩]) (.block 2 (.loop (.seq (.seq (.region false [⟨some 81, .mov (.t 14), none⟩,
   ⟨some 82, .bin .geq false (.t 81) (.c (iv 0)), none⟩]) (.cond (.t 82) .skip (.exit 2))) (.seq (.block 3 (.region false [⟨some 85, .mov (.t 13), none⟩,
   ⟨some 86, .mov (.t 14), none⟩,
   ⟨some 87, .mov (.t 10), none⟩,
   ⟨some 88, .mov (.t 14), none⟩,
   ⟨some 89, .mov (.t 14), none⟩,
   ⟨some 90, .mov (.t 12), none⟩,
   ⟨some 91, .bin .add false (.t 89) (.t 90), none⟩,
   ⟨some 92, .bin .add false (.t 91) (.c (iv 1)), none⟩,
   ⟨some 93, .slc 1 (.t 87) (some (.t 88)) (some (.t 92)) none, none⟩,
   ⟨some 94, .mov (.t 11), none⟩,
   ⟨some 95, .call F.div_guess [.t 93, .t 94], none⟩,
   ⟨some 96, .ixa 1 (.t 85) (.t 86), none⟩,
   ⟨none, .store 1 (.t 96) (.t 95), none⟩])) (.region false [⟨some 83, .mov (.t 14), none⟩,
   ⟨some 84, .bin .sub false (.t 83) (.c (iv 1)), none⟩,
   ⟨some 14, .mov (.t 84), none⟩])))))) (.seq (.region true [⟨some 97, .mov (.t 13), none⟩,
   ⟨some 98, .call F.nat_Norm [.t 97], none⟩,
   ⟨some 99, .mov (.t 10), none⟩,
   ⟨some 100, .mov (.t 12), none⟩,
   ⟨some 101, .slc 1 (.t 99) none (some (.t 100)) none, none⟩,
   ⟨some 102, .mov (.t 9), none⟩,
   ⟨some 103, .call F.div_down [.t 101, .t 102], none⟩,
   ⟨some 4, .mov (.t 98), none⟩,
   ⟨some 5, .mov (.t 103), none⟩]) .ret))))))))
def R.div_divide : List VRes := [.tmp 4, .tmp 5]
theorem K.div_divide : resCode Try.prog Try.f82.ntmps (Try.f82.body.getD .skip) = C.div_divide := by kernel_rfl
theorem Q.div_divide : resResults Try.prog Try.f82.results.toList = some R.div_divide := by kernel_rfl
theorem E.div_divide : Try.prog.funcs[F.div_divide]? = some Try.f82 := Try.func82
theorem B.div_divide : Try.f82.body = some (Try.f82.body.getD .skip) := by kernel_rfl
theorem N.div_divide : Try.f82.ntmps = 104 := Try.ntmps82

def C.bits_LeadingZeros64 : VC :=
  .seq (.region false [⟨some 2, .mov (.c (iv 0)), none⟩]) (.seq (.region false [⟨some 3, .mov (.t 0), none⟩,
   ⟨some 4, .call F.bits_Len64 [.t 3], none⟩,
   ⟨some 5, .bin .sub false (.c (iv 64)) (.t 4), none⟩,
   ⟨some 2, .mov (.t 5), none⟩]) .ret)
def R.bits_LeadingZeros64 : List VRes := [.tmp 2]
theorem K.bits_LeadingZeros64 : resCode Try.prog Try.f83.ntmps (Try.f83.body.getD .skip) = C.bits_LeadingZeros64 := by kernel_rfl
theorem Q.bits_LeadingZeros64 : resResults Try.prog Try.f83.results.toList = some R.bits_LeadingZeros64 := by kernel_rfl
theorem E.bits_LeadingZeros64 : Try.prog.funcs[F.bits_LeadingZeros64]? = some Try.f83 := Try.func83
theorem B.bits_LeadingZeros64 : Try.f83.body = some (Try.f83.body.getD .skip) := by kernel_rfl
theorem N.bits_LeadingZeros64 : Try.f83.ntmps = 6 := Try.ntmps83

def C.nat_Left : VC :=
  .seq (.region false [⟨some 4, .mov (.c nil1), none⟩,
   ⟨some 5, .mov (.c (iv 0)), none⟩]) (.seq (.seq (.region false [⟨some 11, .mov (.t 1), none⟩,
   ⟨some 12, .bin .lss false (.t 11) (.c (iv 0)), none⟩,
   ⟨some 13, .mov (.t 12), none⟩,
   ⟨some 14, .mov (.t 1), some (13, false)⟩,
   ⟨some 15, .bin .gtr false (.t 14) (.c (iv 1099511627776)), some (13, false)⟩,
   ⟨some 16, .pick (.t 13) (.c (bv true)) (.t 15), none⟩]) (.cond (.t 16) (.seq (.region false [⟨some 4, .mov (.c nil1), none⟩,
   ⟨some 5, .mov (.c (iv 1)), none⟩]) .ret) .skip)) (.seq (.region false [⟨some 17, .mov (.t 0), none⟩,
   ⟨some 18, .call F.nat_trim [.t 17], none⟩,
   ⟨some 0, .mov (.t 18), none⟩]) (.seq (.seq (.region false [⟨some 19, .mov (.t 0), none⟩,
   ⟨some 20, .len (.t 19), none⟩,
   ⟨some 21, .bin .eql false (.t 20) (.c (iv 0)), none⟩]) (.cond (.t 21) (.seq (.region false [⟨some 4, .mov (.c nil1), none⟩,
   ⟨some 5, .mov (.c (iv 0)), none⟩]) .ret) .skip)) (.seq (.seq (.region false [⟨some 22, .mov (.t 0), none⟩,
   ⟨some 23, .call F.nat_Length [.t 22], none⟩,
   ⟨some 24, .mov (.t 1), none⟩,
   ⟨some 25, .bin .add false (.t 23) (.t 24), none⟩,
   ⟨some 26, .bin .gtr false (.t 25) (.c (iv 67108864)), none⟩]) (.cond (.t 26) (.seq (.region false [⟨some 4, .mov (.c nil1), none⟩,
   ⟨some 5, .mov (.c (iv 3)), none⟩]) .ret) .skip)) (.seq (.region false [⟨some 27, .mov (.t 1), none⟩,
   ⟨some 28, .bin .quo false (.t 27) (.c (iv 64)), none⟩,
   ⟨some 29, .mov (.t 1), none⟩,
   ⟨some 30, .bin .rem false (.t 29) (.c (iv 64)), none⟩,
   ⟨some 31, .conv .u64 (.t 30), none⟩,
   ⟨some 6, .mov (.t 28), none⟩,
   ⟨some 7, .mov (.t 31), none⟩]) (.seq (.region false [⟨some 32, .mov (.t 6), none⟩,
   ⟨some 33, .mov (.t 0), none⟩,
   ⟨some 34, .len (.t 33), none⟩,
   ⟨some 35, .bin .add false (.t 32) (.t 34), none⟩,
   ⟨some 36, .bin .add false (.t 35) (.c (iv 1)), none⟩,
   ⟨some 37, .mk [.int .u64 0] 8 (.t 36) (.t 36), none⟩,
   ⟨some 8, .mov (.t 37), none⟩]) (.seq (.seq (.region false [⟨some 38, .mov (.t 0), none⟩,
   ⟨some 39, .len (.t 38), none⟩,
   ⟨some 40, .mov (.c (iv 0)), none⟩]) (.block 0 (.loop (.seq (.region false [⟨some 41, .bin .lss false (.t 40) (.t 39), none⟩]) (.seq (.cond (.t 41) .skip (.exit 0)) (.seq (.block 1 (.seq (.region false [⟨some 42, .mov (.t 40), none⟩,
   ⟨some 43, .ixa 1 (.t 38) (.t 40), none⟩,
   ⟨some 44, .load none (.t 43), none⟩,
   ⟨some 9, .mov (.t 42), none⟩,
   ⟨some 10, .mov (.t 44), none⟩]) (.seq (.region false [⟨some 45, .mov (.t 8), none⟩,
   ⟨some 46, .mov (.t 6), none⟩,
   ⟨some 47, .mov (.t 9), none⟩,
   ⟨some 48, .bin .add false (.t 46) (.t 47), none⟩,
   ⟨some 49, .ixa 1 (.t 45) (.t 48), none⟩,
   ⟨some 50, .load none (.t 49), none⟩,
   ⟨some 51, .mov (.t 10), none⟩,
   ⟨some 52, .mov (.t 7), none⟩,
   ⟨some 53, .bin .shl false (.t 51) (.t 52), none⟩,
   ⟨some 54, .bin .or false (.t 50) (.t 53), none⟩,
   ⟨some 55, .ixa 1 (.t 45) (.t 48), none⟩,
   ⟨none, .store 1 (.t 55) (.t 54), none⟩]) (.region false [⟨some 56, .mov (.t 8), none⟩,
   ⟨some 57, .mov (.t 6), none⟩,
   ⟨some 58, .mov (.t 9), none⟩,
   ⟨some 59, .bin .add false (.t 57) (.t 58), none⟩,
   ⟨some 60, .bin .add false (.t 59) (.c (iv 1)), none⟩,
   ⟨some 61, .ixa 1 (.t 56) (.t 60), none⟩,
   ⟨some 62, .load none (.t 61), none⟩,
   ⟨some 63, .mov (.t 10), none⟩,
   ⟨some 64, .bin .shr false (.t 63) (.c (nv 1)), none⟩,
   ⟨some 65, .mov (.t 7), none⟩,
   ⟨some 66, .bin .sub false (.c (nv 63)) (.t 65), none⟩,
   ⟨some 67, .bin .shr false (.t 64) (.t 66), none⟩,
   ⟨some 68, .bin .or false (.t 62) (.t 67), none⟩,
   ⟨some 69, .ixa 1 (.t 56) (.t 60), none⟩,
   ⟨none, .store 1 (.t 69) (.t 68), none⟩])))) (.region false [⟨some 70, .bin .add false (.t 40) (.c (iv 1)), none⟩,
   ⟨some 40, .mov (.t 70), none⟩]))))))) (.seq (.region false [⟨some 71, .mov (.t 8), none⟩,
   ⟨some 72, .call F.nat_trim [.t 71], none⟩,
   ⟨some 4, .mov (.t 72), none⟩,
   ⟨some 5, .mov (.c (iv 0)), none⟩]) .ret))))))))
def R.nat_Left : List VRes := [.tmp 4, .tmp 5]
theorem K.nat_Left : resCode Try.prog Try.f84.ntmps (Try.f84.body.getD .skip) = C.nat_Left := by kernel_rfl
theorem Q.nat_Left : resResults Try.prog Try.f84.results.toList = some R.nat_Left := by kernel_rfl
theorem E.nat_Left : Try.prog.funcs[F.nat_Left]? = some Try.f84 := Try.func84
theorem B.nat_Left : Try.f84.body = some (Try.f84.body.getD .skip) := by kernel_rfl
theorem N.nat_Left : Try.f84.ntmps = 73 := Try.ntmps84

def C.bits_Mul64 : VC :=
  .seq (.region false [⟨some 4, .mov (.c (nv 0)), none⟩,
   ⟨some 5, .mov (.c (nv 0)), none⟩]) (.seq (.region false [⟨some 14, .mov (.t 0), none⟩,
   ⟨some 15, .bin .and false (.t 14) (.c (nv 4294967295)), none⟩,
   ⟨some 6, .mov (.t 15), none⟩]) (.seq (.region false [⟨some 16, .mov (.t 0), none⟩,
   ⟨some 17, .bin .shr false (.t 16) (.c (nv 32)), none⟩,
   ⟨some 7, .mov (.t 17), none⟩]) (.seq (.region false [⟨some 18, .mov (.t 1), none⟩,
   ⟨some 19, .bin .and false (.t 18) (.c (nv 4294967295)), none⟩,
   ⟨some 8, .mov (.t 19), none⟩]) (.seq (.region false [⟨some 20, .mov (.t 1), none⟩,
   ⟨some 21, .bin .shr false (.t 20) (.c (nv 32)), none⟩,
   ⟨some 9, .mov (.t 21), none⟩]) (.seq (.region false [⟨some 22, .mov (.t 6), none⟩,
   ⟨some 23, .mov (.t 8), none⟩,
   ⟨some 24, .bin .mul false (.t 22) (.t 23), none⟩,
   ⟨some 10, .mov (.t 24), none⟩]) (.seq (.region false [⟨some 25, .mov (.t 7), none⟩,
   ⟨some 26, .mov (.t 8), none⟩,
   ⟨some 27, .bin .mul false (.t 25) (.t 26), none⟩,
   ⟨some 28, .mov (.t 10), none⟩,
   ⟨some 29, .bin .shr false (.t 28) (.c (nv 32)), none⟩,
   ⟨some 30, .bin .add false (.t 27) (.t 29), none⟩,
   ⟨some 11, .mov (.t 30), none⟩]) (.seq (.region false [⟨some 31, .mov (.t 11), none⟩,
   ⟨some 32, .bin .and false (.t 31) (.c (nv 4294967295)), none⟩,
   ⟨some 12, .mov (.t 32), none⟩]) (.seq (.region false [⟨some 33, .mov (.t 11), none⟩,
   ⟨some 34, .bin .shr false (.t 33) (.c (nv 32)), none⟩,
   ⟨some 13, .mov (.t 34), none⟩]) (.seq (.region false [⟨some 35, .mov (.t 12), none⟩,
   ⟨some 36, .mov (.t 6), none⟩,
   ⟨some 37, .mov (.t 9), none⟩,
   ⟨some 38, .bin .mul false (.t 36) (.t 37), none⟩,
   ⟨some 39, .bin .add false (.t 35) (.t 38), none⟩,
   ⟨some 12, .mov (.t 39), none⟩]) (.seq (.region false [⟨some 40, .mov (.t 7), none⟩,
   ⟨some 41, .mov (.t 9), none⟩,
   ⟨some 42, .bin .mul false (.t 40) (.t 41), none⟩,
   ⟨some 43, .mov (.t 13), none⟩,
   ⟨some 44, .bin .add false (.t 42) (.t 43), none⟩,
   ⟨some 45, .mov (.t 12), none⟩,
   ⟨some 46, .bin .shr false (.t 45) (.c (nv 32)), none⟩,
   ⟨some 47, .bin .add false (.t 44) (.t 46), none⟩,
   ⟨some 4, .mov (.t 47), none⟩]) (.seq (.region false [⟨some 48, .mov (.t 0), none⟩,
   ⟨some 49, .mov (.t 1), none⟩,
   ⟨some 50, .bin .mul false (.t 48) (.t 49), none⟩,
   ⟨some 5, .mov (.t 50), none⟩]) .ret)))))))))))
def R.bits_Mul64 : List VRes := [.tmp 4, .tmp 5]
theorem K.bits_Mul64 : resCode Try.prog Try.f85.ntmps (Try.f85.body.getD .skip) = C.bits_Mul64 := by kernel_rfl
theorem Q.bits_Mul64 : resResults Try.prog Try.f85.results.toList = some R.bits_Mul64 := by kernel_rfl
theorem E.bits_Mul64 : Try.prog.funcs[F.bits_Mul64]? = some Try.f85 := Try.func85
theorem B.bits_Mul64 : Try.f85.body = some (Try.f85.body.getD .skip) := by kernel_rfl
theorem N.bits_Mul64 : Try.f85.ntmps = 51 := Try.ntmps85

def C.mul_great : VC :=
  .seq (.region false [⟨some 4, .mov (.c (bv false)), none⟩]) (.seq (.region false [⟨some 7, .mov (.t 0), none⟩,
   ⟨some 8, .call F.nat_Length [.t 7], none⟩,
   ⟨some 9, .mov (.t 1), none⟩,
   ⟨some 10, .call F.nat_Length [.t 9], none⟩,
   ⟨some 5, .mov (.t 8), none⟩,
   ⟨some 6, .mov (.t 10), none⟩]) (.seq (.region false [⟨some 11, .mov (.t 5), none⟩,
   ⟨some 12, .bin .gtr false (.t 11) (.c (iv 0)), none⟩,
   ⟨some 13, .mov (.t 12), none⟩,
   ⟨some 14, .mov (.t 6), some (13, true)⟩,
   ⟨some 15, .bin .gtr false (.t 14) (.c (iv 0)), some (13, true)⟩,
   ⟨some 16, .pick (.t 13) (.t 15) (.c (bv false)), none⟩,
   ⟨some 17, .mov (.t 16), none⟩,
   ⟨some 18, .mov (.t 5), some (17, true)⟩,
   ⟨some 19, .mov (.t 6), some (17, true)⟩,
   ⟨some 20, .bin .add false (.t 18) (.t 19), some (17, true)⟩,
   ⟨some 21, .bin .sub false (.t 20) (.c (iv 1)), some (17, true)⟩,
   ⟨some 22, .bin .gtr false (.t 21) (.c (iv 67108864)), some (17, true)⟩,
   ⟨some 23, .pick (.t 17) (.t 22) (.c (bv false)), none⟩,
   ⟨some 4, .mov (.t 23), none⟩]) .ret))
def R.mul_great : List VRes := [.tmp 4]
theorem K.mul_great : resCode Try.prog Try.f87.ntmps (Try.f87.body.getD .skip) = C.mul_great := by kernel_rfl
theorem Q.mul_great : resResults Try.prog Try.f87.results.toList = some R.mul_great := by kernel_rfl
theorem E.mul_great : Try.prog.funcs[F.mul_great]? = some Try.f87 := Try.func87
theorem B.mul_great : Try.f87.body = some (Try.f87.body.getD .skip) := by kernel_rfl
theorem N.mul_great : Try.f87.ntmps = 24 := Try.ntmps87

def C.mul_fits : VC :=
  .seq (.region false [⟨some 2, .mov (.c nil1), none⟩,
   ⟨some 3, .mov (.c (iv 0)), none⟩]) (.seq (.region false [⟨some 4, .mov (.t 0), none⟩,
   ⟨some 5, .call F.nat_Norm [.t 4], none⟩,
   ⟨some 0, .mov (.t 5), none⟩]) (.seq (.seq (.region false [⟨some 6, .mov (.t 0), none⟩,
   ⟨some 7, .call F.nat_Length [.t 6], none⟩,
   ⟨some 8, .bin .gtr false (.t 7) (.c (iv 67108864)), none⟩]) (.cond (.t 8) (.seq (.region false [⟨some 2, .mov (.c nil1), none⟩,
   ⟨some 3, .mov (.c (iv 3)), none⟩]) .ret) .skip)) (.seq (.region false [⟨some 9, .mov (.t 0), none⟩,
   ⟨some 2, .mov (.t 9), none⟩,
   ⟨some 3, .mov (.c (iv 0)), none⟩]) .ret)))
def R.mul_fits : List VRes := [.tmp 2, .tmp 3]
theorem K.mul_fits : resCode Try.prog Try.f88.ntmps (Try.f88.body.getD .skip) = C.mul_fits := by kernel_rfl
theorem Q.mul_fits : resResults Try.prog Try.f88.results.toList = some R.mul_fits := by kernel_rfl
theorem E.mul_fits : Try.prog.funcs[F.mul_fits]? = some Try.f88 := Try.func88
theorem B.mul_fits : Try.f88.body = some (Try.f88.body.getD .skip) := by kernel_rfl
theorem N.mul_fits : Try.f88.ntmps = 10 := Try.ntmps88

def C.mul_school : VC :=
  .seq (.region false [⟨some 4, .mov (.c nil1), none⟩]) (.seq (.region false [⟨some 14, .mov (.t 0), none⟩,
   ⟨some 15, .len (.t 14), none⟩,
   ⟨some 16, .mov (.t 1), none⟩,
   ⟨some 17, .len (.t 16), none⟩,
   ⟨some 18, .bin .add false (.t 15) (.t 17), none⟩,
   ⟨some 19, .mk [.int .u64 0] 8 (.t 18) (.t 18), none⟩,
   ⟨some 5, .mov (.t 19), none⟩]) (.seq (.seq (.region false [⟨some 20, .mov (.t 0), none⟩,
   ⟨some 21, .len (.t 20), none⟩,
   ⟨some 22, .mov (.c (iv 0)), none⟩]) (.block 0 (.loop (.seq (.region false [⟨some 23, .bin .lss false (.t 22) (.t 21), none⟩]) (.seq (.cond (.t 23) .skip (.exit 0)) (.seq (.block 1 (.seq (.region false [⟨some 24, .mov (.t 22), none⟩,
   ⟨some 25, .ixa 1 (.t 20) (.t 22), none⟩,
   ⟨some 26, .load none (.t 25), none⟩,
   ⟨some 6, .mov (.t 24), none⟩,
   ⟨some 7, .mov (.t 26), none⟩]) (.seq (.region false [⟨some 8, .mov (.c (nv 0)), none⟩]) (.seq (.seq (.region false [⟨some 27, .mov (.t 1), none⟩,
   ⟨some 28, .len (.t 27), none⟩,
   ⟨some 29, .mov (.c (iv 0)), none⟩]) (.block 2 (.loop (.seq (.region false [⟨some 30, .bin .lss false (.t 29) (.t 28), none⟩]) (.seq (.cond (.t 30) .skip (.exit 2)) (.seq (.block 3 (.seq (.region false [⟨some 31, .mov (.t 29), none⟩,
   ⟨some 32, .ixa 1 (.t 27) (.t 29), none⟩,
   ⟨some 33, .load none (.t 32), none⟩,
   ⟨some 9, .mov (.t 31), none⟩,
   ⟨some 10, .mov (.t 33), none⟩]) (.seq (.region false [⟨some 35, .mov (.t 7), none⟩,
   ⟨some 36, .mov (.t 10), none⟩,
   ⟨some 37, .call F.bits_Mul64 [.t 35, .t 36], none⟩,
   ⟨some 34, .mov (.t 37), none⟩,
   ⟨some 38, .ext (.t 34) 0, none⟩,
   ⟨some 39, .ext (.t 34) 1, none⟩,
   ⟨some 11, .mov (.t 38), none⟩,
   ⟨some 12, .mov (.t 39), none⟩]) (.seq (.region false [⟨some 13, .mov (.c (nv 0)), none⟩]) (.seq (.region false [⟨some 41, .mov (.t 12), none⟩,
   ⟨some 42, .mov (.t 8), none⟩,
   ⟨some 43, .ext64 false (.t 41) (.t 42) (.c (nv 0)), none⟩,
   ⟨some 40, .mov (.t 43), none⟩,
   ⟨some 44, .ext (.t 40) 0, none⟩,
   ⟨some 45, .ext (.t 40) 1, none⟩,
   ⟨some 12, .mov (.t 44), none⟩,
   ⟨some 13, .mov (.t 45), none⟩]) (.seq (.region false [⟨some 46, .mov (.t 11), none⟩,
   ⟨some 47, .mov (.t 13), none⟩,
   ⟨some 48, .bin .add false (.t 46) (.t 47), none⟩,
   ⟨some 11, .mov (.t 48), none⟩]) (.seq (.region false [⟨some 50, .mov (.t 5), none⟩,
   ⟨some 51, .mov (.t 6), none⟩,
   ⟨some 52, .mov (.t 9), none⟩,
   ⟨some 53, .bin .add false (.t 51) (.t 52), none⟩,
   ⟨some 54, .mov (.t 5), none⟩,
   ⟨some 55, .mov (.t 6), none⟩,
   ⟨some 56, .mov (.t 9), none⟩,
   ⟨some 57, .bin .add false (.t 55) (.t 56), none⟩,
   ⟨some 58, .ixa 1 (.t 54) (.t 57), none⟩,
   ⟨some 59, .load none (.t 58), none⟩,
   ⟨some 60, .mov (.t 12), none⟩,
   ⟨some 61, .ext64 false (.t 59) (.t 60) (.c (nv 0)), none⟩,
   ⟨some 49, .mov (.t 61), none⟩,
   ⟨some 62, .ext (.t 49) 0, none⟩,
   ⟨some 63, .ext (.t 49) 1, none⟩,
   ⟨some 64, .ixa 1 (.t 50) (.t 53), none⟩,
   ⟨none, .store 1 (.t 64) (.t 62), none⟩,
   ⟨some 13, .mov (.t 63), none⟩]) (.region false [⟨some 65, .mov (.t 11), none⟩,
   ⟨some 66, .mov (.t 13), none⟩,
   ⟨some 67, .bin .add false (.t 65) (.t 66), none⟩,
   ⟨some 8, .mov (.t 67), none⟩])))))))) (.region false [⟨some 68, .bin .add false (.t 29) (.c (iv 1)), none⟩,
   ⟨some 29, .mov (.t 68), none⟩]))))))) (.region false [⟨some 69, .mov (.t 5), none⟩,
   ⟨some 70, .mov (.t 6), none⟩,
   ⟨some 71, .mov (.t 1), none⟩,
   ⟨some 72, .len (.t 71), none⟩,
   ⟨some 73, .bin .add false (.t 70) (.t 72), none⟩,
   ⟨some 74, .mov (.t 8), none⟩,
   ⟨some 75, .ixa 1 (.t 69) (.t 73), none⟩,
   ⟨none, .store 1 (.t 75) (.t 74), none⟩]))))) (.region false [⟨some 76, .bin .add false (.t 22) (.c (iv 1)), none⟩,
   ⟨some 22, .mov (.t 76), none⟩]))))))) (.seq (.region false [⟨some 77, .mov (.t 5), none⟩,
   ⟨some 4, .mov (.t 77), none⟩]) .ret)))
def R.mul_school : List VRes := [.tmp 4]
theorem K.mul_school : resCode Try.prog Try.f89.ntmps (Try.f89.body.getD .skip) = C.mul_school := by kernel_rfl
theorem Q.mul_school : resResults Try.prog Try.f89.results.toList = some R.mul_school := by kernel_rfl
theorem E.mul_school : Try.prog.funcs[F.mul_school]? = some Try.f89 := Try.func89
theorem B.mul_school : Try.f89.body = some (Try.f89.body.getD .skip) := by kernel_rfl
theorem N.mul_school : Try.f89.ntmps = 78 := Try.ntmps89

def C.mul_addAt : VC :=
  .seq (.region false [⟨some 6, .mov (.c (nv 0)), none⟩]) (.seq (.region false [⟨some 9, .mov (.t 2), none⟩,
   ⟨some 7, .mov (.t 9), none⟩]) (.block 0 (.loop (.seq (.seq (.region false [⟨some 10, .mov (.t 7), none⟩,
   ⟨some 11, .mov (.t 0), none⟩,
   ⟨some 12, .len (.t 11), none⟩,
   ⟨some 13, .bin .lss false (.t 10) (.t 12), none⟩,
   ⟨some 14, .mov (.t 13), none⟩,
   ⟨some 15, .mov (.t 7), some (14, true)⟩,
   ⟨some 16, .mov (.t 2), some (14, true)⟩,
   ⟨some 17, .bin .sub false (.t 15) (.t 16), some (14, true)⟩,
   ⟨some 18, .mov (.t 1), some (14, true)⟩,
   ⟨some 19, .len (.t 18), some (14, true)⟩,
   ⟨some 20, .bin .lss false (.t 17) (.t 19), some (14, true)⟩,
   ⟨some 21, .mov (.t 20), some (14, true)⟩,
   ⟨some 22, .mov (.t 6), some (21, false)⟩,
   ⟨some 23, .bin .gtr false (.t 22) (.c (nv 0)), some (21, false)⟩,
   ⟨some 24, .pick (.t 21) (.c (bv true)) (.t 23), some (14, true)⟩,
   ⟨some 25, .pick (.t 14) (.t 24) (.c (bv false)), none⟩]) (.cond (.t 25) .skip (.exit 0))) (.seq (.block 1 (.seq (.region false [⟨some 8, .mov (.c (nv 0)), none⟩]) (.seq (.seq (.region false [⟨some 28, .mov (.t 7), none⟩,
   ⟨some 29, .mov (.t 2), none⟩,
   ⟨some 30, .bin .sub false (.t 28) (.t 29), none⟩,
   ⟨some 31, .mov (.t 1), none⟩,
   ⟨some 32, .len (.t 31), none⟩,
   ⟨some 33, .bin .lss false (.t 30) (.t 32), none⟩]) (.cond (.t 33) (.region false [⟨some 34, .mov (.t 1), none⟩,
   ⟨some 35, .mov (.t 7), none⟩,
   ⟨some 36, .mov (.t 2), none⟩,
   ⟨some 37, .bin .sub false (.t 35) (.t 36), none⟩,
   ⟨some 38, .ixa 1 (.t 34) (.t 37), none⟩,
   ⟨some 39, .load none (.t 38), none⟩,
   ⟨some 8, .mov (.t 39), none⟩]) .skip)) (.region false [⟨some 41, .mov (.t 0), none⟩,
   ⟨some 42, .mov (.t 7), none⟩,
   ⟨some 43, .mov (.t 0), none⟩,
   ⟨some 44, .mov (.t 7), none⟩,
   ⟨some 45, .ixa 1 (.t 43) (.t 44), none⟩,
   ⟨some 46, .load none (.t 45), none⟩,
   ⟨some 47, .mov (.t 8), none⟩,
   ⟨some 48, .mov (.t 6), none⟩,
   ⟨some 49, .ext64 false (.t 46) (.t 47) (.t 48), none⟩,
   ⟨some 40, .mov (.t 49), none⟩,
   ⟨some 50, .ext (.t 40) 0, none⟩,
   ⟨some 51, .ext (.t 40) 1, none⟩,
   ⟨some 52, .ixa 1 (.t 41) (.t 42), none⟩,
   ⟨none, .store 1 (.t 52) (.t 50), none⟩,
   ⟨some 6, .mov (.t 51), none⟩])))) (.region false [⟨some 26, .mov (.t 7), none⟩,
   ⟨some 27, .bin .add false (.t 26) (.c (iv 1)), none⟩,
   ⟨some 7, .mov (.t 27), none⟩]))))))
def R.mul_addAt : List VRes := []
theorem K.mul_addAt : resCode Try.prog Try.f90.ntmps (Try.f90.body.getD .skip) = C.mul_addAt := by kernel_rfl
theorem Q.mul_addAt : resResults Try.prog Try.f90.results.toList = some R.mul_addAt := by kernel_rfl
theorem E.mul_addAt : Try.prog.funcs[F.mul_addAt]? = some Try.f90 := Try.func90
theorem B.mul_addAt : Try.f90.body = some (Try.f90.body.getD .skip) := by kernel_rfl
theorem N.mul_addAt : Try.f90.ntmps = 53 := Try.ntmps90

def C.mul_part : VC :=
  .seq (.region false [⟨some 6, .mov (.c nil1), none⟩]) (.seq (.region false [⟨some 7, .mov (.t 1), none⟩,
   ⟨some 8, .mov (.t 0), none⟩,
   ⟨some 9, .len (.t 8), none⟩,
   ⟨some 10, .mm false (.t 7) (.t 9), none⟩,
   ⟨some 11, .mov (.t 2), none⟩,
   ⟨some 12, .mov (.t 0), none⟩,
   ⟨some 13, .len (.t 12), none⟩,
   ⟨some 14, .mm false (.t 11) (.t 13), none⟩,
   ⟨some 1, .mov (.t 10), none⟩,
   ⟨some 2, .mov (.t 14), none⟩]) (.seq (.block 0 (.loop (.seq (.seq (.region false [⟨some 15, .mov (.t 2), none⟩,
   ⟨some 16, .mov (.t 1), none⟩,
   ⟨some 17, .bin .gtr false (.t 15) (.t 16), none⟩,
   ⟨some 18, .mov (.t 17), none⟩,
   ⟨some 19, .mov (.t 0), some (18, true)⟩,
   ⟨some 20, .mov (.t 2), some (18, true)⟩,
   ⟨some 21, .bin .sub false (.t 20) (.c (iv 1)), some (18, true)⟩,
   ⟨some 22, .ixa 1 (.t 19) (.t 21), some (18, true)⟩,
   ⟨some 23, .load none (.t 22), some (18, true)⟩,
   ⟨some 24, .bin .eql false (.t 23) (.c (nv 0)), some (18, true)⟩,
   ⟨some 25, .pick (.t 18) (.t 24) (.c (bv false)), none⟩]) (.cond (.t 25) .skip (.exit 0))) (.block 1 (.region false [⟨some 26, .mov (.t 2), none⟩,
   ⟨some 27, .bin .sub false (.t 26) (.c (iv 1)), none⟩,
   ⟨some 2, .mov (.t 27), none⟩]))))) (.seq (.region false [⟨some 28, .mov (.t 0), none⟩,
   ⟨some 29, .mov (.t 1), none⟩,
   ⟨some 30, .mov (.t 2), none⟩,
   ⟨some 31, .slc 1 (.t 28) (some (.t 29)) (some (.t 30)) none, none⟩,
   ⟨some 6, .mov (.t 31), none⟩]) .ret)))
def R.mul_part : List VRes := [.tmp 6]
theorem K.mul_part : resCode Try.prog Try.f91.ntmps (Try.f91.body.getD .skip) = C.mul_part := by kernel_rfl
theorem Q.mul_part : resResults Try.prog Try.f91.results.toList = some R.mul_part := by kernel_rfl
theorem E.mul_part : Try.prog.funcs[F.mul_part]? = some Try.f91 := Try.func91
theorem B.mul_part : Try.f91.body = some (Try.f91.body.getD .skip) := by kernel_rfl
theorem N.mul_part : Try.f91.ntmps = 32 := Try.ntmps91

def C.mul_less : VC :=
  .seq (.region false [⟨some 4, .mov (.c nil1), none⟩]) (.seq (.region false [⟨some 9, .mov (.t 0), none⟩,
   ⟨some 10, .len (.t 9), none⟩,
   ⟨some 11, .mk [.int .u64 0] 8 (.t 10) (.t 10), none⟩,
   ⟨some 5, .mov (.t 11), none⟩]) (.seq (.region false [⟨some 12, .mov (.t 5), none⟩,
   ⟨some 13, .mov (.t 0), none⟩,
   ⟨some 14, .cpy 1 (.t 12) (.t 13), none⟩]) (.seq (.region false [⟨some 6, .mov (.c (nv 0)), none⟩]) (.seq (.seq (.region false [⟨some 15, .mov (.t 5), none⟩,
   ⟨some 16, .len (.t 15), none⟩,
   ⟨some 17, .mov (.c (iv 0)), none⟩]) (.block 0 (.loop (.seq (.region false [⟨some 18, .bin .lss false (.t 17) (.t 16), none⟩]) (.seq (.cond (.t 18) .skip (.exit 0)) (.seq (.block 1 (.seq (.region false [⟨some 19, .mov (.t 17), none⟩,
   ⟨some 7, .mov (.t 19), none⟩]) (.seq (.region false [⟨some 8, .mov (.c (nv 0)), none⟩]) (.seq (.seq (.region false [⟨some 20, .mov (.t 7), none⟩,
   ⟨some 21, .mov (.t 1), none⟩,
   ⟨some 22, .len (.t 21), none⟩,
   ⟨some 23, .bin .lss false (.t 20) (.t 22), none⟩]) (.cond (.t 23) (.region false [⟨some 24, .mov (.t 1), none⟩,
   ⟨some 25, .mov (.t 7), none⟩,
   ⟨some 26, .ixa 1 (.t 24) (.t 25), none⟩,
   ⟨some 27, .load none (.t 26), none⟩,
   ⟨some 8, .mov (.t 27), none⟩]) .skip)) (.region false [⟨some 29, .mov (.t 5), none⟩,
   ⟨some 30, .mov (.t 7), none⟩,
   ⟨some 31, .mov (.t 5), none⟩,
   ⟨some 32, .mov (.t 7), none⟩,
   ⟨some 33, .ixa 1 (.t 31) (.t 32), none⟩,
   ⟨some 34, .load none (.t 33), none⟩,
   ⟨some 35, .mov (.t 8), none⟩,
   ⟨some 36, .mov (.t 6), none⟩,
   ⟨some 37, .ext64 true (.t 34) (.t 35) (.t 36), none⟩,
   ⟨some 28, .mov (.t 37), none⟩,
   ⟨some 38, .ext (.t 28) 0, none⟩,
   ⟨some 39, .ext (.t 28) 1, none⟩,
   ⟨some 40, .ixa 1 (.t 29) (.t 30), none⟩,
   ⟨none, .store 1 (.t 40) (.t 38), none⟩,
   ⟨some 6, .mov (.t 39), none⟩]))))) (.region false [⟨some 41, .bin .add false (.t 17) (.c (iv 1)), none⟩,
   ⟨some 17, .mov (.t 41), none⟩]))))))) (.seq (.region false [⟨some 42, .mov (.t 5), none⟩,
   ⟨some 4, .mov (.t 42), none⟩]) .ret)))))
def R.mul_less : List VRes := [.tmp 4]
theorem K.mul_less : resCode Try.prog Try.f92.ntmps (Try.f92.body.getD .skip) = C.mul_less := by kernel_rfl
theorem Q.mul_less : resResults Try.prog Try.f92.results.toList = some R.mul_less := by kernel_rfl
theorem E.mul_less : Try.prog.funcs[F.mul_less]? = some Try.f92 := Try.func92
theorem B.mul_less : Try.f92.body = some (Try.f92.body.getD .skip) := by kernel_rfl
theorem N.mul_less : Try.f92.ntmps = 43 := Try.ntmps92

def C.mul_sum : VC :=
  .seq (.region false [⟨some 4, .mov (.c nil1), none⟩]) (.seq (.region false [⟨some 6, .mov (.t 0), none⟩,
   ⟨some 7, .len (.t 6), none⟩,
   ⟨some 8, .mov (.t 1), none⟩,
   ⟨some 9, .len (.t 8), none⟩,
   ⟨some 10, .mm true (.t 7) (.t 9), none⟩,
   ⟨some 11, .bin .add false (.t 10) (.c (iv 1)), none⟩,
   ⟨some 12, .mk [.int .u64 0] 8 (.t 11) (.t 11), none⟩,
   ⟨some 5, .mov (.t 12), none⟩]) (.seq (.region false [⟨some 13, .mov (.t 5), none⟩,
   ⟨some 14, .mov (.t 0), none⟩,
   ⟨some 15, .cpy 1 (.t 13) (.t 14), none⟩]) (.seq (.region false [⟨some 16, .mov (.t 5), none⟩,
   ⟨some 17, .mov (.t 1), none⟩,
   ⟨some 18, .call F.mul_addAt [.t 16, .t 17, .c (iv 0)], none⟩]) (.seq (.region false [⟨some 19, .mov (.t 5), none⟩,
   ⟨some 4, .mov (.t 19), none⟩]) .ret))))
def R.mul_sum : List VRes := [.tmp 4]
theorem K.mul_sum : resCode Try.prog Try.f93.ntmps (Try.f93.body.getD .skip) = C.mul_sum := by kernel_rfl
theorem Q.mul_sum : resResults Try.prog Try.f93.results.toList = some R.mul_sum := by kernel_rfl
theorem E.mul_sum : Try.prog.funcs[F.mul_sum]? = some Try.f93 := Try.func93
theorem B.mul_sum : Try.f93.body = some (Try.f93.body.getD .skip) := by kernel_rfl
theorem N.mul_sum : Try.f93.ntmps = 20 := Try.ntmps93

def C.div_up : VC :=
  .seq (.region false [⟨some 4, .mov (.c nil1), none⟩]) (.seq (.region false [⟨some 8, .mov (.t 0), none⟩,
   ⟨some 9, .len (.t 8), none⟩,
   ⟨some 10, .bin .add false (.t 9) (.c (iv 1)), none⟩,
   ⟨some 11, .mk [.int .u64 0] 8 (.t 10) (.t 10), none⟩,
   ⟨some 5, .mov (.t 11), none⟩]) (.seq (.seq (.region false [⟨some 12, .mov (.t 0), none⟩,
   ⟨some 13, .len (.t 12), none⟩,
   ⟨some 14, .mov (.c (iv 0)), none⟩]) (.block 0 (.loop (.seq (.region false [⟨some 15, .bin .lss false (.t 14) (.t 13), none⟩]) (.seq (.cond (.t 15) .skip (.exit 0)) (.seq (.block 1 (.seq (.region false [⟨some 16, .mov (.t 14), none⟩,
   ⟨some 17, .ixa 1 (.t 12) (.t 14), none⟩,
   ⟨some 18, .load none (.t 17), none⟩,
   ⟨some 6, .mov (.t 16), none⟩,
   ⟨some 7, .mov (.t 18), none⟩]) (.seq (.region false [⟨some 19, .mov (.t 5), none⟩,
   ⟨some 20, .mov (.t 6), none⟩,
   ⟨some 21, .ixa 1 (.t 19) (.t 20), none⟩,
   ⟨some 22, .load none (.t 21), none⟩,
   ⟨some 23, .mov (.t 7), none⟩,
   ⟨some 24, .mov (.t 1), none⟩,
   ⟨some 25, .bin .shl false (.t 23) (.t 24), none⟩,
   ⟨some 26, .bin .or false (.t 22) (.t 25), none⟩,
   ⟨some 27, .ixa 1 (.t 19) (.t 20), none⟩,
   ⟨none, .store 1 (.t 27) (.t 26), none⟩]) (.region false [⟨some 28, .mov (.t 5), none⟩,
   ⟨some 29, .mov (.t 6), none⟩,
   ⟨some 30, .bin .add false (.t 29) (.c (iv 1)), none⟩,
   ⟨some 31, .mov (.t 7), none⟩,
   ⟨some 32, .bin .shr false (.t 31) (.c (nv 1)), none⟩,
   ⟨some 33, .mov (.t 1), none⟩,
   ⟨some 34, .bin .sub false (.c (nv 63)) (.t 33), none⟩,
   ⟨some 35, .bin .shr false (.t 32) (.t 34), none⟩,
   ⟨some 36, .ixa 1 (.t 28) (.t 30), none⟩,
   ⟨none, .store 1 (.t 36) (.t 35), none⟩])))) (.region false [⟨some 37, .bin .add false (.t 14) (.c (iv 1)), none⟩,
   ⟨some 14, .mov (.t 37), none⟩]))))))) (.seq (.region false [⟨some 38, .mov (.t 5), none⟩,
   ⟨some 4, .mov (.t 38), none⟩]) .ret)))
def R.div_up : List VRes := [.tmp 4]
theorem K.div_up : resCode Try.prog Try.f94.ntmps (Try.f94.body.getD .skip) = C.div_up := by kernel_rfl
theorem Q.div_up : resResults Try.prog Try.f94.results.toList = some R.div_up := by kernel_rfl
theorem E.div_up : Try.prog.funcs[F.div_up]? = some Try.f94 := Try.func94
theorem B.div_up : Try.f94.body = some (Try.f94.body.getD .skip) := by kernel_rfl
theorem N.div_up : Try.f94.ntmps = 39 := Try.ntmps94

end Go.Proofs.Ytladcfeibpddeab
set_option linter.unusedVariables false
namespace Go.Proofs.Ytladcfeibpddeab
open Go.VM

def C.div_guess : VC :=
  .seq (.region false [⟨some 4, .mov (.c (nv 0)), none⟩]) (.seq (.region false [⟨some 24, .mov (.t 1), none⟩,
   ⟨some 25, .len (.t 24), none⟩,
   ⟨some 5, .mov (.t 25), none⟩]) (.seq (.region false [⟨some 6, .mov (.c (nv 0)), none⟩,
   ⟨some 7, .mov (.c (nv 0)), none⟩]) (.seq (.region false [⟨some 8, .mov (.c (bv false)), none⟩]) (.seq (.seq (.region true [⟨some 26, .mov (.t 0), none⟩,
   ⟨some 27, .mov (.t 5), none⟩,
   ⟨some 28, .ixa 1 (.t 26) (.t 27), none⟩,
   ⟨some 29, .load none (.t 28), none⟩,
   ⟨some 30, .mov (.t 1), none⟩,
   ⟨some 31, .mov (.t 5), none⟩,
   ⟨some 32, .bin .sub false (.t 31) (.c (iv 1)), none⟩,
   ⟨some 33, .ixa 1 (.t 30) (.t 32), none⟩,
   ⟨some 34, .load none (.t 33), none⟩,
   ⟨some 35, .bin .geq false (.t 29) (.t 34), none⟩]) (.cond (.t 35) (.seq (.region false [⟨some 6, .mov (.c (nv 18446744073709551615)), none⟩]) (.seq (.region false [⟨some 9, .mov (.c (nv 0)), none⟩]) (.seq (.region true [⟨some 37, .mov (.t 0), none⟩,
   ⟨some 38, .mov (.t 5), none⟩,
   ⟨some 39, .bin .sub false (.t 38) (.c (iv 1)), none⟩,
   ⟨some 40, .ixa 1 (.t 37) (.t 39), none⟩,
   ⟨some 41, .load none (.t 40), none⟩,
   ⟨some 42, .mov (.t 1), none⟩,
   ⟨some 43, .mov (.t 5), none⟩,
   ⟨some 44, .bin .sub false (.t 43) (.c (iv 1)), none⟩,
   ⟨some 45, .ixa 1 (.t 42) (.t 44), none⟩,
   ⟨some 46, .load none (.t 45), none⟩,
   ⟨some 47, .ext64 false (.t 41) (.t 46) (.c (nv 0)), none⟩,
   ⟨some 36, .mov (.t 47), none⟩,
   ⟨some 48, .ext (.t 36) 0, none⟩,
   ⟨some 49, .ext (.t 36) 1, none⟩,
   ⟨some 7, .mov (.t 48), none⟩,
   ⟨some 9, .mov (.t 49), none⟩]) (.region false [⟨some 50, .mov (.t 9), none⟩,
   ⟨some 51, .bin .neq false (.t 50) (.c (nv 0)), none⟩,
   ⟨some 8, .mov (.t 51), none⟩])))) (.region true [⟨some 53, .mov (.t 0), none⟩,
   ⟨some 54, .mov (.t 5), none⟩,
   ⟨some 55, .ixa 1 (.t 53) (.t 54), none⟩,
   ⟨some 56, .load none (.t 55), none⟩,
   ⟨some 57, .mov (.t 0), none⟩,
   ⟨some 58, .mov (.t 5), none⟩,
   ⟨some 59, .bin .sub false (.t 58) (.c (iv 1)), none⟩,
   ⟨some 60, .ixa 1 (.t 57) (.t 59), none⟩,
   ⟨some 61, .load none (.t 60), none⟩,
   ⟨some 62, .mov (.t 1), none⟩,
   ⟨some 63, .mov (.t 5), none⟩,
   ⟨some 64, .bin .sub false (.t 63) (.c (iv 1)), none⟩,
   ⟨some 65, .ixa 1 (.t 62) (.t 64), none⟩,
   ⟨some 66, .load none (.t 65), none⟩,
   ⟨some 67, .call F.bits_Div64 [.t 56, .t 61, .t 66], none⟩,
   ⟨some 52, .mov (.t 67), none⟩,
   ⟨some 68, .ext (.t 52) 0, none⟩,
   ⟨some 69, .ext (.t 52) 1, none⟩,
   ⟨some 6, .mov (.t 68), none⟩,
   ⟨some 7, .mov (.t 69), none⟩]))) (.seq (.block 0 (.loop (.seq (.seq (.region false [⟨some 70, .mov (.t 8), none⟩,
   ⟨some 71, .un .not (.t 70), none⟩]) (.cond (.t 71) .skip (.exit 0))) (.block 1 (.seq (.region false [⟨some 73, .mov (.t 6), none⟩,
   ⟨some 74, .mov (.t 1), none⟩,
   ⟨some 75, .mov (.t 5), none⟩,
   ⟨some 76, .bin .sub false (.t 75) (.c (iv 2)), none⟩,
   ⟨some 77, .ixa 1 (.t 74) (.t 76), none⟩,
   ⟨some 78, .load none (.t 77), none⟩,
   ⟨some 79, .call F.bits_Mul64 [.t 73, .t 78], none⟩,
   ⟨some 72, .mov (.t 79), none⟩,
   ⟨some 80, .ext (.t 72) 0, none⟩,
   ⟨some 81, .ext (.t 72) 1, none⟩,
   ⟨some 10, .mov (.t 80), none⟩,
   ⟨some 11, .mov (.t 81), none⟩]) (.seq (.seq (.region false [⟨some 82, .mov (.t 10), none⟩,
   ⟨some 83, .mov (.t 7), none⟩,
   ⟨some 84, .bin .lss false (.t 82) (.t 83), none⟩,
   ⟨some 85, .mov (.t 84), none⟩,
   ⟨some 86, .mov (.t 10), some (85, false)⟩,
   ⟨some 87, .mov (.t 7), some (85, false)⟩,
   ⟨some 88, .bin .eql false (.t 86) (.t 87), some (85, false)⟩,
   ⟨some 89, .mov (.t 88), some (85, false)⟩,
   ⟨some 90, .mov (.t 11), some (89, true)⟩,
   ⟨some 91, .mov (.t 0), some (89, true)⟩,
   ⟨some 92, .mov (.t 5), some (89, true)⟩,
   ⟨some 93, .bin .sub false (.t 92) (.c (iv 2)), some (89, true)⟩,
   ⟨some 94, .ixa 1 (.t 91) (.t 93), some (89, true)⟩,
   ⟨some 95, .load none (.t 94), some (89, true)⟩,
   ⟨some 96, .bin .leq false (.t 90) (.t 95), some (89, true)⟩,
   ⟨some 97, .pick (.t 89) (.t 96) (.c (bv false)), some (85, false)⟩,
   ⟨some 98, .pick (.t 85) (.c (bv true)) (.t 97), none⟩]) (.cond (.t 98) (.exit 0) .skip)) (.seq (.region false [⟨some 99, .mov (.t 6), none⟩,
   ⟨some 100, .bin .sub false (.t 99) (.c (nv 1)), none⟩,
   ⟨some 6, .mov (.t 100), none⟩]) (.seq (.region false [⟨some 12, .mov (.c (nv 0)), none⟩]) (.seq (.region false [⟨some 102, .mov (.t 7), none⟩,
   ⟨some 103, .mov (.t 1), none⟩,
   ⟨some 104, .mov (.t 5), none⟩,
   ⟨some 105, .bin .sub false (.t 104) (.c (iv 1)), none⟩,
   ⟨some 106, .ixa 1 (.t 103) (.t 105), none⟩,
   ⟨some 107, .load none (.t 106), none⟩,
   ⟨some 108, .ext64 false (.t 102) (.t 107) (.c (nv 0)), none⟩,
   ⟨some 101, .mov (.t 108), none⟩,
   ⟨some 109, .ext (.t 101) 0, none⟩,
   ⟨some 110, .ext (.t 101) 1, none⟩,
   ⟨some 7, .mov (.t 109), none⟩,
   ⟨some 12, .mov (.t 110), none⟩]) (.seq (.region false [⟨some 111, .mov (.t 12), none⟩,
   ⟨some 112, .bin .neq false (.t 111) (.c (nv 0)), none⟩]) (.cond (.t 112) (.exit 0) .skip))))))))))) (.seq (.region false [⟨some 13, .mov (.c (nv 0)), none⟩,
   ⟨some 14, .mov (.c (nv 0)), none⟩]) (.seq (.seq (.region false [⟨some 113, .mov (.t 1), none⟩,
   ⟨some 114, .len (.t 113), none⟩,
   ⟨some 115, .mov (.c (iv 0)), none⟩]) (.block 2 (.loop (.seq (.region false [⟨some 116, .bin .lss false (.t 115) (.t 114), none⟩]) (.seq (.cond (.t 116) .skip (.exit 2)) (.seq (.block 3 (.seq (.region false [⟨some 117, .mov (.t 115), none⟩,
   ⟨some 118, .ixa 1 (.t 113) (.t 115), none⟩,
   ⟨some 119, .load none (.t 118), none⟩,
   ⟨some 15, .mov (.t 117), none⟩,
   ⟨some 16, .mov (.t 119), none⟩]) (.seq (.region false [⟨some 121, .mov (.t 16), none⟩,
   ⟨some 122, .mov (.t 6), none⟩,
   ⟨some 123, .call F.bits_Mul64 [.t 121, .t 122], none⟩,
   ⟨some 120, .mov (.t 123), none⟩,
   ⟨some 124, .ext (.t 120) 0, none⟩,
   ⟨some 125, .ext (.t 120) 1, none⟩,
   ⟨some 17, .mov (.t 124), none⟩,
   ⟨some 18, .mov (.t 125), none⟩]) (.seq (.region false [⟨some 127, .mov (.t 18), none⟩,
   ⟨some 128, .mov (.t 13), none⟩,
   ⟨some 129, .ext64 false (.t 127) (.t 128) (.c (nv 0)), none⟩,
   ⟨some 126, .mov (.t 129), none⟩,
   ⟨some 130, .ext (.t 126) 0, none⟩,
   ⟨some 131, .ext (.t 126) 1, none⟩,
   ⟨some 19, .mov (.t 130), none⟩,
   ⟨some 20, .mov (.t 131), none⟩]) (.seq (.region false [⟨some 132, .mov (.t 17), none⟩,
   ⟨some 133, .mov (.t 20), none⟩,
   ⟨some 134, .bin .add false (.t 132) (.t 133), none⟩,
   ⟨some 13, .mov (.t 134), none⟩]) (.region false [⟨some 136, .mov (.t 0), none⟩,
   ⟨some 137, .mov (.t 15), none⟩,
   ⟨some 138, .mov (.t 0), none⟩,
   ⟨some 139, .mov (.t 15), none⟩,
   ⟨some 140, .ixa 1 (.t 138) (.t 139), none⟩,
   ⟨some 141, .load none (.t 140), none⟩,
   ⟨some 142, .mov (.t 19), none⟩,
   ⟨some 143, .mov (.t 14), none⟩,
   ⟨some 144, .ext64 true (.t 141) (.t 142) (.t 143), none⟩,
   ⟨some 135, .mov (.t 144), none⟩,
   ⟨some 145, .ext (.t 135) 0, none⟩,
   ⟨some 146, .ext (.t 135) 1, none⟩,
   ⟨some 147, .ixa 1 (.t 136) (.t 137), none⟩,
   ⟨none, .store 1 (.t 147) (.t 145), none⟩,
   ⟨some 14, .mov (.t 146), none⟩])))))) (.region false [⟨some 148, .bin .add false (.t 115) (.c (iv 1)), none⟩,
   ⟨some 115, .mov (.t 148), none⟩]))))))) (.seq (.region false [⟨some 150, .mov (.t 0), none⟩,
   ⟨some 151, .mov (.t 5), none⟩,
   ⟨some 152, .mov (.t 0), none⟩,
   ⟨some 153, .mov (.t 5), none⟩,
   ⟨some 154, .ixa 1 (.t 152) (.t 153), none⟩,
   ⟨some 155, .load none (.t 154), none⟩,
   ⟨some 156, .mov (.t 13), none⟩,
   ⟨some 157, .mov (.t 14), none⟩,
   ⟨some 158, .ext64 true (.t 155) (.t 156) (.t 157), none⟩,
   ⟨some 149, .mov (.t 158), none⟩,
   ⟨some 159, .ext (.t 149) 0, none⟩,
   ⟨some 160, .ext (.t 149) 1, none⟩,
   ⟨some 161, .ixa 1 (.t 150) (.t 151), none⟩,
   ⟨none, .store 1 (.t 161) (.t 159), none⟩,
   ⟨some 14, .mov (.t 160), none⟩]) (.seq (.seq (.region false [⟨some 162, .mov (.t 14), none⟩,
   ⟨some 163, .bin .neq false (.t 162) (.c (nv 0)), none⟩]) (.cond (.t 163) (.seq (.region false [⟨some 164, .mov (.t 6), none⟩,
   ⟨some 165, .bin .sub false (.t 164) (.c (nv 1)), none⟩,
   ⟨some 6, .mov (.t 165), none⟩]) (.seq (.region false [⟨some 21, .mov (.c (nv 0)), none⟩]) (.seq (.seq (.region false [⟨some 166, .mov (.t 1), none⟩,
   ⟨some 167, .len (.t 166), none⟩,
   ⟨some 168, .mov (.c (iv 0)), none⟩]) (.block 4 (.loop (.seq (.region false [⟨some 169, .bin .lss false (.t 168) (.t 167), none⟩]) (.seq (.cond (.t 169) .skip (.exit 4)) (.seq (.block 5 (.seq (.region false [⟨some 170, .mov (.t 168), none⟩,
   ⟨some 171, .ixa 1 (.t 166) (.t 168), none⟩,
   ⟨some 172, .load none (.t 171), none⟩,
   ⟨some 22, .mov (.t 170), none⟩,
   ⟨some 23, .mov (.t 172), none⟩]) (.region false [⟨some 174, .mov (.t 0), none⟩,
   ⟨some 175, .mov (.t 22), none⟩,
   ⟨some 176, .mov (.t 0), none⟩,
   ⟨some 177, .mov (.t 22), none⟩,
   ⟨some 178, .ixa 1 (.t 176) (.t 177), none⟩,
   ⟨some 179, .load none (.t 178), none⟩,
   ⟨some 180, .mov (.t 23), none⟩,
   ⟨some 181, .mov (.t 21), none⟩,
   ⟨some 182, .ext64 false (.t 179) (.t 180) (.t 181), none⟩,
   ⟨some 173, .mov (.t 182), none⟩,
   ⟨some 183, .ext (.t 173) 0, none⟩,
   ⟨some 184, .ext (.t 173) 1, none⟩,
   ⟨some 185, .ixa 1 (.t 174) (.t 175), none⟩,
   ⟨none, .store 1 (.t 185) (.t 183), none⟩,
   ⟨some 21, .mov (.t 184), none⟩]))) (.region false [⟨some 186, .bin .add false (.t 168) (.c (iv 1)), none⟩,
   ⟨some 168, .mov (.t 186), none⟩]))))))) (.region false [⟨some 187, .mov (.t 0), none⟩,
   ⟨some 188, .mov (.t 5), none⟩,
   ⟨some 189, .ixa 1 (.t 187) (.t 188), none⟩,
   ⟨some 190, .load none (.t 189), none⟩,
   ⟨some 191, .mov (.t 21), none⟩,
   ⟨some 192, .bin .add false (.t 190) (.t 191), none⟩,
   ⟨some 193, .ixa 1 (.t 187) (.t 188), none⟩,
   ⟨none, .store 1 (.t 193) (.t 192), none⟩])))) .skip)) (.seq (.region false [⟨some 194, .mov (.t 6), none⟩,
   ⟨some 4, .mov (.t 194), none⟩]) .ret))))))))))
def R.div_guess : List VRes := [.tmp 4]
theorem K.div_guess : resCode Try.prog Try.f95.ntmps (Try.f95.body.getD .skip) = C.div_guess := by kernel_rfl
theorem Q.div_guess : resResults Try.prog Try.f95.results.toList = some R.div_guess := by kernel_rfl
theorem E.div_guess : Try.prog.funcs[F.div_guess]? = some Try.f95 := Try.func95
theorem B.div_guess : Try.f95.body = some (Try.f95.body.getD .skip) := by kernel_rfl
theorem N.div_guess : Try.f95.ntmps = 195 := Try.ntmps95

def C.div_down : VC :=
  .seq (.region false [⟨some 4, .mov (.c nil1), none⟩]) (.seq (.region false [⟨some 8, .mov (.t 0), none⟩,
   ⟨some 9, .len (.t 8), none⟩,
   ⟨some 10, .mk [.int .u64 0] 8 (.t 9) (.t 9), none⟩,
   ⟨some 5, .mov (.t 10), none⟩]) (.seq (.seq (.region false [⟨some 11, .mov (.t 0), none⟩,
   ⟨some 12, .len (.t 11), none⟩,
   ⟨some 13, .mov (.c (iv 0)), none⟩]) (.block 0 (.loop (.seq (.region false [⟨some 14, .bin .lss false (.t 13) (.t 12), none⟩]) (.seq (.cond (.t 14) .skip (.exit 0)) (.seq (.block 1 (.seq (.region false [⟨some 15, .mov (.t 13), none⟩,
   ⟨some 16, .ixa 1 (.t 11) (.t 13), none⟩,
   ⟨some 17, .load none (.t 16), none⟩,
   ⟨some 6, .mov (.t 15), none⟩,
   ⟨some 7, .mov (.t 17), none⟩]) (.seq (.region false [⟨some 18, .mov (.t 5), none⟩,
   ⟨some 19, .mov (.t 6), none⟩,
   ⟨some 20, .mov (.t 7), none⟩,
   ⟨some 21, .mov (.t 1), none⟩,
   ⟨some 22, .bin .shr false (.t 20) (.t 21), none⟩,
   ⟨some 23, .ixa 1 (.t 18) (.t 19), none⟩,
   ⟨none, .store 1 (.t 23) (.t 22), none⟩]) (.seq (.region false [⟨some 24, .mov (.t 6), none⟩,
   ⟨some 25, .bin .add false (.t 24) (.c (iv 1)), none⟩,
   ⟨some 26, .mov (.t 0), none⟩,
   ⟨some 27, .len (.t 26), none⟩,
   ⟨some 28, .bin .lss false (.t 25) (.t 27), none⟩]) (.cond (.t 28) (.region true [⟨some 29, .mov (.t 5), none⟩,
   ⟨some 30, .mov (.t 6), none⟩,
   ⟨some 31, .ixa 1 (.t 29) (.t 30), none⟩,
   ⟨some 32, .load none (.t 31), none⟩,
   ⟨some 33, .mov (.t 0), none⟩,
   ⟨some 34, .mov (.t 6), none⟩,
   ⟨some 35, .bin .add false (.t 34) (.c (iv 1)), none⟩,
   ⟨some 36, .ixa 1 (.t 33) (.t 35), none⟩,
   ⟨some 37, .load none (.t 36), none⟩,
   ⟨some 38, .bin .shl false (.t 37) (.c (nv 1)), none⟩,
   ⟨some 39, .mov (.t 1), none⟩,
   ⟨some 40, .bin .sub false (.c (nv 63)) (.t 39), none⟩,
   ⟨some 41, .bin .shl false (.t 38) (.t 40), none⟩,
   ⟨some 42, .bin .or false (.t 32) (.t 41), none⟩,
   ⟨some 43, .ixa 1 (.t 29) (.t 30), none⟩,
   ⟨none, .store 1 (.t 43) (.t 42), none⟩]) .skip))))) (.region false [⟨some 44, .bin .add false (.t 13) (.c (iv 1)), none⟩,
   ⟨some 13, .mov (.t 44), none⟩]))))))) (.seq (.region false [⟨some 45, .mov (.t 5), none⟩,
   ⟨some 46, .call F.nat_Norm [.t 45], none⟩,
   ⟨some 4, .mov (.t 46), none⟩]) .ret)))
def R.div_down : List VRes := [.tmp 4]
theorem K.div_down : resCode Try.prog Try.f96.ntmps (Try.f96.body.getD .skip) = C.div_down := by kernel_rfl
theorem Q.div_down : resResults Try.prog Try.f96.results.toList = some R.div_down := by kernel_rfl
theorem E.div_down : Try.prog.funcs[F.div_down]? = some Try.f96 := Try.func96
theorem B.div_down : Try.f96.body = some (Try.f96.body.getD .skip) := by kernel_rfl
theorem N.div_down : Try.f96.ntmps = 47 := Try.ntmps96

end Go.Proofs.Ytladcfeibpddeab
set_option linter.unusedSimpArgs false
set_option linter.unusedVariables false
set_option maxRecDepth 100000
set_option maxHeartbeats 4000000
namespace Go.Proofs.Ytladcfeibpddeab
open Go.VM
theorem hm : Try.prog.follows .mixedOrders = true := Try.checked.mixed
theorem two64 : 2 ≤ 18446744073709551616 := by decide

theorem getD_snoc (m : List Nat) (x : Nat) : (m ++ [x]).getD m.length 0 = x := by simp
theorem take_snoc' (m : List Nat) (x : Nat) : (m ++ [x]).take m.length = m := by simp

theorem trim_spec (t : Tok) (l : List Nat) (c : Nat) (hl : Lim 18446744073709551616 l) (hn : l.length ≤ 4398046511104) : VSpec Try.prog F.nat_trim c [nats t l] (fun r _ => r = nats t (digs 18446744073709551616 (val 18446744073709551616 l))) := by
  rw [← trim_digs two64 hl]
  refine spec_mk hm E.nat_trim B.nat_trim K.nat_trim Q.nat_trim (by rw [N.nat_trim]; simp) ?_
  unfold C.nat_trim R.nat_trim
  refine v_reg ?_
  simp only [vm, ite_true, ite_false, eq_self, reduceIte, Nat.reduceEqDiff, Option.map]
  refine vwp_seq (vwp_block (vwp_loop (fun n S => ∃ l', S.ρ 0 = nats t l' ∧ trimL l' = trimL l ∧ l'.length = n ∧ n ≤ l.length ∧ S.σ = noBlk ∧ S.c = c) l.length ⟨l, rfl, rfl, rfl, Nat.le_refl _, rfl, rfl⟩ ?_))
  rintro n ⟨ρ, σ, k⟩ ⟨l', h0, h1, h2, h3, rfl, rfl⟩
  dsimp only at h0
  refine vwp_seq (v_reg ?_)
  rcases snoc_cases l' with rfl | ⟨m, x, rfl⟩
  · have e : ¬ (0 : Int) < ([] : List Nat).length := by simp
    simp only [vm, ite_true, ite_false, eq_self, reduceIte, Nat.reduceEqDiff, Option.map, h0, e]
    refine v_cond ?_
    simp only [vm, ite_true, ite_false, eq_self, reduceIte, Nat.reduceEqDiff, Option.map]
    refine vwp_exit ?_
    simp only [vm, ite_true, ite_false, eq_self, reduceIte, Nat.reduceEqDiff, Option.map]
    refine v_reg ?_
    simp only [vm, ite_true, ite_false, eq_self, reduceIte, Nat.reduceEqDiff, Option.map, h0]
    refine vwp_ret ?_
    simp only [vm, ite_true, ite_false, eq_self, reduceIte, Nat.reduceEqDiff, Option.map]
    exact ⟨Nat.le_refl _, by rw [← h1]; rfl⟩
  · have e : (0 : Int) < (m ++ [x]).length := by simp
    have e1 : ((m ++ [x]).length - 1 : Int).toNat = m.length := by simp
    have e2 : (m ++ [x]).length = m.length + 1 := by simp
    simp only [vm, ite_true, ite_false, eq_self, reduceIte, Nat.reduceEqDiff, Option.map, h0, e, e1, getD_snoc]
    refine ⟨⟨by omega, by omega⟩, ⟨by omega, by omega⟩, by omega, v_cond ?_⟩
    simp only [vm, ite_true, ite_false, eq_self, reduceIte, Nat.reduceEqDiff, Option.map]
    refine ⟨fun g => vwp_skip ?_, fun g => vwp_exit ?_⟩
    · simp only [vm, ite_true, ite_false, eq_self, reduceIte, Nat.reduceEqDiff, Option.map]
      refine vwp_block (v_last ?_)
      simp only [vm, ite_true, ite_false, eq_self, reduceIte, Nat.reduceEqDiff, Option.map, h0, e1, take_snoc']
      refine ⟨by omega, by omega, m.length, by omega, m, rfl, ?_, rfl, by omega⟩
      rw [← h1, g, trimL_zero]
    · simp only [vm, ite_true, ite_false, eq_self, reduceIte, Nat.reduceEqDiff, Option.map]
      refine v_reg ?_
      simp only [vm, ite_true, ite_false, eq_self, reduceIte, Nat.reduceEqDiff, Option.map, h0]
      refine vwp_ret ?_
      simp only [vm, ite_true, ite_false, eq_self, reduceIte, Nat.reduceEqDiff, Option.map]
      exact ⟨Nat.le_refl _, by rw [← h1, trimL_pos _ _ g]⟩

/-- whose memory an answer lies in: none, or its own -/
def Tk (c c' : Nat) (t : Tok) : Prop := t = .nil ∨ ∃ i, t = .id i ∧ c ≤ i ∧ i < c'
theorem Tk.mono {c c' d d' : Nat} {t : Tok} (h : Tk c c' t) (h1 : d ≤ c) (h2 : c' ≤ d') : Tk d d' t := by
  rcases h with rfl | ⟨i, rfl, h3, h4⟩
  · exact .inl rfl
  · exact .inr ⟨i, rfl, by omega, by omega⟩
/-- a number's normal limbs in memory of its own -/
def NatR (c c' n : Nat) (v : V) : Prop := ∃ t, v = nats t (digs 18446744073709551616 n) ∧ Tk c c' t

theorem norm_spec (t : Tok) (l : List Nat) (c : Nat) (hl : Lim 18446744073709551616 l) (hn : l.length ≤ 4398046511104) : VSpec Try.prog F.nat_Norm c [nats t l] (fun r c' => NatR c c' (val 18446744073709551616 l) r) := by
  refine spec_mk hm E.nat_Norm B.nat_Norm K.nat_Norm Q.nat_Norm (by rw [N.nat_Norm]; simp) ?_
  unfold C.nat_Norm R.nat_Norm
  refine v_reg ?_
  simp only [vm, ite_true, ite_false, eq_self, reduceIte, Nat.reduceEqDiff, Option.map]
  refine v_reg ?_
  simp only [vm, ite_true, ite_false, eq_self, reduceIte, Nat.reduceEqDiff, Option.map]
  refine s_call (trim_spec t l c hl hn) (by simp only [vm, ite_true, ite_false, eq_self, reduceIte, Nat.reduceEqDiff, Option.map, List.map]) ?_
  rintro v c' hc rfl
  have hlen := digs_len_le two64 hl
  refine s_app0 (t := t) (l := digs 18446744073709551616 (val 18446744073709551616 l)) (by simp only [vm, ite_true, ite_false, eq_self, reduceIte, Nat.reduceEqDiff, Option.map]) (by simp only [vm, ite_true, ite_false, eq_self, reduceIte, Nat.reduceEqDiff, Option.map]) (by omega) (fun e => ?_) (fun e => ?_)
  · simp only [vm, ite_true, ite_false, eq_self, reduceIte, Nat.reduceEqDiff, Option.map]
    refine vwp_ret ?_
    simp only [vm, ite_true, ite_false, eq_self, reduceIte, Nat.reduceEqDiff, Option.map]
    exact ⟨hc, .nil, by rw [e]; rfl, .inl rfl⟩
  · simp only [vm, ite_true, ite_false, eq_self, reduceIte, Nat.reduceEqDiff, Option.map]
    refine v_freeze 2 (l := digs 18446744073709551616 (val 18446744073709551616 l)) rfl (by simp only [vm, ite_true, ite_false, eq_self, reduceIte, Nat.reduceEqDiff, Option.map]) hc (by omega) ?_
    refine vwp_ret ?_
    simp only [vm, ite_true, ite_false, eq_self, reduceIte, Nat.reduceEqDiff, Option.map, List.drop_zero, List.take_length]
    exact ⟨by omega, .id c', rfl, .inr ⟨c', rfl, hc, by omega⟩⟩

theorem from_spec (n c : Nat) (hn : n < 18446744073709551616) : VSpec Try.prog F.nat_From c [nv n] (fun r c' => NatR c c' n r) := by
  refine spec_mk hm E.nat_From B.nat_From K.nat_From Q.nat_From (by rw [N.nat_From]; simp) ?_
  unfold C.nat_From R.nat_From
  refine v_reg ?_
  simp only [vm, ite_true, ite_false, eq_self, reduceIte, Nat.reduceEqDiff, Option.map]
  refine vwp_seq (v_reg ?_)
  simp only [vm, ite_true, ite_false, eq_self, reduceIte, Nat.reduceEqDiff, Option.map]
  refine v_cond ?_
  simp only [vm, ite_true, ite_false, eq_self, reduceIte, Nat.reduceEqDiff, Option.map]
  refine ⟨fun g => v_reg ?_, fun g => vwp_skip ?_⟩
  · simp only [vm, ite_true, ite_false, eq_self, reduceIte, Nat.reduceEqDiff, Option.map]
    refine vwp_ret ?_
    simp only [vm, ite_true, ite_false, eq_self, reduceIte, Nat.reduceEqDiff, Option.map]
    exact ⟨Nat.le_refl _, .nil, by subst g; rfl, .inl rfl⟩
  · simp only [vm, ite_true, ite_false, eq_self, reduceIte, Nat.reduceEqDiff, Option.map]
    refine v_reg ?_
    simp only [vm, ite_true, ite_false, eq_self, reduceIte, Nat.reduceEqDiff, Option.map]
    refine s_bsl1 (n := n) (by simp only [vm, ite_true, ite_false, eq_self, reduceIte, Nat.reduceEqDiff, Option.map]) ?_
    simp only [vm, ite_true, ite_false, eq_self, reduceIte, Nat.reduceEqDiff, Option.map]
    refine vwp_ret ?_
    simp only [vm, ite_true, ite_false, eq_self, reduceIte, Nat.reduceEqDiff, Option.map]
    refine ⟨by omega, .id c, ?_, .inr ⟨c, rfl, by omega, by omega⟩⟩
    rw [digs_pos two64 (by omega), Nat.mod_eq_of_lt hn, Nat.div_eq_of_lt hn]; rfl
end Go.Proofs.Ytladcfeibpddeab
set_option linter.unusedSimpArgs false
set_option linter.unusedVariables false
set_option maxRecDepth 100000
set_option maxHeartbeats 4000000
namespace Go.Proofs.Ytladcfeibpddeab
open Go.VM

theorem len64_spec (x c : Nat) (hx : x < 18446744073709551616) : VSpec Try.prog F.bits_Len64 c [nv x] (fun r _ => r = iv (bl x)) := by
  refine spec_mk hm E.bits_Len64 B.bits_Len64 K.bits_Len64 Q.bits_Len64 (by rw [N.bits_Len64]; simp) ?_
  unfold C.bits_Len64 R.bits_Len64
  refine v_reg ?_
  simp only [vm, ite_true, ite_false, eq_self, reduceIte, Nat.reduceEqDiff, Option.map]
  refine v_cut (fun S => ∃ n y : Nat, S.ρ 0 = nv y ∧ S.ρ 2 = iv n ∧ y < 4294967296 ∧ bl x = n + bl y ∧ n ≤ 32 ∧ S.σ = noBlk ∧ S.c = c) ?_ ?_
  · refine v_reg ?_
    simp only [vm, ite_true, ite_false, eq_self, reduceIte, Nat.reduceEqDiff, Option.map]
    refine v_cond ?_
    simp only [vm, ite_true, ite_false, eq_self, reduceIte, Nat.reduceEqDiff, Option.map]
    refine ⟨fun g => v_reg ?_, fun g => vwp_skip ⟨rfl, 0, x, ?_⟩⟩
    · simp only [vm, ite_true, ite_false, eq_self, reduceIte, Nat.reduceEqDiff, Option.map]
      refine v_last ?_
      simp only [vm, ite_true, ite_false, eq_self, reduceIte, Nat.reduceEqDiff, Option.map]
      exact ⟨32, x / 4294967296, rfl, rfl, by omega, bl_shift (k := 32) g, by omega⟩
    · simp only [vm, ite_true, ite_false, eq_self, reduceIte, Nat.reduceEqDiff, Option.map]
      exact ⟨rfl, by omega, by omega⟩
  rintro ⟨ρ, σ, k⟩ ⟨n, y, h0, h2, hy, hb, hn, rfl, rfl⟩
  dsimp only at h0 h2
  refine v_cut (fun S => ∃ n y : Nat, S.ρ 0 = nv y ∧ S.ρ 2 = iv n ∧ y < 65536 ∧ bl x = n + bl y ∧ n ≤ 48 ∧ S.σ = noBlk ∧ S.c = k) ?_ ?_
  · refine v_reg ?_
    simp only [vm, ite_true, ite_false, eq_self, reduceIte, Nat.reduceEqDiff, Option.map, h0, h2]
    refine v_cond ?_
    simp only [vm, ite_true, ite_false, eq_self, reduceIte, Nat.reduceEqDiff, Option.map]
    refine ⟨fun g => v_reg ?_, fun g => vwp_skip ⟨rfl, n, y, ?_⟩⟩
    · simp only [vm, ite_true, ite_false, eq_self, reduceIte, Nat.reduceEqDiff, Option.map, h0, h2]
      refine v_last ?_
      simp only [vm, ite_true, ite_false, eq_self, reduceIte, Nat.reduceEqDiff, Option.map, h0, h2]
      refine ⟨by omega, n + 16, y / 65536, rfl, rfl, by omega, ?_, by omega⟩
      rw [hb, bl_shift (k := 16) g, Nat.add_assoc]
    · simp only [vm, ite_true, ite_false, eq_self, reduceIte, Nat.reduceEqDiff, Option.map, h0, h2]
      exact ⟨by omega, hb, by omega⟩
  rintro ⟨ρ, σ, k⟩ ⟨n, y, h0, h2, hy, hb, hn, rfl, rfl⟩
  dsimp only at h0 h2
  refine v_cut (fun S => ∃ n y : Nat, S.ρ 0 = nv y ∧ S.ρ 2 = iv n ∧ y < 256 ∧ bl x = n + bl y ∧ n ≤ 56 ∧ S.σ = noBlk ∧ S.c = k) ?_ ?_
  · refine v_reg ?_
    simp only [vm, ite_true, ite_false, eq_self, reduceIte, Nat.reduceEqDiff, Option.map, h0, h2]
    refine v_cond ?_
    simp only [vm, ite_true, ite_false, eq_self, reduceIte, Nat.reduceEqDiff, Option.map]
    refine ⟨fun g => v_reg ?_, fun g => vwp_skip ⟨rfl, n, y, ?_⟩⟩
    · simp only [vm, ite_true, ite_false, eq_self, reduceIte, Nat.reduceEqDiff, Option.map, h0, h2]
      refine v_last ?_
      simp only [vm, ite_true, ite_false, eq_self, reduceIte, Nat.reduceEqDiff, Option.map, h0, h2]
      refine ⟨by omega, n + 8, y / 256, rfl, rfl, by omega, ?_, by omega⟩
      rw [hb, bl_shift (k := 8) g, Nat.add_assoc]
    · simp only [vm, ite_true, ite_false, eq_self, reduceIte, Nat.reduceEqDiff, Option.map, h0, h2]
      exact ⟨by omega, hb, by omega⟩
  rintro ⟨ρ, σ, k⟩ ⟨n, y, h0, h2, hy, hb, hn, rfl, rfl⟩
  dsimp only at h0 h2
  have h8 : bl y ≤ 8 := bl_le hy
  refine v_reg ?_
  simp only [vm, ite_true, ite_false, eq_self, reduceIte, Nat.reduceEqDiff, Option.map, h0, h2, Nat.mod_eq_of_lt hy]
  rw [six_tab (blTab_at (by decide +kernel) hy)]
  simp only [vm, ite_true, ite_false, eq_self, reduceIte, Nat.reduceEqDiff, Option.map, h0, h2, c_8i (n := bl y) (by omega)]
  refine ⟨by omega, vwp_ret ?_⟩
  simp only [vm, ite_true, ite_false, eq_self, reduceIte, Nat.reduceEqDiff, Option.map]
  refine ⟨Nat.le_refl _, ?_⟩
  rw [hb]; rfl

theorem length_spec (t : Tok) (l : List Nat) (c : Nat) (hl : Lim 18446744073709551616 l) (hn : l.length ≤ 4398046511104) : VSpec Try.prog F.nat_Length c [nats t l] (fun r _ => r = iv (bl (val 18446744073709551616 l))) := by
  refine spec_mk hm E.nat_Length B.nat_Length K.nat_Length Q.nat_Length (by rw [N.nat_Length]; simp) ?_
  unfold C.nat_Length R.nat_Length
  refine v_reg ?_
  simp only [vm, ite_true, ite_false, eq_self, reduceIte, Nat.reduceEqDiff, Option.map]
  refine v_reg ?_
  simp only [vm, ite_true, ite_false, eq_self, reduceIte, Nat.reduceEqDiff, Option.map]
  refine s_call (trim_spec t l c hl hn) (by simp only [vm, ite_true, ite_false, eq_self, reduceIte, Nat.reduceEqDiff, Option.map, List.map]) ?_
  rintro v c' hc rfl
  have hlen := digs_len_le two64 hl
  simp only [vm, ite_true, ite_false, eq_self, reduceIte, Nat.reduceEqDiff, Option.map]
  refine vwp_seq (v_reg ?_)
  simp only [vm, ite_true, ite_false, eq_self, reduceIte, Nat.reduceEqDiff, Option.map]
  refine v_cond ?_
  simp only [vm, ite_true, ite_false, eq_self, reduceIte, Nat.reduceEqDiff, Option.map]
  refine ⟨fun g => v_reg ?_, fun g => vwp_skip ?_⟩
  · simp only [vm, ite_true, ite_false, eq_self, reduceIte, Nat.reduceEqDiff, Option.map]
    refine vwp_ret ?_
    simp only [vm, ite_true, ite_false, eq_self, reduceIte, Nat.reduceEqDiff, Option.map]
    have e : digs 18446744073709551616 (val 18446744073709551616 l) = [] := List.eq_nil_of_length_eq_zero (by omega)
    rw [(digs_eq_nil two64).1 e]
    exact ⟨hc, rfl⟩
  · simp only [vm, ite_true, ite_false, eq_self, reduceIte, Nat.reduceEqDiff, Option.map]
    obtain ⟨m, x, e⟩ := snoc_of_ne (l := digs 18446744073709551616 (val 18446744073709551616 l)) (fun e => g (by rw [e]; rfl))
    obtain ⟨h1, h2, h3⟩ := bl_digs64 e
    rw [e] at hlen ⊢
    have e1 : ((m ++ [x]).length - 1 : Int).toNat = m.length := by simp
    have e2 : (m ++ [x]).length = m.length + 1 := by simp
    refine v_reg ?_
    simp only [vm, ite_true, ite_false, eq_self, reduceIte, Nat.reduceEqDiff, Option.map, e1, getD_snoc]
    refine ⟨by omega, by omega, by omega, by omega, by omega, ?_⟩
    refine s_call (len64_spec x c' h2) (by simp only [vm, ite_true, ite_false, eq_self, reduceIte, Nat.reduceEqDiff, Option.map, List.map]) ?_
    rintro v c2 hc2 rfl
    have h8 : bl x ≤ 64 := bl_le h2
    simp only [vm, ite_true, ite_false, eq_self, reduceIte, Nat.reduceEqDiff, Option.map]
    refine ⟨by omega, vwp_ret ?_⟩
    simp only [vm, ite_true, ite_false, eq_self, reduceIte, Nat.reduceEqDiff, Option.map]
    refine ⟨by omega, ?_⟩
    congr 2
    omega
end Go.Proofs.Ytladcfeibpddeab
set_option linter.unusedSimpArgs false
set_option linter.unusedVariables false
set_option maxRecDepth 100000
set_option maxHeartbeats 4000000
namespace Go.Proofs.Ytladcfeibpddeab
open Go.VM

theorem lz64_spec (x c : Nat) (hx : x < 18446744073709551616) : VSpec Try.prog F.bits_LeadingZeros64 c [nv x] (fun r _ => r = iv (64 - bl x)) := by
  refine spec_mk hm E.bits_LeadingZeros64 B.bits_LeadingZeros64 K.bits_LeadingZeros64 Q.bits_LeadingZeros64 (by rw [N.bits_LeadingZeros64]; simp) ?_
  unfold C.bits_LeadingZeros64 R.bits_LeadingZeros64
  have h8 : bl x ≤ 64 := bl_le hx
  refine v_reg ?_
  simp only [vm, ite_true, ite_false, eq_self, reduceIte, Nat.reduceEqDiff, Option.map]
  refine v_reg ?_
  simp only [vm, ite_true, ite_false, eq_self, reduceIte, Nat.reduceEqDiff, Option.map]
  refine s_call (len64_spec x c hx) (by simp only [vm, ite_true, ite_false, eq_self, reduceIte, Nat.reduceEqDiff, Option.map, List.map]) ?_
  rintro v c2 hc2 rfl
  simp only [vm, ite_true, ite_false, eq_self, reduceIte, Nat.reduceEqDiff, Option.map]
  refine ⟨by omega, vwp_ret ?_⟩
  simp only [vm, ite_true, ite_false, eq_self, reduceIte, Nat.reduceEqDiff, Option.map]
  exact hc2

theorem mul64_spec (x y c : Nat) (hx : x < 18446744073709551616) (hy : y < 18446744073709551616) : VSpec Try.prog F.bits_Mul64 c [nv x, nv y] (fun r _ => r = .tup [nv (x * y / 18446744073709551616), nv (x * y % 18446744073709551616)]) := by
  refine spec_mk hm E.bits_Mul64 B.bits_Mul64 K.bits_Mul64 Q.bits_Mul64 (by rw [N.bits_Mul64]; simp) ?_
  unfold C.bits_Mul64 R.bits_Mul64
  obtain ⟨h1, h2, h3, h4⟩ := Go.Lib.mul64_hi x y hx hy
  have hb : x * y < 18446744073709551616 * 18446744073709551616 := Nat.mul_lt_mul'' hx hy
  have h5 : x / 4294967296 * (y / 4294967296) < 18446744073709551616 := by
    have := Go.Lib.half_mul_le (a := x / 4294967296) (b := y / 4294967296) (by omega) (by omega)
    omega
  have h6 : x / 4294967296 * (y % 4294967296) < 18446744073709551616 := by
    have := Go.Lib.half_mul_le (a := x / 4294967296) (b := y % 4294967296) (by omega) (by omega)
    omega
  have h7 : x % 4294967296 * (y / 4294967296) < 18446744073709551616 := by
    have := Go.Lib.half_mul_le (a := x % 4294967296) (b := y / 4294967296) (by omega) (by omega)
    omega
  refine v_reg ?_
  simp only [vm, ite_true, ite_false, eq_self, reduceIte, Nat.reduceEqDiff, Option.map]
  refine v_reg ?_
  simp only [vm, ite_true, ite_false, eq_self, reduceIte, Nat.reduceEqDiff, Option.map]
  refine v_reg ?_
  simp only [vm, ite_true, ite_false, eq_self, reduceIte, Nat.reduceEqDiff, Option.map]
  refine v_reg ?_
  simp only [vm, ite_true, ite_false, eq_self, reduceIte, Nat.reduceEqDiff, Option.map]
  refine v_reg ?_
  simp only [vm, ite_true, ite_false, eq_self, reduceIte, Nat.reduceEqDiff, Option.map]
  refine v_reg ?_
  simp only [vm, ite_true, ite_false, eq_self, reduceIte, Nat.reduceEqDiff, Option.map, Nat.mod_eq_of_lt h1]
  refine v_reg ?_
  simp only [vm, ite_true, ite_false, eq_self, reduceIte, Nat.reduceEqDiff, Option.map, Nat.mod_eq_of_lt h6, Nat.mod_eq_of_lt h2]
  refine v_reg ?_
  simp only [vm, ite_true, ite_false, eq_self, reduceIte, Nat.reduceEqDiff, Option.map]
  refine v_reg ?_
  simp only [vm, ite_true, ite_false, eq_self, reduceIte, Nat.reduceEqDiff, Option.map]
  refine v_reg ?_
  simp only [vm, ite_true, ite_false, eq_self, reduceIte, Nat.reduceEqDiff, Option.map, Nat.mod_eq_of_lt h7, Nat.mod_eq_of_lt h3]
  refine v_reg ?_
  simp only [vm, ite_true, ite_false, eq_self, reduceIte, Nat.reduceEqDiff, Option.map, Nat.mod_eq_of_lt h5]
  refine v_reg ?_
  simp only [vm, ite_true, ite_false, eq_self, reduceIte, Nat.reduceEqDiff, Option.map]
  refine vwp_ret ?_
  simp only [vm, ite_true, ite_false, eq_self, reduceIte, Nat.reduceEqDiff, Option.map]
  refine ⟨Nat.le_refl _, ?_⟩
  rw [Nat.mod_add_mod, h4, Nat.mod_eq_of_lt (by omega)]

theorem told_spec (t : Tok) (l : List Nat) (c : Nat) (hl : Lim 18446744073709551616 l) (hn : l.length ≤ 4398046511104) : VSpec Try.prog F.nat_told c [nats t l]
    (fun r _ => r = if bl (val 18446744073709551616 l) ≤ 67108864 then .tup [nats t (digs 18446744073709551616 (val 18446744073709551616 l)), iv 0] else .tup [nil1, iv 3]) := by
  refine spec_mk hm E.nat_told B.nat_told K.nat_told Q.nat_told (by rw [N.nat_told]; simp) ?_
  unfold C.nat_told R.nat_told
  have hlen := digs_len_le two64 hl
  refine v_reg ?_
  simp only [vm, ite_true, ite_false, eq_self, reduceIte, Nat.reduceEqDiff, Option.map]
  refine v_reg ?_
  simp only [vm, ite_true, ite_false, eq_self, reduceIte, Nat.reduceEqDiff, Option.map]
  refine s_call (trim_spec t l c hl hn) (by simp only [vm, ite_true, ite_false, eq_self, reduceIte, Nat.reduceEqDiff, Option.map, List.map]) ?_
  rintro v c' hc rfl
  simp only [vm, ite_true, ite_false, eq_self, reduceIte, Nat.reduceEqDiff, Option.map]
  refine vwp_seq (v_reg ?_)
  simp only [vm, ite_true, ite_false, eq_self, reduceIte, Nat.reduceEqDiff, Option.map]
  refine s_call (length_spec t (digs 18446744073709551616 (val 18446744073709551616 l)) c' (lim_digs two64 _) (by omega)) (by simp only [vm, ite_true, ite_false, eq_self, reduceIte, Nat.reduceEqDiff, Option.map, List.map]) ?_
  rintro v c2 hc2 rfl
  simp only [vm, ite_true, ite_false, eq_self, reduceIte, Nat.reduceEqDiff, Option.map, val_digs two64]
  refine v_cond ?_
  simp only [vm, ite_true, ite_false, eq_self, reduceIte, Nat.reduceEqDiff, Option.map]
  refine ⟨fun g => v_reg ?_, fun g => vwp_skip ?_⟩
  · simp only [vm, ite_true, ite_false, eq_self, reduceIte, Nat.reduceEqDiff, Option.map]
    refine vwp_ret ?_
    simp only [vm, ite_true, ite_false, eq_self, reduceIte, Nat.reduceEqDiff, Option.map]
    exact ⟨by omega, by rw [if_neg (by omega)]⟩
  · simp only [vm, ite_true, ite_false, eq_self, reduceIte, Nat.reduceEqDiff, Option.map]
    refine v_reg ?_
    simp only [vm, ite_true, ite_false, eq_self, reduceIte, Nat.reduceEqDiff, Option.map]
    refine vwp_ret ?_
    simp only [vm, ite_true, ite_false, eq_self, reduceIte, Nat.reduceEqDiff, Option.map]
    exact ⟨by omega, by rw [if_pos (by omega)]⟩

/-- the order of two numbers, as the code tells it -/
def cmpI (a b : Nat) : Int := if a < b then -1 else if a = b then 0 else 1

theorem compare_spec (t u : Tok) (a b : List Nat) (c : Nat) (ha : Lim 18446744073709551616 a) (hb : Lim 18446744073709551616 b) (hna : a.length ≤ 1099511627776) (hnb : b.length ≤ 1099511627776) : VSpec Try.prog F.nat_Compare c [nats t a, nats u b] (fun r _ => r = iv (cmpI (val 18446744073709551616 a) (val 18446744073709551616 b))) := by
  refine spec_mk hm E.nat_Compare B.nat_Compare K.nat_Compare Q.nat_Compare (by rw [N.nat_Compare]; simp) ?_
  unfold C.nat_Compare R.nat_Compare
  have hla := digs_len_le two64 ha
  have hlb := digs_len_le two64 hb
  have hda := lim_digs two64 (val 18446744073709551616 a)
  have hdb := lim_digs two64 (val 18446744073709551616 b)
  refine v_reg ?_
  simp only [vm, ite_true, ite_false, eq_self, reduceIte, Nat.reduceEqDiff, Option.map]
  refine v_reg ?_
  simp only [vm, ite_true, ite_false, eq_self, reduceIte, Nat.reduceEqDiff, Option.map]
  refine s_call (trim_spec t a c ha (by omega)) (by simp only [vm, ite_true, ite_false, eq_self, reduceIte, Nat.reduceEqDiff, Option.map, List.map]) ?_
  rintro v c' hc rfl
  simp only [vm, ite_true, ite_false, eq_self, reduceIte, Nat.reduceEqDiff, Option.map]
  refine s_call (trim_spec u b c' hb (by omega)) (by simp only [vm, ite_true, ite_false, eq_self, reduceIte, Nat.reduceEqDiff, Option.map, List.map]) ?_
  rintro v c2 hc2 rfl
  have va := val_digs two64 (val 18446744073709551616 a)
  have vb := val_digs two64 (val 18446744073709551616 b)
  have hlt := lt_of_len two64 (m := val 18446744073709551616 a) (n := val 18446744073709551616 b)
  have hgt := lt_of_len two64 (m := val 18446744073709551616 b) (n := val 18446744073709551616 a)
  generalize digs 18446744073709551616 (val 18446744073709551616 a) = x at *
  generalize digs 18446744073709551616 (val 18446744073709551616 b) = y at *
  generalize val 18446744073709551616 a = m at *
  generalize val 18446744073709551616 b = n at *
  simp only [vm, ite_true, ite_false, eq_self, reduceIte, Nat.reduceEqDiff, Option.map]
  refine vwp_seq (v_reg ?_)
  simp only [vm, ite_true, ite_false, eq_self, reduceIte, Nat.reduceEqDiff, Option.map]
  refine v_cond ?_
  simp only [vm, ite_true, ite_false, eq_self, reduceIte, Nat.reduceEqDiff, Option.map]
  refine ⟨fun g => vwp_seq (v_reg ?_), fun g => vwp_skip ?_⟩
  · simp only [vm, ite_true, ite_false, eq_self, reduceIte, Nat.reduceEqDiff, Option.map]
    refine v_cond ?_
    simp only [vm, ite_true, ite_false, eq_self, reduceIte, Nat.reduceEqDiff, Option.map]
    refine ⟨fun g2 => v_reg ?_, fun g2 => vwp_skip ?_⟩
    · simp only [vm, ite_true, ite_false, eq_self, reduceIte, Nat.reduceEqDiff, Option.map]
      refine vwp_ret ?_
      simp only [vm, ite_true, ite_false, eq_self, reduceIte, Nat.reduceEqDiff, Option.map]
      exact ⟨by omega, by rw [cmpI, if_pos (hlt (by omega))]⟩
    · simp only [vm, ite_true, ite_false, eq_self, reduceIte, Nat.reduceEqDiff, Option.map]
      refine v_reg ?_
      simp only [vm, ite_true, ite_false, eq_self, reduceIte, Nat.reduceEqDiff, Option.map]
      refine vwp_ret ?_
      simp only [vm, ite_true, ite_false, eq_self, reduceIte, Nat.reduceEqDiff, Option.map]
      have := hgt (by omega)
      exact ⟨by omega, by rw [cmpI, if_neg (by omega), if_neg (by omega)]⟩
  · simp only [vm, ite_true, ite_false, eq_self, reduceIte, Nat.reduceEqDiff, Option.map]
    have hxy : x.length = y.length := by omega
    refine vwp_seq (v_reg ?_)
    simp only [vm, ite_true, ite_false, eq_self, reduceIte, Nat.reduceEqDiff, Option.map]
    refine ⟨by omega, vwp_block (vwp_loop (fun k S => S.ρ 0 = nats t x ∧ S.ρ 1 = nats u y ∧ S.ρ 5 = iv ((k : Int) - 1) ∧ k ≤ x.length ∧ val 18446744073709551616 (x.drop k) = val 18446744073709551616 (y.drop k) ∧ S.σ = noBlk ∧ S.c = c2) x.length ⟨rfl, rfl, rfl, Nat.le_refl _, ?_, rfl, rfl⟩ ?_)⟩
    · rw [List.drop_of_length_le (Nat.le_refl _), hxy, List.drop_of_length_le (Nat.le_refl _)]
    rintro k ⟨ρ, σ, c3⟩ ⟨h0, h1, h5, hk, hv, hσ, hc3⟩
    dsimp only at h0 h1 h5 hσ hc3
    subst hσ hc3
    (repeat (first | refine v_reg ?_ | refine v_last ?_ | refine vwp_seq ?_ | refine vwp_block ?_ | refine vwp_skip ?_ | refine vwp_exit ?_ | refine vwp_ret ?_ | refine v_cond ?_)); simp only [vm, ite_true, ite_false, eq_self, reduceIte, Nat.reduceEqDiff, Option.map, h0, h1, h5]
    (repeat (first | refine v_reg ?_ | refine v_last ?_ | refine vwp_seq ?_ | refine vwp_block ?_ | refine vwp_skip ?_ | refine vwp_exit ?_ | refine vwp_ret ?_ | refine v_cond ?_)); simp only [vm, ite_true, ite_false, eq_self, reduceIte, Nat.reduceEqDiff, Option.map]
    refine ⟨fun g3 => ?_, fun g3 => ?_⟩
    · (repeat (first | refine v_reg ?_ | refine v_last ?_ | refine vwp_seq ?_ | refine vwp_block ?_ | refine vwp_skip ?_ | refine vwp_exit ?_ | refine vwp_ret ?_ | refine v_cond ?_)); simp only [vm, ite_true, ite_false, eq_self, reduceIte, Nat.reduceEqDiff, Option.map]
      obtain ⟨i, rfl⟩ : ∃ i, k = i + 1 := ⟨k - 1, by omega⟩
      have e1 : (((i + 1 : Nat) : Int) - 1).toNat = i := by omega
      (repeat (first | refine v_reg ?_ | refine v_last ?_ | refine vwp_seq ?_ | refine vwp_block ?_ | refine vwp_skip ?_ | refine vwp_exit ?_ | refine vwp_ret ?_ | refine v_cond ?_)); simp only [vm, ite_true, ite_false, eq_self, reduceIte, Nat.reduceEqDiff, Option.map, h0, h1, h5, e1]
      refine ⟨by omega, by omega, by omega, by omega, ?_⟩
      (repeat (first | refine v_reg ?_ | refine v_last ?_ | refine vwp_seq ?_ | refine vwp_block ?_ | refine vwp_skip ?_ | refine vwp_exit ?_ | refine vwp_ret ?_ | refine v_cond ?_)); simp only [vm, ite_true, ite_false, eq_self, reduceIte, Nat.reduceEqDiff, Option.map]
      refine ⟨fun g4 => ?_, fun g4 => ?_⟩
      · (repeat (first | refine v_reg ?_ | refine v_last ?_ | refine vwp_seq ?_ | refine vwp_block ?_ | refine vwp_skip ?_ | refine vwp_exit ?_ | refine vwp_ret ?_ | refine v_cond ?_)); simp only [vm, ite_true, ite_false, eq_self, reduceIte, Nat.reduceEqDiff, Option.map]
        (repeat (first | refine v_reg ?_ | refine v_last ?_ | refine vwp_seq ?_ | refine vwp_block ?_ | refine vwp_skip ?_ | refine vwp_exit ?_ | refine vwp_ret ?_ | refine v_cond ?_)); simp only [vm, ite_true, ite_false, eq_self, reduceIte, Nat.reduceEqDiff, Option.map]
        have := val_lt_of_top two64 hda hdb (i := i) (by omega) (by omega) hxy hv g4
        exact ⟨by omega, by rw [cmpI, if_pos (by omega)]⟩
      · (repeat (first | refine v_reg ?_ | refine v_last ?_ | refine vwp_seq ?_ | refine vwp_block ?_ | refine vwp_skip ?_ | refine vwp_exit ?_ | refine vwp_ret ?_ | refine v_cond ?_)); simp only [vm, ite_true, ite_false, eq_self, reduceIte, Nat.reduceEqDiff, Option.map]
        (repeat (first | refine v_reg ?_ | refine v_last ?_ | refine vwp_seq ?_ | refine vwp_block ?_ | refine vwp_skip ?_ | refine vwp_exit ?_ | refine vwp_ret ?_ | refine v_cond ?_)); simp only [vm, ite_true, ite_false, eq_self, reduceIte, Nat.reduceEqDiff, Option.map, h0, h1, h5, e1]
        refine ⟨by omega, by omega, by omega, by omega, ?_⟩
        (repeat (first | refine v_reg ?_ | refine v_last ?_ | refine vwp_seq ?_ | refine vwp_block ?_ | refine vwp_skip ?_ | refine vwp_exit ?_ | refine vwp_ret ?_ | refine v_cond ?_)); simp only [vm, ite_true, ite_false, eq_self, reduceIte, Nat.reduceEqDiff, Option.map]
        refine ⟨fun g5 => ?_, fun g5 => ?_⟩
        · (repeat (first | refine v_reg ?_ | refine v_last ?_ | refine vwp_seq ?_ | refine vwp_block ?_ | refine vwp_skip ?_ | refine vwp_exit ?_ | refine vwp_ret ?_ | refine v_cond ?_)); simp only [vm, ite_true, ite_false, eq_self, reduceIte, Nat.reduceEqDiff, Option.map]
          (repeat (first | refine v_reg ?_ | refine v_last ?_ | refine vwp_seq ?_ | refine vwp_block ?_ | refine vwp_skip ?_ | refine vwp_exit ?_ | refine vwp_ret ?_ | refine v_cond ?_)); simp only [vm, ite_true, ite_false, eq_self, reduceIte, Nat.reduceEqDiff, Option.map]
          have := val_lt_of_top two64 hdb hda (i := i) (by omega) (by omega) hxy.symm hv.symm g5
          exact ⟨by omega, by rw [cmpI, if_neg (by omega), if_neg (by omega)]⟩
        · (repeat (first | refine v_reg ?_ | refine v_last ?_ | refine vwp_seq ?_ | refine vwp_block ?_ | refine vwp_skip ?_ | refine vwp_exit ?_ | refine vwp_ret ?_ | refine v_cond ?_)); simp only [vm, ite_true, ite_false, eq_self, reduceIte, Nat.reduceEqDiff, Option.map]
          (repeat (first | refine v_reg ?_ | refine v_last ?_ | refine vwp_seq ?_ | refine vwp_block ?_ | refine vwp_skip ?_ | refine vwp_exit ?_ | refine vwp_ret ?_ | refine v_cond ?_)); simp only [vm, ite_true, ite_false, eq_self, reduceIte, Nat.reduceEqDiff, Option.map, h0, h1, h5]
          refine ⟨by omega, i, by omega, congrArg iv (by omega), by omega, ?_⟩
          rw [val_drop (l := x) (i := i) (by omega), val_drop (l := y) (i := i) (by omega), hv, show x.getD i 0 = y.getD i 0 by omega]
    · (repeat (first | refine v_reg ?_ | refine v_last ?_ | refine vwp_seq ?_ | refine vwp_block ?_ | refine vwp_skip ?_ | refine vwp_exit ?_ | refine vwp_ret ?_ | refine v_cond ?_)); simp only [vm, ite_true, ite_false, eq_self, reduceIte, Nat.reduceEqDiff, Option.map]
      (repeat (first | refine v_reg ?_ | refine v_last ?_ | refine vwp_seq ?_ | refine vwp_block ?_ | refine vwp_skip ?_ | refine vwp_exit ?_ | refine vwp_ret ?_ | refine v_cond ?_)); simp only [vm, ite_true, ite_false, eq_self, reduceIte, Nat.reduceEqDiff, Option.map]
      (repeat (first | refine v_reg ?_ | refine v_last ?_ | refine vwp_seq ?_ | refine vwp_block ?_ | refine vwp_skip ?_ | refine vwp_exit ?_ | refine vwp_ret ?_ | refine v_cond ?_)); simp only [vm, ite_true, ite_false, eq_self, reduceIte, Nat.reduceEqDiff, Option.map]
      have hk0 : k = 0 := by omega
      subst hk0
      rw [List.drop_zero, List.drop_zero] at hv
      exact ⟨by omega, by rw [cmpI, if_neg (by omega), if_pos (by omega)]⟩
end Go.Proofs.Ytladcfeibpddeab
set_option linter.unusedSimpArgs false
set_option linter.unusedVariables false
set_option maxRecDepth 100000
set_option maxHeartbeats 4000000
namespace Go.Proofs.Ytladcfeibpddeab
open Go.VM

/-- a number as an answer: or too many bits -/
def Told (c c' n : Nat) (v : V) : Prop := (bl n ≤ 67108864 ∧ ∃ t, v = .tup [nats t (digs 18446744073709551616 n), iv 0] ∧ Tk c c' t) ∨ (67108864 < bl n ∧ v = .tup [nil1, iv 3])

theorem add_spec (t u : Tok) (a b : List Nat) (c : Nat) (ha : Lim 18446744073709551616 a) (hb : Lim 18446744073709551616 b) (hna : a.length ≤ 1099511627776) (hnb : b.length ≤ 1099511627776) :
    VSpec Try.prog F.nat_Add c [nats t a, nats u b] (fun r c' => Told c c' (val 18446744073709551616 a + val 18446744073709551616 b) r) := by
  refine spec_mk hm E.nat_Add B.nat_Add K.nat_Add Q.nat_Add (by rw [N.nat_Add]; simp) ?_
  unfold C.nat_Add R.nat_Add
  have hla := digs_len_le two64 ha
  have hlb := digs_len_le two64 hb
  have hda := lim_digs two64 (val 18446744073709551616 a)
  have hdb := lim_digs two64 (val 18446744073709551616 b)
  have va := val_digs two64 (val 18446744073709551616 a)
  have vb := val_digs two64 (val 18446744073709551616 b)
  (repeat (first | refine v_reg ?_ | refine v_last ?_ | refine vwp_seq ?_ | refine vwp_block ?_ | refine vwp_skip ?_ | refine vwp_exit ?_ | refine vwp_ret ?_ | refine v_cond ?_)); simp only [vm, ite_true, ite_false, eq_self, reduceIte, Nat.reduceEqDiff, Option.map]
  (repeat (first | refine v_reg ?_ | refine v_last ?_ | refine vwp_seq ?_ | refine vwp_block ?_ | refine vwp_skip ?_ | refine vwp_exit ?_ | refine vwp_ret ?_ | refine v_cond ?_)); simp only [vm, ite_true, ite_false, eq_self, reduceIte, Nat.reduceEqDiff, Option.map]
  refine s_call (trim_spec t a c ha (by omega)) (by simp only [vm, ite_true, ite_false, eq_self, reduceIte, Nat.reduceEqDiff, Option.map, List.map]) ?_
  rintro v c' hc rfl
  simp only [vm, ite_true, ite_false, eq_self, reduceIte, Nat.reduceEqDiff, Option.map]
  refine s_call (trim_spec u b c' hb (by omega)) (by simp only [vm, ite_true, ite_false, eq_self, reduceIte, Nat.reduceEqDiff, Option.map, List.map]) ?_
  rintro v c2 hc2 rfl
  simp only [vm, ite_true, ite_false, eq_self, reduceIte, Nat.reduceEqDiff, Option.map]
  refine v_cut (fun S => ∃ t u x y, S.ρ 0 = nats t x ∧ S.ρ 1 = nats u y ∧ S.ρ 4 = nil1 ∧ S.ρ 5 = iv 0 ∧ Lim 18446744073709551616 x ∧ Lim 18446744073709551616 y ∧ y.length ≤ x.length ∧ x.length ≤ 1099511627776 ∧ val 18446744073709551616 x + val 18446744073709551616 y = val 18446744073709551616 a + val 18446744073709551616 b ∧ S.σ = noBlk ∧ S.c = c2) ?_ ?_
  · (repeat (first | refine v_reg ?_ | refine v_last ?_ | refine vwp_seq ?_ | refine vwp_block ?_ | refine vwp_skip ?_ | refine vwp_exit ?_ | refine vwp_ret ?_ | refine v_cond ?_)); simp only [vm, ite_true, ite_false, eq_self, reduceIte, Nat.reduceEqDiff, Option.map]
    (repeat (first | refine v_reg ?_ | refine v_last ?_ | refine vwp_seq ?_ | refine vwp_block ?_ | refine vwp_skip ?_ | refine vwp_exit ?_ | refine vwp_ret ?_ | refine v_cond ?_)); simp only [vm, ite_true, ite_false, eq_self, reduceIte, Nat.reduceEqDiff, Option.map]
    refine ⟨fun g => ?_, fun g => ?_⟩
    · (repeat (first | refine v_reg ?_ | refine v_last ?_ | refine vwp_seq ?_ | refine vwp_block ?_ | refine vwp_skip ?_ | refine vwp_exit ?_ | refine vwp_ret ?_ | refine v_cond ?_)); simp only [vm, ite_true, ite_false, eq_self, reduceIte, Nat.reduceEqDiff, Option.map]
      exact ⟨u, t, _, _, rfl, rfl, hdb, hda, by omega, by omega, by omega⟩
    · refine vwp_skip ?_
      simp only [vm, ite_true, ite_false, eq_self, reduceIte, Nat.reduceEqDiff, Option.map]
      exact ⟨t, u, _, _, rfl, rfl, hda, hdb, by omega, by omega, by omega⟩
  rintro ⟨ρ, σ, c3⟩ ⟨t, u, x, y, h0, h1, h4, h5, hx, hy, hxy, hxn, hv, hσ, hc3⟩
  dsimp only at h0 h1 h4 h5 hσ hc3
  subst hσ hc3
  (repeat (first | refine v_reg ?_ | refine v_last ?_ | refine vwp_seq ?_ | refine vwp_block ?_ | refine vwp_skip ?_ | refine vwp_exit ?_ | refine vwp_ret ?_ | refine v_cond ?_)); simp only [vm, ite_true, ite_false, eq_self, reduceIte, Nat.reduceEqDiff, Option.map, h0, h1]
  refine ⟨by omega, ?_⟩
  refine s_mk (n := x.length + 1) (m := x.length + 1) (by simp only [vm, ite_true, ite_false, eq_self, reduceIte, Nat.reduceEqDiff, Option.map]; rfl) (by simp only [vm, ite_true, ite_false, eq_self, reduceIte, Nat.reduceEqDiff, Option.map]; rfl) (Nat.le_refl _) (by omega) ?_
  simp only [vm, ite_true, ite_false, eq_self, reduceIte, Nat.reduceEqDiff, Option.map]
  (repeat (first | refine v_reg ?_ | refine v_last ?_ | refine vwp_seq ?_ | refine vwp_block ?_ | refine vwp_skip ?_ | refine vwp_exit ?_ | refine vwp_ret ?_ | refine v_cond ?_)); simp only [vm, ite_true, ite_false, eq_self, reduceIte, Nat.reduceEqDiff, Option.map]
  (repeat (first | refine v_reg ?_ | refine v_last ?_ | refine vwp_seq ?_ | refine vwp_block ?_ | refine vwp_skip ?_ | refine vwp_exit ?_ | refine vwp_ret ?_ | refine v_cond ?_)); simp only [vm, ite_true, ite_false, eq_self, reduceIte, Nat.reduceEqDiff, Option.map, h0, h1]
  (repeat (first | refine vwp_seq ?_ | refine vwp_block ?_))
  refine vwp_loop (fun k S => ∃ i w carry, k = x.length - i ∧ i ≤ x.length ∧ S.ρ 0 = nats t x ∧ S.ρ 1 = nats u y ∧ S.ρ 6 = .buf c3 0 (x.length + 1) (some (x.length + 1)) 1 ∧ S.ρ 7 = nv carry ∧ S.ρ 26 = iv x.length ∧ S.ρ 27 = iv i ∧ carry ≤ 1 ∧
    w.length = i ∧ Lim 18446744073709551616 w ∧ val 18446744073709551616 w + 18446744073709551616 ^ i * carry = val 18446744073709551616 (x.take i) + val 18446744073709551616 (y.take i) ∧ S.σ = supd noBlk c3 (nblk (w ++ List.replicate (x.length + 1 - i) 0)) ∧ S.c = c3 + 1) x.length ?_ ?_
  · refine ⟨0, [], 0, rfl, Nat.zero_le _, ?_⟩
    simp only [vm, ite_true, ite_false, eq_self, reduceIte, Nat.reduceEqDiff, Option.map, h0, h1]
    exact ⟨rfl, by omega, rfl, .nil, rfl, rfl⟩
  rintro k ⟨ρ2, σ, c4⟩ ⟨i, w, carry, hk, hi, h0, h1, h6, h7, h26, h27, hca, hw, hlw, hinv, hσ, hc4⟩
  dsimp only at h0 h1 h6 h7 h26 h27 hσ hc4
  subst hσ hc4
  (repeat (first | refine v_reg ?_ | refine v_last ?_ | refine vwp_seq ?_ | refine vwp_block ?_ | refine vwp_skip ?_ | refine vwp_exit ?_ | refine vwp_ret ?_ | refine v_cond ?_)); simp only [vm, ite_true, ite_false, eq_self, reduceIte, Nat.reduceEqDiff, Option.map, h26, h27]
  (repeat (first | refine v_reg ?_ | refine v_last ?_ | refine vwp_seq ?_ | refine vwp_block ?_ | refine vwp_skip ?_ | refine vwp_exit ?_ | refine vwp_ret ?_ | refine v_cond ?_)); simp only [vm, ite_true, ite_false, eq_self, reduceIte, Nat.reduceEqDiff, Option.map]
  refine ⟨fun g => ?_, fun g => ?_⟩
  · have hi' : i < x.length := by omega
    have hlen : (w ++ List.replicate (x.length + 1 - i) 0).length = x.length + 1 := by simp; omega
    have hset : ∀ v, (w ++ List.replicate (x.length + 1 - i) 0).set i v = (w ++ [v]) ++ List.replicate (x.length + 1 - (i + 1)) 0 := fun v => by
      have := set_fill w (x.length - i) v
      rw [hw] at this
      rw [show x.length + 1 - i = x.length - i + 1 by omega, this, show x.length + 1 - (i + 1) = x.length - i by omega]
    have hxi := hx.getD (i := i) (by decide)
    have hyi := hy.getD (i := i) (by decide)
    have key := add_step (b := 18446744073709551616) (m := x.getD i 0 + y.getD i 0) hw hinv
    rw [Nat.mul_add] at key
    have hx' := val_take' 18446744073709551616 x i
    have hy' := val_take' 18446744073709551616 y i
    have hci : (x.getD i 0 + y.getD i 0 + carry) / 18446744073709551616 ≤ 1 := by omega
    (repeat (first | refine v_reg ?_ | refine v_last ?_ | refine vwp_seq ?_ | refine vwp_block ?_ | refine vwp_skip ?_ | refine vwp_exit ?_ | refine vwp_ret ?_ | refine v_cond ?_)); simp only [vm, ite_true, ite_false, eq_self, reduceIte, Nat.reduceEqDiff, Option.map]
    (repeat (first | refine v_reg ?_ | refine v_last ?_ | refine vwp_seq ?_ | refine vwp_block ?_ | refine vwp_skip ?_ | refine vwp_exit ?_ | refine vwp_ret ?_ | refine v_cond ?_)); simp only [vm, ite_true, ite_false, eq_self, reduceIte, Nat.reduceEqDiff, Option.map, h0, h1, h6, h7, h26, h27]
    (repeat (first | refine v_reg ?_ | refine v_last ?_ | refine vwp_seq ?_ | refine vwp_block ?_ | refine vwp_skip ?_ | refine vwp_exit ?_ | refine vwp_ret ?_ | refine v_cond ?_)); simp only [vm, ite_true, ite_false, eq_self, reduceIte, Nat.reduceEqDiff, Option.map]
    by_cases g2 : (i : Int) < (y.length : Int)
    · (repeat (first | refine v_reg ?_ | refine v_last ?_ | refine vwp_seq ?_ | refine vwp_block ?_ | refine vwp_skip ?_ | refine vwp_exit ?_ | refine vwp_ret ?_ | refine v_cond ?_)); simp only [vm, ite_true, ite_false, eq_self, reduceIte, Nat.reduceEqDiff, Option.map, h0, h1, h6, h7, h26, h27, g2]
      (repeat (first | refine v_reg ?_ | refine v_last ?_ | refine vwp_seq ?_ | refine vwp_block ?_ | refine vwp_skip ?_ | refine vwp_exit ?_ | refine vwp_ret ?_ | refine v_cond ?_)); simp only [vm, ite_true, ite_false, eq_self, reduceIte, Nat.reduceEqDiff, Option.map]
      (repeat (first | refine v_reg ?_ | refine v_last ?_ | refine vwp_seq ?_ | refine vwp_block ?_ | refine vwp_skip ?_ | refine vwp_exit ?_ | refine vwp_ret ?_ | refine v_cond ?_)); simp only [vm, ite_true, ite_false, eq_self, reduceIte, Nat.reduceEqDiff, Option.map, h0, h1, h6, h7, h26, h27, g2]
      refine ⟨by omega, by omega, ?_⟩
      (repeat (first | refine v_reg ?_ | refine v_last ?_ | refine vwp_seq ?_ | refine vwp_block ?_ | refine vwp_skip ?_ | refine vwp_exit ?_ | refine vwp_ret ?_ | refine v_cond ?_)); simp only [vm, ite_true, ite_false, eq_self, reduceIte, Nat.reduceEqDiff, Option.map, h0, h1, h6, h7, h26, h27, g2, hlen, hset]
      (repeat refine And.intro (by omega) ?_)
      (repeat (first | refine v_reg ?_ | refine v_last ?_ | refine vwp_seq ?_ | refine vwp_block ?_ | refine vwp_skip ?_ | refine vwp_exit ?_ | refine vwp_ret ?_ | refine v_cond ?_)); simp only [vm, ite_true, ite_false, eq_self, reduceIte, Nat.reduceEqDiff, Option.map, h0, h1, h6, h7, h26, h27, g2, hlen, hset]
      refine ⟨by omega, x.length - (i + 1), by omega, i + 1, w ++ [(x.getD i 0 + y.getD i 0 + carry) % 18446744073709551616], (x.getD i 0 + y.getD i 0 + carry) / 18446744073709551616, ?_⟩
      (repeat' apply And.intro) <;> first | rfl | omega | assumption | (simp [hw]; done) | exact lim_snoc hlw (Nat.mod_lt _ (by decide)) | (rw [key, hx', hy']; omega)
    · have hy0 : y.getD i 0 = 0 := getD_ge (by omega)
      (repeat (first | refine v_reg ?_ | refine v_last ?_ | refine vwp_seq ?_ | refine vwp_block ?_ | refine vwp_skip ?_ | refine vwp_exit ?_ | refine vwp_ret ?_ | refine v_cond ?_)); simp only [vm, ite_true, ite_false, eq_self, reduceIte, Nat.reduceEqDiff, Option.map, h0, h1, h6, h7, h26, h27, g2]
      (repeat (first | refine v_reg ?_ | refine v_last ?_ | refine vwp_seq ?_ | refine vwp_block ?_ | refine vwp_skip ?_ | refine vwp_exit ?_ | refine vwp_ret ?_ | refine v_cond ?_)); simp only [vm, ite_true, ite_false, eq_self, reduceIte, Nat.reduceEqDiff, Option.map]
      (repeat (first | refine v_reg ?_ | refine v_last ?_ | refine vwp_seq ?_ | refine vwp_block ?_ | refine vwp_skip ?_ | refine vwp_exit ?_ | refine vwp_ret ?_ | refine v_cond ?_)); simp only [vm, ite_true, ite_false, eq_self, reduceIte, Nat.reduceEqDiff, Option.map]
      (repeat (first | refine v_reg ?_ | refine v_last ?_ | refine vwp_seq ?_ | refine vwp_block ?_ | refine vwp_skip ?_ | refine vwp_exit ?_ | refine vwp_ret ?_ | refine v_cond ?_)); simp only [vm, ite_true, ite_false, eq_self, reduceIte, Nat.reduceEqDiff, Option.map, h0, h1, h6, h7, h26, h27, g2, hlen, hset]
      (repeat refine And.intro (by omega) ?_)
      (repeat (first | refine v_reg ?_ | refine v_last ?_ | refine vwp_seq ?_ | refine vwp_block ?_ | refine vwp_skip ?_ | refine vwp_exit ?_ | refine vwp_ret ?_ | refine v_cond ?_)); simp only [vm, ite_true, ite_false, eq_self, reduceIte, Nat.reduceEqDiff, Option.map, h0, h1, h6, h7, h26, h27, g2, hlen, hset]
      rw [hy0] at key hy' hci
      simp only [Nat.add_zero] at key hci
      refine ⟨by omega, x.length - (i + 1), by omega, i + 1, w ++ [(x.getD i 0 + carry) % 18446744073709551616], (x.getD i 0 + carry) / 18446744073709551616, ?_⟩
      (repeat' apply And.intro) <;> first | rfl | omega | assumption | (simp [hw]; done) | exact lim_snoc hlw (Nat.mod_lt _ (by decide)) | (rw [key, hx', hy']; omega)
  · have hi' : i = x.length := by omega
    subst hi'
    have hset := set_fill w 0 carry
    rw [hw] at hset
    have hlen : (w ++ List.replicate (0 + 1) 0).length = x.length + 1 := by simp; omega
    rw [show x.length + 1 - x.length = 0 + 1 by omega] at *
    (repeat (first | refine v_reg ?_ | refine v_last ?_ | refine vwp_seq ?_ | refine vwp_block ?_ | refine vwp_skip ?_ | refine vwp_exit ?_ | refine vwp_ret ?_ | refine v_cond ?_)); simp only [vm, ite_true, ite_false, eq_self, reduceIte, Nat.reduceEqDiff, Option.map]
    (repeat (first | refine v_reg ?_ | refine v_last ?_ | refine vwp_seq ?_ | refine vwp_block ?_ | refine vwp_skip ?_ | refine vwp_exit ?_ | refine vwp_ret ?_ | refine v_cond ?_)); simp only [vm, ite_true, ite_false, eq_self, reduceIte, Nat.reduceEqDiff, Option.map, h0, h1, h6, h7, h26, h27, hlen, hset]
    refine ⟨by omega, by omega, ?_⟩
    have e0 : w ++ [carry] ++ List.replicate 0 0 = w ++ [carry] := by simp
    rw [e0]
    have hlz : Lim 18446744073709551616 (w ++ [carry]) := lim_snoc hlw (by omega)
    have hvz : val 18446744073709551616 (w ++ [carry]) = val 18446744073709551616 a + val 18446744073709551616 b := by
      rw [val_append, hw]
      simp only [val, Nat.mul_zero, Nat.add_zero]
      rw [hinv, List.take_length, val_take_all _ _ _ hxy, hv]
    have hnz : (w ++ [carry]).length = x.length + 1 := by simp; omega
    refine v_freeze 6 (t := c3) (off := 0) (n := x.length + 1) (cap := some (x.length + 1)) (l := w ++ [carry]) (by simp only [vm, ite_true, ite_false, eq_self, reduceIte, Nat.reduceEqDiff, Option.map, h6]) (by simp only [vm, ite_true, ite_false, eq_self, reduceIte, Nat.reduceEqDiff, Option.map]) (by omega) (by omega) ?_
    rw [List.drop_zero, show (w ++ [carry]).take (x.length + 1) = w ++ [carry] from List.take_of_length_le (by omega)]
    (repeat (first | refine v_reg ?_ | refine v_last ?_ | refine vwp_seq ?_ | refine vwp_block ?_ | refine vwp_skip ?_ | refine vwp_exit ?_ | refine vwp_ret ?_ | refine v_cond ?_)); simp only [vm, ite_true, ite_false, eq_self, reduceIte, Nat.reduceEqDiff, Option.map]
    refine s_call (told_spec (.id c3) (w ++ [carry]) (c3 + 1) hlz (by omega)) (by simp only [vm, ite_true, ite_false, eq_self, reduceIte, Nat.reduceEqDiff, Option.map, List.map]) ?_
    rintro v c5 hc5 rfl
    rw [hvz]
    by_cases gb : bl (val 18446744073709551616 a + val 18446744073709551616 b) ≤ 67108864
    · rw [if_pos gb]
      simp only [vm, ite_true, ite_false, eq_self, reduceIte, Nat.reduceEqDiff, Option.map]
      (repeat (first | refine v_reg ?_ | refine v_last ?_ | refine vwp_seq ?_ | refine vwp_block ?_ | refine vwp_skip ?_ | refine vwp_exit ?_ | refine vwp_ret ?_ | refine v_cond ?_)); simp only [vm, ite_true, ite_false, eq_self, reduceIte, Nat.reduceEqDiff, Option.map]
      exact ⟨by omega, .inl ⟨gb, .id c3, rfl, .inr ⟨c3, rfl, by omega, by omega⟩⟩⟩
    · rw [if_neg gb]
      simp only [vm, ite_true, ite_false, eq_self, reduceIte, Nat.reduceEqDiff, Option.map]
      (repeat (first | refine v_reg ?_ | refine v_last ?_ | refine vwp_seq ?_ | refine vwp_block ?_ | refine vwp_skip ?_ | refine vwp_exit ?_ | refine vwp_ret ?_ | refine v_cond ?_)); simp only [vm, ite_true, ite_false, eq_self, reduceIte, Nat.reduceEqDiff, Option.map]
      exact ⟨by omega, .inr ⟨by omega, rfl⟩⟩
end Go.Proofs.Ytladcfeibpddeab
set_option linter.unusedSimpArgs false
set_option linter.unusedVariables false
set_option maxRecDepth 100000
set_option maxHeartbeats 4000000
namespace Go.Proofs.Ytladcfeibpddeab
open Go.VM

theorem sub_spec (t u : Tok) (a b : List Nat) (c : Nat) (ha : Lim 18446744073709551616 a) (hb : Lim 18446744073709551616 b) (hna : a.length ≤ 1099511627776) (hnb : b.length ≤ 1099511627776) :
    VSpec Try.prog F.nat_Sub c [nats t a, nats u b] (fun r c' => if val 18446744073709551616 a < val 18446744073709551616 b then r = .tup [nil1, iv 10] else Told c c' (val 18446744073709551616 a - val 18446744073709551616 b) r) := by
  refine spec_mk hm E.nat_Sub B.nat_Sub K.nat_Sub Q.nat_Sub (by rw [N.nat_Sub]; simp) ?_
  unfold C.nat_Sub R.nat_Sub
  have hla := digs_len_le two64 ha
  have hlb := digs_len_le two64 hb
  (repeat (first | refine v_reg ?_ | refine v_last ?_ | refine vwp_seq ?_ | refine vwp_block ?_ | refine vwp_skip ?_ | refine vwp_exit ?_ | refine vwp_ret ?_ | refine v_cond ?_)); simp only [vm, ite_true, ite_false, eq_self, reduceIte, Nat.reduceEqDiff, Option.map]
  (repeat (first | refine v_reg ?_ | refine v_last ?_ | refine vwp_seq ?_ | refine vwp_block ?_ | refine vwp_skip ?_ | refine vwp_exit ?_ | refine vwp_ret ?_ | refine v_cond ?_)); simp only [vm, ite_true, ite_false, eq_self, reduceIte, Nat.reduceEqDiff, Option.map]
  refine s_call (compare_spec t u a b c ha hb hna hnb) (by simp only [vm, ite_true, ite_false, eq_self, reduceIte, Nat.reduceEqDiff, Option.map, List.map]) ?_
  rintro v c0 hc0 rfl
  simp only [vm, ite_true, ite_false, eq_self, reduceIte, Nat.reduceEqDiff, Option.map]
  (repeat (first | refine v_reg ?_ | refine v_last ?_ | refine vwp_seq ?_ | refine vwp_block ?_ | refine vwp_skip ?_ | refine vwp_exit ?_ | refine vwp_ret ?_ | refine v_cond ?_)); simp only [vm, ite_true, ite_false, eq_self, reduceIte, Nat.reduceEqDiff, Option.map]
  have hcmp : cmpI (val 18446744073709551616 a) (val 18446744073709551616 b) < 0 ↔ val 18446744073709551616 a < val 18446744073709551616 b := by unfold cmpI; split <;> (try split) <;> omega
  refine ⟨fun g => ?_, fun g => ?_⟩
  · rw [hcmp] at g
    (repeat (first | refine v_reg ?_ | refine v_last ?_ | refine vwp_seq ?_ | refine vwp_block ?_ | refine vwp_skip ?_ | refine vwp_exit ?_ | refine vwp_ret ?_ | refine v_cond ?_)); simp only [vm, ite_true, ite_false, eq_self, reduceIte, Nat.reduceEqDiff, Option.map]
    (repeat (first | refine v_reg ?_ | refine v_last ?_ | refine vwp_seq ?_ | refine vwp_block ?_ | refine vwp_skip ?_ | refine vwp_exit ?_ | refine vwp_ret ?_ | refine v_cond ?_)); simp only [vm, ite_true, ite_false, eq_self, reduceIte, Nat.reduceEqDiff, Option.map]
    exact ⟨hc0, by rw [if_pos g]; trivial⟩
  rw [hcmp] at g
  simp only [if_neg g]
  (repeat (first | refine v_reg ?_ | refine v_last ?_ | refine vwp_seq ?_ | refine vwp_block ?_ | refine vwp_skip ?_ | refine vwp_exit ?_ | refine vwp_ret ?_ | refine v_cond ?_)); simp only [vm, ite_true, ite_false, eq_self, reduceIte, Nat.reduceEqDiff, Option.map]
  (repeat (first | refine v_reg ?_ | refine v_last ?_ | refine vwp_seq ?_ | refine vwp_block ?_ | refine vwp_skip ?_ | refine vwp_exit ?_ | refine vwp_ret ?_ | refine v_cond ?_)); simp only [vm, ite_true, ite_false, eq_self, reduceIte, Nat.reduceEqDiff, Option.map]
  refine s_call (trim_spec t a c0 ha (by omega)) (by simp only [vm, ite_true, ite_false, eq_self, reduceIte, Nat.reduceEqDiff, Option.map, List.map]) ?_
  rintro v c1 hc1 rfl
  simp only [vm, ite_true, ite_false, eq_self, reduceIte, Nat.reduceEqDiff, Option.map]
  refine s_call (trim_spec u b c1 hb (by omega)) (by simp only [vm, ite_true, ite_false, eq_self, reduceIte, Nat.reduceEqDiff, Option.map, List.map]) ?_
  rintro v c2 hc2 rfl
  have hx := lim_digs two64 (val 18446744073709551616 a)
  have hy := lim_digs two64 (val 18446744073709551616 b)
  have va := val_digs two64 (val 18446744073709551616 a)
  have vb := val_digs two64 (val 18446744073709551616 b)
  have hxy : (digs 18446744073709551616 (val 18446744073709551616 b)).length ≤ (digs 18446744073709551616 (val 18446744073709551616 a)).length := le_len two64 (by omega)
  generalize digs 18446744073709551616 (val 18446744073709551616 a) = x at *
  generalize digs 18446744073709551616 (val 18446744073709551616 b) = y at *
  simp only [vm, ite_true, ite_false, eq_self, reduceIte, Nat.reduceEqDiff, Option.map]
  (repeat (first | refine v_reg ?_ | refine v_last ?_ | refine vwp_seq ?_ | refine vwp_block ?_ | refine vwp_skip ?_ | refine vwp_exit ?_ | refine vwp_ret ?_ | refine v_cond ?_)); simp only [vm, ite_true, ite_false, eq_self, reduceIte, Nat.reduceEqDiff, Option.map]
  refine s_mk (n := x.length) (m := x.length) (by simp only [vm, ite_true, ite_false, eq_self, reduceIte, Nat.reduceEqDiff, Option.map]) (by simp only [vm, ite_true, ite_false, eq_self, reduceIte, Nat.reduceEqDiff, Option.map]) (Nat.le_refl _) (by omega) ?_
  simp only [vm, ite_true, ite_false, eq_self, reduceIte, Nat.reduceEqDiff, Option.map]
  (repeat (first | refine v_reg ?_ | refine v_last ?_ | refine vwp_seq ?_ | refine vwp_block ?_ | refine vwp_skip ?_ | refine vwp_exit ?_ | refine vwp_ret ?_ | refine v_cond ?_)); simp only [vm, ite_true, ite_false, eq_self, reduceIte, Nat.reduceEqDiff, Option.map]
  (repeat (first | refine v_reg ?_ | refine v_last ?_ | refine vwp_seq ?_ | refine vwp_block ?_ | refine vwp_skip ?_ | refine vwp_exit ?_ | refine vwp_ret ?_ | refine v_cond ?_)); simp only [vm, ite_true, ite_false, eq_self, reduceIte, Nat.reduceEqDiff, Option.map]
  (repeat (first | refine vwp_seq ?_ | refine vwp_block ?_))
  refine vwp_loop (fun k S => ∃ i w bo, k = x.length - i ∧ i ≤ x.length ∧ S.ρ 0 = nats t x ∧ S.ρ 1 = nats u y ∧ S.ρ 6 = .buf c2 0 x.length (some x.length) 1 ∧ S.ρ 7 = nv bo ∧ S.ρ 22 = iv x.length ∧ S.ρ 23 = iv i ∧ bo ≤ 1 ∧
    w.length = i ∧ Lim 18446744073709551616 w ∧ val 18446744073709551616 w + val 18446744073709551616 (y.take i) = val 18446744073709551616 (x.take i) + 18446744073709551616 ^ i * bo ∧ S.σ = supd noBlk c2 (nblk (w ++ List.replicate (x.length - i) 0)) ∧ S.c = c2 + 1) x.length ?_ ?_
  · refine ⟨0, [], 0, rfl, Nat.zero_le _, ?_⟩
    simp only [vm, ite_true, ite_false, eq_self, reduceIte, Nat.reduceEqDiff, Option.map]
    (repeat' apply And.intro) <;> first | rfl | omega | assumption | exact Lim.nil
  rintro k ⟨ρ2, σ, c4⟩ ⟨i, w, bo, hk, hi, h0, h1, h6, h7, h22, h23, hbo, hw, hlw, hinv, hσ, hc4⟩
  dsimp only at h0 h1 h6 h7 h22 h23 hσ hc4
  subst hσ hc4
  (repeat (first | refine v_reg ?_ | refine v_last ?_ | refine vwp_seq ?_ | refine vwp_block ?_ | refine vwp_skip ?_ | refine vwp_exit ?_ | refine vwp_ret ?_ | refine v_cond ?_)); simp only [vm, ite_true, ite_false, eq_self, reduceIte, Nat.reduceEqDiff, Option.map, h22, h23]
  (repeat (first | refine v_reg ?_ | refine v_last ?_ | refine vwp_seq ?_ | refine vwp_block ?_ | refine vwp_skip ?_ | refine vwp_exit ?_ | refine vwp_ret ?_ | refine v_cond ?_)); simp only [vm, ite_true, ite_false, eq_self, reduceIte, Nat.reduceEqDiff, Option.map]
  refine ⟨fun g => ?_, fun g => ?_⟩
  · have hi' : i < x.length := by omega
    have hlen : (w ++ List.replicate (x.length - i) 0).length = x.length := by simp; omega
    have hset : ∀ v, (w ++ List.replicate (x.length - i) 0).set i v = (w ++ [v]) ++ List.replicate (x.length - (i + 1)) 0 := fun v => by
      have := set_fill w (x.length - (i + 1)) v
      rw [hw] at this
      rw [show x.length - i = x.length - (i + 1) + 1 by omega, this]
    have hxi := hx.getD (i := i) (by decide)
    have hyi := hy.getD (i := i) (by decide)
    have hx' := val_take' 18446744073709551616 x i
    have hy' := val_take' 18446744073709551616 y i
    have key := sub_step (b := 18446744073709551616) (c' := if x.getD i 0 < y.getD i 0 + bo then 1 else 0) (x := x.getD i 0) (y := y.getD i 0) (d := (x.getD i 0 + 18446744073709551616 - y.getD i 0 - bo) % 18446744073709551616) hw hinv (by split <;> omega)
    have hb1 : (if x.getD i 0 < y.getD i 0 + bo then 1 else 0) ≤ 1 := by split <;> omega
    rw [← hx', ← hy'] at key
    (repeat (first | refine v_reg ?_ | refine v_last ?_ | refine vwp_seq ?_ | refine vwp_block ?_ | refine vwp_skip ?_ | refine vwp_exit ?_ | refine vwp_ret ?_ | refine v_cond ?_)); simp only [vm, ite_true, ite_false, eq_self, reduceIte, Nat.reduceEqDiff, Option.map]
    (repeat (first | refine v_reg ?_ | refine v_last ?_ | refine vwp_seq ?_ | refine vwp_block ?_ | refine vwp_skip ?_ | refine vwp_exit ?_ | refine vwp_ret ?_ | refine v_cond ?_)); simp only [vm, ite_true, ite_false, eq_self, reduceIte, Nat.reduceEqDiff, Option.map, h0, h1, h6, h7, h22, h23]
    (repeat (first | refine v_reg ?_ | refine v_last ?_ | refine vwp_seq ?_ | refine vwp_block ?_ | refine vwp_skip ?_ | refine vwp_exit ?_ | refine vwp_ret ?_ | refine v_cond ?_)); simp only [vm, ite_true, ite_false, eq_self, reduceIte, Nat.reduceEqDiff, Option.map]
    by_cases g2 : (i : Int) < (y.length : Int)
    · (repeat (first | refine v_reg ?_ | refine v_last ?_ | refine vwp_seq ?_ | refine vwp_block ?_ | refine vwp_skip ?_ | refine vwp_exit ?_ | refine vwp_ret ?_ | refine v_cond ?_)); simp only [vm, ite_true, ite_false, eq_self, reduceIte, Nat.reduceEqDiff, Option.map, h0, h1, h6, h7, h22, h23, g2]
      (repeat (first | refine v_reg ?_ | refine v_last ?_ | refine vwp_seq ?_ | refine vwp_block ?_ | refine vwp_skip ?_ | refine vwp_exit ?_ | refine vwp_ret ?_ | refine v_cond ?_)); simp only [vm, ite_true, ite_false, eq_self, reduceIte, Nat.reduceEqDiff, Option.map]
      (repeat (first | refine v_reg ?_ | refine v_last ?_ | refine vwp_seq ?_ | refine vwp_block ?_ | refine vwp_skip ?_ | refine vwp_exit ?_ | refine vwp_ret ?_ | refine v_cond ?_)); simp only [vm, ite_true, ite_false, eq_self, reduceIte, Nat.reduceEqDiff, Option.map, h0, h1, h6, h7, h22, h23, g2]
      (repeat refine And.intro (by omega) ?_)
      (repeat (first | refine v_reg ?_ | refine v_last ?_ | refine vwp_seq ?_ | refine vwp_block ?_ | refine vwp_skip ?_ | refine vwp_exit ?_ | refine vwp_ret ?_ | refine v_cond ?_)); simp only [vm, ite_true, ite_false, eq_self, reduceIte, Nat.reduceEqDiff, Option.map, h0, h1, h6, h7, h22, h23, g2, hlen, hset]
      (repeat refine And.intro (by omega) ?_)
      (repeat (first | refine v_reg ?_ | refine v_last ?_ | refine vwp_seq ?_ | refine vwp_block ?_ | refine vwp_skip ?_ | refine vwp_exit ?_ | refine vwp_ret ?_ | refine v_cond ?_)); simp only [vm, ite_true, ite_false, eq_self, reduceIte, Nat.reduceEqDiff, Option.map, h0, h1, h6, h7, h22, h23, g2, hlen, hset]
      refine ⟨by omega, x.length - (i + 1), by omega, i + 1, w ++ [(x.getD i 0 + 18446744073709551616 - y.getD i 0 - bo) % 18446744073709551616], if x.getD i 0 < y.getD i 0 + bo then 1 else 0, ?_⟩
      (repeat' apply And.intro) <;> first | rfl | omega | assumption | (simp [hw]; done) | exact lim_snoc hlw (Nat.mod_lt _ (by decide)) | exact key
    · have hy0 : y.getD i 0 = 0 := getD_ge (by omega)
      rw [hy0] at key hb1
      (repeat (first | refine v_reg ?_ | refine v_last ?_ | refine vwp_seq ?_ | refine vwp_block ?_ | refine vwp_skip ?_ | refine vwp_exit ?_ | refine vwp_ret ?_ | refine v_cond ?_)); simp only [vm, ite_true, ite_false, eq_self, reduceIte, Nat.reduceEqDiff, Option.map, h0, h1, h6, h7, h22, h23, g2]
      (repeat (first | refine v_reg ?_ | refine v_last ?_ | refine vwp_seq ?_ | refine vwp_block ?_ | refine vwp_skip ?_ | refine vwp_exit ?_ | refine vwp_ret ?_ | refine v_cond ?_)); simp only [vm, ite_true, ite_false, eq_self, reduceIte, Nat.reduceEqDiff, Option.map]
      (repeat (first | refine v_reg ?_ | refine v_last ?_ | refine vwp_seq ?_ | refine vwp_block ?_ | refine vwp_skip ?_ | refine vwp_exit ?_ | refine vwp_ret ?_ | refine v_cond ?_)); simp only [vm, ite_true, ite_false, eq_self, reduceIte, Nat.reduceEqDiff, Option.map]
      (repeat (first | refine v_reg ?_ | refine v_last ?_ | refine vwp_seq ?_ | refine vwp_block ?_ | refine vwp_skip ?_ | refine vwp_exit ?_ | refine vwp_ret ?_ | refine v_cond ?_)); simp only [vm, ite_true, ite_false, eq_self, reduceIte, Nat.reduceEqDiff, Option.map, h0, h1, h6, h7, h22, h23, g2, hlen, hset]
      (repeat refine And.intro (by omega) ?_)
      (repeat (first | refine v_reg ?_ | refine v_last ?_ | refine vwp_seq ?_ | refine vwp_block ?_ | refine vwp_skip ?_ | refine vwp_exit ?_ | refine vwp_ret ?_ | refine v_cond ?_)); simp only [vm, ite_true, ite_false, eq_self, reduceIte, Nat.reduceEqDiff, Option.map, h0, h1, h6, h7, h22, h23, g2, hlen, hset]
      refine ⟨by omega, x.length - (i + 1), by omega, i + 1, w ++ [(x.getD i 0 + 18446744073709551616 - 0 - bo) % 18446744073709551616], if x.getD i 0 < 0 + bo then 1 else 0, ?_⟩
      simp only [Nat.zero_add] at key hb1 ⊢
      (repeat' apply And.intro) <;> first | rfl | omega | assumption | (simp [hw]; done) | exact lim_snoc hlw (Nat.mod_lt _ (by decide)) | exact key
  · have hi' : i = x.length := by omega
    subst hi'
    have e0 : w ++ List.replicate (x.length - x.length) 0 = w := by simp
    rw [e0]
    rw [List.take_length, val_take_all _ _ _ hxy, va, vb] at hinv
    have hwl := val_lt hlw
    rw [hw] at hwl
    have hvz : val 18446744073709551616 w = val 18446744073709551616 a - val 18446744073709551616 b := by
      have hbb : bo = 0 ∨ bo = 1 := by omega
      rcases hbb with rfl | rfl <;> omega
    (repeat (first | refine v_reg ?_ | refine v_last ?_ | refine vwp_seq ?_ | refine vwp_block ?_ | refine vwp_skip ?_ | refine vwp_exit ?_ | refine vwp_ret ?_ | refine v_cond ?_)); simp only [vm, ite_true, ite_false, eq_self, reduceIte, Nat.reduceEqDiff, Option.map]
    refine v_freeze 6 (t := c2) (off := 0) (n := x.length) (cap := some x.length) (l := w) (by simp only [vm, ite_true, ite_false, eq_self, reduceIte, Nat.reduceEqDiff, Option.map, h6]) (by simp only [vm, ite_true, ite_false, eq_self, reduceIte, Nat.reduceEqDiff, Option.map]) (by omega) (by omega) ?_
    rw [List.drop_zero, show w.take x.length = w from List.take_of_length_le (by omega)]
    (repeat (first | refine v_reg ?_ | refine v_last ?_ | refine vwp_seq ?_ | refine vwp_block ?_ | refine vwp_skip ?_ | refine vwp_exit ?_ | refine vwp_ret ?_ | refine v_cond ?_)); simp only [vm, ite_true, ite_false, eq_self, reduceIte, Nat.reduceEqDiff, Option.map]
    refine s_call (told_spec (.id c2) w (c2 + 1) hlw (by omega)) (by simp only [vm, ite_true, ite_false, eq_self, reduceIte, Nat.reduceEqDiff, Option.map, List.map]) ?_
    rintro v c5 hc5 rfl
    rw [hvz]
    by_cases gb : bl (val 18446744073709551616 a - val 18446744073709551616 b) ≤ 67108864
    · rw [if_pos gb]
      simp only [vm, ite_true, ite_false, eq_self, reduceIte, Nat.reduceEqDiff, Option.map]
      (repeat (first | refine v_reg ?_ | refine v_last ?_ | refine vwp_seq ?_ | refine vwp_block ?_ | refine vwp_skip ?_ | refine vwp_exit ?_ | refine vwp_ret ?_ | refine v_cond ?_)); simp only [vm, ite_true, ite_false, eq_self, reduceIte, Nat.reduceEqDiff, Option.map]
      exact ⟨by omega, .inl ⟨gb, .id c2, rfl, .inr ⟨c2, rfl, by omega, by omega⟩⟩⟩
    · rw [if_neg gb]
      simp only [vm, ite_true, ite_false, eq_self, reduceIte, Nat.reduceEqDiff, Option.map]
      (repeat (first | refine v_reg ?_ | refine v_last ?_ | refine vwp_seq ?_ | refine vwp_block ?_ | refine vwp_skip ?_ | refine vwp_exit ?_ | refine vwp_ret ?_ | refine v_cond ?_)); simp only [vm, ite_true, ite_false, eq_self, reduceIte, Nat.reduceEqDiff, Option.map]
      exact ⟨by omega, .inr ⟨by omega, rfl⟩⟩

theorem times_spec (t : Tok) (a : List Nat) (m c : Nat) (ha : Lim 18446744073709551616 a) (hml : m < 18446744073709551616) (hna : a.length ≤ 1099511627776) :
    VSpec Try.prog F.nat_Times c [nats t a, nv m] (fun r c' => Told c c' (val 18446744073709551616 a * m) r) := by
  refine spec_mk hm E.nat_Times B.nat_Times K.nat_Times Q.nat_Times (by rw [N.nat_Times]; simp) ?_
  unfold C.nat_Times R.nat_Times
  have hla := digs_len_le two64 ha
  (repeat (first | refine v_reg ?_ | refine v_last ?_ | refine vwp_seq ?_ | refine vwp_block ?_ | refine vwp_skip ?_ | refine vwp_exit ?_ | refine vwp_ret ?_ | refine v_cond ?_)); simp only [vm, ite_true, ite_false, eq_self, reduceIte, Nat.reduceEqDiff, Option.map]
  (repeat (first | refine v_reg ?_ | refine v_last ?_ | refine vwp_seq ?_ | refine vwp_block ?_ | refine vwp_skip ?_ | refine vwp_exit ?_ | refine vwp_ret ?_ | refine v_cond ?_)); simp only [vm, ite_true, ite_false, eq_self, reduceIte, Nat.reduceEqDiff, Option.map]
  refine s_call (trim_spec t a c ha (by omega)) (by simp only [vm, ite_true, ite_false, eq_self, reduceIte, Nat.reduceEqDiff, Option.map, List.map]) ?_
  rintro v c2 hc2 rfl
  have hx := lim_digs two64 (val 18446744073709551616 a)
  have va := val_digs two64 (val 18446744073709551616 a)
  generalize digs 18446744073709551616 (val 18446744073709551616 a) = x at *
  simp only [vm, ite_true, ite_false, eq_self, reduceIte, Nat.reduceEqDiff, Option.map]
  (repeat (first | refine v_reg ?_ | refine v_last ?_ | refine vwp_seq ?_ | refine vwp_block ?_ | refine vwp_skip ?_ | refine vwp_exit ?_ | refine vwp_ret ?_ | refine v_cond ?_)); simp only [vm, ite_true, ite_false, eq_self, reduceIte, Nat.reduceEqDiff, Option.map]
  refine ⟨by omega, ?_⟩
  refine s_mk (n := x.length + 1) (m := x.length + 1) (by simp only [vm, ite_true, ite_false, eq_self, reduceIte, Nat.reduceEqDiff, Option.map]; rfl) (by simp only [vm, ite_true, ite_false, eq_self, reduceIte, Nat.reduceEqDiff, Option.map]; rfl) (Nat.le_refl _) (by omega) ?_
  simp only [vm, ite_true, ite_false, eq_self, reduceIte, Nat.reduceEqDiff, Option.map]
  (repeat (first | refine v_reg ?_ | refine v_last ?_ | refine vwp_seq ?_ | refine vwp_block ?_ | refine vwp_skip ?_ | refine vwp_exit ?_ | refine vwp_ret ?_ | refine v_cond ?_)); simp only [vm, ite_true, ite_false, eq_self, reduceIte, Nat.reduceEqDiff, Option.map]
  (repeat (first | refine v_reg ?_ | refine v_last ?_ | refine vwp_seq ?_ | refine vwp_block ?_ | refine vwp_skip ?_ | refine vwp_exit ?_ | refine vwp_ret ?_ | refine v_cond ?_)); simp only [vm, ite_true, ite_false, eq_self, reduceIte, Nat.reduceEqDiff, Option.map]
  (repeat (first | refine vwp_seq ?_ | refine vwp_block ?_))
  refine vwp_loop (fun k S => ∃ i w carry, k = x.length - i ∧ i ≤ x.length ∧ S.ρ 0 = nats t x ∧ S.ρ 1 = nv m ∧ S.ρ 20 = nats t x ∧ S.ρ 6 = .buf c2 0 (x.length + 1) (some (x.length + 1)) 1 ∧ S.ρ 7 = nv carry ∧ S.ρ 21 = iv x.length ∧ S.ρ 22 = iv i ∧ carry < 18446744073709551616 ∧
    w.length = i ∧ Lim 18446744073709551616 w ∧ val 18446744073709551616 w + 18446744073709551616 ^ i * carry = val 18446744073709551616 (x.take i) * m ∧ S.σ = supd noBlk c2 (nblk (w ++ List.replicate (x.length + 1 - i) 0)) ∧ c2 + 1 ≤ S.c) x.length ?_ ?_
  · refine ⟨0, [], 0, rfl, Nat.zero_le _, ?_⟩
    simp only [vm, ite_true, ite_false, eq_self, reduceIte, Nat.reduceEqDiff, Option.map]
    (repeat' apply And.intro) <;> first | rfl | omega | assumption | exact Lim.nil | (simp [val])
  rintro k ⟨ρ2, σ, c4⟩ ⟨i, w, carry, hk, hi, h0, h1, h20, h6, h7, h21, h22, hca, hw, hlw, hinv, hσ, hc4⟩
  dsimp only at h0 h1 h20 h6 h7 h21 h22 hσ hc4
  subst hσ
  (repeat (first | refine v_reg ?_ | refine v_last ?_ | refine vwp_seq ?_ | refine vwp_block ?_ | refine vwp_skip ?_ | refine vwp_exit ?_ | refine vwp_ret ?_ | refine v_cond ?_)); simp only [vm, ite_true, ite_false, eq_self, reduceIte, Nat.reduceEqDiff, Option.map, h21, h22]
  (repeat (first | refine v_reg ?_ | refine v_last ?_ | refine vwp_seq ?_ | refine vwp_block ?_ | refine vwp_skip ?_ | refine vwp_exit ?_ | refine vwp_ret ?_ | refine v_cond ?_)); simp only [vm, ite_true, ite_false, eq_self, reduceIte, Nat.reduceEqDiff, Option.map]
  refine ⟨fun g => ?_, fun g => ?_⟩
  · have hi' : i < x.length := by omega
    have hlen : (w ++ List.replicate (x.length + 1 - i) 0).length = x.length + 1 := by simp; omega
    have hset : ∀ v, (w ++ List.replicate (x.length + 1 - i) 0).set i v = (w ++ [v]) ++ List.replicate (x.length + 1 - (i + 1)) 0 := fun v => by
      have := set_fill w (x.length - i) v
      rw [hw] at this
      rw [show x.length + 1 - i = x.length - i + 1 by omega, this, show x.length + 1 - (i + 1) = x.length - i by omega]
    have hxi := hx.getD (i := i) (by decide)
    have hx' := val_take' 18446744073709551616 x i
    have key := add_step (b := 18446744073709551616) (m := x.getD i 0 * m) hw hinv
    obtain ⟨e1, e2⟩ := mul_step (x.getD i 0) m carry
    have e3 := mul_step_lt hxi hml hca
    (repeat (first | refine v_reg ?_ | refine v_last ?_ | refine vwp_seq ?_ | refine vwp_block ?_ | refine vwp_skip ?_ | refine vwp_exit ?_ | refine vwp_ret ?_ | refine v_cond ?_)); simp only [vm, ite_true, ite_false, eq_self, reduceIte, Nat.reduceEqDiff, Option.map]
    (repeat (first | refine v_reg ?_ | refine v_last ?_ | refine vwp_seq ?_ | refine vwp_block ?_ | refine vwp_skip ?_ | refine vwp_exit ?_ | refine vwp_ret ?_ | refine v_cond ?_)); simp only [vm, ite_true, ite_false, eq_self, reduceIte, Nat.reduceEqDiff, Option.map, h0, h1, h20, h6, h7, h21, h22]
    (repeat refine And.intro (by omega) ?_)
    (repeat (first | refine v_reg ?_ | refine v_last ?_ | refine vwp_seq ?_ | refine vwp_block ?_ | refine vwp_skip ?_ | refine vwp_exit ?_ | refine vwp_ret ?_ | refine v_cond ?_)); simp only [vm, ite_true, ite_false, eq_self, reduceIte, Nat.reduceEqDiff, Option.map]
    refine s_call (mul64_spec (x.getD i 0) m c4 hxi hml) (by simp only [vm, ite_true, ite_false, eq_self, reduceIte, Nat.reduceEqDiff, Option.map, List.map, h1]) ?_
    rintro v c5 hc5 rfl
    simp only [vm, ite_true, ite_false, eq_self, reduceIte, Nat.reduceEqDiff, Option.map, h0, h1, h20, h6, h7, h21, h22]
    (repeat (first | refine v_reg ?_ | refine v_last ?_ | refine vwp_seq ?_ | refine vwp_block ?_ | refine vwp_skip ?_ | refine vwp_exit ?_ | refine vwp_ret ?_ | refine v_cond ?_)); simp only [vm, ite_true, ite_false, eq_self, reduceIte, Nat.reduceEqDiff, Option.map, h0, h1, h20, h6, h7, h21, h22]
    refine ⟨by omega, ?_⟩
    simp only [Nat.add_zero, e1]
    (repeat (first | refine v_reg ?_ | refine v_last ?_ | refine vwp_seq ?_ | refine vwp_block ?_ | refine vwp_skip ?_ | refine vwp_exit ?_ | refine vwp_ret ?_ | refine v_cond ?_)); simp only [vm, ite_true, ite_false, eq_self, reduceIte, Nat.reduceEqDiff, Option.map, h0, h1, h20, h6, h7, h21, h22, hlen, hset]
    (repeat refine And.intro (by omega) ?_)
    (repeat (first | refine v_reg ?_ | refine v_last ?_ | refine vwp_seq ?_ | refine vwp_block ?_ | refine vwp_skip ?_ | refine vwp_exit ?_ | refine vwp_ret ?_ | refine v_cond ?_)); simp only [vm, ite_true, ite_false, eq_self, reduceIte, Nat.reduceEqDiff, Option.map, h0, h1, h20, h6, h7, h21, h22, hlen, hset]
    rw [e2, Nat.mod_eq_of_lt e3]
    (repeat (first | refine v_reg ?_ | refine v_last ?_ | refine vwp_seq ?_ | refine vwp_block ?_ | refine vwp_skip ?_ | refine vwp_exit ?_ | refine vwp_ret ?_ | refine v_cond ?_)); simp only [vm, ite_true, ite_false, eq_self, reduceIte, Nat.reduceEqDiff, Option.map, h22]
    refine ⟨by omega, x.length - (i + 1), by omega, i + 1, w ++ [(x.getD i 0 * m + carry) % 18446744073709551616], (x.getD i 0 * m + carry) / 18446744073709551616, ?_⟩
    (repeat' apply And.intro) <;> first | rfl | omega | assumption | (simp [hw]; done) | exact lim_snoc hlw (Nat.mod_lt _ (by decide)) | (rw [key, hx', Nat.add_mul, Nat.mul_assoc])
  · have hi' : i = x.length := by omega
    subst hi'
    have hset := set_fill w 0 carry
    rw [hw] at hset
    have hlen : (w ++ List.replicate (0 + 1) 0).length = x.length + 1 := by simp; omega
    rw [show x.length + 1 - x.length = 0 + 1 by omega] at *
    (repeat (first | refine v_reg ?_ | refine v_last ?_ | refine vwp_seq ?_ | refine vwp_block ?_ | refine vwp_skip ?_ | refine vwp_exit ?_ | refine vwp_ret ?_ | refine v_cond ?_)); simp only [vm, ite_true, ite_false, eq_self, reduceIte, Nat.reduceEqDiff, Option.map]
    (repeat (first | refine v_reg ?_ | refine v_last ?_ | refine vwp_seq ?_ | refine vwp_block ?_ | refine vwp_skip ?_ | refine vwp_exit ?_ | refine vwp_ret ?_ | refine v_cond ?_)); simp only [vm, ite_true, ite_false, eq_self, reduceIte, Nat.reduceEqDiff, Option.map, h0, h1, h6, h7, h21, h22, hlen, hset]
    (repeat refine And.intro (by omega) ?_)
    have e0 : w ++ [carry] ++ List.replicate 0 0 = w ++ [carry] := by simp
    rw [e0]
    have hlz : Lim 18446744073709551616 (w ++ [carry]) := lim_snoc hlw (by omega)
    have hvz : val 18446744073709551616 (w ++ [carry]) = val 18446744073709551616 a * m := by
      rw [val_append, hw]
      simp only [val, Nat.mul_zero, Nat.add_zero]
      rw [hinv, List.take_length, va]
    have hnz : (w ++ [carry]).length = x.length + 1 := by simp; omega
    refine v_freeze 6 (t := c2) (off := 0) (n := x.length + 1) (cap := some (x.length + 1)) (l := w ++ [carry]) (by simp only [vm, ite_true, ite_false, eq_self, reduceIte, Nat.reduceEqDiff, Option.map, h6]) (by simp only [vm, ite_true, ite_false, eq_self, reduceIte, Nat.reduceEqDiff, Option.map]) (by omega) (by omega) ?_
    rw [List.drop_zero, show (w ++ [carry]).take (x.length + 1) = w ++ [carry] from List.take_of_length_le (by omega)]
    (repeat (first | refine v_reg ?_ | refine v_last ?_ | refine vwp_seq ?_ | refine vwp_block ?_ | refine vwp_skip ?_ | refine vwp_exit ?_ | refine vwp_ret ?_ | refine v_cond ?_)); simp only [vm, ite_true, ite_false, eq_self, reduceIte, Nat.reduceEqDiff, Option.map]
    refine s_call (told_spec (.id c2) (w ++ [carry]) c4 hlz (by omega)) (by simp only [vm, ite_true, ite_false, eq_self, reduceIte, Nat.reduceEqDiff, Option.map, List.map]) ?_
    rintro v c5 hc5 rfl
    rw [hvz]
    by_cases gb : bl (val 18446744073709551616 a * m) ≤ 67108864
    · rw [if_pos gb]
      simp only [vm, ite_true, ite_false, eq_self, reduceIte, Nat.reduceEqDiff, Option.map]
      (repeat (first | refine v_reg ?_ | refine v_last ?_ | refine vwp_seq ?_ | refine vwp_block ?_ | refine vwp_skip ?_ | refine vwp_exit ?_ | refine vwp_ret ?_ | refine v_cond ?_)); simp only [vm, ite_true, ite_false, eq_self, reduceIte, Nat.reduceEqDiff, Option.map]
      exact ⟨by omega, .inl ⟨gb, .id c2, rfl, .inr ⟨c2, rfl, by omega, by omega⟩⟩⟩
    · rw [if_neg gb]
      simp only [vm, ite_true, ite_false, eq_self, reduceIte, Nat.reduceEqDiff, Option.map]
      (repeat (first | refine v_reg ?_ | refine v_last ?_ | refine vwp_seq ?_ | refine vwp_block ?_ | refine vwp_skip ?_ | refine vwp_exit ?_ | refine vwp_ret ?_ | refine v_cond ?_)); simp only [vm, ite_true, ite_false, eq_self, reduceIte, Nat.reduceEqDiff, Option.map]
      exact ⟨by omega, .inr ⟨by omega, rfl⟩⟩
end Go.Proofs.Ytladcfeibpddeab
set_option linter.unusedSimpArgs false
set_option linter.unusedVariables false
set_option maxRecDepth 100000
set_option maxHeartbeats 4000000
namespace Go.Proofs.Ytladcfeibpddeab
open Go.VM

theorem div64_spec (hi lo y c : Nat) (hlo : lo < 18446744073709551616) (hy : y < 18446744073709551616) (hiy : hi < y) : VSpec Try.prog F.bits_Div64 c [nv hi, nv lo, nv y] (fun r _ => r = .tup [nv ((hi * 18446744073709551616 + lo) / y), nv ((hi * 18446744073709551616 + lo) % y)]) := by
  refine spec_mk hm E.bits_Div64 B.bits_Div64 K.bits_Div64 Q.bits_Div64 (by rw [N.bits_Div64]; simp) ?_
  unfold C.bits_Div64 R.bits_Div64
  have y0 : 0 < y := by omega
  have e1 : ¬ y = 0 := by omega
  have e2 : ¬ y ≤ hi := by omega
  (repeat (first | refine v_reg ?_ | refine v_last ?_ | refine vwp_seq ?_ | refine vwp_block ?_ | refine vwp_skip ?_ | refine vwp_exit ?_ | refine vwp_ret ?_ | refine v_cond ?_ | simp only [vm, ite_true, ite_false, eq_self, reduceIte, Nat.reduceEqDiff, Option.map, e1, e2] | refine And.intro (by omega) ?_))
  refine ⟨fun g => ?_, fun g => ?_⟩
  · (repeat (first | refine v_reg ?_ | refine v_last ?_ | refine vwp_seq ?_ | refine vwp_block ?_ | refine vwp_skip ?_ | refine vwp_exit ?_ | refine vwp_ret ?_ | refine v_cond ?_ | simp only [vm, ite_true, ite_false, eq_self, reduceIte, Nat.reduceEqDiff, Option.map, e1] | refine And.intro (by omega) ?_))
    subst g
    rw [Nat.zero_mul, Nat.zero_add, Nat.mod_eq_of_lt (Nat.lt_of_le_of_lt (Nat.div_le_self _ _) hlo)]
  (repeat (first | refine v_reg ?_ | refine v_last ?_ | refine vwp_seq ?_ | refine vwp_block ?_ | refine vwp_skip ?_ | refine vwp_exit ?_ | refine vwp_ret ?_ | refine v_cond ?_ | simp only [vm, ite_true, ite_false, eq_self, reduceIte, Nat.reduceEqDiff, Option.map] | refine And.intro (by omega) ?_))
  refine s_call (lz64_spec y c hy) (by simp only [vm, ite_true, ite_false, eq_self, reduceIte, Nat.reduceEqDiff, Option.map, List.map]) ?_
  rintro v c2 hc2 rfl
  have hbl : bl y ≤ 64 := bl_le hy
  have hbp := bl_pos y0
  obtain ⟨hv64, hv63⟩ := norm_shift y0 hy
  have es : ((64 : Int) - (bl y : Int)).toNat = 64 - bl y := by omega
  simp only [vm, ite_true, ite_false, eq_self, reduceIte, Nat.reduceEqDiff, Option.map, es]
  refine ⟨by omega, ?_⟩
  obtain ⟨hor, hN⟩ := shift_two (hi := hi) (lo := lo) (s := 64 - bl y) (by omega) hlo
  have hH := shift_lt (y := y) (by omega) hN
  generalize hsd : 64 - bl y = s at *
  have hmin : min s 64 = s := by omega
  have hs64 : (64 + (18446744073709551616 - s % 18446744073709551616)) % 18446744073709551616 = 64 - s := by omega
  have hmin2 : min (64 - s) 64 = 64 - s := by omega
  have hhs : hi * 2 ^ s < 18446744073709551616 := by
    refine Nat.lt_trans (Nat.mul_lt_mul_of_pos_right hiy (Nat.two_pow_pos s)) hv64
  have hos : lo / 2 ^ (64 - s) < 18446744073709551616 := Nat.lt_of_le_of_lt (Nat.div_le_self _ _) hlo
  (repeat (first | refine v_reg ?_ | refine v_last ?_ | refine vwp_seq ?_ | refine vwp_block ?_ | refine vwp_skip ?_ | refine vwp_exit ?_ | refine vwp_ret ?_ | refine v_cond ?_)); simp only [vm, ite_true, ite_false, eq_self, reduceIte, Nat.reduceEqDiff, Option.map, hmin, Nat.mod_eq_of_lt hv64]
  have hvd : 0 < y * 2 ^ s := by omega
  have hlast : ((hi * 18446744073709551616 + lo) * 2 ^ s) / (y * 2 ^ s) = (hi * 18446744073709551616 + lo) / y := Nat.mul_div_mul_right _ _ (Nat.two_pow_pos s)
  have hlastr : ((hi * 18446744073709551616 + lo) * 2 ^ s) % (y * 2 ^ s) = (hi * 18446744073709551616 + lo) % y * 2 ^ s := Nat.mul_mod_mul_right _ _ _
  rw [hN] at hlast hlastr
  have hHp : hi * 2 ^ s + lo / 2 ^ (64 - s) < 18446744073709551616 := Nat.lt_trans hH hv64
  (repeat (first | refine v_reg ?_ | refine v_last ?_ | refine vwp_seq ?_ | refine vwp_block ?_ | refine vwp_skip ?_ | refine vwp_exit ?_ | refine vwp_ret ?_ | refine v_cond ?_ | simp only [vm, ite_true, ite_false, eq_self, reduceIte, Nat.reduceEqDiff, Option.map, hmin, u_or, hs64, hmin2, Nat.mod_eq_of_lt hhs, Nat.mod_eq_of_lt hos, or_shift hor] | refine And.intro (by omega) ?_))
  generalize hi * 2 ^ s + lo / 2 ^ (64 - s) = H at *
  have hL := Nat.mod_lt (lo * 2 ^ s) (show 0 < 18446744073709551616 by decide)
  generalize lo * 2 ^ s % 18446744073709551616 = L at *
  generalize y * 2 ^ s = v at *
  have hv : v = v / 4294967296 * 4294967296 + v % 4294967296 := by omega
  have h1 : 2147483648 ≤ v / 4294967296 := by omega
  have h0 : v % 4294967296 < 4294967296 := by omega
  have h1b : v / 4294967296 < 4294967296 := by omega
  generalize v / 4294967296 = v1 at *
  generalize v % 4294967296 = v0 at *
  obtain ⟨k1, k2⟩ := kd_two (h := H) (l := L) hvd hL
  have hd1 : L / 4294967296 < 4294967296 := by omega
  have hd0 : L % 4294967296 < 4294967296 := by omega
  obtain ⟨l1, hl1⟩ : ∃ l1, L / 4294967296 = l1 := ⟨_, rfl⟩
  obtain ⟨l0, hl0⟩ : ∃ l0, L % 4294967296 = l0 := ⟨_, rfl⟩
  rw [hl1, hl0]
  rw [hl1] at hd1
  rw [hl0] at hd0
  rw [hl1, hl0] at k1 k2
  rw [hlast] at k1
  rw [hlastr] at k2
  clear hlast hlastr hN hl1 hl0
  have hfirst := kd_first hv h1 h0 hH
  have hdm := Nat.div_add_mod H v1
  rw [Nat.mul_comm] at hdm
  have hrm := Nat.mod_lt H (show 0 < v1 by omega)
  have hq0 : H / v1 % 18446744073709551616 = H / v1 := Nat.mod_eq_of_lt (Nat.lt_of_le_of_lt hfirst (by decide))
  rw [hq0, sub_mod64 (p := H / v1 * v1) (n := H) (by omega) hHp]
  have hQb := kd_lt (b := 4294967296) (by decide) hd1 hH
  have hrest := kd_rest (q := (H * 4294967296 + l1) / v) rfl hv64 hvd
  have hQ0 := kd_up (b := 4294967296) (n := H) (by decide) hd1 hv (by omega)
  obtain ⟨Q, hQd⟩ : ∃ Q, Q = (H * 4294967296 + l1) / v := ⟨_, rfl⟩
  rw [← hQd] at hQb hrest hQ0
  refine v_loop (fun S => S.ρ 2 = nv v ∧ S.ρ 8 = nv s ∧ S.ρ 9 = nv v1 ∧ S.ρ 10 = nv v0 ∧ S.ρ 11 = nv H ∧ S.ρ 13 = nv (l1) ∧ S.ρ 14 = nv (l0) ∧ S.ρ 15 = nv Q ∧ S.σ = noBlk ∧ S.c = c2) ?_ ?_
  · refine vwp_loop (fun k S => ∃ q r, k = q ∧ q * v1 + r = H ∧ Q ≤ q ∧ r < 4294967296 ∧ q ≤ 4294967297 ∧ S.ρ 2 = nv v ∧ S.ρ 8 = nv s ∧ S.ρ 9 = nv v1 ∧ S.ρ 10 = nv v0 ∧ S.ρ 11 = nv H ∧ S.ρ 13 = nv (l1) ∧ S.ρ 14 = nv (l0) ∧ S.ρ 15 = nv q ∧ S.ρ 16 = nv r ∧ S.σ = noBlk ∧ S.c = c2) (H / v1) ?_ ?_
    · refine ⟨H / v1, H - H / v1 * v1, rfl, ?_⟩
      simp only [vm, ite_true, ite_false, eq_self, reduceIte, Nat.reduceEqDiff, Option.map]
      (repeat' apply And.intro) <;> first | rfl | omega | assumption
    rintro k ⟨ρ2, σ, c4⟩ ⟨q, r, hk, he, hQ, hr, hq, g2, g8, g9, g10, g11, g13, g14, g15, g16, hσ, hc4⟩
    dsimp only at g2 g8 g9 g10 g11 g13 g14 g15 g16 hσ hc4
    subst hσ hc4
    have hqv0 := kd_fit hq h0
    have hbr : 4294967296 * r < 18446744073709551616 := by omega
    have hbr2 : 4294967296 * r + l1 < 18446744073709551616 := by omega
    have hrv : r + v1 < 18446744073709551616 := by omega
    have hdec : 4294967296 ≤ q ∨ 4294967296 * r + l1 < q * v0 → Q < q := fun h => by
      have := kd_dec (by decide) hd1 hv (by omega) hH he h
      rw [← hQd] at this
      exact this
    have hend : ¬ 4294967296 ≤ q → ¬ 4294967296 * r + l1 < q * v0 → q = Q := fun h h' => by
      have := kd_le (u := l1) (b := 4294967296) (v0 := v0) (by decide) hv (by omega) he (by omega)
      rw [← hQd] at this
      omega
    have hnext : Q < q → 4294967296 ≤ r + v1 → q - 1 = Q := fun h h' => by
      have := kd_big (u := l1) (by decide) hv (by omega) h0 (kd_next (by omega) he) (by omega) h'
      rw [← hQd] at this
      omega
    have hstep : Q < q → (q - 1) * v1 + (r + v1) = H := fun h => kd_next (by omega) he
    by_cases gq : 4294967296 ≤ q
    · have hd := hdec (.inl gq)
      (repeat (first | refine v_reg ?_ | refine v_last ?_ | refine vwp_seq ?_ | refine vwp_block ?_ | refine vwp_skip ?_ | refine vwp_exit ?_ | refine vwp_ret ?_ | refine v_cond ?_ | simp only [vm, ite_true, ite_false, eq_self, reduceIte, Nat.reduceEqDiff, Option.map, g2, g8, g9, g10, g11, g13, g14, g15, g16, gq, dec_mod64 (show 0 < q by omega) (by omega), Nat.mod_eq_of_lt hrv] | refine And.intro (by omega) ?_))
      refine ⟨fun gr => ?_, fun gr => ?_⟩
      · have := hnext hd gr
        (repeat (first | refine v_reg ?_ | refine v_last ?_ | refine vwp_seq ?_ | refine vwp_block ?_ | refine vwp_skip ?_ | refine vwp_exit ?_ | refine vwp_ret ?_ | refine v_cond ?_ | simp only [vm, ite_true, ite_false, eq_self, reduceIte, Nat.reduceEqDiff, Option.map, g2, g8, g9, g10, g11, g13, g14, this] | refine And.intro (by omega) ?_))
      · (repeat (first | refine v_reg ?_ | refine v_last ?_ | refine vwp_seq ?_ | refine vwp_block ?_ | refine vwp_skip ?_ | refine vwp_exit ?_ | refine vwp_ret ?_ | refine v_cond ?_ | simp only [vm, ite_true, ite_false, eq_self, reduceIte, Nat.reduceEqDiff, Option.map, g2, g8, g9, g10, g11, g13, g14] | refine And.intro (by omega) ?_))

        refine ⟨q - 1, by omega, q - 1, r + v1, ?_⟩
        have := hstep hd
        (repeat' apply And.intro) <;> first | rfl | omega | assumption
    · (repeat (first | refine v_reg ?_ | refine v_last ?_ | refine vwp_seq ?_ | refine vwp_block ?_ | refine vwp_skip ?_ | refine vwp_exit ?_ | refine vwp_ret ?_ | refine v_cond ?_ | simp only [vm, ite_true, ite_false, eq_self, reduceIte, Nat.reduceEqDiff, Option.map, g2, g8, g9, g10, g11, g13, g14, g15, g16, gq, Nat.mod_eq_of_lt hqv0, Nat.mod_eq_of_lt hbr, Nat.mod_eq_of_lt hbr2] | refine And.intro (by omega) ?_))
      refine ⟨fun g3 => ?_, fun g3 => ?_⟩
      · have hd := hdec (.inr g3)
        (repeat (first | refine v_reg ?_ | refine v_last ?_ | refine vwp_seq ?_ | refine vwp_block ?_ | refine vwp_skip ?_ | refine vwp_exit ?_ | refine vwp_ret ?_ | refine v_cond ?_ | simp only [vm, ite_true, ite_false, eq_self, reduceIte, Nat.reduceEqDiff, Option.map, g2, g8, g9, g10, g11, g13, g14, g15, g16, gq, dec_mod64 (show 0 < q by omega) (by omega), Nat.mod_eq_of_lt hrv] | refine And.intro (by omega) ?_))
        refine ⟨fun gr => ?_, fun gr => ?_⟩
        · have := hnext hd gr
          (repeat (first | refine v_reg ?_ | refine v_last ?_ | refine vwp_seq ?_ | refine vwp_block ?_ | refine vwp_skip ?_ | refine vwp_exit ?_ | refine vwp_ret ?_ | refine v_cond ?_ | simp only [vm, ite_true, ite_false, eq_self, reduceIte, Nat.reduceEqDiff, Option.map, g2, g8, g9, g10, g11, g13, g14, this] | refine And.intro (by omega) ?_))
        · (repeat (first | refine v_reg ?_ | refine v_last ?_ | refine vwp_seq ?_ | refine vwp_block ?_ | refine vwp_skip ?_ | refine vwp_exit ?_ | refine vwp_ret ?_ | refine v_cond ?_ | simp only [vm, ite_true, ite_false, eq_self, reduceIte, Nat.reduceEqDiff, Option.map, g2, g8, g9, g10, g11, g13, g14] | refine And.intro (by omega) ?_))
          refine ⟨q - 1, by omega, q - 1, r + v1, ?_⟩
          have := hstep hd
          (repeat' apply And.intro) <;> first | rfl | omega | assumption
      · have := hend gq g3
        (repeat (first | refine v_reg ?_ | refine v_last ?_ | refine vwp_seq ?_ | refine vwp_block ?_ | refine vwp_skip ?_ | refine vwp_exit ?_ | refine vwp_ret ?_ | refine v_cond ?_ | simp only [vm, ite_true, ite_false, eq_self, reduceIte, Nat.reduceEqDiff, Option.map, g2, g8, g9, g10, g11, g13, g14, g15, this] | refine And.intro (by omega) ?_))
  rintro ⟨ρ2, σ, c4⟩ ⟨g2, g8, g9, g10, g11, g13, g14, g15, hσ, hc4⟩
  dsimp only at g2 g8 g9 g10 g11 g13 g14 g15 hσ hc4
  subst hσ hc4
  rw [← hQd] at k1
  have hR := Nat.mod_lt (H * 4294967296 + l1) hvd
  obtain ⟨R, hRd⟩ : ∃ R, R = (H * 4294967296 + l1) % v := ⟨_, rfl⟩
  rw [← hRd] at hrest k1 k2 hR
  (repeat (first | refine v_reg ?_ | refine v_last ?_ | refine vwp_seq ?_ | refine vwp_block ?_ | refine vwp_skip ?_ | refine vwp_exit ?_ | refine vwp_ret ?_ | refine v_cond ?_)); simp only [vm, ite_true, ite_false, eq_self, reduceIte, Nat.reduceEqDiff, Option.map, g2, g8, g9, g10, g11, g13, g14, g15, hrest]
  have hRp : R < 18446744073709551616 := Nat.lt_trans hR hv64
  have hfirst := kd_first hv h1 h0 hR
  have hdm := Nat.div_add_mod R v1
  rw [Nat.mul_comm] at hdm
  have hrm := Nat.mod_lt R (show 0 < v1 by omega)
  have hq0 : R / v1 % 18446744073709551616 = R / v1 := Nat.mod_eq_of_lt (Nat.lt_of_le_of_lt hfirst (by decide))
  have hne : ¬ v1 = 0 := by omega
  (repeat (first | refine v_reg ?_ | refine v_last ?_ | refine vwp_seq ?_ | refine vwp_block ?_ | refine vwp_skip ?_ | refine vwp_exit ?_ | refine vwp_ret ?_ | refine v_cond ?_ | simp only [vm, ite_true, ite_false, eq_self, reduceIte, Nat.reduceEqDiff, Option.map, g2, g8, g9, g10, g11, g13, g14, g15, ne_eq, hne, hq0, sub_mod64 (p := R / v1 * v1) (n := R) (by omega) hRp] | refine And.intro (by omega) ?_))
  have hTb := kd_lt (b := 4294967296) (by decide) hd0 hR
  have hrest2 := kd_rest (q := (R * 4294967296 + l0) / v) rfl hv64 hvd
  have hT0 := kd_up (b := 4294967296) (n := R) (by decide) hd0 hv (by omega)
  obtain ⟨T, hTd⟩ : ∃ T, T = (R * 4294967296 + l0) / v := ⟨_, rfl⟩
  rw [← hTd] at hTb hrest2 hT0 k1
  refine v_loop (fun S => S.ρ 2 = nv v ∧ S.ρ 8 = nv s ∧ S.ρ 14 = nv (l0) ∧ S.ρ 15 = nv Q ∧ S.ρ 17 = nv R ∧ S.ρ 18 = nv T ∧ S.σ = noBlk ∧ S.c = c4) ?_ ?_
  · refine vwp_loop (fun k S => ∃ q r, k = q ∧ q * v1 + r = R ∧ T ≤ q ∧ r < 4294967296 ∧ q ≤ 4294967297 ∧ S.ρ 2 = nv v ∧ S.ρ 8 = nv s ∧ S.ρ 9 = nv v1 ∧ S.ρ 10 = nv v0 ∧ S.ρ 14 = nv (l0) ∧ S.ρ 15 = nv Q ∧ S.ρ 17 = nv R ∧ S.ρ 18 = nv q ∧ S.ρ 16 = nv r ∧ S.σ = noBlk ∧ S.c = c4) (R / v1) ?_ ?_
    · refine ⟨R / v1, R - R / v1 * v1, rfl, ?_⟩
      simp only [vm, ite_true, ite_false, eq_self, reduceIte, Nat.reduceEqDiff, Option.map, g2, g8, g9, g10, g14, g15]
      (repeat' apply And.intro) <;> first | rfl | omega | assumption
    rintro k ⟨ρ3, σ, c5⟩ ⟨q, r, hk, he, hQ, hr, hq, g2, g8, g9, g10, g14, g15, g17, g18, g16, hσ, hc5⟩
    dsimp only at g2 g8 g9 g10 g14 g15 g17 g18 g16 hσ hc5
    subst hσ hc5
    have hqv0 := kd_fit hq h0
    have hbr : 4294967296 * r < 18446744073709551616 := by omega
    have hbr2 : 4294967296 * r + l0 < 18446744073709551616 := by omega
    have hrv : r + v1 < 18446744073709551616 := by omega
    have hdec : 4294967296 ≤ q ∨ 4294967296 * r + l0 < q * v0 → T < q := fun h => by
      have := kd_dec (by decide) hd0 hv (by omega) hR he h
      rw [← hTd] at this
      exact this
    have hend : ¬ 4294967296 ≤ q → ¬ 4294967296 * r + l0 < q * v0 → q = T := fun h h' => by
      have := kd_le (u := l0) (b := 4294967296) (v0 := v0) (by decide) hv (by omega) he (by omega)
      rw [← hTd] at this
      omega
    have hnext : T < q → 4294967296 ≤ r + v1 → q - 1 = T := fun h h' => by
      have := kd_big (u := l0) (by decide) hv (by omega) h0 (kd_next (by omega) he) (by omega) h'
      rw [← hTd] at this
      omega
    have hstep : T < q → (q - 1) * v1 + (r + v1) = R := fun h => kd_next (by omega) he
    by_cases gq : 4294967296 ≤ q
    · have hd := hdec (.inl gq)
      (repeat (first | refine v_reg ?_ | refine v_last ?_ | refine vwp_seq ?_ | refine vwp_block ?_ | refine vwp_skip ?_ | refine vwp_exit ?_ | refine vwp_ret ?_ | refine v_cond ?_ | simp only [vm, ite_true, ite_false, eq_self, reduceIte, Nat.reduceEqDiff, Option.map, g2, g8, g9, g10, g14, g15, g17, g18, g16, gq, dec_mod64 (show 0 < q by omega) (by omega), Nat.mod_eq_of_lt hrv] | refine And.intro (by omega) ?_))
      refine ⟨fun gr => ?_, fun gr => ?_⟩
      · have := hnext hd gr
        (repeat (first | refine v_reg ?_ | refine v_last ?_ | refine vwp_seq ?_ | refine vwp_block ?_ | refine vwp_skip ?_ | refine vwp_exit ?_ | refine vwp_ret ?_ | refine v_cond ?_ | simp only [vm, ite_true, ite_false, eq_self, reduceIte, Nat.reduceEqDiff, Option.map, g2, g8, g9, g10, g14, g15, g17, this] | refine And.intro (by omega) ?_))
      · (repeat (first | refine v_reg ?_ | refine v_last ?_ | refine vwp_seq ?_ | refine vwp_block ?_ | refine vwp_skip ?_ | refine vwp_exit ?_ | refine vwp_ret ?_ | refine v_cond ?_ | simp only [vm, ite_true, ite_false, eq_self, reduceIte, Nat.reduceEqDiff, Option.map, g2, g8, g9, g10, g14, g15, g17] | refine And.intro (by omega) ?_))
        refine ⟨q - 1, by omega, q - 1, r + v1, ?_⟩
        have := hstep hd
        (repeat' apply And.intro) <;> first | rfl | omega | assumption
    · (repeat (first | refine v_reg ?_ | refine v_last ?_ | refine vwp_seq ?_ | refine vwp_block ?_ | refine vwp_skip ?_ | refine vwp_exit ?_ | refine vwp_ret ?_ | refine v_cond ?_ | simp only [vm, ite_true, ite_false, eq_self, reduceIte, Nat.reduceEqDiff, Option.map, g2, g8, g9, g10, g14, g15, g17, g18, g16, gq, Nat.mod_eq_of_lt hqv0, Nat.mod_eq_of_lt hbr, Nat.mod_eq_of_lt hbr2] | refine And.intro (by omega) ?_))
      refine ⟨fun g3 => ?_, fun g3 => ?_⟩
      · have hd := hdec (.inr g3)
        (repeat (first | refine v_reg ?_ | refine v_last ?_ | refine vwp_seq ?_ | refine vwp_block ?_ | refine vwp_skip ?_ | refine vwp_exit ?_ | refine vwp_ret ?_ | refine v_cond ?_ | simp only [vm, ite_true, ite_false, eq_self, reduceIte, Nat.reduceEqDiff, Option.map, g2, g8, g9, g10, g14, g15, g17, g18, g16, gq, dec_mod64 (show 0 < q by omega) (by omega), Nat.mod_eq_of_lt hrv] | refine And.intro (by omega) ?_))
        refine ⟨fun gr => ?_, fun gr => ?_⟩
        · have := hnext hd gr
          (repeat (first | refine v_reg ?_ | refine v_last ?_ | refine vwp_seq ?_ | refine vwp_block ?_ | refine vwp_skip ?_ | refine vwp_exit ?_ | refine vwp_ret ?_ | refine v_cond ?_ | simp only [vm, ite_true, ite_false, eq_self, reduceIte, Nat.reduceEqDiff, Option.map, g2, g8, g9, g10, g14, g15, g17, this] | refine And.intro (by omega) ?_))
        · (repeat (first | refine v_reg ?_ | refine v_last ?_ | refine vwp_seq ?_ | refine vwp_block ?_ | refine vwp_skip ?_ | refine vwp_exit ?_ | refine vwp_ret ?_ | refine v_cond ?_ | simp only [vm, ite_true, ite_false, eq_self, reduceIte, Nat.reduceEqDiff, Option.map, g2, g8, g9, g10, g14, g15, g17] | refine And.intro (by omega) ?_))
          refine ⟨q - 1, by omega, q - 1, r + v1, ?_⟩
          have := hstep hd
          (repeat' apply And.intro) <;> first | rfl | omega | assumption
      · have := hend gq g3
        (repeat (first | refine v_reg ?_ | refine v_last ?_ | refine vwp_seq ?_ | refine vwp_block ?_ | refine vwp_skip ?_ | refine vwp_exit ?_ | refine vwp_ret ?_ | refine v_cond ?_ | simp only [vm, ite_true, ite_false, eq_self, reduceIte, Nat.reduceEqDiff, Option.map, g2, g8, g9, g10, g14, g15, g17, g18, this] | refine And.intro (by omega) ?_))
  rintro ⟨ρ3, σ, c5⟩ ⟨g2, g8, g14, g15, g17, g18, hσ, hc5⟩
  dsimp only at g2 g8 g14 g15 g17 g18 hσ hc5
  subst hσ hc5
  obtain ⟨hQT, hQT2⟩ := two_lt hQb hTb
  (repeat (first | refine v_reg ?_ | refine v_last ?_ | refine vwp_seq ?_ | refine vwp_block ?_ | refine vwp_skip ?_ | refine vwp_exit ?_ | refine vwp_ret ?_ | refine v_cond ?_ | simp only [vm, ite_true, ite_false, eq_self, reduceIte, Nat.reduceEqDiff, Option.map, g2, g8, g14, g15, g17, g18, hmin, hrest2, Nat.mod_eq_of_lt hQT2, Nat.mod_eq_of_lt hQT] | refine And.intro (by omega) ?_))
  rw [k1, k2, Nat.mul_div_cancel _ (Nat.two_pow_pos s)]
end Go.Proofs.Ytladcfeibpddeab
