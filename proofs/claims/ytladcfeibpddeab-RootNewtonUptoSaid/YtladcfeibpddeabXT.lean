import Derived.Test.YtladcfeibpddeabVX
import Derived.Test.YtladcfeibpddeabCode1
set_option linter.unusedVariables false
set_option maxRecDepth 100000
namespace Go.Proofs.Ytladcfeibpddeab
open Go.VM

theorem X.surdlaw04_RootLists : GoodF Try.prog ⟨F.surdlaw04_RootLists, C.surdlaw04_RootLists, R.surdlaw04_RootLists, 155⟩ := ⟨_, _, E.surdlaw04_RootLists, B.surdlaw04_RootLists, K.surdlaw04_RootLists, Q.surdlaw04_RootLists, N.surdlaw04_RootLists, by kernel_rfl⟩
theorem X.surdlaw04_RootOwn : GoodF Try.prog ⟨F.surdlaw04_RootOwn, C.surdlaw04_RootOwn, R.surdlaw04_RootOwn, 207⟩ := ⟨_, _, E.surdlaw04_RootOwn, B.surdlaw04_RootOwn, K.surdlaw04_RootOwn, Q.surdlaw04_RootOwn, N.surdlaw04_RootOwn, by kernel_rfl⟩
theorem X.surdlaw04_RootLogs : GoodF Try.prog ⟨F.surdlaw04_RootLogs, C.surdlaw04_RootLogs, R.surdlaw04_RootLogs, 46⟩ := ⟨_, _, E.surdlaw04_RootLogs, B.surdlaw04_RootLogs, K.surdlaw04_RootLogs, Q.surdlaw04_RootLogs, N.surdlaw04_RootLogs, by kernel_rfl⟩
theorem X.surdlaw04_RootOnce : GoodF Try.prog ⟨F.surdlaw04_RootOnce, C.surdlaw04_RootOnce, R.surdlaw04_RootOnce, 116⟩ := ⟨_, _, E.surdlaw04_RootOnce, B.surdlaw04_RootOnce, K.surdlaw04_RootOnce, Q.surdlaw04_RootOnce, N.surdlaw04_RootOnce, by kernel_rfl⟩
theorem X.surdlaw04_RootSteps : GoodF Try.prog ⟨F.surdlaw04_RootSteps, C.surdlaw04_RootSteps, R.surdlaw04_RootSteps, 60⟩ := ⟨_, _, E.surdlaw04_RootSteps, B.surdlaw04_RootSteps, K.surdlaw04_RootSteps, Q.surdlaw04_RootSteps, N.surdlaw04_RootSteps, by kernel_rfl⟩
theorem X.surdlaw04_RootNewton : GoodF Try.prog ⟨F.surdlaw04_RootNewton, C.surdlaw04_RootNewton, R.surdlaw04_RootNewton, 84⟩ := ⟨_, _, E.surdlaw04_RootNewton, B.surdlaw04_RootNewton, K.surdlaw04_RootNewton, Q.surdlaw04_RootNewton, N.surdlaw04_RootNewton, by kernel_rfl⟩
theorem X.surdlaw04_RootChains : GoodF Try.prog ⟨F.surdlaw04_RootChains, C.surdlaw04_RootChains, R.surdlaw04_RootChains, 140⟩ := ⟨_, _, E.surdlaw04_RootChains, B.surdlaw04_RootChains, K.surdlaw04_RootChains, Q.surdlaw04_RootChains, N.surdlaw04_RootChains, by kernel_rfl⟩
theorem X.surdlaw04_RootPell : GoodF Try.prog ⟨F.surdlaw04_RootPell, C.surdlaw04_RootPell, R.surdlaw04_RootPell, 161⟩ := ⟨_, _, E.surdlaw04_RootPell, B.surdlaw04_RootPell, K.surdlaw04_RootPell, Q.surdlaw04_RootPell, N.surdlaw04_RootPell, by kernel_rfl⟩
theorem X.surdref01_Lend : GoodF Try.prog ⟨F.surdref01_Lend, C.surdref01_Lend, R.surdref01_Lend, 40⟩ := ⟨_, _, E.surdref01_Lend, B.surdref01_Lend, K.surdref01_Lend, Q.surdref01_Lend, N.surdref01_Lend, by kernel_rfl⟩
theorem X.roots_Roots : GoodF Try.prog ⟨F.roots_Roots, C.roots_Roots, R.roots_Roots, 43⟩ := ⟨_, _, E.roots_Roots, B.roots_Roots, K.roots_Roots, Q.roots_Roots, N.roots_Roots, by kernel_rfl⟩
theorem X.surdref04_Roots : GoodF Try.prog ⟨F.surdref04_Roots, C.surdref04_Roots, R.surdref04_Roots, 42⟩ := ⟨_, _, E.surdref04_Roots, B.surdref04_Roots, K.surdref04_Roots, Q.surdref04_Roots, N.surdref04_Roots, by kernel_rfl⟩
theorem X.surdref01_Of : GoodF Try.prog ⟨F.surdref01_Of, C.surdref01_Of, R.surdref01_Of, 26⟩ := ⟨_, _, E.surdref01_Of, B.surdref01_Of, K.surdref01_Of, Q.surdref01_Of, N.surdref01_Of, by kernel_rfl⟩
theorem X.surdlaw04_num : GoodF Try.prog ⟨F.surdlaw04_num, C.surdlaw04_num, R.surdlaw04_num, 4⟩ := ⟨_, _, E.surdlaw04_num, B.surdlaw04_num, K.surdlaw04_num, Q.surdlaw04_num, N.surdlaw04_num, by kernel_rfl⟩
theorem X.surdref01_Kept : GoodF Try.prog ⟨F.surdref01_Kept, C.surdref01_Kept, R.surdref01_Kept, 39⟩ := ⟨_, _, E.surdref01_Kept, B.surdref01_Kept, K.surdref01_Kept, Q.surdref01_Kept, N.surdref01_Kept, by kernel_rfl⟩
theorem X.surdlaw04_skew : GoodF Try.prog ⟨F.surdlaw04_skew, C.surdlaw04_skew, R.surdlaw04_skew, 12⟩ := ⟨_, _, E.surdlaw04_skew, B.surdlaw04_skew, K.surdlaw04_skew, Q.surdlaw04_skew, N.surdlaw04_skew, by kernel_rfl⟩
theorem X.surdlaw04_awake : GoodF Try.prog ⟨F.surdlaw04_awake, C.surdlaw04_awake, R.surdlaw04_awake, 23⟩ := ⟨_, _, E.surdlaw04_awake, B.surdlaw04_awake, K.surdlaw04_awake, Q.surdlaw04_awake, N.surdlaw04_awake, by kernel_rfl⟩
theorem X.surdref01_Num_Len : GoodF Try.prog ⟨F.surdref01_Num_Len, C.surdref01_Num_Len, R.surdref01_Num_Len, 25⟩ := ⟨_, _, E.surdref01_Num_Len, B.surdref01_Num_Len, K.surdref01_Num_Len, Q.surdref01_Num_Len, N.surdref01_Num_Len, by kernel_rfl⟩
theorem X.surdref01_Root : GoodF Try.prog ⟨F.surdref01_Root, C.surdref01_Root, R.surdref01_Root, 26⟩ := ⟨_, _, E.surdref01_Root, B.surdref01_Root, K.surdref01_Root, Q.surdref01_Root, N.surdref01_Root, by kernel_rfl⟩
theorem X.roots_Root : GoodF Try.prog ⟨F.roots_Root, C.roots_Root, R.roots_Root, 42⟩ := ⟨_, _, E.roots_Root, B.roots_Root, K.roots_Root, Q.roots_Root, N.roots_Root, by kernel_rfl⟩
theorem X.roots_Sqrt : GoodF Try.prog ⟨F.roots_Sqrt, C.roots_Sqrt, R.roots_Sqrt, 10⟩ := ⟨_, _, E.roots_Sqrt, B.roots_Sqrt, K.roots_Sqrt, Q.roots_Sqrt, N.roots_Sqrt, by kernel_rfl⟩
theorem X.roots_Ceil : GoodF Try.prog ⟨F.roots_Ceil, C.roots_Ceil, R.roots_Ceil, 27⟩ := ⟨_, _, E.roots_Ceil, B.roots_Ceil, K.roots_Ceil, Q.roots_Ceil, N.roots_Ceil, by kernel_rfl⟩
theorem X.roots_Perfect : GoodF Try.prog ⟨F.roots_Perfect, C.roots_Perfect, R.roots_Perfect, 51⟩ := ⟨_, _, E.roots_Perfect, B.roots_Perfect, K.roots_Perfect, Q.roots_Perfect, N.roots_Perfect, by kernel_rfl⟩
theorem X.surdref01_Num_Is : GoodF Try.prog ⟨F.surdref01_Num_Is, C.surdref01_Num_Is, R.surdref01_Num_Is, 29⟩ := ⟨_, _, E.surdref01_Num_Is, B.surdref01_Num_Is, K.surdref01_Num_Is, Q.surdref01_Num_Is, N.surdref01_Num_Is, by kernel_rfl⟩
theorem X.surdref01_Own : GoodF Try.prog ⟨F.surdref01_Own, C.surdref01_Own, R.surdref01_Own, 112⟩ := ⟨_, _, E.surdref01_Own, B.surdref01_Own, K.surdref01_Own, Q.surdref01_Own, N.surdref01_Own, by kernel_rfl⟩
theorem X.surdref01_Copy : GoodF Try.prog ⟨F.surdref01_Copy, C.surdref01_Copy, R.surdref01_Copy, 22⟩ := ⟨_, _, E.surdref01_Copy, B.surdref01_Copy, K.surdref01_Copy, Q.surdref01_Copy, N.surdref01_Copy, by kernel_rfl⟩
theorem X.surdref04_Log : GoodF Try.prog ⟨F.surdref04_Log, C.surdref04_Log, R.surdref04_Log, 27⟩ := ⟨_, _, E.surdref04_Log, B.surdref04_Log, K.surdref04_Log, Q.surdref04_Log, N.surdref04_Log, by kernel_rfl⟩
theorem X.roots_Log : GoodF Try.prog ⟨F.roots_Log, C.roots_Log, R.roots_Log, 89⟩ := ⟨_, _, E.roots_Log, B.roots_Log, K.roots_Log, Q.roots_Log, N.roots_Log, by kernel_rfl⟩
theorem X.surdref01_Cmp : GoodF Try.prog ⟨F.surdref01_Cmp, C.surdref01_Cmp, R.surdref01_Cmp, 41⟩ := ⟨_, _, E.surdref01_Cmp, B.surdref01_Cmp, K.surdref01_Cmp, Q.surdref01_Cmp, N.surdref01_Cmp, by kernel_rfl⟩
theorem X.surdlaw04_of : GoodF Try.prog ⟨F.surdlaw04_of, C.surdlaw04_of, R.surdlaw04_of, 5⟩ := ⟨_, _, E.surdlaw04_of, B.surdlaw04_of, K.surdlaw04_of, Q.surdlaw04_of, N.surdlaw04_of, by kernel_rfl⟩
theorem X.roots_IsSquare : GoodF Try.prog ⟨F.roots_IsSquare, C.roots_IsSquare, R.roots_IsSquare, 21⟩ := ⟨_, _, E.roots_IsSquare, B.roots_IsSquare, K.roots_IsSquare, Q.roots_IsSquare, N.roots_IsSquare, by kernel_rfl⟩
theorem X.surdref01_Pow : GoodF Try.prog ⟨F.surdref01_Pow, C.surdref01_Pow, R.surdref01_Pow, 24⟩ := ⟨_, _, E.surdref01_Pow, B.surdref01_Pow, K.surdref01_Pow, Q.surdref01_Pow, N.surdref01_Pow, by kernel_rfl⟩
theorem X.surdref04_Step : GoodF Try.prog ⟨F.surdref04_Step, C.surdref04_Step, R.surdref04_Step, 30⟩ := ⟨_, _, E.surdref04_Step, B.surdref04_Step, K.surdref04_Step, Q.surdref04_Step, N.surdref04_Step, by kernel_rfl⟩
theorem X.roots_Step : GoodF Try.prog ⟨F.roots_Step, C.roots_Step, R.roots_Step, 61⟩ := ⟨_, _, E.roots_Step, B.roots_Step, K.roots_Step, Q.roots_Step, N.roots_Step, by kernel_rfl⟩
theorem X.surdlaw04_alike : GoodF Try.prog ⟨F.surdlaw04_alike, C.surdlaw04_alike, R.surdlaw04_alike, 21⟩ := ⟨_, _, E.surdlaw04_alike, B.surdlaw04_alike, K.surdlaw04_alike, Q.surdlaw04_alike, N.surdlaw04_alike, by kernel_rfl⟩
theorem X.surdref01_Num_Zero : GoodF Try.prog ⟨F.surdref01_Num_Zero, C.surdref01_Num_Zero, R.surdref01_Num_Zero, 6⟩ := ⟨_, _, E.surdref01_Num_Zero, B.surdref01_Num_Zero, K.surdref01_Num_Zero, Q.surdref01_Num_Zero, N.surdref01_Num_Zero, by kernel_rfl⟩
theorem X.surdref01_Add : GoodF Try.prog ⟨F.surdref01_Add, C.surdref01_Add, R.surdref01_Add, 44⟩ := ⟨_, _, E.surdref01_Add, B.surdref01_Add, K.surdref01_Add, Q.surdref01_Add, N.surdref01_Add, by kernel_rfl⟩
theorem X.surdlaw04_one : GoodF Try.prog ⟨F.surdlaw04_one, C.surdlaw04_one, R.surdlaw04_one, 2⟩ := ⟨_, _, E.surdlaw04_one, B.surdlaw04_one, K.surdlaw04_one, Q.surdlaw04_one, N.surdlaw04_one, by kernel_rfl⟩
theorem X.roots_Chain : GoodF Try.prog ⟨F.roots_Chain, C.roots_Chain, R.roots_Chain, 64⟩ := ⟨_, _, E.roots_Chain, B.roots_Chain, K.roots_Chain, Q.roots_Chain, N.roots_Chain, by kernel_rfl⟩
theorem X.surdref04_Chain : GoodF Try.prog ⟨F.surdref04_Chain, C.surdref04_Chain, R.surdref04_Chain, 59⟩ := ⟨_, _, E.surdref04_Chain, B.surdref04_Chain, K.surdref04_Chain, Q.surdref04_Chain, N.surdref04_Chain, by kernel_rfl⟩
theorem X.roots_Pell : GoodF Try.prog ⟨F.roots_Pell, C.roots_Pell, R.roots_Pell, 73⟩ := ⟨_, _, E.roots_Pell, B.roots_Pell, K.roots_Pell, Q.roots_Pell, N.roots_Pell, by kernel_rfl⟩
theorem X.surdref04_Pell : GoodF Try.prog ⟨F.surdref04_Pell, C.surdref04_Pell, R.surdref04_Pell, 74⟩ := ⟨_, _, E.surdref04_Pell, B.surdref04_Pell, K.surdref04_Pell, Q.surdref04_Pell, N.surdref04_Pell, by kernel_rfl⟩
theorem X.surdref01_Mul : GoodF Try.prog ⟨F.surdref01_Mul, C.surdref01_Mul, R.surdref01_Mul, 65⟩ := ⟨_, _, E.surdref01_Mul, B.surdref01_Mul, K.surdref01_Mul, Q.surdref01_Mul, N.surdref01_Mul, by kernel_rfl⟩
theorem X.surdref01_Int : GoodF Try.prog ⟨F.surdref01_Int, C.surdref01_Int, R.surdref01_Int, 7⟩ := ⟨_, _, E.surdref01_Int, B.surdref01_Int, K.surdref01_Int, Q.surdref01_Int, N.surdref01_Int, by kernel_rfl⟩
theorem X.nat_Through : GoodF Try.prog ⟨F.nat_Through, C.nat_Through, R.nat_Through, 48⟩ := ⟨_, _, E.nat_Through, B.nat_Through, K.nat_Through, Q.nat_Through, N.nat_Through, by kernel_rfl⟩
theorem X.surdref01_Div : GoodF Try.prog ⟨F.surdref01_Div, C.surdref01_Div, R.surdref01_Div, 60⟩ := ⟨_, _, E.surdref01_Div, B.surdref01_Div, K.surdref01_Div, Q.surdref01_Div, N.surdref01_Div, by kernel_rfl⟩
theorem X.surdref01_norm : GoodF Try.prog ⟨F.surdref01_norm, C.surdref01_norm, R.surdref01_norm, 22⟩ := ⟨_, _, E.surdref01_norm, B.surdref01_norm, K.surdref01_norm, Q.surdref01_norm, N.surdref01_norm, by kernel_rfl⟩
theorem X.surdref01_Shl : GoodF Try.prog ⟨F.surdref01_Shl, C.surdref01_Shl, R.surdref01_Shl, 55⟩ := ⟨_, _, E.surdref01_Shl, B.surdref01_Shl, K.surdref01_Shl, Q.surdref01_Shl, N.surdref01_Shl, by kernel_rfl⟩
theorem X.roots_fits : GoodF Try.prog ⟨F.roots_fits, C.roots_fits, R.roots_fits, 9⟩ := ⟨_, _, E.roots_fits, B.roots_fits, K.roots_fits, Q.roots_fits, N.roots_fits, by kernel_rfl⟩
theorem X.nat_Length : GoodF Try.prog ⟨F.nat_Length, C.nat_Length, R.nat_Length, 20⟩ := ⟨_, _, E.nat_Length, B.nat_Length, K.nat_Length, Q.nat_Length, N.nat_Length, by kernel_rfl⟩
theorem X.roots_newton : GoodF Try.prog ⟨F.roots_newton, C.roots_newton, R.roots_newton, 72⟩ := ⟨_, _, E.roots_newton, B.roots_newton, K.roots_newton, Q.roots_newton, N.roots_newton, by kernel_rfl⟩
theorem X.mul_Pow : GoodF Try.prog ⟨F.mul_Pow, C.mul_Pow, R.mul_Pow, 63⟩ := ⟨_, _, E.mul_Pow, B.mul_Pow, K.mul_Pow, Q.mul_Pow, N.mul_Pow, by kernel_rfl⟩
theorem X.roots_less : GoodF Try.prog ⟨F.roots_less, C.roots_less, R.roots_less, 14⟩ := ⟨_, _, E.roots_less, B.roots_less, K.roots_less, Q.roots_less, N.roots_less, by kernel_rfl⟩
theorem X.nat_Add : GoodF Try.prog ⟨F.nat_Add, C.nat_Add, R.nat_Add, 61⟩ := ⟨_, _, E.nat_Add, B.nat_Add, K.nat_Add, Q.nat_Add, N.nat_Add, by kernel_rfl⟩
theorem X.nat_From : GoodF Try.prog ⟨F.nat_From, C.nat_From, R.nat_From, 7⟩ := ⟨_, _, E.nat_From, B.nat_From, K.nat_From, Q.nat_From, N.nat_From, by kernel_rfl⟩
theorem X.surdref01_Num_Limbs : GoodF Try.prog ⟨F.surdref01_Num_Limbs, C.surdref01_Num_Limbs, R.surdref01_Num_Limbs, 34⟩ := ⟨_, _, E.surdref01_Num_Limbs, B.surdref01_Num_Limbs, K.surdref01_Num_Limbs, Q.surdref01_Num_Limbs, N.surdref01_Num_Limbs, by kernel_rfl⟩
theorem X.mul_Square : GoodF Try.prog ⟨F.mul_Square, C.mul_Square, R.mul_Square, 9⟩ := ⟨_, _, E.mul_Square, B.mul_Square, K.mul_Square, Q.mul_Square, N.mul_Square, by kernel_rfl⟩
theorem X.nat_Compare : GoodF Try.prog ⟨F.nat_Compare, C.nat_Compare, R.nat_Compare, 45⟩ := ⟨_, _, E.nat_Compare, B.nat_Compare, K.nat_Compare, Q.nat_Compare, N.nat_Compare, by kernel_rfl⟩
theorem X.mul_Mul : GoodF Try.prog ⟨F.mul_Mul, C.mul_Mul, R.mul_Mul, 11⟩ := ⟨_, _, E.mul_Mul, B.mul_Mul, K.mul_Mul, Q.mul_Mul, N.mul_Mul, by kernel_rfl⟩
theorem X.surdref04_told : GoodF Try.prog ⟨F.surdref04_told, C.surdref04_told, R.surdref04_told, 17⟩ := ⟨_, _, E.surdref04_told, B.surdref04_told, K.surdref04_told, Q.surdref04_told, N.surdref04_told, by kernel_rfl⟩
theorem X.surdref01_Shr : GoodF Try.prog ⟨F.surdref01_Shr, C.surdref01_Shr, R.surdref01_Shr, 53⟩ := ⟨_, _, E.surdref01_Shr, B.surdref01_Shr, K.surdref01_Shr, Q.surdref01_Shr, N.surdref01_Shr, by kernel_rfl⟩
theorem X.div_Quo : GoodF Try.prog ⟨F.div_Quo, C.div_Quo, R.div_Quo, 25⟩ := ⟨_, _, E.div_Quo, B.div_Quo, K.div_Quo, Q.div_Quo, N.div_Quo, by kernel_rfl⟩
theorem X.nat_Right : GoodF Try.prog ⟨F.nat_Right, C.nat_Right, R.nat_Right, 77⟩ := ⟨_, _, E.nat_Right, B.nat_Right, K.nat_Right, Q.nat_Right, N.nat_Right, by kernel_rfl⟩
theorem X.nat_Bit : GoodF Try.prog ⟨F.nat_Bit, C.nat_Bit, R.nat_Bit, 25⟩ := ⟨_, _, E.nat_Bit, B.nat_Bit, K.nat_Bit, Q.nat_Bit, N.nat_Bit, by kernel_rfl⟩
theorem X.surdref01_Num_at : GoodF Try.prog ⟨F.surdref01_Num_at, C.surdref01_Num_at, R.surdref01_Num_at, 13⟩ := ⟨_, _, E.surdref01_Num_at, B.surdref01_Num_at, K.surdref01_Num_at, Q.surdref01_Num_at, N.surdref01_Num_at, by kernel_rfl⟩
theorem X.roots_next : GoodF Try.prog ⟨F.roots_next, C.roots_next, R.roots_next, 24⟩ := ⟨_, _, E.roots_next, B.roots_next, K.roots_next, Q.roots_next, N.roots_next, by kernel_rfl⟩
theorem X.nat_trim : GoodF Try.prog ⟨F.nat_trim, C.nat_trim, R.nat_trim, 21⟩ := ⟨_, _, E.nat_trim, B.nat_trim, K.nat_trim, Q.nat_trim, N.nat_trim, by kernel_rfl⟩
theorem X.bits_Div64 : GoodF Try.prog ⟨F.bits_Div64, C.bits_Div64, R.bits_Div64, 135⟩ := ⟨_, _, E.bits_Div64, B.bits_Div64, K.bits_Div64, Q.bits_Div64, N.bits_Div64, by kernel_rfl⟩
theorem X.nat_told : GoodF Try.prog ⟨F.nat_told, C.nat_told, R.nat_told, 10⟩ := ⟨_, _, E.nat_told, B.nat_told, K.nat_told, Q.nat_told, N.nat_told, by kernel_rfl⟩
theorem X.surdref01_Sub : GoodF Try.prog ⟨F.surdref01_Sub, C.surdref01_Sub, R.surdref01_Sub, 39⟩ := ⟨_, _, E.surdref01_Sub, B.surdref01_Sub, K.surdref01_Sub, Q.surdref01_Sub, N.surdref01_Sub, by kernel_rfl⟩
theorem X.nat_Norm : GoodF Try.prog ⟨F.nat_Norm, C.nat_Norm, R.nat_Norm, 6⟩ := ⟨_, _, E.nat_Norm, B.nat_Norm, K.nat_Norm, Q.nat_Norm, N.nat_Norm, by kernel_rfl⟩
theorem X.bits_Len64 : GoodF Try.prog ⟨F.bits_Len64, C.bits_Len64, R.bits_Len64, 25⟩ := ⟨_, _, E.bits_Len64, B.bits_Len64, K.bits_Len64, Q.bits_Len64, N.bits_Len64, by kernel_rfl⟩
theorem X.roots_power : GoodF Try.prog ⟨F.roots_power, C.roots_power, R.roots_power, 12⟩ := ⟨_, _, E.roots_power, B.roots_power, K.roots_power, Q.roots_power, N.roots_power, by kernel_rfl⟩
theorem X.nat_Times : GoodF Try.prog ⟨F.nat_Times, C.nat_Times, R.nat_Times, 56⟩ := ⟨_, _, E.nat_Times, B.nat_Times, K.nat_Times, Q.nat_Times, N.nat_Times, by kernel_rfl⟩
theorem X.nat_Sub : GoodF Try.prog ⟨F.nat_Sub, C.nat_Sub, R.nat_Sub, 52⟩ := ⟨_, _, E.nat_Sub, B.nat_Sub, K.nat_Sub, Q.nat_Sub, N.nat_Sub, by kernel_rfl⟩
theorem X.mul_product : GoodF Try.prog ⟨F.mul_product, C.mul_product, R.mul_product, 22⟩ := ⟨_, _, E.mul_product, B.mul_product, K.mul_product, Q.mul_product, N.mul_product, by kernel_rfl⟩
theorem X.mul_Mul_1 : GoodF Try.prog ⟨F.mul_Mul_1, C.mul_Mul_1, R.mul_Mul_1, 8⟩ := ⟨_, _, E.mul_Mul_1, B.mul_Mul_1, K.mul_Mul_1, Q.mul_Mul_1, N.mul_Mul_1, by kernel_rfl⟩
theorem X.mul_halved : GoodF Try.prog ⟨F.mul_halved, C.mul_halved, R.mul_halved, 124⟩ := ⟨_, _, E.mul_halved, B.mul_halved, K.mul_halved, Q.mul_halved, N.mul_halved, by kernel_rfl⟩
theorem X.div_divide : GoodF Try.prog ⟨F.div_divide, C.div_divide, R.div_divide, 104⟩ := ⟨_, _, E.div_divide, B.div_divide, K.div_divide, Q.div_divide, N.div_divide, by kernel_rfl⟩
theorem X.bits_LeadingZeros64 : GoodF Try.prog ⟨F.bits_LeadingZeros64, C.bits_LeadingZeros64, R.bits_LeadingZeros64, 6⟩ := ⟨_, _, E.bits_LeadingZeros64, B.bits_LeadingZeros64, K.bits_LeadingZeros64, Q.bits_LeadingZeros64, N.bits_LeadingZeros64, by kernel_rfl⟩
theorem X.nat_Left : GoodF Try.prog ⟨F.nat_Left, C.nat_Left, R.nat_Left, 73⟩ := ⟨_, _, E.nat_Left, B.nat_Left, K.nat_Left, Q.nat_Left, N.nat_Left, by kernel_rfl⟩
theorem X.bits_Mul64 : GoodF Try.prog ⟨F.bits_Mul64, C.bits_Mul64, R.bits_Mul64, 51⟩ := ⟨_, _, E.bits_Mul64, B.bits_Mul64, K.bits_Mul64, Q.bits_Mul64, N.bits_Mul64, by kernel_rfl⟩
theorem X.mul_great : GoodF Try.prog ⟨F.mul_great, C.mul_great, R.mul_great, 24⟩ := ⟨_, _, E.mul_great, B.mul_great, K.mul_great, Q.mul_great, N.mul_great, by kernel_rfl⟩
theorem X.mul_fits : GoodF Try.prog ⟨F.mul_fits, C.mul_fits, R.mul_fits, 10⟩ := ⟨_, _, E.mul_fits, B.mul_fits, K.mul_fits, Q.mul_fits, N.mul_fits, by kernel_rfl⟩
theorem X.mul_school : GoodF Try.prog ⟨F.mul_school, C.mul_school, R.mul_school, 78⟩ := ⟨_, _, E.mul_school, B.mul_school, K.mul_school, Q.mul_school, N.mul_school, by kernel_rfl⟩
theorem X.mul_addAt : GoodF Try.prog ⟨F.mul_addAt, C.mul_addAt, R.mul_addAt, 53⟩ := ⟨_, _, E.mul_addAt, B.mul_addAt, K.mul_addAt, Q.mul_addAt, N.mul_addAt, by kernel_rfl⟩
theorem X.mul_part : GoodF Try.prog ⟨F.mul_part, C.mul_part, R.mul_part, 32⟩ := ⟨_, _, E.mul_part, B.mul_part, K.mul_part, Q.mul_part, N.mul_part, by kernel_rfl⟩
theorem X.mul_less : GoodF Try.prog ⟨F.mul_less, C.mul_less, R.mul_less, 43⟩ := ⟨_, _, E.mul_less, B.mul_less, K.mul_less, Q.mul_less, N.mul_less, by kernel_rfl⟩
theorem X.mul_sum : GoodF Try.prog ⟨F.mul_sum, C.mul_sum, R.mul_sum, 20⟩ := ⟨_, _, E.mul_sum, B.mul_sum, K.mul_sum, Q.mul_sum, N.mul_sum, by kernel_rfl⟩
theorem X.div_up : GoodF Try.prog ⟨F.div_up, C.div_up, R.div_up, 39⟩ := ⟨_, _, E.div_up, B.div_up, K.div_up, Q.div_up, N.div_up, by kernel_rfl⟩
theorem X.div_guess : GoodF Try.prog ⟨F.div_guess, C.div_guess, R.div_guess, 195⟩ := ⟨_, _, E.div_guess, B.div_guess, K.div_guess, Q.div_guess, N.div_guess, by kernel_rfl⟩
theorem X.div_down : GoodF Try.prog ⟨F.div_down, C.div_down, R.div_down, 47⟩ := ⟨_, _, E.div_down, B.div_down, K.div_down, Q.div_down, N.div_down, by kernel_rfl⟩
def XT : List XFun := [⟨F.surdlaw04_RootLists, C.surdlaw04_RootLists, R.surdlaw04_RootLists, 155⟩,
  ⟨F.surdlaw04_RootOwn, C.surdlaw04_RootOwn, R.surdlaw04_RootOwn, 207⟩,
  ⟨F.surdlaw04_RootLogs, C.surdlaw04_RootLogs, R.surdlaw04_RootLogs, 46⟩,
  ⟨F.surdlaw04_RootOnce, C.surdlaw04_RootOnce, R.surdlaw04_RootOnce, 116⟩,
  ⟨F.surdlaw04_RootSteps, C.surdlaw04_RootSteps, R.surdlaw04_RootSteps, 60⟩,
  ⟨F.surdlaw04_RootNewton, C.surdlaw04_RootNewton, R.surdlaw04_RootNewton, 84⟩,
  ⟨F.surdlaw04_RootChains, C.surdlaw04_RootChains, R.surdlaw04_RootChains, 140⟩,
  ⟨F.surdlaw04_RootPell, C.surdlaw04_RootPell, R.surdlaw04_RootPell, 161⟩,
  ⟨F.surdref01_Lend, C.surdref01_Lend, R.surdref01_Lend, 40⟩,
  ⟨F.roots_Roots, C.roots_Roots, R.roots_Roots, 43⟩,
  ⟨F.surdref04_Roots, C.surdref04_Roots, R.surdref04_Roots, 42⟩,
  ⟨F.surdref01_Of, C.surdref01_Of, R.surdref01_Of, 26⟩,
  ⟨F.surdlaw04_num, C.surdlaw04_num, R.surdlaw04_num, 4⟩,
  ⟨F.surdref01_Kept, C.surdref01_Kept, R.surdref01_Kept, 39⟩,
  ⟨F.surdlaw04_skew, C.surdlaw04_skew, R.surdlaw04_skew, 12⟩,
  ⟨F.surdlaw04_awake, C.surdlaw04_awake, R.surdlaw04_awake, 23⟩,
  ⟨F.surdref01_Num_Len, C.surdref01_Num_Len, R.surdref01_Num_Len, 25⟩,
  ⟨F.surdref01_Root, C.surdref01_Root, R.surdref01_Root, 26⟩,
  ⟨F.roots_Root, C.roots_Root, R.roots_Root, 42⟩,
  ⟨F.roots_Sqrt, C.roots_Sqrt, R.roots_Sqrt, 10⟩,
  ⟨F.roots_Ceil, C.roots_Ceil, R.roots_Ceil, 27⟩,
  ⟨F.roots_Perfect, C.roots_Perfect, R.roots_Perfect, 51⟩,
  ⟨F.surdref01_Num_Is, C.surdref01_Num_Is, R.surdref01_Num_Is, 29⟩,
  ⟨F.surdref01_Own, C.surdref01_Own, R.surdref01_Own, 112⟩,
  ⟨F.surdref01_Copy, C.surdref01_Copy, R.surdref01_Copy, 22⟩,
  ⟨F.surdref04_Log, C.surdref04_Log, R.surdref04_Log, 27⟩,
  ⟨F.roots_Log, C.roots_Log, R.roots_Log, 89⟩,
  ⟨F.surdref01_Cmp, C.surdref01_Cmp, R.surdref01_Cmp, 41⟩,
  ⟨F.surdlaw04_of, C.surdlaw04_of, R.surdlaw04_of, 5⟩,
  ⟨F.roots_IsSquare, C.roots_IsSquare, R.roots_IsSquare, 21⟩,
  ⟨F.surdref01_Pow, C.surdref01_Pow, R.surdref01_Pow, 24⟩,
  ⟨F.surdref04_Step, C.surdref04_Step, R.surdref04_Step, 30⟩,
  ⟨F.roots_Step, C.roots_Step, R.roots_Step, 61⟩,
  ⟨F.surdlaw04_alike, C.surdlaw04_alike, R.surdlaw04_alike, 21⟩,
  ⟨F.surdref01_Num_Zero, C.surdref01_Num_Zero, R.surdref01_Num_Zero, 6⟩,
  ⟨F.surdref01_Add, C.surdref01_Add, R.surdref01_Add, 44⟩,
  ⟨F.surdlaw04_one, C.surdlaw04_one, R.surdlaw04_one, 2⟩,
  ⟨F.roots_Chain, C.roots_Chain, R.roots_Chain, 64⟩,
  ⟨F.surdref04_Chain, C.surdref04_Chain, R.surdref04_Chain, 59⟩,
  ⟨F.roots_Pell, C.roots_Pell, R.roots_Pell, 73⟩,
  ⟨F.surdref04_Pell, C.surdref04_Pell, R.surdref04_Pell, 74⟩,
  ⟨F.surdref01_Mul, C.surdref01_Mul, R.surdref01_Mul, 65⟩,
  ⟨F.surdref01_Int, C.surdref01_Int, R.surdref01_Int, 7⟩,
  ⟨F.nat_Through, C.nat_Through, R.nat_Through, 48⟩,
  ⟨F.surdref01_Div, C.surdref01_Div, R.surdref01_Div, 60⟩,
  ⟨F.surdref01_norm, C.surdref01_norm, R.surdref01_norm, 22⟩,
  ⟨F.surdref01_Shl, C.surdref01_Shl, R.surdref01_Shl, 55⟩,
  ⟨F.roots_fits, C.roots_fits, R.roots_fits, 9⟩,
  ⟨F.nat_Length, C.nat_Length, R.nat_Length, 20⟩,
  ⟨F.roots_newton, C.roots_newton, R.roots_newton, 72⟩,
  ⟨F.mul_Pow, C.mul_Pow, R.mul_Pow, 63⟩,
  ⟨F.roots_less, C.roots_less, R.roots_less, 14⟩,
  ⟨F.nat_Add, C.nat_Add, R.nat_Add, 61⟩,
  ⟨F.nat_From, C.nat_From, R.nat_From, 7⟩,
  ⟨F.surdref01_Num_Limbs, C.surdref01_Num_Limbs, R.surdref01_Num_Limbs, 34⟩,
  ⟨F.mul_Square, C.mul_Square, R.mul_Square, 9⟩,
  ⟨F.nat_Compare, C.nat_Compare, R.nat_Compare, 45⟩,
  ⟨F.mul_Mul, C.mul_Mul, R.mul_Mul, 11⟩,
  ⟨F.surdref04_told, C.surdref04_told, R.surdref04_told, 17⟩,
  ⟨F.surdref01_Shr, C.surdref01_Shr, R.surdref01_Shr, 53⟩,
  ⟨F.div_Quo, C.div_Quo, R.div_Quo, 25⟩,
  ⟨F.nat_Right, C.nat_Right, R.nat_Right, 77⟩,
  ⟨F.nat_Bit, C.nat_Bit, R.nat_Bit, 25⟩,
  ⟨F.surdref01_Num_at, C.surdref01_Num_at, R.surdref01_Num_at, 13⟩,
  ⟨F.roots_next, C.roots_next, R.roots_next, 24⟩,
  ⟨F.nat_trim, C.nat_trim, R.nat_trim, 21⟩,
  ⟨F.bits_Div64, C.bits_Div64, R.bits_Div64, 135⟩,
  ⟨F.nat_told, C.nat_told, R.nat_told, 10⟩,
  ⟨F.surdref01_Sub, C.surdref01_Sub, R.surdref01_Sub, 39⟩,
  ⟨F.nat_Norm, C.nat_Norm, R.nat_Norm, 6⟩,
  ⟨F.bits_Len64, C.bits_Len64, R.bits_Len64, 25⟩,
  ⟨F.roots_power, C.roots_power, R.roots_power, 12⟩,
  ⟨F.nat_Times, C.nat_Times, R.nat_Times, 56⟩,
  ⟨F.nat_Sub, C.nat_Sub, R.nat_Sub, 52⟩,
  ⟨F.mul_product, C.mul_product, R.mul_product, 22⟩,
  ⟨F.mul_Mul_1, C.mul_Mul_1, R.mul_Mul_1, 8⟩,
  ⟨F.mul_halved, C.mul_halved, R.mul_halved, 124⟩,
  ⟨F.div_divide, C.div_divide, R.div_divide, 104⟩,
  ⟨F.bits_LeadingZeros64, C.bits_LeadingZeros64, R.bits_LeadingZeros64, 6⟩,
  ⟨F.nat_Left, C.nat_Left, R.nat_Left, 73⟩,
  ⟨F.bits_Mul64, C.bits_Mul64, R.bits_Mul64, 51⟩,
  ⟨F.mul_great, C.mul_great, R.mul_great, 24⟩,
  ⟨F.mul_fits, C.mul_fits, R.mul_fits, 10⟩,
  ⟨F.mul_school, C.mul_school, R.mul_school, 78⟩,
  ⟨F.mul_addAt, C.mul_addAt, R.mul_addAt, 53⟩,
  ⟨F.mul_part, C.mul_part, R.mul_part, 32⟩,
  ⟨F.mul_less, C.mul_less, R.mul_less, 43⟩,
  ⟨F.mul_sum, C.mul_sum, R.mul_sum, 20⟩,
  ⟨F.div_up, C.div_up, R.div_up, 39⟩,
  ⟨F.div_guess, C.div_guess, R.div_guess, 195⟩,
  ⟨F.div_down, C.div_down, R.div_down, 47⟩]
theorem XT_good : ∀ e ∈ XT, GoodF Try.prog e := by
  intro e h
  unfold XT at h
  simp only [List.mem_cons, List.not_mem_nil, or_false] at h
  rcases h with rfl | rfl | rfl | rfl | rfl | rfl | rfl | rfl | rfl | rfl | rfl | rfl | rfl | rfl | rfl | rfl | rfl | rfl | rfl | rfl | rfl | rfl | rfl | rfl | rfl | rfl | rfl | rfl | rfl | rfl | rfl | rfl | rfl | rfl | rfl | rfl | rfl | rfl | rfl | rfl | rfl | rfl | rfl | rfl | rfl | rfl | rfl | rfl | rfl | rfl | rfl | rfl | rfl | rfl | rfl | rfl | rfl | rfl | rfl | rfl | rfl | rfl | rfl | rfl | rfl | rfl | rfl | rfl | rfl | rfl | rfl | rfl | rfl | rfl | rfl | rfl | rfl | rfl | rfl | rfl | rfl | rfl | rfl | rfl | rfl | rfl | rfl | rfl | rfl | rfl | rfl
  · exact X.surdlaw04_RootLists
  · exact X.surdlaw04_RootOwn
  · exact X.surdlaw04_RootLogs
  · exact X.surdlaw04_RootOnce
  · exact X.surdlaw04_RootSteps
  · exact X.surdlaw04_RootNewton
  · exact X.surdlaw04_RootChains
  · exact X.surdlaw04_RootPell
  · exact X.surdref01_Lend
  · exact X.roots_Roots
  · exact X.surdref04_Roots
  · exact X.surdref01_Of
  · exact X.surdlaw04_num
  · exact X.surdref01_Kept
  · exact X.surdlaw04_skew
  · exact X.surdlaw04_awake
  · exact X.surdref01_Num_Len
  · exact X.surdref01_Root
  · exact X.roots_Root
  · exact X.roots_Sqrt
  · exact X.roots_Ceil
  · exact X.roots_Perfect
  · exact X.surdref01_Num_Is
  · exact X.surdref01_Own
  · exact X.surdref01_Copy
  · exact X.surdref04_Log
  · exact X.roots_Log
  · exact X.surdref01_Cmp
  · exact X.surdlaw04_of
  · exact X.roots_IsSquare
  · exact X.surdref01_Pow
  · exact X.surdref04_Step
  · exact X.roots_Step
  · exact X.surdlaw04_alike
  · exact X.surdref01_Num_Zero
  · exact X.surdref01_Add
  · exact X.surdlaw04_one
  · exact X.roots_Chain
  · exact X.surdref04_Chain
  · exact X.roots_Pell
  · exact X.surdref04_Pell
  · exact X.surdref01_Mul
  · exact X.surdref01_Int
  · exact X.nat_Through
  · exact X.surdref01_Div
  · exact X.surdref01_norm
  · exact X.surdref01_Shl
  · exact X.roots_fits
  · exact X.nat_Length
  · exact X.roots_newton
  · exact X.mul_Pow
  · exact X.roots_less
  · exact X.nat_Add
  · exact X.nat_From
  · exact X.surdref01_Num_Limbs
  · exact X.mul_Square
  · exact X.nat_Compare
  · exact X.mul_Mul
  · exact X.surdref04_told
  · exact X.surdref01_Shr
  · exact X.div_Quo
  · exact X.nat_Right
  · exact X.nat_Bit
  · exact X.surdref01_Num_at
  · exact X.roots_next
  · exact X.nat_trim
  · exact X.bits_Div64
  · exact X.nat_told
  · exact X.surdref01_Sub
  · exact X.nat_Norm
  · exact X.bits_Len64
  · exact X.roots_power
  · exact X.nat_Times
  · exact X.nat_Sub
  · exact X.mul_product
  · exact X.mul_Mul_1
  · exact X.mul_halved
  · exact X.div_divide
  · exact X.bits_LeadingZeros64
  · exact X.nat_Left
  · exact X.bits_Mul64
  · exact X.mul_great
  · exact X.mul_fits
  · exact X.mul_school
  · exact X.mul_addAt
  · exact X.mul_part
  · exact X.mul_less
  · exact X.mul_sum
  · exact X.div_up
  · exact X.div_guess
  · exact X.div_down
end Go.Proofs.Ytladcfeibpddeab
