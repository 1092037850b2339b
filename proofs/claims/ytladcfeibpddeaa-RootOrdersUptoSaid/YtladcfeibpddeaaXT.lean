import Derived.Test.YtladcfeibpddeaaVX
import Derived.Test.YtladcfeibpddeaaCode0
set_option linter.unusedVariables false
set_option maxRecDepth 100000
namespace Go.Proofs.Ytladcfeibpddeaa
open Go.VM

theorem X.surdlaw04_RootNames : GoodF Try.prog ⟨F.surdlaw04_RootNames, C.surdlaw04_RootNames, R.surdlaw04_RootNames, 18⟩ := ⟨_, _, E.surdlaw04_RootNames, B.surdlaw04_RootNames, K.surdlaw04_RootNames, Q.surdlaw04_RootNames, N.surdlaw04_RootNames, by kernel_rfl⟩
theorem X.surdlaw04_RootKths : GoodF Try.prog ⟨F.surdlaw04_RootKths, C.surdlaw04_RootKths, R.surdlaw04_RootKths, 64⟩ := ⟨_, _, E.surdlaw04_RootKths, B.surdlaw04_RootKths, K.surdlaw04_RootKths, Q.surdlaw04_RootKths, N.surdlaw04_RootKths, by kernel_rfl⟩
theorem X.surdlaw04_RootBetween : GoodF Try.prog ⟨F.surdlaw04_RootBetween, C.surdlaw04_RootBetween, R.surdlaw04_RootBetween, 99⟩ := ⟨_, _, E.surdlaw04_RootBetween, B.surdlaw04_RootBetween, K.surdlaw04_RootBetween, Q.surdlaw04_RootBetween, N.surdlaw04_RootBetween, by kernel_rfl⟩
theorem X.surdlaw04_RootRoots : GoodF Try.prog ⟨F.surdlaw04_RootRoots, C.surdlaw04_RootRoots, R.surdlaw04_RootRoots, 84⟩ := ⟨_, _, E.surdlaw04_RootRoots, B.surdlaw04_RootRoots, K.surdlaw04_RootRoots, Q.surdlaw04_RootRoots, N.surdlaw04_RootRoots, by kernel_rfl⟩
theorem X.surdlaw04_RootOrders : GoodF Try.prog ⟨F.surdlaw04_RootOrders, C.surdlaw04_RootOrders, R.surdlaw04_RootOrders, 115⟩ := ⟨_, _, E.surdlaw04_RootOrders, B.surdlaw04_RootOrders, K.surdlaw04_RootOrders, Q.surdlaw04_RootOrders, N.surdlaw04_RootOrders, by kernel_rfl⟩
theorem X.surdlaw04_RootSquares : GoodF Try.prog ⟨F.surdlaw04_RootSquares, C.surdlaw04_RootSquares, R.surdlaw04_RootSquares, 97⟩ := ⟨_, _, E.surdlaw04_RootSquares, B.surdlaw04_RootSquares, K.surdlaw04_RootSquares, Q.surdlaw04_RootSquares, N.surdlaw04_RootSquares, by kernel_rfl⟩
theorem X.surdlaw04_RootResidues : GoodF Try.prog ⟨F.surdlaw04_RootResidues, C.surdlaw04_RootResidues, R.surdlaw04_RootResidues, 46⟩ := ⟨_, _, E.surdlaw04_RootResidues, B.surdlaw04_RootResidues, K.surdlaw04_RootResidues, Q.surdlaw04_RootResidues, N.surdlaw04_RootResidues, by kernel_rfl⟩
theorem X.surdlaw04_num : GoodF Try.prog ⟨F.surdlaw04_num, C.surdlaw04_num, R.surdlaw04_num, 4⟩ := ⟨_, _, E.surdlaw04_num, B.surdlaw04_num, K.surdlaw04_num, Q.surdlaw04_num, N.surdlaw04_num, by kernel_rfl⟩
theorem X.surdlaw04_awake : GoodF Try.prog ⟨F.surdlaw04_awake, C.surdlaw04_awake, R.surdlaw04_awake, 23⟩ := ⟨_, _, E.surdlaw04_awake, B.surdlaw04_awake, K.surdlaw04_awake, Q.surdlaw04_awake, N.surdlaw04_awake, by kernel_rfl⟩
theorem X.surdref01_Lend : GoodF Try.prog ⟨F.surdref01_Lend, C.surdref01_Lend, R.surdref01_Lend, 40⟩ := ⟨_, _, E.surdref01_Lend, B.surdref01_Lend, K.surdref01_Lend, Q.surdref01_Lend, N.surdref01_Lend, by kernel_rfl⟩
theorem X.surdref04_Root : GoodF Try.prog ⟨F.surdref04_Root, C.surdref04_Root, R.surdref04_Root, 30⟩ := ⟨_, _, E.surdref04_Root, B.surdref04_Root, K.surdref04_Root, Q.surdref04_Root, N.surdref04_Root, by kernel_rfl⟩
theorem X.surdref01_Of : GoodF Try.prog ⟨F.surdref01_Of, C.surdref01_Of, R.surdref01_Of, 26⟩ := ⟨_, _, E.surdref01_Of, B.surdref01_Of, K.surdref01_Of, Q.surdref01_Of, N.surdref01_Of, by kernel_rfl⟩
theorem X.roots_Root : GoodF Try.prog ⟨F.roots_Root, C.roots_Root, R.roots_Root, 42⟩ := ⟨_, _, E.roots_Root, B.roots_Root, K.roots_Root, Q.roots_Root, N.roots_Root, by kernel_rfl⟩
theorem X.surdlaw04_alike : GoodF Try.prog ⟨F.surdlaw04_alike, C.surdlaw04_alike, R.surdlaw04_alike, 21⟩ := ⟨_, _, E.surdlaw04_alike, B.surdlaw04_alike, K.surdlaw04_alike, Q.surdlaw04_alike, N.surdlaw04_alike, by kernel_rfl⟩
theorem X.surdref01_Kept : GoodF Try.prog ⟨F.surdref01_Kept, C.surdref01_Kept, R.surdref01_Kept, 39⟩ := ⟨_, _, E.surdref01_Kept, B.surdref01_Kept, K.surdref01_Kept, Q.surdref01_Kept, N.surdref01_Kept, by kernel_rfl⟩
theorem X.surdref01_Own : GoodF Try.prog ⟨F.surdref01_Own, C.surdref01_Own, R.surdref01_Own, 112⟩ := ⟨_, _, E.surdref01_Own, B.surdref01_Own, K.surdref01_Own, Q.surdref01_Own, N.surdref01_Own, by kernel_rfl⟩
theorem X.surdref01_Num_Len : GoodF Try.prog ⟨F.surdref01_Num_Len, C.surdref01_Num_Len, R.surdref01_Num_Len, 25⟩ := ⟨_, _, E.surdref01_Num_Len, B.surdref01_Num_Len, K.surdref01_Num_Len, Q.surdref01_Num_Len, N.surdref01_Num_Len, by kernel_rfl⟩
theorem X.roots_Sqrt : GoodF Try.prog ⟨F.roots_Sqrt, C.roots_Sqrt, R.roots_Sqrt, 10⟩ := ⟨_, _, E.roots_Sqrt, B.roots_Sqrt, K.roots_Sqrt, Q.roots_Sqrt, N.roots_Sqrt, by kernel_rfl⟩
theorem X.surdref01_Pow : GoodF Try.prog ⟨F.surdref01_Pow, C.surdref01_Pow, R.surdref01_Pow, 24⟩ := ⟨_, _, E.surdref01_Pow, B.surdref01_Pow, K.surdref01_Pow, Q.surdref01_Pow, N.surdref01_Pow, by kernel_rfl⟩
theorem X.surdref01_Add : GoodF Try.prog ⟨F.surdref01_Add, C.surdref01_Add, R.surdref01_Add, 44⟩ := ⟨_, _, E.surdref01_Add, B.surdref01_Add, K.surdref01_Add, Q.surdref01_Add, N.surdref01_Add, by kernel_rfl⟩
theorem X.surdlaw04_of : GoodF Try.prog ⟨F.surdlaw04_of, C.surdlaw04_of, R.surdlaw04_of, 5⟩ := ⟨_, _, E.surdlaw04_of, B.surdlaw04_of, K.surdlaw04_of, Q.surdlaw04_of, N.surdlaw04_of, by kernel_rfl⟩
theorem X.surdlaw04_one : GoodF Try.prog ⟨F.surdlaw04_one, C.surdlaw04_one, R.surdlaw04_one, 2⟩ := ⟨_, _, E.surdlaw04_one, B.surdlaw04_one, K.surdlaw04_one, Q.surdlaw04_one, N.surdlaw04_one, by kernel_rfl⟩
theorem X.surdref01_Cmp : GoodF Try.prog ⟨F.surdref01_Cmp, C.surdref01_Cmp, R.surdref01_Cmp, 41⟩ := ⟨_, _, E.surdref01_Cmp, B.surdref01_Cmp, K.surdref01_Cmp, Q.surdref01_Cmp, N.surdref01_Cmp, by kernel_rfl⟩
theorem X.surdref01_Mul : GoodF Try.prog ⟨F.surdref01_Mul, C.surdref01_Mul, R.surdref01_Mul, 65⟩ := ⟨_, _, E.surdref01_Mul, B.surdref01_Mul, K.surdref01_Mul, Q.surdref01_Mul, N.surdref01_Mul, by kernel_rfl⟩
theorem X.surdref01_Num_Limbs : GoodF Try.prog ⟨F.surdref01_Num_Limbs, C.surdref01_Num_Limbs, R.surdref01_Num_Limbs, 34⟩ := ⟨_, _, E.surdref01_Num_Limbs, B.surdref01_Num_Limbs, K.surdref01_Num_Limbs, Q.surdref01_Num_Limbs, N.surdref01_Num_Limbs, by kernel_rfl⟩
theorem X.surdref04_Sqrt : GoodF Try.prog ⟨F.surdref04_Sqrt, C.surdref04_Sqrt, R.surdref04_Sqrt, 18⟩ := ⟨_, _, E.surdref04_Sqrt, B.surdref04_Sqrt, K.surdref04_Sqrt, Q.surdref04_Sqrt, N.surdref04_Sqrt, by kernel_rfl⟩
theorem X.surdref04_Ceil : GoodF Try.prog ⟨F.surdref04_Ceil, C.surdref04_Ceil, R.surdref04_Ceil, 27⟩ := ⟨_, _, E.surdref04_Ceil, B.surdref04_Ceil, K.surdref04_Ceil, Q.surdref04_Ceil, N.surdref04_Ceil, by kernel_rfl⟩
theorem X.roots_Ceil : GoodF Try.prog ⟨F.roots_Ceil, C.roots_Ceil, R.roots_Ceil, 27⟩ := ⟨_, _, E.roots_Ceil, B.roots_Ceil, K.roots_Ceil, Q.roots_Ceil, N.roots_Ceil, by kernel_rfl⟩
theorem X.roots_IsSquare : GoodF Try.prog ⟨F.roots_IsSquare, C.roots_IsSquare, R.roots_IsSquare, 21⟩ := ⟨_, _, E.roots_IsSquare, B.roots_IsSquare, K.roots_IsSquare, Q.roots_IsSquare, N.roots_IsSquare, by kernel_rfl⟩
theorem X.surdref04_IsSquare : GoodF Try.prog ⟨F.surdref04_IsSquare, C.surdref04_IsSquare, R.surdref04_IsSquare, 12⟩ := ⟨_, _, E.surdref04_IsSquare, B.surdref04_IsSquare, K.surdref04_IsSquare, Q.surdref04_IsSquare, N.surdref04_IsSquare, by kernel_rfl⟩
theorem X.surdref04_Residue : GoodF Try.prog ⟨F.surdref04_Residue, C.surdref04_Residue, R.surdref04_Residue, 36⟩ := ⟨_, _, E.surdref04_Residue, B.surdref04_Residue, K.surdref04_Residue, Q.surdref04_Residue, N.surdref04_Residue, by kernel_rfl⟩
theorem X.surdref01_Int : GoodF Try.prog ⟨F.surdref01_Int, C.surdref01_Int, R.surdref01_Int, 7⟩ := ⟨_, _, E.surdref01_Int, B.surdref01_Int, K.surdref01_Int, Q.surdref01_Int, N.surdref01_Int, by kernel_rfl⟩
theorem X.surdref01_Num_Is : GoodF Try.prog ⟨F.surdref01_Num_Is, C.surdref01_Num_Is, R.surdref01_Num_Is, 29⟩ := ⟨_, _, E.surdref01_Num_Is, B.surdref01_Num_Is, K.surdref01_Num_Is, Q.surdref01_Num_Is, N.surdref01_Num_Is, by kernel_rfl⟩
theorem X.surdref04_Kth : GoodF Try.prog ⟨F.surdref04_Kth, C.surdref04_Kth, R.surdref04_Kth, 36⟩ := ⟨_, _, E.surdref04_Kth, B.surdref04_Kth, K.surdref04_Kth, Q.surdref04_Kth, N.surdref04_Kth, by kernel_rfl⟩
theorem X.surdref04_Power : GoodF Try.prog ⟨F.surdref04_Power, C.surdref04_Power, R.surdref04_Power, 36⟩ := ⟨_, _, E.surdref04_Power, B.surdref04_Power, K.surdref04_Power, Q.surdref04_Power, N.surdref04_Power, by kernel_rfl⟩
theorem X.surdref04_told : GoodF Try.prog ⟨F.surdref04_told, C.surdref04_told, R.surdref04_told, 17⟩ := ⟨_, _, E.surdref04_told, B.surdref04_told, K.surdref04_told, Q.surdref04_told, N.surdref04_told, by kernel_rfl⟩
theorem X.surdref01_Sub : GoodF Try.prog ⟨F.surdref01_Sub, C.surdref01_Sub, R.surdref01_Sub, 39⟩ := ⟨_, _, E.surdref01_Sub, B.surdref01_Sub, K.surdref01_Sub, Q.surdref01_Sub, N.surdref01_Sub, by kernel_rfl⟩
theorem X.surdref01_norm : GoodF Try.prog ⟨F.surdref01_norm, C.surdref01_norm, R.surdref01_norm, 22⟩ := ⟨_, _, E.surdref01_norm, B.surdref01_norm, K.surdref01_norm, Q.surdref01_norm, N.surdref01_norm, by kernel_rfl⟩
theorem X.roots_fits : GoodF Try.prog ⟨F.roots_fits, C.roots_fits, R.roots_fits, 9⟩ := ⟨_, _, E.roots_fits, B.roots_fits, K.roots_fits, Q.roots_fits, N.roots_fits, by kernel_rfl⟩
theorem X.nat_Length : GoodF Try.prog ⟨F.nat_Length, C.nat_Length, R.nat_Length, 20⟩ := ⟨_, _, E.nat_Length, B.nat_Length, K.nat_Length, Q.nat_Length, N.nat_Length, by kernel_rfl⟩
theorem X.roots_newton : GoodF Try.prog ⟨F.roots_newton, C.roots_newton, R.roots_newton, 72⟩ := ⟨_, _, E.roots_newton, B.roots_newton, K.roots_newton, Q.roots_newton, N.roots_newton, by kernel_rfl⟩
theorem X.mul_Pow : GoodF Try.prog ⟨F.mul_Pow, C.mul_Pow, R.mul_Pow, 63⟩ := ⟨_, _, E.mul_Pow, B.mul_Pow, K.mul_Pow, Q.mul_Pow, N.mul_Pow, by kernel_rfl⟩
theorem X.roots_less : GoodF Try.prog ⟨F.roots_less, C.roots_less, R.roots_less, 14⟩ := ⟨_, _, E.roots_less, B.roots_less, K.roots_less, Q.roots_less, N.roots_less, by kernel_rfl⟩
theorem X.surdref01_Num_at : GoodF Try.prog ⟨F.surdref01_Num_at, C.surdref01_Num_at, R.surdref01_Num_at, 13⟩ := ⟨_, _, E.surdref01_Num_at, B.surdref01_Num_at, K.surdref01_Num_at, Q.surdref01_Num_at, N.surdref01_Num_at, by kernel_rfl⟩
theorem X.surdref01_Root : GoodF Try.prog ⟨F.surdref01_Root, C.surdref01_Root, R.surdref01_Root, 26⟩ := ⟨_, _, E.surdref01_Root, B.surdref01_Root, K.surdref01_Root, Q.surdref01_Root, N.surdref01_Root, by kernel_rfl⟩
theorem X.nat_Add : GoodF Try.prog ⟨F.nat_Add, C.nat_Add, R.nat_Add, 61⟩ := ⟨_, _, E.nat_Add, B.nat_Add, K.nat_Add, Q.nat_Add, N.nat_Add, by kernel_rfl⟩
theorem X.nat_From : GoodF Try.prog ⟨F.nat_From, C.nat_From, R.nat_From, 7⟩ := ⟨_, _, E.nat_From, B.nat_From, K.nat_From, Q.nat_From, N.nat_From, by kernel_rfl⟩
theorem X.surdref01_Div : GoodF Try.prog ⟨F.surdref01_Div, C.surdref01_Div, R.surdref01_Div, 60⟩ := ⟨_, _, E.surdref01_Div, B.surdref01_Div, K.surdref01_Div, Q.surdref01_Div, N.surdref01_Div, by kernel_rfl⟩
theorem X.nat_Through : GoodF Try.prog ⟨F.nat_Through, C.nat_Through, R.nat_Through, 48⟩ := ⟨_, _, E.nat_Through, B.nat_Through, K.nat_Through, Q.nat_Through, N.nat_Through, by kernel_rfl⟩
theorem X.surdref01_Shl : GoodF Try.prog ⟨F.surdref01_Shl, C.surdref01_Shl, R.surdref01_Shl, 55⟩ := ⟨_, _, E.surdref01_Shl, B.surdref01_Shl, K.surdref01_Shl, Q.surdref01_Shl, N.surdref01_Shl, by kernel_rfl⟩
theorem X.nat_Norm : GoodF Try.prog ⟨F.nat_Norm, C.nat_Norm, R.nat_Norm, 6⟩ := ⟨_, _, E.nat_Norm, B.nat_Norm, K.nat_Norm, Q.nat_Norm, N.nat_Norm, by kernel_rfl⟩
theorem X.nat_trim : GoodF Try.prog ⟨F.nat_trim, C.nat_trim, R.nat_trim, 21⟩ := ⟨_, _, E.nat_trim, B.nat_trim, K.nat_trim, Q.nat_trim, N.nat_trim, by kernel_rfl⟩
theorem X.bits_Len64 : GoodF Try.prog ⟨F.bits_Len64, C.bits_Len64, R.bits_Len64, 25⟩ := ⟨_, _, E.bits_Len64, B.bits_Len64, K.bits_Len64, Q.bits_Len64, N.bits_Len64, by kernel_rfl⟩
theorem X.roots_power : GoodF Try.prog ⟨F.roots_power, C.roots_power, R.roots_power, 12⟩ := ⟨_, _, E.roots_power, B.roots_power, K.roots_power, Q.roots_power, N.roots_power, by kernel_rfl⟩
theorem X.div_Quo : GoodF Try.prog ⟨F.div_Quo, C.div_Quo, R.div_Quo, 25⟩ := ⟨_, _, E.div_Quo, B.div_Quo, K.div_Quo, Q.div_Quo, N.div_Quo, by kernel_rfl⟩
theorem X.nat_Times : GoodF Try.prog ⟨F.nat_Times, C.nat_Times, R.nat_Times, 56⟩ := ⟨_, _, E.nat_Times, B.nat_Times, K.nat_Times, Q.nat_Times, N.nat_Times, by kernel_rfl⟩
theorem X.nat_Compare : GoodF Try.prog ⟨F.nat_Compare, C.nat_Compare, R.nat_Compare, 45⟩ := ⟨_, _, E.nat_Compare, B.nat_Compare, K.nat_Compare, Q.nat_Compare, N.nat_Compare, by kernel_rfl⟩
theorem X.mul_Square : GoodF Try.prog ⟨F.mul_Square, C.mul_Square, R.mul_Square, 9⟩ := ⟨_, _, E.mul_Square, B.mul_Square, K.mul_Square, Q.mul_Square, N.mul_Square, by kernel_rfl⟩
theorem X.mul_Mul : GoodF Try.prog ⟨F.mul_Mul, C.mul_Mul, R.mul_Mul, 11⟩ := ⟨_, _, E.mul_Mul, B.mul_Mul, K.mul_Mul, Q.mul_Mul, N.mul_Mul, by kernel_rfl⟩
theorem X.nat_Sub : GoodF Try.prog ⟨F.nat_Sub, C.nat_Sub, R.nat_Sub, 52⟩ := ⟨_, _, E.nat_Sub, B.nat_Sub, K.nat_Sub, Q.nat_Sub, N.nat_Sub, by kernel_rfl⟩
theorem X.nat_told : GoodF Try.prog ⟨F.nat_told, C.nat_told, R.nat_told, 10⟩ := ⟨_, _, E.nat_told, B.nat_told, K.nat_told, Q.nat_told, N.nat_told, by kernel_rfl⟩
theorem X.bits_Div64 : GoodF Try.prog ⟨F.bits_Div64, C.bits_Div64, R.bits_Div64, 135⟩ := ⟨_, _, E.bits_Div64, B.bits_Div64, K.bits_Div64, Q.bits_Div64, N.bits_Div64, by kernel_rfl⟩
theorem X.nat_Left : GoodF Try.prog ⟨F.nat_Left, C.nat_Left, R.nat_Left, 73⟩ := ⟨_, _, E.nat_Left, B.nat_Left, K.nat_Left, Q.nat_Left, N.nat_Left, by kernel_rfl⟩
theorem X.div_divide : GoodF Try.prog ⟨F.div_divide, C.div_divide, R.div_divide, 104⟩ := ⟨_, _, E.div_divide, B.div_divide, K.div_divide, Q.div_divide, N.div_divide, by kernel_rfl⟩
theorem X.bits_Mul64 : GoodF Try.prog ⟨F.bits_Mul64, C.bits_Mul64, R.bits_Mul64, 51⟩ := ⟨_, _, E.bits_Mul64, B.bits_Mul64, K.bits_Mul64, Q.bits_Mul64, N.bits_Mul64, by kernel_rfl⟩
theorem X.mul_product : GoodF Try.prog ⟨F.mul_product, C.mul_product, R.mul_product, 22⟩ := ⟨_, _, E.mul_product, B.mul_product, K.mul_product, Q.mul_product, N.mul_product, by kernel_rfl⟩
theorem X.mul_Mul_1 : GoodF Try.prog ⟨F.mul_Mul_1, C.mul_Mul_1, R.mul_Mul_1, 8⟩ := ⟨_, _, E.mul_Mul_1, B.mul_Mul_1, K.mul_Mul_1, Q.mul_Mul_1, N.mul_Mul_1, by kernel_rfl⟩
theorem X.mul_halved : GoodF Try.prog ⟨F.mul_halved, C.mul_halved, R.mul_halved, 124⟩ := ⟨_, _, E.mul_halved, B.mul_halved, K.mul_halved, Q.mul_halved, N.mul_halved, by kernel_rfl⟩
theorem X.bits_LeadingZeros64 : GoodF Try.prog ⟨F.bits_LeadingZeros64, C.bits_LeadingZeros64, R.bits_LeadingZeros64, 6⟩ := ⟨_, _, E.bits_LeadingZeros64, B.bits_LeadingZeros64, K.bits_LeadingZeros64, Q.bits_LeadingZeros64, N.bits_LeadingZeros64, by kernel_rfl⟩
theorem X.div_up : GoodF Try.prog ⟨F.div_up, C.div_up, R.div_up, 39⟩ := ⟨_, _, E.div_up, B.div_up, K.div_up, Q.div_up, N.div_up, by kernel_rfl⟩
theorem X.div_guess : GoodF Try.prog ⟨F.div_guess, C.div_guess, R.div_guess, 195⟩ := ⟨_, _, E.div_guess, B.div_guess, K.div_guess, Q.div_guess, N.div_guess, by kernel_rfl⟩
theorem X.div_down : GoodF Try.prog ⟨F.div_down, C.div_down, R.div_down, 47⟩ := ⟨_, _, E.div_down, B.div_down, K.div_down, Q.div_down, N.div_down, by kernel_rfl⟩
theorem X.mul_great : GoodF Try.prog ⟨F.mul_great, C.mul_great, R.mul_great, 24⟩ := ⟨_, _, E.mul_great, B.mul_great, K.mul_great, Q.mul_great, N.mul_great, by kernel_rfl⟩
theorem X.mul_fits : GoodF Try.prog ⟨F.mul_fits, C.mul_fits, R.mul_fits, 10⟩ := ⟨_, _, E.mul_fits, B.mul_fits, K.mul_fits, Q.mul_fits, N.mul_fits, by kernel_rfl⟩
theorem X.mul_school : GoodF Try.prog ⟨F.mul_school, C.mul_school, R.mul_school, 78⟩ := ⟨_, _, E.mul_school, B.mul_school, K.mul_school, Q.mul_school, N.mul_school, by kernel_rfl⟩
theorem X.mul_addAt : GoodF Try.prog ⟨F.mul_addAt, C.mul_addAt, R.mul_addAt, 53⟩ := ⟨_, _, E.mul_addAt, B.mul_addAt, K.mul_addAt, Q.mul_addAt, N.mul_addAt, by kernel_rfl⟩
theorem X.mul_part : GoodF Try.prog ⟨F.mul_part, C.mul_part, R.mul_part, 32⟩ := ⟨_, _, E.mul_part, B.mul_part, K.mul_part, Q.mul_part, N.mul_part, by kernel_rfl⟩
theorem X.mul_less : GoodF Try.prog ⟨F.mul_less, C.mul_less, R.mul_less, 43⟩ := ⟨_, _, E.mul_less, B.mul_less, K.mul_less, Q.mul_less, N.mul_less, by kernel_rfl⟩
theorem X.mul_sum : GoodF Try.prog ⟨F.mul_sum, C.mul_sum, R.mul_sum, 20⟩ := ⟨_, _, E.mul_sum, B.mul_sum, K.mul_sum, Q.mul_sum, N.mul_sum, by kernel_rfl⟩
def XT : List XFun := [⟨F.surdlaw04_RootNames, C.surdlaw04_RootNames, R.surdlaw04_RootNames, 18⟩,
  ⟨F.surdlaw04_RootKths, C.surdlaw04_RootKths, R.surdlaw04_RootKths, 64⟩,
  ⟨F.surdlaw04_RootBetween, C.surdlaw04_RootBetween, R.surdlaw04_RootBetween, 99⟩,
  ⟨F.surdlaw04_RootRoots, C.surdlaw04_RootRoots, R.surdlaw04_RootRoots, 84⟩,
  ⟨F.surdlaw04_RootOrders, C.surdlaw04_RootOrders, R.surdlaw04_RootOrders, 115⟩,
  ⟨F.surdlaw04_RootSquares, C.surdlaw04_RootSquares, R.surdlaw04_RootSquares, 97⟩,
  ⟨F.surdlaw04_RootResidues, C.surdlaw04_RootResidues, R.surdlaw04_RootResidues, 46⟩,
  ⟨F.surdlaw04_num, C.surdlaw04_num, R.surdlaw04_num, 4⟩,
  ⟨F.surdlaw04_awake, C.surdlaw04_awake, R.surdlaw04_awake, 23⟩,
  ⟨F.surdref01_Lend, C.surdref01_Lend, R.surdref01_Lend, 40⟩,
  ⟨F.surdref04_Root, C.surdref04_Root, R.surdref04_Root, 30⟩,
  ⟨F.surdref01_Of, C.surdref01_Of, R.surdref01_Of, 26⟩,
  ⟨F.roots_Root, C.roots_Root, R.roots_Root, 42⟩,
  ⟨F.surdlaw04_alike, C.surdlaw04_alike, R.surdlaw04_alike, 21⟩,
  ⟨F.surdref01_Kept, C.surdref01_Kept, R.surdref01_Kept, 39⟩,
  ⟨F.surdref01_Own, C.surdref01_Own, R.surdref01_Own, 112⟩,
  ⟨F.surdref01_Num_Len, C.surdref01_Num_Len, R.surdref01_Num_Len, 25⟩,
  ⟨F.roots_Sqrt, C.roots_Sqrt, R.roots_Sqrt, 10⟩,
  ⟨F.surdref01_Pow, C.surdref01_Pow, R.surdref01_Pow, 24⟩,
  ⟨F.surdref01_Add, C.surdref01_Add, R.surdref01_Add, 44⟩,
  ⟨F.surdlaw04_of, C.surdlaw04_of, R.surdlaw04_of, 5⟩,
  ⟨F.surdlaw04_one, C.surdlaw04_one, R.surdlaw04_one, 2⟩,
  ⟨F.surdref01_Cmp, C.surdref01_Cmp, R.surdref01_Cmp, 41⟩,
  ⟨F.surdref01_Mul, C.surdref01_Mul, R.surdref01_Mul, 65⟩,
  ⟨F.surdref01_Num_Limbs, C.surdref01_Num_Limbs, R.surdref01_Num_Limbs, 34⟩,
  ⟨F.surdref04_Sqrt, C.surdref04_Sqrt, R.surdref04_Sqrt, 18⟩,
  ⟨F.surdref04_Ceil, C.surdref04_Ceil, R.surdref04_Ceil, 27⟩,
  ⟨F.roots_Ceil, C.roots_Ceil, R.roots_Ceil, 27⟩,
  ⟨F.roots_IsSquare, C.roots_IsSquare, R.roots_IsSquare, 21⟩,
  ⟨F.surdref04_IsSquare, C.surdref04_IsSquare, R.surdref04_IsSquare, 12⟩,
  ⟨F.surdref04_Residue, C.surdref04_Residue, R.surdref04_Residue, 36⟩,
  ⟨F.surdref01_Int, C.surdref01_Int, R.surdref01_Int, 7⟩,
  ⟨F.surdref01_Num_Is, C.surdref01_Num_Is, R.surdref01_Num_Is, 29⟩,
  ⟨F.surdref04_Kth, C.surdref04_Kth, R.surdref04_Kth, 36⟩,
  ⟨F.surdref04_Power, C.surdref04_Power, R.surdref04_Power, 36⟩,
  ⟨F.surdref04_told, C.surdref04_told, R.surdref04_told, 17⟩,
  ⟨F.surdref01_Sub, C.surdref01_Sub, R.surdref01_Sub, 39⟩,
  ⟨F.surdref01_norm, C.surdref01_norm, R.surdref01_norm, 22⟩,
  ⟨F.roots_fits, C.roots_fits, R.roots_fits, 9⟩,
  ⟨F.nat_Length, C.nat_Length, R.nat_Length, 20⟩,
  ⟨F.roots_newton, C.roots_newton, R.roots_newton, 72⟩,
  ⟨F.mul_Pow, C.mul_Pow, R.mul_Pow, 63⟩,
  ⟨F.roots_less, C.roots_less, R.roots_less, 14⟩,
  ⟨F.surdref01_Num_at, C.surdref01_Num_at, R.surdref01_Num_at, 13⟩,
  ⟨F.surdref01_Root, C.surdref01_Root, R.surdref01_Root, 26⟩,
  ⟨F.nat_Add, C.nat_Add, R.nat_Add, 61⟩,
  ⟨F.nat_From, C.nat_From, R.nat_From, 7⟩,
  ⟨F.surdref01_Div, C.surdref01_Div, R.surdref01_Div, 60⟩,
  ⟨F.nat_Through, C.nat_Through, R.nat_Through, 48⟩,
  ⟨F.surdref01_Shl, C.surdref01_Shl, R.surdref01_Shl, 55⟩,
  ⟨F.nat_Norm, C.nat_Norm, R.nat_Norm, 6⟩,
  ⟨F.nat_trim, C.nat_trim, R.nat_trim, 21⟩,
  ⟨F.bits_Len64, C.bits_Len64, R.bits_Len64, 25⟩,
  ⟨F.roots_power, C.roots_power, R.roots_power, 12⟩,
  ⟨F.div_Quo, C.div_Quo, R.div_Quo, 25⟩,
  ⟨F.nat_Times, C.nat_Times, R.nat_Times, 56⟩,
  ⟨F.nat_Compare, C.nat_Compare, R.nat_Compare, 45⟩,
  ⟨F.mul_Square, C.mul_Square, R.mul_Square, 9⟩,
  ⟨F.mul_Mul, C.mul_Mul, R.mul_Mul, 11⟩,
  ⟨F.nat_Sub, C.nat_Sub, R.nat_Sub, 52⟩,
  ⟨F.nat_told, C.nat_told, R.nat_told, 10⟩,
  ⟨F.bits_Div64, C.bits_Div64, R.bits_Div64, 135⟩,
  ⟨F.nat_Left, C.nat_Left, R.nat_Left, 73⟩,
  ⟨F.div_divide, C.div_divide, R.div_divide, 104⟩,
  ⟨F.bits_Mul64, C.bits_Mul64, R.bits_Mul64, 51⟩,
  ⟨F.mul_product, C.mul_product, R.mul_product, 22⟩,
  ⟨F.mul_Mul_1, C.mul_Mul_1, R.mul_Mul_1, 8⟩,
  ⟨F.mul_halved, C.mul_halved, R.mul_halved, 124⟩,
  ⟨F.bits_LeadingZeros64, C.bits_LeadingZeros64, R.bits_LeadingZeros64, 6⟩,
  ⟨F.div_up, C.div_up, R.div_up, 39⟩,
  ⟨F.div_guess, C.div_guess, R.div_guess, 195⟩,
  ⟨F.div_down, C.div_down, R.div_down, 47⟩,
  ⟨F.mul_great, C.mul_great, R.mul_great, 24⟩,
  ⟨F.mul_fits, C.mul_fits, R.mul_fits, 10⟩,
  ⟨F.mul_school, C.mul_school, R.mul_school, 78⟩,
  ⟨F.mul_addAt, C.mul_addAt, R.mul_addAt, 53⟩,
  ⟨F.mul_part, C.mul_part, R.mul_part, 32⟩,
  ⟨F.mul_less, C.mul_less, R.mul_less, 43⟩,
  ⟨F.mul_sum, C.mul_sum, R.mul_sum, 20⟩]
theorem XT_good : ∀ e ∈ XT, GoodF Try.prog e := by
  intro e h
  unfold XT at h
  simp only [List.mem_cons, List.not_mem_nil, or_false] at h
  rcases h with rfl | rfl | rfl | rfl | rfl | rfl | rfl | rfl | rfl | rfl | rfl | rfl | rfl | rfl | rfl | rfl | rfl | rfl | rfl | rfl | rfl | rfl | rfl | rfl | rfl | rfl | rfl | rfl | rfl | rfl | rfl | rfl | rfl | rfl | rfl | rfl | rfl | rfl | rfl | rfl | rfl | rfl | rfl | rfl | rfl | rfl | rfl | rfl | rfl | rfl | rfl | rfl | rfl | rfl | rfl | rfl | rfl | rfl | rfl | rfl | rfl | rfl | rfl | rfl | rfl | rfl | rfl | rfl | rfl | rfl | rfl | rfl | rfl | rfl | rfl | rfl | rfl | rfl | rfl
  · exact X.surdlaw04_RootNames
  · exact X.surdlaw04_RootKths
  · exact X.surdlaw04_RootBetween
  · exact X.surdlaw04_RootRoots
  · exact X.surdlaw04_RootOrders
  · exact X.surdlaw04_RootSquares
  · exact X.surdlaw04_RootResidues
  · exact X.surdlaw04_num
  · exact X.surdlaw04_awake
  · exact X.surdref01_Lend
  · exact X.surdref04_Root
  · exact X.surdref01_Of
  · exact X.roots_Root
  · exact X.surdlaw04_alike
  · exact X.surdref01_Kept
  · exact X.surdref01_Own
  · exact X.surdref01_Num_Len
  · exact X.roots_Sqrt
  · exact X.surdref01_Pow
  · exact X.surdref01_Add
  · exact X.surdlaw04_of
  · exact X.surdlaw04_one
  · exact X.surdref01_Cmp
  · exact X.surdref01_Mul
  · exact X.surdref01_Num_Limbs
  · exact X.surdref04_Sqrt
  · exact X.surdref04_Ceil
  · exact X.roots_Ceil
  · exact X.roots_IsSquare
  · exact X.surdref04_IsSquare
  · exact X.surdref04_Residue
  · exact X.surdref01_Int
  · exact X.surdref01_Num_Is
  · exact X.surdref04_Kth
  · exact X.surdref04_Power
  · exact X.surdref04_told
  · exact X.surdref01_Sub
  · exact X.surdref01_norm
  · exact X.roots_fits
  · exact X.nat_Length
  · exact X.roots_newton
  · exact X.mul_Pow
  · exact X.roots_less
  · exact X.surdref01_Num_at
  · exact X.surdref01_Root
  · exact X.nat_Add
  · exact X.nat_From
  · exact X.surdref01_Div
  · exact X.nat_Through
  · exact X.surdref01_Shl
  · exact X.nat_Norm
  · exact X.nat_trim
  · exact X.bits_Len64
  · exact X.roots_power
  · exact X.div_Quo
  · exact X.nat_Times
  · exact X.nat_Compare
  · exact X.mul_Square
  · exact X.mul_Mul
  · exact X.nat_Sub
  · exact X.nat_told
  · exact X.bits_Div64
  · exact X.nat_Left
  · exact X.div_divide
  · exact X.bits_Mul64
  · exact X.mul_product
  · exact X.mul_Mul_1
  · exact X.mul_halved
  · exact X.bits_LeadingZeros64
  · exact X.div_up
  · exact X.div_guess
  · exact X.div_down
  · exact X.mul_great
  · exact X.mul_fits
  · exact X.mul_school
  · exact X.mul_addAt
  · exact X.mul_part
  · exact X.mul_less
  · exact X.mul_sum
end Go.Proofs.Ytladcfeibpddeaa
