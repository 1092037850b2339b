/- Texts of a claim, merged: what they prove is told at the last one's head. -/
import Derived.Test.YtacodmnlnlbahaaGreatDoorAsM2
import Derived.Test.YtacodmnlnlbahaaGreatDoorChecked
import Derived.Lib.Mul64
set_option linter.unusedVariables false
namespace Go.Proofs.YtacodmnlnlbahaaGreatDoor
open Go.VM

def C.surdref01_Num_Zero : VC :=
  .seq (.region false [⟨some 2, .mov (.c (bv false)), none⟩]) (.seq (.region false [⟨some 3, .mov (.t 0), none⟩,
   ⟨some 4, .len (.t 3), none⟩,
   ⟨some 5, .bin .eql false (.t 4) (.c (iv 0)), none⟩,
   ⟨some 2, .mov (.t 5), none⟩]) .ret)
def R.surdref01_Num_Zero : List VRes := [.tmp 2]
theorem K.surdref01_Num_Zero : resCode Tryz.prog Tryz.f104.ntmps (Tryz.f104.body.getD .skip) = C.surdref01_Num_Zero := by kernel_rfl
theorem Q.surdref01_Num_Zero : resResults Tryz.prog Tryz.f104.results.toList = some R.surdref01_Num_Zero := by kernel_rfl
theorem E.surdref01_Num_Zero : Tryz.prog.funcs[F.surdref01_Num_Zero]? = some Tryz.f104 := Tryz.func104
theorem B.surdref01_Num_Zero : Tryz.f104.body = some (Tryz.f104.body.getD .skip) := by kernel_rfl
theorem N.surdref01_Num_Zero : Tryz.f104.ntmps = 6 := Tryz.ntmps104

def C.span_ends : VC :=
  .seq (.region false [⟨some 4, .box (.t 0), none⟩,
   ⟨some 6, .box (.t 2), none⟩,
   ⟨some 8, .alloc [.bool false, .slice none 0 0, .int .i64 0, .bool false, .slice none 0 0, .int .i64 0], none⟩,
   ⟨some 9, .mov (.c (iv 0)), none⟩]) (.seq (.seq (.region false [⟨some 11, .mov (.t 1), none⟩,
   ⟨some 12, .mov (.t 3), none⟩,
   ⟨some 13, .call F.span_worst [.t 11, .t 12], none⟩,
   ⟨some 10, .mov (.t 13), none⟩]) (.seq (.region false [⟨some 14, .mov (.t 10), none⟩,
   ⟨some 15, .bin .neq false (.t 14) (.c (iv 0)), none⟩]) (.cond (.t 15) (.seq (.region false [⟨some 16, .build [.bool false, .slice none 0 0, .int .i64 0, .bool false, .slice none 0 0, .int .i64 0] [], none⟩,
   ⟨some 17, .mov (.t 10), none⟩,
   ⟨none, .store 6 (.t 8) (.t 16), none⟩,
   ⟨some 9, .mov (.t 17), none⟩]) .ret) .skip))) (.seq (.region false [⟨some 18, .load (some 3) (.t 4), none⟩,
   ⟨some 19, .load (some 3) (.t 6), none⟩,
   ⟨some 20, .build [.bool false, .slice none 0 0, .int .i64 0, .bool false, .slice none 0 0, .int .i64 0] [(0, (3, .t 18)), (3, (3, .t 19))], none⟩,
   ⟨none, .store 6 (.t 8) (.t 20), none⟩,
   ⟨some 9, .mov (.c (iv 0)), none⟩]) .ret))
def R.span_ends : List VRes := [.cell 8 (some 6), .tmp 9]
theorem K.span_ends : resCode Tryz.prog Tryz.f110.ntmps (Tryz.f110.body.getD .skip) = C.span_ends := by kernel_rfl
theorem Q.span_ends : resResults Tryz.prog Tryz.f110.results.toList = some R.span_ends := by kernel_rfl
theorem E.span_ends : Tryz.prog.funcs[F.span_ends]? = some Tryz.f110 := Tryz.func110
theorem B.span_ends : Tryz.f110.body = some (Tryz.f110.body.getD .skip) := by kernel_rfl
theorem N.span_ends : Tryz.f110.ntmps = 21 := Tryz.ntmps110

def C.surdref01_Num_Tail : VC :=
  .seq (.region false [⟨some 2, .mov (.c (iv 0)), none⟩]) (.seq (.seq (.region false [⟨some 4, .mov (.t 0), none⟩,
   ⟨some 5, .len (.t 4), none⟩,
   ⟨some 6, .bin .eql false (.t 5) (.c (iv 0)), none⟩]) (.cond (.t 6) (.seq (.region false [⟨some 2, .mov (.c (iv 0)), none⟩]) .ret) .skip)) (.seq (.region false [⟨some 3, .mov (.c (iv 0)), none⟩]) (.seq (.block 0 (.loop (.seq (.seq (.region false [⟨some 7, .mov (.t 0), none⟩,
   ⟨some 8, .mov (.t 3), none⟩,
   ⟨some 9, .call F.surdref01_Num_Bit [.t 7, .t 8], none⟩,
   ⟨some 10, .bin .eql false (.t 9) (.c (iv 0)), none⟩]) (.cond (.t 10) .skip (.exit 0))) (.block 1 (.region false [⟨some 11, .mov (.t 3), none⟩,
   ⟨some 12, .bin .add false (.t 11) (.c (iv 1)), none⟩,
   ⟨some 3, .mov (.t 12), none⟩]))))) (.seq (.region false [⟨some 13, .mov (.t 3), none⟩,
   ⟨some 2, .mov (.t 13), none⟩]) .ret))))
def R.surdref01_Num_Tail : List VRes := [.tmp 2]
theorem K.surdref01_Num_Tail : resCode Tryz.prog Tryz.f111.ntmps (Tryz.f111.body.getD .skip) = C.surdref01_Num_Tail := by kernel_rfl
theorem Q.surdref01_Num_Tail : resResults Tryz.prog Tryz.f111.results.toList = some R.surdref01_Num_Tail := by kernel_rfl
theorem E.surdref01_Num_Tail : Tryz.prog.funcs[F.surdref01_Num_Tail]? = some Tryz.f111 := Tryz.func111
theorem B.surdref01_Num_Tail : Tryz.f111.body = some (Tryz.f111.body.getD .skip) := by kernel_rfl
theorem N.surdref01_Num_Tail : Tryz.f111.ntmps = 14 := Tryz.ntmps111

def C.surdref01_Shr : VC :=
  .seq (.region false [⟨some 4, .mov (.c nil1), none⟩]) (.seq (.seq (.region false [⟨some 9, .mov (.t 1), none⟩,
   ⟨some 10, .bin .quo false (.t 9) (.c (iv 32)), none⟩,
   ⟨some 11, .mov (.t 0), none⟩,
   ⟨some 12, .len (.t 11), none⟩,
   ⟨some 13, .bin .geq false (.t 10) (.t 12), none⟩]) (.cond (.t 13) (.seq (.region false [⟨some 4, .mov (.c nil1), none⟩]) .ret) .skip)) (.seq (.region false [⟨some 14, .mov (.t 0), none⟩,
   ⟨some 15, .len (.t 14), none⟩,
   ⟨some 16, .mov (.t 1), none⟩,
   ⟨some 17, .bin .quo false (.t 16) (.c (iv 32)), none⟩,
   ⟨some 18, .bin .sub false (.t 15) (.t 17), none⟩,
   ⟨some 19, .mk [.int .u64 0] 8 (.t 18) (.t 18), none⟩,
   ⟨some 5, .mov (.t 19), none⟩]) (.seq (.region false [⟨some 20, .mov (.t 1), none⟩,
   ⟨some 21, .bin .rem false (.t 20) (.c (iv 32)), none⟩,
   ⟨some 6, .mov (.t 21), none⟩]) (.seq (.seq (.region false [⟨some 22, .mov (.t 5), none⟩,
   ⟨some 23, .len (.t 22), none⟩,
   ⟨some 24, .mov (.c (iv 0)), none⟩]) (.block 0 (.loop (.seq (.region false [⟨some 25, .bin .lss false (.t 24) (.t 23), none⟩]) (.seq (.cond (.t 25) .skip (.exit 0)) (.seq (.block 1 (.seq (.region false [⟨some 26, .mov (.t 24), none⟩,
   ⟨some 7, .mov (.t 26), none⟩]) (.seq (.region true [⟨some 27, .mov (.t 0), none⟩,
   ⟨some 28, .mov (.t 7), none⟩,
   ⟨some 29, .mov (.t 1), none⟩,
   ⟨some 30, .bin .quo false (.t 29) (.c (iv 32)), none⟩,
   ⟨some 31, .bin .add false (.t 28) (.t 30), none⟩,
   ⟨some 32, .ixa 1 (.t 27) (.t 31), none⟩,
   ⟨some 33, .load none (.t 32), none⟩,
   ⟨some 34, .mov (.t 0), none⟩,
   ⟨some 35, .mov (.t 7), none⟩,
   ⟨some 36, .mov (.t 1), none⟩,
   ⟨some 37, .bin .quo false (.t 36) (.c (iv 32)), none⟩,
   ⟨some 38, .bin .add false (.t 35) (.t 37), none⟩,
   ⟨some 39, .bin .add false (.t 38) (.c (iv 1)), none⟩,
   ⟨some 40, .call F.surdref01_Num_at [.t 34, .t 39], none⟩,
   ⟨some 41, .bin .mul false (.t 40) (.c (nv 4294967296)), none⟩,
   ⟨some 42, .bin .add false (.t 33) (.t 41), none⟩,
   ⟨some 8, .mov (.t 42), none⟩]) (.region false [⟨some 43, .mov (.t 5), none⟩,
   ⟨some 44, .mov (.t 7), none⟩,
   ⟨some 45, .mov (.t 8), none⟩,
   ⟨some 46, .mov (.t 6), none⟩,
   ⟨some 47, .bin .shr false (.t 45) (.t 46), none⟩,
   ⟨some 48, .bin .rem false (.t 47) (.c (nv 4294967296)), none⟩,
   ⟨some 49, .ixa 1 (.t 43) (.t 44), none⟩,
   ⟨none, .store 1 (.t 49) (.t 48), none⟩])))) (.region false [⟨some 50, .bin .add false (.t 24) (.c (iv 1)), none⟩,
   ⟨some 24, .mov (.t 50), none⟩]))))))) (.seq (.region false [⟨some 51, .mov (.t 5), none⟩,
   ⟨some 52, .call F.surdref01_norm [.t 51], none⟩,
   ⟨some 4, .mov (.t 52), none⟩]) .ret)))))
def R.surdref01_Shr : List VRes := [.tmp 4]
theorem K.surdref01_Shr : resCode Tryz.prog Tryz.f112.ntmps (Tryz.f112.body.getD .skip) = C.surdref01_Shr := by kernel_rfl
theorem Q.surdref01_Shr : resResults Tryz.prog Tryz.f112.results.toList = some R.surdref01_Shr := by kernel_rfl
theorem E.surdref01_Shr : Tryz.prog.funcs[F.surdref01_Shr]? = some Tryz.f112 := Tryz.func112
theorem B.surdref01_Shr : Tryz.f112.body = some (Tryz.f112.body.getD .skip) := by kernel_rfl
theorem N.surdref01_Shr : Tryz.f112.ntmps = 53 := Tryz.ntmps112

def C.surdref06_make1 : VC :=
  .seq (.region false [⟨some 4, .alloc [.bool false, .slice none 0 0], none⟩]) (.seq (.region false [⟨some 5, .mov (.t 0), none⟩,
   ⟨some 6, .mov (.t 5), none⟩,
   ⟨some 7, .mov (.t 1), some (6, true)⟩,
   ⟨some 8, .call F.surdref01_Num_Zero [.t 7], some (6, true)⟩,
   ⟨some 9, .un .not (.t 8), some (6, true)⟩,
   ⟨some 10, .pick (.t 6) (.t 9) (.c (bv false)), none⟩,
   ⟨some 11, .mov (.t 1), none⟩,
   ⟨some 12, .build [.bool false, .slice none 0 0] [(0, (1, .t 10)), (1, (1, .t 11))], none⟩,
   ⟨none, .store 2 (.t 4) (.t 12), none⟩]) .ret)
def R.surdref06_make1 : List VRes := [.cell 4 (some 2)]
theorem K.surdref06_make1 : resCode Tryz.prog Tryz.f113.ntmps (Tryz.f113.body.getD .skip) = C.surdref06_make1 := by kernel_rfl
theorem Q.surdref06_make1 : resResults Tryz.prog Tryz.f113.results.toList = some R.surdref06_make1 := by kernel_rfl
theorem E.surdref06_make1 : Tryz.prog.funcs[F.surdref06_make1]? = some Tryz.f113 := Tryz.func113
theorem B.surdref06_make1 : Tryz.f113.body = some (Tryz.f113.body.getD .skip) := by kernel_rfl
theorem N.surdref06_make1 : Tryz.f113.ntmps = 13 := Tryz.ntmps113

def C.surdref01_Of : VC :=
  .seq (.region false [⟨some 2, .mov (.c nil1), none⟩]) (.seq (.region false [⟨some 6, .mov (.t 0), none⟩,
   ⟨some 7, .len (.t 6), none⟩,
   ⟨some 8, .bin .mul false (.c (iv 2)) (.t 7), none⟩,
   ⟨some 9, .mk [.int .u64 0] 8 (.c (iv 0)) (.t 8), none⟩,
   ⟨some 3, .mov (.t 9), none⟩]) (.seq (.seq (.region false [⟨some 10, .mov (.t 0), none⟩,
   ⟨some 11, .len (.t 10), none⟩,
   ⟨some 12, .mov (.c (iv 0)), none⟩]) (.block 0 (.loop (.seq (.region false [⟨some 13, .bin .lss false (.t 12) (.t 11), none⟩]) (.seq (.cond (.t 13) .skip (.exit 0)) (.seq (.block 1 (.seq (.region false [⟨some 14, .ixa 1 (.t 10) (.t 12), none⟩,
   ⟨some 15, .load none (.t 14), none⟩,
   ⟨some 5, .mov (.t 15), none⟩]) (.region false [⟨some 16, .mov (.t 3), none⟩,
   ⟨some 17, .mov (.t 5), none⟩,
   ⟨some 18, .bin .rem false (.t 17) (.c (nv 4294967296)), none⟩,
   ⟨some 19, .mov (.t 5), none⟩,
   ⟨some 20, .bin .quo false (.t 19) (.c (nv 4294967296)), none⟩,
   ⟨some 21, .bsl true 1 2 [.int .u64 0] [(0, (1, .t 18)), (1, (1, .t 20))], none⟩,
   ⟨some 22, .app 1 8 [.int .u64 0] (.t 16) (.t 21), none⟩,
   ⟨some 3, .mov (.t 22), none⟩]))) (.region false [⟨some 23, .bin .add false (.t 12) (.c (iv 1)), none⟩,
   ⟨some 12, .mov (.t 23), none⟩]))))))) (.seq (.region false [⟨some 24, .mov (.t 3), none⟩,
   ⟨some 25, .call F.surdref01_norm [.t 24], none⟩,
   ⟨some 2, .mov (.t 25), none⟩]) .ret)))
def R.surdref01_Of : List VRes := [.tmp 2]
theorem K.surdref01_Of : resCode Tryz.prog Tryz.f114.ntmps (Tryz.f114.body.getD .skip) = C.surdref01_Of := by kernel_rfl
theorem Q.surdref01_Of : resResults Tryz.prog Tryz.f114.results.toList = some R.surdref01_Of := by kernel_rfl
theorem E.surdref01_Of : Tryz.prog.funcs[F.surdref01_Of]? = some Tryz.f114 := Tryz.func114
theorem B.surdref01_Of : Tryz.f114.body = some (Tryz.f114.body.getD .skip) := by kernel_rfl
theorem N.surdref01_Of : Tryz.f114.ntmps = 26 := Tryz.ntmps114

def C.surdref06_Z_Is : VC :=
  .seq (.region false [⟨some 3, .box (.t 0), none⟩,
   ⟨some 6, .mov (.c (bv false)), none⟩]) (.seq (.region false [⟨some 7, .fa 0 (.t 3), none⟩,
   ⟨some 8, .load none (.t 7), none⟩,
   ⟨some 9, .mov (.t 1), none⟩,
   ⟨some 10, .bin .eql true (.t 8) (.t 9), none⟩,
   ⟨some 11, .mov (.t 10), none⟩,
   ⟨some 12, .fa 1 (.t 3), some (11, true)⟩,
   ⟨some 13, .load none (.t 12), some (11, true)⟩,
   ⟨some 14, .mov (.t 2), some (11, true)⟩,
   ⟨some 15, .call F.surdref01_Num_Is [.t 13, .t 14], some (11, true)⟩,
   ⟨some 16, .pick (.t 11) (.t 15) (.c (bv false)), none⟩,
   ⟨some 6, .mov (.t 16), none⟩]) .ret)
def R.surdref06_Z_Is : List VRes := [.tmp 6]
theorem K.surdref06_Z_Is : resCode Tryz.prog Tryz.f115.ntmps (Tryz.f115.body.getD .skip) = C.surdref06_Z_Is := by kernel_rfl
theorem Q.surdref06_Z_Is : resResults Tryz.prog Tryz.f115.results.toList = some R.surdref06_Z_Is := by kernel_rfl
theorem E.surdref06_Z_Is : Tryz.prog.funcs[F.surdref06_Z_Is]? = some Tryz.f115 := Tryz.func115
theorem B.surdref06_Z_Is : Tryz.f115.body = some (Tryz.f115.body.getD .skip) := by kernel_rfl
theorem N.surdref06_Z_Is : Tryz.f115.ntmps = 17 := Tryz.ntmps115

def C.surdref06_Int : VC :=
  .seq (.region false [⟨some 2, .alloc [.bool false, .slice none 0 0], none⟩]) (.seq (.seq (.region false [⟨some 3, .mov (.t 0), none⟩,
   ⟨some 4, .bin .lss false (.t 3) (.c (iv 0)), none⟩]) (.cond (.t 4) (.seq (.region false [⟨some 5, .mov (.t 0), none⟩,
   ⟨some 6, .bin .add false (.t 5) (.c (iv 1)), none⟩,
   ⟨some 7, .un .neg (.t 6), none⟩,
   ⟨some 8, .conv .u64 (.t 7), none⟩,
   ⟨some 9, .bin .add false (.t 8) (.c (nv 1)), none⟩,
   ⟨some 10, .bsl true 1 1 [.int .u64 0] [(0, (1, .t 9))], none⟩,
   ⟨some 11, .call F.surdref01_Of [.t 10], none⟩,
   ⟨some 12, .call F.surdref06_make1 [.c (bv true), .t 11], none⟩,
   ⟨none, .store 2 (.t 2) (.t 12), none⟩]) .ret) .skip)) (.seq (.region false [⟨some 13, .mov (.t 0), none⟩,
   ⟨some 14, .call F.surdref01_Int [.t 13], none⟩,
   ⟨some 15, .call F.surdref06_make1 [.c (bv false), .t 14], none⟩,
   ⟨none, .store 2 (.t 2) (.t 15), none⟩]) .ret))
def R.surdref06_Int : List VRes := [.cell 2 (some 2)]
theorem K.surdref06_Int : resCode Tryz.prog Tryz.f116.ntmps (Tryz.f116.body.getD .skip) = C.surdref06_Int := by kernel_rfl
theorem Q.surdref06_Int : resResults Tryz.prog Tryz.f116.results.toList = some R.surdref06_Int := by kernel_rfl
theorem E.surdref06_Int : Tryz.prog.funcs[F.surdref06_Int]? = some Tryz.f116 := Tryz.func116
theorem B.surdref06_Int : Tryz.f116.body = some (Tryz.f116.body.getD .skip) := by kernel_rfl
theorem N.surdref06_Int : Tryz.f116.ntmps = 16 := Tryz.ntmps116

def C.dyadic_two : VC :=
  .seq (.region false [⟨some 2, .box (.t 0), none⟩,
   ⟨some 3, .box (.t 1), none⟩,
   ⟨some 4, .alloc [.bool false, .slice none 0 0, .int .i64 0], none⟩,
   ⟨some 5, .alloc [.bool false, .slice none 0 0, .int .i64 0], none⟩,
   ⟨some 6, .mov (.c (iv 0)), none⟩]) (.seq (.region false [⟨some 11, .load (some 3) (.t 2), none⟩,
   ⟨some 12, .call F.dyadic_read [.t 11], none⟩,
   ⟨some 10, .mov (.t 12), none⟩,
   ⟨some 13, .ext (.t 10) 0, none⟩,
   ⟨some 14, .ext (.t 10) 1, none⟩,
   ⟨some 7, .alloc [.bool false, .slice none 0 0, .int .i64 0], none⟩,
   ⟨none, .store 3 (.t 7) (.t 13), none⟩,
   ⟨some 8, .mov (.t 14), none⟩]) (.seq (.seq (.region false [⟨some 15, .mov (.t 8), none⟩,
   ⟨some 16, .bin .neq false (.t 15) (.c (iv 0)), none⟩]) (.cond (.t 16) (.seq (.region true [⟨some 17, .load (some 3) (.t 7), none⟩,
   ⟨some 18, .load (some 3) (.t 7), none⟩,
   ⟨some 19, .mov (.t 8), none⟩,
   ⟨none, .storeA 3 (.t 4) (.t 17) [7], none⟩,
   ⟨none, .store 3 (.t 5) (.t 18), none⟩,
   ⟨some 6, .mov (.t 19), none⟩]) .ret) .skip)) (.seq (.region false [⟨some 21, .load (some 3) (.t 3), none⟩,
   ⟨some 22, .call F.dyadic_read [.t 21], none⟩,
   ⟨some 20, .mov (.t 22), none⟩,
   ⟨some 23, .ext (.t 20) 0, none⟩,
   ⟨some 24, .ext (.t 20) 1, none⟩,
   ⟨some 9, .alloc [.bool false, .slice none 0 0, .int .i64 0], none⟩,
   ⟨none, .store 3 (.t 9) (.t 23), none⟩,
   ⟨some 8, .mov (.t 24), none⟩]) (.seq (.region true [⟨some 25, .load (some 3) (.t 7), none⟩,
   ⟨some 26, .load (some 3) (.t 9), none⟩,
   ⟨some 27, .mov (.t 8), none⟩,
   ⟨none, .storeA 3 (.t 4) (.t 25) [9], none⟩,
   ⟨none, .store 3 (.t 5) (.t 26), none⟩,
   ⟨some 6, .mov (.t 27), none⟩]) .ret))))
def R.dyadic_two : List VRes := [.cell 4 (some 3), .cell 5 (some 3), .tmp 6]
theorem K.dyadic_two : resCode Tryz.prog Tryz.f118.ntmps (Tryz.f118.body.getD .skip) = C.dyadic_two := by kernel_rfl
theorem Q.dyadic_two : resResults Tryz.prog Tryz.f118.results.toList = some R.dyadic_two := by kernel_rfl
theorem E.dyadic_two : Tryz.prog.funcs[F.dyadic_two]? = some Tryz.f118 := Tryz.func118
theorem B.dyadic_two : Tryz.f118.body = some (Tryz.f118.body.getD .skip) := by kernel_rfl
theorem N.dyadic_two : Tryz.f118.ntmps = 28 := Tryz.ntmps118

def C.dyadic_compare : VC :=
  .seq (.region false [⟨some 2, .box (.t 0), none⟩,
   ⟨some 3, .box (.t 1), none⟩,
   ⟨some 4, .mov (.c (iv 0)), none⟩]) (.seq (.region true [⟨some 9, .fa 0 (.t 2), none⟩,
   ⟨some 10, .load (some 2) (.t 9), none⟩,
   ⟨some 11, .call F.dyadic_part_sign [.t 10], none⟩,
   ⟨some 12, .fa 0 (.t 3), none⟩,
   ⟨some 13, .load (some 2) (.t 12), none⟩,
   ⟨some 14, .call F.dyadic_part_sign [.t 13], none⟩,
   ⟨some 5, .mov (.t 11), none⟩,
   ⟨some 6, .mov (.t 14), none⟩]) (.seq (.block 0 (.seq (.region false [⟨some 16, .mov (.t 5), none⟩,
   ⟨some 17, .mov (.t 6), none⟩,
   ⟨some 18, .bin .lss false (.t 16) (.t 17), none⟩,
   ⟨some 15, .mov (.t 18), none⟩]) (.cond (.t 15) (.seq (.region false [⟨some 4, .mov (.c (iv (-1))), none⟩]) .ret) (.seq (.region false [⟨some 20, .mov (.t 5), none⟩,
   ⟨some 21, .mov (.t 6), none⟩,
   ⟨some 22, .bin .gtr false (.t 20) (.t 21), none⟩,
   ⟨some 19, .mov (.t 22), none⟩]) (.cond (.t 19) (.seq (.region false [⟨some 4, .mov (.c (iv 1)), none⟩]) .ret) (.seq (.region false [⟨some 24, .mov (.t 5), none⟩,
   ⟨some 25, .bin .eql false (.t 24) (.c (iv 0)), none⟩,
   ⟨some 23, .mov (.t 25), none⟩]) (.cond (.t 23) (.seq (.region false [⟨some 4, .mov (.c (iv 0)), none⟩]) .ret) .skip))))))) (.seq (.seq (.region true [⟨some 26, .load (some 3) (.t 2), none⟩,
   ⟨some 27, .call F.dyadic_number_top [.t 26], none⟩,
   ⟨some 28, .load (some 3) (.t 3), none⟩,
   ⟨some 29, .call F.dyadic_number_top [.t 28], none⟩,
   ⟨some 30, .bin .neq false (.t 27) (.t 29), none⟩]) (.cond (.t 30) (.seq (.seq (.region true [⟨some 31, .load (some 3) (.t 2), none⟩,
   ⟨some 32, .call F.dyadic_number_top [.t 31], none⟩,
   ⟨some 33, .load (some 3) (.t 3), none⟩,
   ⟨some 34, .call F.dyadic_number_top [.t 33], none⟩,
   ⟨some 35, .bin .lss false (.t 32) (.t 34), none⟩]) (.cond (.t 35) (.seq (.region false [⟨some 36, .mov (.t 5), none⟩,
   ⟨some 37, .un .neg (.t 36), none⟩,
   ⟨some 4, .mov (.t 37), none⟩]) .ret) .skip)) (.seq (.region false [⟨some 38, .mov (.t 5), none⟩,
   ⟨some 4, .mov (.t 38), none⟩]) .ret)) .skip)) (.seq (.region true [⟨some 39, .fa 0 (.t 2), none⟩,
   ⟨some 40, .fa 0 (.t 39), none⟩,
   ⟨some 41, .fa 1 (.t 40), none⟩,
   ⟨some 42, .load none (.t 41), none⟩,
   ⟨some 43, .fa 0 (.t 3), none⟩,
   ⟨some 44, .fa 0 (.t 43), none⟩,
   ⟨some 45, .fa 1 (.t 44), none⟩,
   ⟨some 46, .load none (.t 45), none⟩,
   ⟨some 7, .mov (.t 42), none⟩,
   ⟨some 8, .mov (.t 46), none⟩]) (.seq (.seq (.region false [⟨some 47, .fa 2 (.t 2), none⟩,
   ⟨some 48, .load none (.t 47), none⟩,
   ⟨some 49, .fa 2 (.t 3), none⟩,
   ⟨some 50, .load none (.t 49), none⟩,
   ⟨some 51, .bin .gtr false (.t 48) (.t 50), none⟩]) (.cond (.t 51) (.region false [⟨some 52, .mov (.t 7), none⟩,
   ⟨some 53, .fa 2 (.t 2), none⟩,
   ⟨some 54, .load none (.t 53), none⟩,
   ⟨some 55, .fa 2 (.t 3), none⟩,
   ⟨some 56, .load none (.t 55), none⟩,
   ⟨some 57, .bin .sub false (.t 54) (.t 56), none⟩,
   ⟨some 58, .call F.dyadic_left [.t 52, .t 57], none⟩,
   ⟨some 7, .mov (.t 58), none⟩]) (.region false [⟨some 59, .mov (.t 8), none⟩,
   ⟨some 60, .fa 2 (.t 3), none⟩,
   ⟨some 61, .load none (.t 60), none⟩,
   ⟨some 62, .fa 2 (.t 2), none⟩,
   ⟨some 63, .load none (.t 62), none⟩,
   ⟨some 64, .bin .sub false (.t 61) (.t 63), none⟩,
   ⟨some 65, .call F.dyadic_left [.t 59, .t 64], none⟩,
   ⟨some 8, .mov (.t 65), none⟩]))) (.seq (.region false [⟨some 66, .mov (.t 5), none⟩,
   ⟨some 67, .mov (.t 7), none⟩,
   ⟨some 68, .mov (.t 8), none⟩,
   ⟨some 69, .call F.nat_Compare [.t 67, .t 68], none⟩,
   ⟨some 70, .bin .mul false (.t 66) (.t 69), none⟩,
   ⟨some 4, .mov (.t 70), none⟩]) .ret))))))
def R.dyadic_compare : List VRes := [.tmp 4]
theorem K.dyadic_compare : resCode Tryz.prog Tryz.f119.ntmps (Tryz.f119.body.getD .skip) = C.dyadic_compare := by kernel_rfl
theorem Q.dyadic_compare : resResults Tryz.prog Tryz.f119.results.toList = some R.dyadic_compare := by kernel_rfl
theorem E.dyadic_compare : Tryz.prog.funcs[F.dyadic_compare]? = some Tryz.f119 := Tryz.func119
theorem B.dyadic_compare : Tryz.f119.body = some (Tryz.f119.body.getD .skip) := by kernel_rfl
theorem N.dyadic_compare : Tryz.f119.ntmps = 71 := Tryz.ntmps119

def C.whole_Sign : VC :=
  .seq (.region false [⟨some 1, .box (.t 0), none⟩,
   ⟨some 2, .mov (.c (iv 0)), none⟩]) (.seq (.block 0 (.seq (.region false [⟨some 4, .fa 1 (.t 1), none⟩,
   ⟨some 5, .load none (.t 4), none⟩,
   ⟨some 6, .call F.nat_Length [.t 5], none⟩,
   ⟨some 7, .bin .eql false (.t 6) (.c (iv 0)), none⟩,
   ⟨some 3, .mov (.t 7), none⟩]) (.cond (.t 3) (.seq (.region false [⟨some 2, .mov (.c (iv 0)), none⟩]) .ret) (.seq (.region false [⟨some 9, .fa 0 (.t 1), none⟩,
   ⟨some 10, .load none (.t 9), none⟩,
   ⟨some 8, .mov (.t 10), none⟩]) (.cond (.t 8) (.seq (.region false [⟨some 2, .mov (.c (iv (-1))), none⟩]) .ret) .skip))))) (.seq (.region false [⟨some 2, .mov (.c (iv 1)), none⟩]) .ret))
def R.whole_Sign : List VRes := [.tmp 2]
theorem K.whole_Sign : resCode Tryz.prog Tryz.f120.ntmps (Tryz.f120.body.getD .skip) = C.whole_Sign := by kernel_rfl
theorem Q.whole_Sign : resResults Tryz.prog Tryz.f120.results.toList = some R.whole_Sign := by kernel_rfl
theorem E.whole_Sign : Tryz.prog.funcs[F.whole_Sign]? = some Tryz.f120 := Tryz.func120
theorem B.whole_Sign : Tryz.f120.body = some (Tryz.f120.body.getD .skip) := by kernel_rfl
theorem N.whole_Sign : Tryz.f120.ntmps = 11 := Tryz.ntmps120

def C.surdref01_Cmp : VC :=
  .seq (.region false [⟨some 4, .mov (.c (iv 0)), none⟩]) (.seq (.seq (.region false [⟨some 6, .mov (.t 0), none⟩,
   ⟨some 7, .len (.t 6), none⟩,
   ⟨some 8, .mov (.t 1), none⟩,
   ⟨some 9, .len (.t 8), none⟩,
   ⟨some 10, .bin .neq false (.t 7) (.t 9), none⟩]) (.cond (.t 10) (.seq (.seq (.region false [⟨some 11, .mov (.t 0), none⟩,
   ⟨some 12, .len (.t 11), none⟩,
   ⟨some 13, .mov (.t 1), none⟩,
   ⟨some 14, .len (.t 13), none⟩,
   ⟨some 15, .bin .lss false (.t 12) (.t 14), none⟩]) (.cond (.t 15) (.seq (.region false [⟨some 4, .mov (.c (iv (-1))), none⟩]) .ret) .skip)) (.seq (.region false [⟨some 4, .mov (.c (iv 1)), none⟩]) .ret)) .skip)) (.seq (.seq (.region false [⟨some 16, .mov (.t 0), none⟩,
   ⟨some 17, .len (.t 16), none⟩,
   ⟨some 18, .bin .sub false (.t 17) (.c (iv 1)), none⟩,
   ⟨some 5, .mov (.t 18), none⟩]) (.block 0 (.loop (.seq (.seq (.region false [⟨some 19, .mov (.t 5), none⟩,
   ⟨some 20, .bin .geq false (.t 19) (.c (iv 0)), none⟩]) (.cond (.t 20) .skip (.exit 0))) (.seq (.block 1 (.seq (.seq (.region true [⟨some 23, .mov (.t 0), none⟩,
   ⟨some 24, .mov (.t 5), none⟩,
   ⟨some 25, .ixa 1 (.t 23) (.t 24), none⟩,
   ⟨some 26, .load none (.t 25), none⟩,
   ⟨some 27, .mov (.t 1), none⟩,
   ⟨some 28, .mov (.t 5), none⟩,
   ⟨some 29, .ixa 1 (.t 27) (.t 28), none⟩,
   ⟨some 30, .load none (.t 29), none⟩,
   ⟨some 31, .bin .lss false (.t 26) (.t 30), none⟩]) (.cond (.t 31) (.seq (.region false [⟨some 4, .mov (.c (iv (-1))), none⟩]) .ret) .skip)) (.seq (.region true [⟨some 32, .mov (.t 0), none⟩,
   ⟨some 33, .mov (.t 5), none⟩,
   ⟨some 34, .ixa 1 (.t 32) (.t 33), none⟩,
   ⟨some 35, .load none (.t 34), none⟩,
   ⟨some 36, .mov (.t 1), none⟩,
   ⟨some 37, .mov (.t 5), none⟩,
   ⟨some 38, .ixa 1 (.t 36) (.t 37), none⟩,
   ⟨some 39, .load none (.t 38), none⟩,
   ⟨some 40, .bin .gtr false (.t 35) (.t 39), none⟩]) (.cond (.t 40) (.seq (.region false [⟨some 4, .mov (.c (iv 1)), none⟩]) .ret) .skip)))) (.region false [⟨some 21, .mov (.t 5), none⟩,
   ⟨some 22, .bin .sub false (.t 21) (.c (iv 1)), none⟩,
   ⟨some 5, .mov (.t 22), none⟩])))))) (.seq (.region false [⟨some 4, .mov (.c (iv 0)), none⟩]) .ret)))
def R.surdref01_Cmp : List VRes := [.tmp 4]
theorem K.surdref01_Cmp : resCode Tryz.prog Tryz.f121.ntmps (Tryz.f121.body.getD .skip) = C.surdref01_Cmp := by kernel_rfl
theorem Q.surdref01_Cmp : resResults Tryz.prog Tryz.f121.results.toList = some R.surdref01_Cmp := by kernel_rfl
theorem E.surdref01_Cmp : Tryz.prog.funcs[F.surdref01_Cmp]? = some Tryz.f121 := Tryz.func121
theorem B.surdref01_Cmp : Tryz.f121.body = some (Tryz.f121.body.getD .skip) := by kernel_rfl
theorem N.surdref01_Cmp : Tryz.f121.ntmps = 41 := Tryz.ntmps121

def C.dyadic_sum : VC :=
  .seq (.region false [⟨some 2, .box (.t 0), none⟩,
   ⟨some 3, .box (.t 1), none⟩,
   ⟨some 4, .alloc [.bool false, .slice none 0 0, .int .i64 0], none⟩,
   ⟨some 5, .mov (.c (iv 0)), none⟩]) (.seq (.seq (.region false [⟨some 10, .fa 0 (.t 2), none⟩,
   ⟨some 11, .load (some 2) (.t 10), none⟩,
   ⟨some 12, .call F.dyadic_part_sign [.t 11], none⟩,
   ⟨some 13, .bin .eql false (.t 12) (.c (iv 0)), none⟩]) (.cond (.t 13) (.region false [⟨some 14, .load (some 3) (.t 3), none⟩,
   ⟨some 15, .load (some 3) (.t 2), none⟩,
   ⟨none, .store 3 (.t 2) (.t 14), none⟩,
   ⟨none, .store 3 (.t 3) (.t 15), none⟩]) .skip)) (.seq (.seq (.region false [⟨some 16, .fa 0 (.t 3), none⟩,
   ⟨some 17, .load (some 2) (.t 16), none⟩,
   ⟨some 18, .call F.dyadic_part_sign [.t 17], none⟩,
   ⟨some 19, .bin .eql false (.t 18) (.c (iv 0)), none⟩]) (.cond (.t 19) (.seq (.region false [⟨some 20, .fa 0 (.t 2), none⟩,
   ⟨some 21, .fa 0 (.t 20), none⟩,
   ⟨some 22, .load (some 2) (.t 21), none⟩,
   ⟨some 23, .fa 2 (.t 2), none⟩,
   ⟨some 24, .load none (.t 23), none⟩,
   ⟨some 25, .call F.dyadic_told [.t 22, .t 24], none⟩,
   ⟨some 26, .ext (.t 25) 0, none⟩,
   ⟨some 27, .ext (.t 25) 1, none⟩,
   ⟨none, .store 3 (.t 4) (.t 26), none⟩,
   ⟨some 5, .mov (.t 27), none⟩]) .ret) .skip)) (.seq (.seq (.region false [⟨some 28, .fa 2 (.t 2), none⟩,
   ⟨some 29, .load none (.t 28), none⟩,
   ⟨some 30, .fa 2 (.t 3), none⟩,
   ⟨some 31, .load none (.t 30), none⟩,
   ⟨some 32, .bin .lss false (.t 29) (.t 31), none⟩]) (.cond (.t 32) (.region false [⟨some 33, .load (some 3) (.t 3), none⟩,
   ⟨some 34, .load (some 3) (.t 2), none⟩,
   ⟨none, .store 3 (.t 2) (.t 33), none⟩,
   ⟨none, .store 3 (.t 3) (.t 34), none⟩]) .skip)) (.seq (.region false [⟨some 35, .fa 2 (.t 2), none⟩,
   ⟨some 36, .load none (.t 35), none⟩,
   ⟨some 37, .fa 2 (.t 3), none⟩,
   ⟨some 38, .load none (.t 37), none⟩,
   ⟨some 39, .bin .sub false (.t 36) (.t 38), none⟩,
   ⟨some 6, .mov (.t 39), none⟩]) (.seq (.seq (.region true [⟨some 40, .mov (.t 6), none⟩,
   ⟨some 41, .bin .gtr false (.t 40) (.c (iv 0)), none⟩,
   ⟨some 42, .mov (.t 41), none⟩,
   ⟨some 43, .load (some 3) (.t 2), some (42, true)⟩,
   ⟨some 44, .call F.dyadic_number_top [.t 43], some (42, true)⟩,
   ⟨some 45, .load (some 3) (.t 3), some (42, true)⟩,
   ⟨some 46, .call F.dyadic_number_top [.t 45], some (42, true)⟩,
   ⟨some 47, .bin .add false (.t 46) (.c (iv 1)), some (42, true)⟩,
   ⟨some 48, .mm true (.t 44) (.t 47), some (42, true)⟩,
   ⟨some 49, .fa 2 (.t 3), some (42, true)⟩,
   ⟨some 50, .load none (.t 49), some (42, true)⟩,
   ⟨some 51, .bin .sub false (.t 48) (.t 50), some (42, true)⟩,
   ⟨some 52, .bin .gtr false (.t 51) (.c (iv 67108866)), some (42, true)⟩,
   ⟨some 53, .pick (.t 42) (.t 52) (.c (bv false)), none⟩]) (.cond (.t 53) (.seq (.region false [⟨some 54, .build [.bool false, .slice none 0 0, .int .i64 0] [], none⟩,
   ⟨none, .store 3 (.t 4) (.t 54), none⟩,
   ⟨some 5, .mov (.c (iv 3)), none⟩]) .ret) .skip)) (.seq (.region true [⟨some 56, .fa 0 (.t 2), none⟩,
   ⟨some 57, .fa 0 (.t 56), none⟩,
   ⟨some 58, .fa 0 (.t 57), none⟩,
   ⟨some 59, .load none (.t 58), none⟩,
   ⟨some 60, .fa 0 (.t 2), none⟩,
   ⟨some 61, .fa 0 (.t 60), none⟩,
   ⟨some 62, .fa 1 (.t 61), none⟩,
   ⟨some 63, .load none (.t 62), none⟩,
   ⟨some 64, .mov (.t 6), none⟩,
   ⟨some 65, .call F.dyadic_left [.t 63, .t 64], none⟩,
   ⟨some 66, .call F.whole_Make [.t 59, .t 65], none⟩,
   ⟨some 55, .mov (.t 66), none⟩,
   ⟨some 67, .ext (.t 55) 0, none⟩,
   ⟨some 68, .ext (.t 55) 1, none⟩,
   ⟨some 7, .mov (.c .any), none⟩,
   ⟨some 7, .boxA 2 (.t 67), none⟩,
   ⟨some 8, .mov (.t 68), none⟩]) (.seq (.seq (.region false [⟨some 69, .mov (.t 8), none⟩,
   ⟨some 70, .bin .neq false (.t 69) (.c (iv 0)), none⟩]) (.cond (.t 70) (.seq (.region false [⟨some 71, .load (some 3) (.t 2), none⟩,
   ⟨some 72, .load (some 3) (.t 3), none⟩,
   ⟨some 73, .call F.dyadic_long [.t 71, .t 72], none⟩,
   ⟨some 74, .ext (.t 73) 0, none⟩,
   ⟨some 75, .ext (.t 73) 1, none⟩,
   ⟨none, .store 3 (.t 4) (.t 74), none⟩,
   ⟨some 5, .mov (.t 75), none⟩]) .ret) .skip)) (.seq (.region false [⟨some 77, .load (some 2) (.t 7), none⟩,
   ⟨some 78, .fa 0 (.t 3), none⟩,
   ⟨some 79, .fa 0 (.t 78), none⟩,
   ⟨some 80, .load (some 2) (.t 79), none⟩,
   ⟨some 81, .call F.whole_Add [.t 77, .t 80], none⟩,
   ⟨some 76, .mov (.t 81), none⟩,
   ⟨some 82, .ext (.t 76) 0, none⟩,
   ⟨some 83, .ext (.t 76) 1, none⟩,
   ⟨some 9, .alloc [.bool false, .slice none 0 0], none⟩,
   ⟨none, .store 2 (.t 9) (.t 82), none⟩,
   ⟨some 8, .mov (.t 83), none⟩]) (.seq (.seq (.region false [⟨some 84, .mov (.t 8), none⟩,
   ⟨some 85, .bin .neq false (.t 84) (.c (iv 0)), none⟩]) (.cond (.t 85) (.seq (.region false [⟨some 86, .load (some 3) (.t 2), none⟩,
   ⟨some 87, .load (some 3) (.t 3), none⟩,
   ⟨some 88, .call F.dyadic_long [.t 86, .t 87], none⟩,
   ⟨some 89, .ext (.t 88) 0, none⟩,
   ⟨some 90, .ext (.t 88) 1, none⟩,
   ⟨none, .store 3 (.t 4) (.t 89), none⟩,
   ⟨some 5, .mov (.t 90), none⟩]) .ret) .skip)) (.seq (.region false [⟨some 91, .load (some 2) (.t 9), none⟩,
   ⟨some 92, .fa 2 (.t 3), none⟩,
   ⟨some 93, .load none (.t 92), none⟩,
   ⟨some 94, .call F.dyadic_told [.t 91, .t 93], none⟩,
   ⟨some 95, .ext (.t 94) 0, none⟩,
   ⟨some 96, .ext (.t 94) 1, none⟩,
   ⟨none, .store 3 (.t 4) (.t 95), none⟩,
   ⟨some 5, .mov (.t 96), none⟩]) .ret))))))))))
def R.dyadic_sum : List VRes := [.cell 4 (some 3), .tmp 5]
theorem K.dyadic_sum : resCode Tryz.prog Tryz.f122.ntmps (Tryz.f122.body.getD .skip) = C.dyadic_sum := by kernel_rfl
theorem Q.dyadic_sum : resResults Tryz.prog Tryz.f122.results.toList = some R.dyadic_sum := by kernel_rfl
theorem E.dyadic_sum : Tryz.prog.funcs[F.dyadic_sum]? = some Tryz.f122 := Tryz.func122
theorem B.dyadic_sum : Tryz.f122.body = some (Tryz.f122.body.getD .skip) := by kernel_rfl
theorem N.dyadic_sum : Tryz.f122.ntmps = 97 := Tryz.ntmps122

def C.dyadic_part_sign : VC :=
  .seq (.region false [⟨some 1, .box (.t 0), none⟩,
   ⟨some 2, .mov (.c (iv 0)), none⟩]) (.seq (.region false [⟨some 3, .fa 0 (.t 1), none⟩,
   ⟨some 4, .load (some 2) (.t 3), none⟩,
   ⟨some 5, .call F.whole_Sign [.t 4], none⟩,
   ⟨some 2, .mov (.t 5), none⟩]) .ret)
def R.dyadic_part_sign : List VRes := [.tmp 2]
theorem K.dyadic_part_sign : resCode Tryz.prog Tryz.f123.ntmps (Tryz.f123.body.getD .skip) = C.dyadic_part_sign := by kernel_rfl
theorem Q.dyadic_part_sign : resResults Tryz.prog Tryz.f123.results.toList = some R.dyadic_part_sign := by kernel_rfl
theorem E.dyadic_part_sign : Tryz.prog.funcs[F.dyadic_part_sign]? = some Tryz.f123 := Tryz.func123
theorem B.dyadic_part_sign : Tryz.f123.body = some (Tryz.f123.body.getD .skip) := by kernel_rfl
theorem N.dyadic_part_sign : Tryz.f123.ntmps = 6 := Tryz.ntmps123

def C.dyadic_read : VC :=
  .seq (.region false [⟨some 1, .box (.t 0), none⟩,
   ⟨some 2, .alloc [.bool false, .slice none 0 0, .int .i64 0], none⟩,
   ⟨some 3, .mov (.c (iv 0)), none⟩]) (.seq (.seq (.region false [⟨some 4, .fa 2 (.t 1), none⟩,
   ⟨some 5, .load none (.t 4), none⟩,
   ⟨some 6, .call F.dyadic_within [.t 5], none⟩,
   ⟨some 7, .un .not (.t 6), none⟩]) (.cond (.t 7) (.seq (.region false [⟨some 8, .build [.bool false, .slice none 0 0, .int .i64 0] [], none⟩,
   ⟨none, .store 3 (.t 2) (.t 8), none⟩,
   ⟨some 3, .mov (.c (iv 80)), none⟩]) .ret) .skip)) (.seq (.region false [⟨some 9, .fa 0 (.t 1), none⟩,
   ⟨some 10, .load (some 2) (.t 9), none⟩,
   ⟨some 11, .fa 2 (.t 1), none⟩,
   ⟨some 12, .load none (.t 11), none⟩,
   ⟨some 13, .call F.dyadic_odd [.t 10, .t 12], none⟩,
   ⟨none, .store 3 (.t 2) (.t 13), none⟩,
   ⟨some 3, .mov (.c (iv 0)), none⟩]) .ret))
def R.dyadic_read : List VRes := [.cell 2 (some 3), .tmp 3]
theorem K.dyadic_read : resCode Tryz.prog Tryz.f124.ntmps (Tryz.f124.body.getD .skip) = C.dyadic_read := by kernel_rfl
theorem Q.dyadic_read : resResults Tryz.prog Tryz.f124.results.toList = some R.dyadic_read := by kernel_rfl
theorem E.dyadic_read : Tryz.prog.funcs[F.dyadic_read]? = some Tryz.f124 := Tryz.func124
theorem B.dyadic_read : Tryz.f124.body = some (Tryz.f124.body.getD .skip) := by kernel_rfl
theorem N.dyadic_read : Tryz.f124.ntmps = 14 := Tryz.ntmps124

def C.dyadic_within : VC :=
  .seq (.region false [⟨some 2, .mov (.c (bv false)), none⟩]) (.seq (.region false [⟨some 3, .mov (.t 0), none⟩,
   ⟨some 4, .bin .geq false (.t 3) (.c (iv (-1099511627776))), none⟩,
   ⟨some 5, .mov (.t 4), none⟩,
   ⟨some 6, .mov (.t 0), some (5, true)⟩,
   ⟨some 7, .bin .leq false (.t 6) (.c (iv 1099511627776)), some (5, true)⟩,
   ⟨some 8, .pick (.t 5) (.t 7) (.c (bv false)), none⟩,
   ⟨some 2, .mov (.t 8), none⟩]) .ret)
def R.dyadic_within : List VRes := [.tmp 2]
theorem K.dyadic_within : resCode Tryz.prog Tryz.f125.ntmps (Tryz.f125.body.getD .skip) = C.dyadic_within := by kernel_rfl
theorem Q.dyadic_within : resResults Tryz.prog Tryz.f125.results.toList = some R.dyadic_within := by kernel_rfl
theorem E.dyadic_within : Tryz.prog.funcs[F.dyadic_within]? = some Tryz.f125 := Tryz.func125
theorem B.dyadic_within : Tryz.f125.body = some (Tryz.f125.body.getD .skip) := by kernel_rfl
theorem N.dyadic_within : Tryz.f125.ntmps = 9 := Tryz.ntmps125

def C.dyadic_direction : VC :=
  .seq (.region false [⟨some 2, .mov (.c (bv false)), none⟩]) (.seq (.region false [⟨some 3, .mov (.t 0), none⟩,
   ⟨some 4, .bin .eql false (.t 3) (.c (iv 0)), none⟩,
   ⟨some 5, .mov (.t 4), none⟩,
   ⟨some 6, .mov (.t 0), some (5, false)⟩,
   ⟨some 7, .bin .eql false (.t 6) (.c (iv 1)), some (5, false)⟩,
   ⟨some 8, .pick (.t 5) (.c (bv true)) (.t 7), none⟩,
   ⟨some 9, .mov (.t 8), none⟩,
   ⟨some 10, .mov (.t 0), some (9, false)⟩,
   ⟨some 11, .bin .eql false (.t 10) (.c (iv 2)), some (9, false)⟩,
   ⟨some 12, .pick (.t 9) (.c (bv true)) (.t 11), none⟩,
   ⟨some 2, .mov (.t 12), none⟩]) .ret)
def R.dyadic_direction : List VRes := [.tmp 2]
theorem K.dyadic_direction : resCode Tryz.prog Tryz.f126.ntmps (Tryz.f126.body.getD .skip) = C.dyadic_direction := by kernel_rfl
theorem Q.dyadic_direction : resResults Tryz.prog Tryz.f126.results.toList = some R.dyadic_direction := by kernel_rfl
theorem E.dyadic_direction : Tryz.prog.funcs[F.dyadic_direction]? = some Tryz.f126 := Tryz.func126
theorem B.dyadic_direction : Tryz.f126.body = some (Tryz.f126.body.getD .skip) := by kernel_rfl
theorem N.dyadic_direction : Tryz.f126.ntmps = 13 := Tryz.ntmps126

def C.dyadic_rounded : VC :=
  .seq (.region false [⟨some 3, .box (.t 0), none⟩,
   ⟨some 6, .alloc [.bool false, .slice none 0 0, .int .i64 0], none⟩,
   ⟨some 7, .mov (.c (iv 0)), none⟩]) (.seq (.seq (.region false [⟨some 8, .fa 0 (.t 3), none⟩,
   ⟨some 9, .load (some 2) (.t 8), none⟩,
   ⟨some 10, .call F.dyadic_part_sign [.t 9], none⟩,
   ⟨some 11, .bin .eql false (.t 10) (.c (iv 0)), none⟩,
   ⟨some 12, .mov (.t 11), none⟩,
   ⟨some 13, .fa 2 (.t 3), some (12, false)⟩,
   ⟨some 14, .load none (.t 13), some (12, false)⟩,
   ⟨some 15, .mov (.t 1), some (12, false)⟩,
   ⟨some 16, .bin .geq false (.t 14) (.t 15), some (12, false)⟩,
   ⟨some 17, .pick (.t 12) (.c (bv true)) (.t 16), none⟩]) (.cond (.t 17) (.seq (.region false [⟨some 18, .fa 0 (.t 3), none⟩,
   ⟨some 19, .fa 0 (.t 18), none⟩,
   ⟨some 20, .load (some 2) (.t 19), none⟩,
   ⟨some 21, .fa 2 (.t 3), none⟩,
   ⟨some 22, .load none (.t 21), none⟩,
   ⟨some 23, .call F.dyadic_told [.t 20, .t 22], none⟩,
   ⟨some 24, .ext (.t 23) 0, none⟩,
   ⟨some 25, .ext (.t 23) 1, none⟩,
   ⟨none, .store 3 (.t 6) (.t 24), none⟩,
   ⟨some 7, .mov (.t 25), none⟩]) .ret) .skip)) (.seq (.region false [⟨some 26, .load (some 3) (.t 3), none⟩,
   ⟨some 27, .mov (.t 1), none⟩,
   ⟨some 28, .mov (.t 2), none⟩,
   ⟨some 29, .call F.dyadic_steps [.t 26, .t 27, .t 28], none⟩,
   ⟨some 30, .mov (.t 1), none⟩,
   ⟨some 31, .call F.dyadic_told [.t 29, .t 30], none⟩,
   ⟨some 32, .ext (.t 31) 0, none⟩,
   ⟨some 33, .ext (.t 31) 1, none⟩,
   ⟨none, .store 3 (.t 6) (.t 32), none⟩,
   ⟨some 7, .mov (.t 33), none⟩]) .ret))
def R.dyadic_rounded : List VRes := [.cell 6 (some 3), .tmp 7]
theorem K.dyadic_rounded : resCode Tryz.prog Tryz.f127.ntmps (Tryz.f127.body.getD .skip) = C.dyadic_rounded := by kernel_rfl
theorem Q.dyadic_rounded : resResults Tryz.prog Tryz.f127.results.toList = some R.dyadic_rounded := by kernel_rfl
theorem E.dyadic_rounded : Tryz.prog.funcs[F.dyadic_rounded]? = some Tryz.f127 := Tryz.func127
theorem B.dyadic_rounded : Tryz.f127.body = some (Tryz.f127.body.getD .skip) := by kernel_rfl
theorem N.dyadic_rounded : Tryz.f127.ntmps = 34 := Tryz.ntmps127

def C.surdref01_norm : VC :=
  .seq (.region false [⟨some 2, .mov (.c nil1), none⟩]) (.seq (.region false [⟨some 4, .mov (.t 0), none⟩,
   ⟨some 5, .len (.t 4), none⟩,
   ⟨some 3, .mov (.t 5), none⟩]) (.seq (.block 0 (.loop (.seq (.seq (.region false [⟨some 6, .mov (.t 3), none⟩,
   ⟨some 7, .bin .gtr false (.t 6) (.c (iv 0)), none⟩,
   ⟨some 8, .mov (.t 7), none⟩,
   ⟨some 9, .mov (.t 0), some (8, true)⟩,
   ⟨some 10, .mov (.t 3), some (8, true)⟩,
   ⟨some 11, .bin .sub false (.t 10) (.c (iv 1)), some (8, true)⟩,
   ⟨some 12, .ixa 1 (.t 9) (.t 11), some (8, true)⟩,
   ⟨some 13, .load none (.t 12), some (8, true)⟩,
   ⟨some 14, .bin .eql false (.t 13) (.c (nv 0)), some (8, true)⟩,
   ⟨some 15, .pick (.t 8) (.t 14) (.c (bv false)), none⟩]) (.cond (.t 15) .skip (.exit 0))) (.block 1 (.region false [⟨some 16, .mov (.t 3), none⟩,
   ⟨some 17, .bin .sub false (.t 16) (.c (iv 1)), none⟩,
   ⟨some 3, .mov (.t 17), none⟩]))))) (.seq (.region false [⟨some 18, .mov (.t 0), none⟩,
   ⟨some 19, .mov (.t 3), none⟩,
   ⟨some 20, .mov (.t 3), none⟩,
   ⟨some 21, .slc 1 (.t 18) none (some (.t 19)) (some (.t 20)), none⟩,
   ⟨some 2, .mov (.t 21), none⟩]) .ret)))
def R.surdref01_norm : List VRes := [.tmp 2]
theorem K.surdref01_norm : resCode Tryz.prog Tryz.f128.ntmps (Tryz.f128.body.getD .skip) = C.surdref01_norm := by kernel_rfl
theorem Q.surdref01_norm : resResults Tryz.prog Tryz.f128.results.toList = some R.surdref01_norm := by kernel_rfl
theorem E.surdref01_norm : Tryz.prog.funcs[F.surdref01_norm]? = some Tryz.f128 := Tryz.func128
theorem B.surdref01_norm : Tryz.f128.body = some (Tryz.f128.body.getD .skip) := by kernel_rfl
theorem N.surdref01_norm : Tryz.f128.ntmps = 22 := Tryz.ntmps128

def C.surdref01_Num_Bit : VC :=
  .seq (.region false [⟨some 4, .mov (.c (iv 0)), none⟩]) (.seq (.seq (.region false [⟨some 5, .mov (.t 1), none⟩,
   ⟨some 6, .bin .lss false (.t 5) (.c (iv 0)), none⟩,
   ⟨some 7, .mov (.t 6), none⟩,
   ⟨some 8, .mov (.t 1), some (7, false)⟩,
   ⟨some 9, .bin .quo false (.t 8) (.c (iv 32)), some (7, false)⟩,
   ⟨some 10, .mov (.t 0), some (7, false)⟩,
   ⟨some 11, .len (.t 10), some (7, false)⟩,
   ⟨some 12, .bin .geq false (.t 9) (.t 11), some (7, false)⟩,
   ⟨some 13, .pick (.t 7) (.c (bv true)) (.t 12), none⟩]) (.cond (.t 13) (.seq (.region false [⟨some 4, .mov (.c (iv 0)), none⟩]) .ret) .skip)) (.seq (.region false [⟨some 14, .mov (.t 0), none⟩,
   ⟨some 15, .mov (.t 1), none⟩,
   ⟨some 16, .bin .quo false (.t 15) (.c (iv 32)), none⟩,
   ⟨some 17, .ixa 1 (.t 14) (.t 16), none⟩,
   ⟨some 18, .load none (.t 17), none⟩,
   ⟨some 19, .mov (.t 1), none⟩,
   ⟨some 20, .bin .rem false (.t 19) (.c (iv 32)), none⟩,
   ⟨some 21, .bin .shr false (.t 18) (.t 20), none⟩,
   ⟨some 22, .bin .and false (.t 21) (.c (nv 1)), none⟩,
   ⟨some 23, .conv .i64 (.t 22), none⟩,
   ⟨some 4, .mov (.t 23), none⟩]) .ret))
def R.surdref01_Num_Bit : List VRes := [.tmp 4]
theorem K.surdref01_Num_Bit : resCode Tryz.prog Tryz.f131.ntmps (Tryz.f131.body.getD .skip) = C.surdref01_Num_Bit := by kernel_rfl
theorem Q.surdref01_Num_Bit : resResults Tryz.prog Tryz.f131.results.toList = some R.surdref01_Num_Bit := by kernel_rfl
theorem E.surdref01_Num_Bit : Tryz.prog.funcs[F.surdref01_Num_Bit]? = some Tryz.f131 := Tryz.func131
theorem B.surdref01_Num_Bit : Tryz.f131.body = some (Tryz.f131.body.getD .skip) := by kernel_rfl
theorem N.surdref01_Num_Bit : Tryz.f131.ntmps = 24 := Tryz.ntmps131

def C.dyadic_Add : VC :=
  .seq (.region false [⟨some 2, .box (.t 0), none⟩,
   ⟨some 3, .box (.t 1), none⟩,
   ⟨some 4, .alloc [.bool false, .slice none 0 0, .int .i64 0], none⟩,
   ⟨some 5, .mov (.c (iv 0)), none⟩]) (.seq (.region false [⟨some 10, .load (some 3) (.t 2), none⟩,
   ⟨some 11, .load (some 3) (.t 3), none⟩,
   ⟨some 12, .call F.dyadic_two [.t 10, .t 11], none⟩,
   ⟨some 9, .mov (.t 12), none⟩,
   ⟨some 13, .ext (.t 9) 0, none⟩,
   ⟨some 14, .ext (.t 9) 1, none⟩,
   ⟨some 15, .ext (.t 9) 2, none⟩,
   ⟨some 6, .alloc [.bool false, .slice none 0 0, .int .i64 0], none⟩,
   ⟨some 7, .alloc [.bool false, .slice none 0 0, .int .i64 0], none⟩,
   ⟨none, .store 3 (.t 6) (.t 13), none⟩,
   ⟨none, .store 3 (.t 7) (.t 14), none⟩,
   ⟨some 8, .mov (.t 15), none⟩]) (.seq (.seq (.region false [⟨some 16, .mov (.t 8), none⟩,
   ⟨some 17, .bin .neq false (.t 16) (.c (iv 0)), none⟩]) (.cond (.t 17) (.seq (.region false [⟨some 18, .build [.bool false, .slice none 0 0, .int .i64 0] [], none⟩,
   ⟨some 19, .mov (.t 8), none⟩,
   ⟨none, .store 3 (.t 4) (.t 18), none⟩,
   ⟨some 5, .mov (.t 19), none⟩]) .ret) .skip)) (.seq (.region false [⟨some 20, .load (some 3) (.t 6), none⟩,
   ⟨some 21, .load (some 3) (.t 7), none⟩,
   ⟨some 22, .call F.dyadic_sum [.t 20, .t 21], none⟩,
   ⟨some 23, .ext (.t 22) 0, none⟩,
   ⟨some 24, .ext (.t 22) 1, none⟩,
   ⟨none, .store 3 (.t 4) (.t 23), none⟩,
   ⟨some 5, .mov (.t 24), none⟩]) .ret)))
def R.dyadic_Add : List VRes := [.cell 4 (some 3), .tmp 5]
theorem K.dyadic_Add : resCode Tryz.prog Tryz.f132.ntmps (Tryz.f132.body.getD .skip) = C.dyadic_Add := by kernel_rfl
theorem Q.dyadic_Add : resResults Tryz.prog Tryz.f132.results.toList = some R.dyadic_Add := by kernel_rfl
theorem E.dyadic_Add : Tryz.prog.funcs[F.dyadic_Add]? = some Tryz.f132 := Tryz.func132
theorem B.dyadic_Add : Tryz.f132.body = some (Tryz.f132.body.getD .skip) := by kernel_rfl
theorem N.dyadic_Add : Tryz.f132.ntmps = 25 := Tryz.ntmps132

def C.span_outward : VC :=
  .seq (.region false [⟨some 3, .box (.t 0), none⟩,
   ⟨some 4, .box (.t 1), none⟩,
   ⟨some 6, .alloc [.bool false, .slice none 0 0, .int .i64 0, .bool false, .slice none 0 0, .int .i64 0], none⟩,
   ⟨some 7, .mov (.c (iv 0)), none⟩]) (.seq (.region false [⟨some 13, .load (some 3) (.t 3), none⟩,
   ⟨some 14, .mov (.t 2), none⟩,
   ⟨some 15, .call F.dyadic_Round [.t 13, .t 14, .c (iv 0)], none⟩,
   ⟨some 12, .mov (.t 15), none⟩,
   ⟨some 16, .ext (.t 12) 0, none⟩,
   ⟨some 17, .ext (.t 12) 1, none⟩,
   ⟨some 8, .alloc [.bool false, .slice none 0 0, .int .i64 0], none⟩,
   ⟨none, .store 3 (.t 8) (.t 16), none⟩,
   ⟨some 9, .mov (.t 17), none⟩]) (.seq (.region false [⟨some 19, .load (some 3) (.t 4), none⟩,
   ⟨some 20, .mov (.t 2), none⟩,
   ⟨some 21, .call F.dyadic_Round [.t 19, .t 20, .c (iv 1)], none⟩,
   ⟨some 18, .mov (.t 21), none⟩,
   ⟨some 22, .ext (.t 18) 0, none⟩,
   ⟨some 23, .ext (.t 18) 1, none⟩,
   ⟨some 10, .alloc [.bool false, .slice none 0 0, .int .i64 0], none⟩,
   ⟨none, .store 3 (.t 10) (.t 22), none⟩,
   ⟨some 11, .mov (.t 23), none⟩]) (.seq (.region false [⟨some 24, .load (some 3) (.t 8), none⟩,
   ⟨some 25, .mov (.t 9), none⟩,
   ⟨some 26, .load (some 3) (.t 10), none⟩,
   ⟨some 27, .mov (.t 11), none⟩,
   ⟨some 28, .call F.span_ends [.t 24, .t 25, .t 26, .t 27], none⟩,
   ⟨some 29, .ext (.t 28) 0, none⟩,
   ⟨some 30, .ext (.t 28) 1, none⟩,
   ⟨none, .store 6 (.t 6) (.t 29), none⟩,
   ⟨some 7, .mov (.t 30), none⟩]) .ret)))
def R.span_outward : List VRes := [.cell 6 (some 6), .tmp 7]
theorem K.span_outward : resCode Tryz.prog Tryz.f133.ntmps (Tryz.f133.body.getD .skip) = C.span_outward := by kernel_rfl
theorem Q.span_outward : resResults Tryz.prog Tryz.f133.results.toList = some R.span_outward := by kernel_rfl
theorem E.span_outward : Tryz.prog.funcs[F.span_outward]? = some Tryz.f133 := Tryz.func133
theorem B.span_outward : Tryz.f133.body = some (Tryz.f133.body.getD .skip) := by kernel_rfl
theorem N.span_outward : Tryz.f133.ntmps = 31 := Tryz.ntmps133

def C.dyadic_told : VC :=
  .seq (.region false [⟨some 2, .box (.t 0), none⟩,
   ⟨some 4, .alloc [.bool false, .slice none 0 0, .int .i64 0], none⟩,
   ⟨some 5, .mov (.c (iv 0)), none⟩]) (.seq (.region false [⟨some 7, .load (some 2) (.t 2), none⟩,
   ⟨some 8, .mov (.t 1), none⟩,
   ⟨some 9, .call F.dyadic_odd [.t 7, .t 8], none⟩,
   ⟨some 6, .alloc [.bool false, .slice none 0 0, .int .i64 0], none⟩,
   ⟨none, .store 3 (.t 6) (.t 9), none⟩]) (.seq (.block 0 (.seq (.region false [⟨some 11, .fa 0 (.t 6), none⟩,
   ⟨some 12, .load (some 2) (.t 11), none⟩,
   ⟨some 13, .call F.dyadic_part_sign [.t 12], none⟩,
   ⟨some 14, .bin .eql false (.t 13) (.c (iv 0)), none⟩,
   ⟨some 10, .mov (.t 14), none⟩]) (.cond (.t 10) (.seq (.region false [⟨some 15, .build [.bool false, .slice none 0 0, .int .i64 0] [], none⟩,
   ⟨none, .store 3 (.t 4) (.t 15), none⟩,
   ⟨some 5, .mov (.c (iv 0)), none⟩]) .ret) (.seq (.region false [⟨some 17, .fa 0 (.t 6), none⟩,
   ⟨some 18, .load (some 2) (.t 17), none⟩,
   ⟨some 19, .call F.dyadic_part_length [.t 18], none⟩,
   ⟨some 20, .bin .gtr false (.t 19) (.c (iv 67108864)), none⟩,
   ⟨some 16, .mov (.t 20), none⟩]) (.cond (.t 16) (.seq (.region false [⟨some 21, .build [.bool false, .slice none 0 0, .int .i64 0] [], none⟩,
   ⟨none, .store 3 (.t 4) (.t 21), none⟩,
   ⟨some 5, .mov (.c (iv 3)), none⟩]) .ret) (.seq (.region false [⟨some 23, .fa 2 (.t 6), none⟩,
   ⟨some 24, .load none (.t 23), none⟩,
   ⟨some 25, .call F.dyadic_within [.t 24], none⟩,
   ⟨some 26, .un .not (.t 25), none⟩,
   ⟨some 22, .mov (.t 26), none⟩]) (.cond (.t 22) (.seq (.region false [⟨some 27, .build [.bool false, .slice none 0 0, .int .i64 0] [], none⟩,
   ⟨none, .store 3 (.t 4) (.t 27), none⟩,
   ⟨some 5, .mov (.c (iv 80)), none⟩]) .ret) .skip))))))) (.seq (.region false [⟨some 28, .fa 0 (.t 6), none⟩,
   ⟨some 29, .fa 0 (.t 28), none⟩,
   ⟨some 30, .load (some 2) (.t 29), none⟩,
   ⟨some 31, .fa 2 (.t 6), none⟩,
   ⟨some 32, .load none (.t 31), none⟩,
   ⟨some 33, .build [.bool false, .slice none 0 0, .int .i64 0] [(0, (2, .t 30)), (2, (1, .t 32))], none⟩,
   ⟨none, .store 3 (.t 4) (.t 33), none⟩,
   ⟨some 5, .mov (.c (iv 0)), none⟩]) .ret)))
def R.dyadic_told : List VRes := [.cell 4 (some 3), .tmp 5]
theorem K.dyadic_told : resCode Tryz.prog Tryz.f135.ntmps (Tryz.f135.body.getD .skip) = C.dyadic_told := by kernel_rfl
theorem Q.dyadic_told : resResults Tryz.prog Tryz.f135.results.toList = some R.dyadic_told := by kernel_rfl
theorem E.dyadic_told : Tryz.prog.funcs[F.dyadic_told]? = some Tryz.f135 := Tryz.func135
theorem B.dyadic_told : Tryz.f135.body = some (Tryz.f135.body.getD .skip) := by kernel_rfl
theorem N.dyadic_told : Tryz.f135.ntmps = 34 := Tryz.ntmps135

def C.surdref01_Num_at : VC :=
  .seq (.region false [⟨some 4, .mov (.c (nv 0)), none⟩]) (.seq (.seq (.region false [⟨some 5, .mov (.t 1), none⟩,
   ⟨some 6, .mov (.t 0), none⟩,
   ⟨some 7, .len (.t 6), none⟩,
   ⟨some 8, .bin .lss false (.t 5) (.t 7), none⟩]) (.cond (.t 8) (.seq (.region false [⟨some 9, .mov (.t 0), none⟩,
   ⟨some 10, .mov (.t 1), none⟩,
   ⟨some 11, .ixa 1 (.t 9) (.t 10), none⟩,
   ⟨some 12, .load none (.t 11), none⟩,
   ⟨some 4, .mov (.t 12), none⟩]) .ret) .skip)) (.seq (.region false [⟨some 4, .mov (.c (nv 0)), none⟩]) .ret))
def R.surdref01_Num_at : List VRes := [.tmp 4]
theorem K.surdref01_Num_at : resCode Tryz.prog Tryz.f142.ntmps (Tryz.f142.body.getD .skip) = C.surdref01_Num_at := by kernel_rfl
theorem Q.surdref01_Num_at : resResults Tryz.prog Tryz.f142.results.toList = some R.surdref01_Num_at := by kernel_rfl
theorem E.surdref01_Num_at : Tryz.prog.funcs[F.surdref01_Num_at]? = some Tryz.f142 := Tryz.func142
theorem B.surdref01_Num_at : Tryz.f142.body = some (Tryz.f142.body.getD .skip) := by kernel_rfl
theorem N.surdref01_Num_at : Tryz.f142.ntmps = 13 := Tryz.ntmps142

def C.surdref01_Num_Is : VC :=
  .seq (.region false [⟨some 4, .mov (.c (bv false)), none⟩]) (.seq (.region false [⟨some 7, .mov (.t 0), none⟩,
   ⟨some 8, .call F.surdref01_Num_Limbs [.t 7], none⟩,
   ⟨some 5, .mov (.t 8), none⟩]) (.seq (.seq (.region false [⟨some 9, .mov (.t 5), none⟩,
   ⟨some 10, .len (.t 9), none⟩,
   ⟨some 11, .mov (.t 1), none⟩,
   ⟨some 12, .len (.t 11), none⟩,
   ⟨some 13, .bin .neq false (.t 10) (.t 12), none⟩]) (.cond (.t 13) (.seq (.region false [⟨some 4, .mov (.c (bv false)), none⟩]) .ret) .skip)) (.seq (.seq (.region false [⟨some 14, .mov (.t 5), none⟩,
   ⟨some 15, .len (.t 14), none⟩,
   ⟨some 16, .mov (.c (iv 0)), none⟩]) (.block 0 (.loop (.seq (.region false [⟨some 17, .bin .lss false (.t 16) (.t 15), none⟩]) (.seq (.cond (.t 17) .skip (.exit 0)) (.seq (.block 1 (.seq (.region false [⟨some 18, .mov (.t 16), none⟩,
   ⟨some 6, .mov (.t 18), none⟩]) (.seq (.region true [⟨some 19, .mov (.t 5), none⟩,
   ⟨some 20, .mov (.t 6), none⟩,
   ⟨some 21, .ixa 1 (.t 19) (.t 20), none⟩,
   ⟨some 22, .load none (.t 21), none⟩,
   ⟨some 23, .mov (.t 1), none⟩,
   ⟨some 24, .mov (.t 6), none⟩,
   ⟨some 25, .ixa 1 (.t 23) (.t 24), none⟩,
   ⟨some 26, .load none (.t 25), none⟩,
   ⟨some 27, .bin .neq false (.t 22) (.t 26), none⟩]) (.cond (.t 27) (.seq (.region false [⟨some 4, .mov (.c (bv false)), none⟩]) .ret) .skip)))) (.region false [⟨some 28, .bin .add false (.t 16) (.c (iv 1)), none⟩,
   ⟨some 16, .mov (.t 28), none⟩]))))))) (.seq (.region false [⟨some 4, .mov (.c (bv true)), none⟩]) .ret))))
def R.surdref01_Num_Is : List VRes := [.tmp 4]
theorem K.surdref01_Num_Is : resCode Tryz.prog Tryz.f143.ntmps (Tryz.f143.body.getD .skip) = C.surdref01_Num_Is := by kernel_rfl
theorem Q.surdref01_Num_Is : resResults Tryz.prog Tryz.f143.results.toList = some R.surdref01_Num_Is := by kernel_rfl
theorem E.surdref01_Num_Is : Tryz.prog.funcs[F.surdref01_Num_Is]? = some Tryz.f143 := Tryz.func143
theorem B.surdref01_Num_Is : Tryz.f143.body = some (Tryz.f143.body.getD .skip) := by kernel_rfl
theorem N.surdref01_Num_Is : Tryz.f143.ntmps = 29 := Tryz.ntmps143

def C.dyadic_number_top : VC :=
  .seq (.region false [⟨some 1, .box (.t 0), none⟩,
   ⟨some 2, .mov (.c (iv 0)), none⟩]) (.seq (.region true [⟨some 3, .fa 2 (.t 1), none⟩,
   ⟨some 4, .load none (.t 3), none⟩,
   ⟨some 5, .fa 0 (.t 1), none⟩,
   ⟨some 6, .load (some 2) (.t 5), none⟩,
   ⟨some 7, .call F.dyadic_part_length [.t 6], none⟩,
   ⟨some 8, .bin .add false (.t 4) (.t 7), none⟩,
   ⟨some 9, .bin .sub false (.t 8) (.c (iv 1)), none⟩,
   ⟨some 2, .mov (.t 9), none⟩]) .ret)
def R.dyadic_number_top : List VRes := [.tmp 2]
theorem K.dyadic_number_top : resCode Tryz.prog Tryz.f144.ntmps (Tryz.f144.body.getD .skip) = C.dyadic_number_top := by kernel_rfl
theorem Q.dyadic_number_top : resResults Tryz.prog Tryz.f144.results.toList = some R.dyadic_number_top := by kernel_rfl
theorem E.dyadic_number_top : Tryz.prog.funcs[F.dyadic_number_top]? = some Tryz.f144 := Tryz.func144
theorem B.dyadic_number_top : Tryz.f144.body = some (Tryz.f144.body.getD .skip) := by kernel_rfl
theorem N.dyadic_number_top : Tryz.f144.ntmps = 10 := Tryz.ntmps144

def C.dyadic_left : VC :=
  .seq (.region false [⟨some 4, .mov (.c nil1), none⟩]) (.seq (.region false [⟨some 13, .mov (.t 0), none⟩,
   ⟨some 14, .mov (.t 1), none⟩,
   ⟨some 15, .call F.nat_Left [.t 13, .t 14], none⟩,
   ⟨some 12, .mov (.t 15), none⟩,
   ⟨some 16, .ext (.t 12) 0, none⟩,
   ⟨some 17, .ext (.t 12) 1, none⟩,
   ⟨some 5, .mov (.t 16), none⟩,
   ⟨some 6, .mov (.t 17), none⟩]) (.seq (.seq (.region false [⟨some 18, .mov (.t 6), none⟩,
   ⟨some 19, .bin .eql false (.t 18) (.c (iv 0)), none⟩]) (.cond (.t 19) (.seq (.region false [⟨some 20, .mov (.t 5), none⟩,
   ⟨some 4, .mov (.t 20), none⟩]) .ret) .skip)) (.seq (.region false [⟨some 21, .mov (.t 1), none⟩,
   ⟨some 22, .bin .quo false (.t 21) (.c (iv 64)), none⟩,
   ⟨some 23, .mov (.t 1), none⟩,
   ⟨some 24, .bin .rem false (.t 23) (.c (iv 64)), none⟩,
   ⟨some 25, .conv .u64 (.t 24), none⟩,
   ⟨some 7, .mov (.t 22), none⟩,
   ⟨some 8, .mov (.t 25), none⟩]) (.seq (.region false [⟨some 26, .mov (.t 0), none⟩,
   ⟨some 27, .len (.t 26), none⟩,
   ⟨some 28, .mov (.t 7), none⟩,
   ⟨some 29, .bin .add false (.t 27) (.t 28), none⟩,
   ⟨some 30, .bin .add false (.t 29) (.c (iv 1)), none⟩,
   ⟨some 31, .mk [.int .u64 0] 8 (.t 30) (.t 30), none⟩,
   ⟨some 9, .mov (.t 31), none⟩]) (.seq (.seq (.region false [⟨some 32, .mov (.t 0), none⟩,
   ⟨some 33, .len (.t 32), none⟩,
   ⟨some 34, .mov (.c (iv 0)), none⟩]) (.block 0 (.loop (.seq (.region false [⟨some 35, .bin .lss false (.t 34) (.t 33), none⟩]) (.seq (.cond (.t 35) .skip (.exit 0)) (.seq (.block 1 (.seq (.region false [⟨some 36, .mov (.t 34), none⟩,
   ⟨some 37, .ixa 1 (.t 32) (.t 34), none⟩,
   ⟨some 38, .load none (.t 37), none⟩,
   ⟨some 10, .mov (.t 36), none⟩,
   ⟨some 11, .mov (.t 38), none⟩]) (.seq (.region false [⟨some 39, .mov (.t 9), none⟩,
   ⟨some 40, .mov (.t 10), none⟩,
   ⟨some 41, .mov (.t 7), none⟩,
   ⟨some 42, .bin .add false (.t 40) (.t 41), none⟩,
   ⟨some 43, .ixa 1 (.t 39) (.t 42), none⟩,
   ⟨some 44, .load none (.t 43), none⟩,
   ⟨some 45, .mov (.t 11), none⟩,
   ⟨some 46, .mov (.t 8), none⟩,
   ⟨some 47, .bin .shl false (.t 45) (.t 46), none⟩,
   ⟨some 48, .bin .or false (.t 44) (.t 47), none⟩,
   ⟨some 49, .ixa 1 (.t 39) (.t 42), none⟩,
   ⟨none, .store 1 (.t 49) (.t 48), none⟩]) (.seq (.region false [⟨some 50, .mov (.t 8), none⟩,
   ⟨some 51, .bin .gtr false (.t 50) (.c (nv 0)), none⟩]) (.cond (.t 51) (.region false [⟨some 52, .mov (.t 9), none⟩,
   ⟨some 53, .mov (.t 10), none⟩,
   ⟨some 54, .mov (.t 7), none⟩,
   ⟨some 55, .bin .add false (.t 53) (.t 54), none⟩,
   ⟨some 56, .bin .add false (.t 55) (.c (iv 1)), none⟩,
   ⟨some 57, .mov (.t 11), none⟩,
   ⟨some 58, .mov (.t 8), none⟩,
   ⟨some 59, .bin .sub false (.c (nv 64)) (.t 58), none⟩,
   ⟨some 60, .bin .shr false (.t 57) (.t 59), none⟩,
   ⟨some 61, .ixa 1 (.t 52) (.t 56), none⟩,
   ⟨none, .store 1 (.t 61) (.t 60), none⟩]) .skip))))) (.region false [⟨some 62, .bin .add false (.t 34) (.c (iv 1)), none⟩,
   ⟨some 34, .mov (.t 62), none⟩]))))))) (.seq (.region false [⟨some 63, .mov (.t 9), none⟩,
   ⟨some 64, .call F.nat_Norm [.t 63], none⟩,
   ⟨some 4, .mov (.t 64), none⟩]) .ret))))))
def R.dyadic_left : List VRes := [.tmp 4]
theorem K.dyadic_left : resCode Tryz.prog Tryz.f145.ntmps (Tryz.f145.body.getD .skip) = C.dyadic_left := by kernel_rfl
theorem Q.dyadic_left : resResults Tryz.prog Tryz.f145.results.toList = some R.dyadic_left := by kernel_rfl
theorem E.dyadic_left : Tryz.prog.funcs[F.dyadic_left]? = some Tryz.f145 := Tryz.func145
theorem B.dyadic_left : Tryz.f145.body = some (Tryz.f145.body.getD .skip) := by kernel_rfl
theorem N.dyadic_left : Tryz.f145.ntmps = 65 := Tryz.ntmps145

def C.nat_Compare : VC :=
  .seq (.region false [⟨some 4, .mov (.c (iv 0)), none⟩]) (.seq (.region false [⟨some 6, .mov (.t 0), none⟩,
   ⟨some 7, .call F.nat_trim [.t 6], none⟩,
   ⟨some 8, .mov (.t 1), none⟩,
   ⟨some 9, .call F.nat_trim [.t 8], none⟩,
   ⟨some 0, .mov (.t 7), none⟩,
   ⟨some 1, .mov (.t 9), none⟩]) (.seq (.seq (.region false [⟨some 10, .mov (.t 0), none⟩,
   ⟨some 11, .len (.t 10), none⟩,
   ⟨some 12, .mov (.t 1), none⟩,
   ⟨some 13, .len (.t 12), none⟩,
   ⟨some 14, .bin .neq false (.t 11) (.t 13), none⟩]) (.cond (.t 14) (.seq (.seq (.region false [⟨some 15, .mov (.t 0), none⟩,
   ⟨some 16, .len (.t 15), none⟩,
   ⟨some 17, .mov (.t 1), none⟩,
   ⟨some 18, .len (.t 17), none⟩,
   ⟨some 19, .bin .lss false (.t 16) (.t 18), none⟩]) (.cond (.t 19) (.seq (.region false [⟨some 4, .mov (.c (iv (-1))), none⟩]) .ret) .skip)) (.seq (.region false [⟨some 4, .mov (.c (iv 1)), none⟩]) .ret)) .skip)) (.seq (.seq (.region false [⟨some 20, .mov (.t 0), none⟩,
   ⟨some 21, .len (.t 20), none⟩,
   ⟨some 22, .bin .sub false (.t 21) (.c (iv 1)), none⟩,
   ⟨some 5, .mov (.t 22), none⟩]) (.block 0 (.loop (.seq (.seq (.region false [⟨some 23, .mov (.t 5), none⟩,
   ⟨some 24, .bin .geq false (.t 23) (.c (iv 0)), none⟩]) (.cond (.t 24) .skip (.exit 0))) (.seq (.block 1 (.seq (.seq (.region true [⟨some 27, .mov (.t 0), none⟩,
   ⟨some 28, .mov (.t 5), none⟩,
   ⟨some 29, .ixa 1 (.t 27) (.t 28), none⟩,
   ⟨some 30, .load none (.t 29), none⟩,
   ⟨some 31, .mov (.t 1), none⟩,
   ⟨some 32, .mov (.t 5), none⟩,
   ⟨some 33, .ixa 1 (.t 31) (.t 32), none⟩,
   ⟨some 34, .load none (.t 33), none⟩,
   ⟨some 35, .bin .lss false (.t 30) (.t 34), none⟩]) (.cond (.t 35) (.seq (.region false [⟨some 4, .mov (.c (iv (-1))), none⟩]) .ret) .skip)) (.seq (.region true [⟨some 36, .mov (.t 0), none⟩,
   ⟨some 37, .mov (.t 5), none⟩,
   ⟨some 38, .ixa 1 (.t 36) (.t 37), none⟩,
   ⟨some 39, .load none (.t 38), none⟩,
   ⟨some 40, .mov (.t 1), none⟩,
   ⟨some 41, .mov (.t 5), none⟩,
   ⟨some 42, .ixa 1 (.t 40) (.t 41), none⟩,
   ⟨some 43, .load none (.t 42), none⟩,
   ⟨some 44, .bin .gtr false (.t 39) (.t 43), none⟩]) (.cond (.t 44) (.seq (.region false [⟨some 4, .mov (.c (iv 1)), none⟩]) .ret) .skip)))) (.region false [⟨some 25, .mov (.t 5), none⟩,
   ⟨some 26, .bin .sub false (.t 25) (.c (iv 1)), none⟩,
   ⟨some 5, .mov (.t 26), none⟩])))))) (.seq (.region false [⟨some 4, .mov (.c (iv 0)), none⟩]) .ret))))
def R.nat_Compare : List VRes := [.tmp 4]
theorem K.nat_Compare : resCode Tryz.prog Tryz.f146.ntmps (Tryz.f146.body.getD .skip) = C.nat_Compare := by kernel_rfl
theorem Q.nat_Compare : resResults Tryz.prog Tryz.f146.results.toList = some R.nat_Compare := by kernel_rfl
theorem E.nat_Compare : Tryz.prog.funcs[F.nat_Compare]? = some Tryz.f146 := Tryz.func146
theorem B.nat_Compare : Tryz.f146.body = some (Tryz.f146.body.getD .skip) := by kernel_rfl
theorem N.nat_Compare : Tryz.f146.ntmps = 45 := Tryz.ntmps146

def C.nat_Length : VC :=
  .seq (.region false [⟨some 2, .mov (.c (iv 0)), none⟩]) (.seq (.region false [⟨some 3, .mov (.t 0), none⟩,
   ⟨some 4, .call F.nat_trim [.t 3], none⟩,
   ⟨some 0, .mov (.t 4), none⟩]) (.seq (.seq (.region false [⟨some 5, .mov (.t 0), none⟩,
   ⟨some 6, .len (.t 5), none⟩,
   ⟨some 7, .bin .eql false (.t 6) (.c (iv 0)), none⟩]) (.cond (.t 7) (.seq (.region false [⟨some 2, .mov (.c (iv 0)), none⟩]) .ret) .skip)) (.seq (.region false [⟨some 8, .mov (.t 0), none⟩,
   ⟨some 9, .len (.t 8), none⟩,
   ⟨some 10, .bin .sub false (.t 9) (.c (iv 1)), none⟩,
   ⟨some 11, .bin .mul false (.c (iv 64)) (.t 10), none⟩,
   ⟨some 12, .mov (.t 0), none⟩,
   ⟨some 13, .mov (.t 0), none⟩,
   ⟨some 14, .len (.t 13), none⟩,
   ⟨some 15, .bin .sub false (.t 14) (.c (iv 1)), none⟩,
   ⟨some 16, .ixa 1 (.t 12) (.t 15), none⟩,
   ⟨some 17, .load none (.t 16), none⟩,
   ⟨some 18, .call F.bits_Len64 [.t 17], none⟩,
   ⟨some 19, .bin .add false (.t 11) (.t 18), none⟩,
   ⟨some 2, .mov (.t 19), none⟩]) .ret)))
def R.nat_Length : List VRes := [.tmp 2]
theorem K.nat_Length : resCode Tryz.prog Tryz.f147.ntmps (Tryz.f147.body.getD .skip) = C.nat_Length := by kernel_rfl
theorem Q.nat_Length : resResults Tryz.prog Tryz.f147.results.toList = some R.nat_Length := by kernel_rfl
theorem E.nat_Length : Tryz.prog.funcs[F.nat_Length]? = some Tryz.f147 := Tryz.func147
theorem B.nat_Length : Tryz.f147.body = some (Tryz.f147.body.getD .skip) := by kernel_rfl
theorem N.nat_Length : Tryz.f147.ntmps = 20 := Tryz.ntmps147

def C.whole_Make : VC :=
  .seq (.region false [⟨some 4, .alloc [.bool false, .slice none 0 0], none⟩,
   ⟨some 5, .mov (.c (iv 0)), none⟩]) (.seq (.region false [⟨some 6, .mov (.t 0), none⟩,
   ⟨some 7, .mov (.t 1), none⟩,
   ⟨some 8, .build [.bool false, .slice none 0 0] [(0, (1, .t 6)), (1, (1, .t 7))], none⟩,
   ⟨some 9, .call F.whole_fits [.t 8], none⟩,
   ⟨some 10, .ext (.t 9) 0, none⟩,
   ⟨some 11, .ext (.t 9) 1, none⟩,
   ⟨none, .store 2 (.t 4) (.t 10), none⟩,
   ⟨some 5, .mov (.t 11), none⟩]) .ret)
def R.whole_Make : List VRes := [.cell 4 (some 2), .tmp 5]
theorem K.whole_Make : resCode Tryz.prog Tryz.f148.ntmps (Tryz.f148.body.getD .skip) = C.whole_Make := by kernel_rfl
theorem Q.whole_Make : resResults Tryz.prog Tryz.f148.results.toList = some R.whole_Make := by kernel_rfl
theorem E.whole_Make : Tryz.prog.funcs[F.whole_Make]? = some Tryz.f148 := Tryz.func148
theorem B.whole_Make : Tryz.f148.body = some (Tryz.f148.body.getD .skip) := by kernel_rfl
theorem N.whole_Make : Tryz.f148.ntmps = 12 := Tryz.ntmps148

def C.dyadic_long : VC :=
  .seq (.region false [⟨some 2, .box (.t 0), none⟩,
   ⟨some 3, .box (.t 1), none⟩,
   ⟨some 4, .alloc [.bool false, .slice none 0 0, .int .i64 0], none⟩,
   ⟨some 5, .mov (.c (iv 0)), none⟩]) (.seq (.region true [⟨some 9, .fa 0 (.t 2), none⟩,
   ⟨some 10, .fa 0 (.t 9), none⟩,
   ⟨some 11, .fa 1 (.t 10), none⟩,
   ⟨some 12, .load none (.t 11), none⟩,
   ⟨some 13, .fa 2 (.t 2), none⟩,
   ⟨some 14, .load none (.t 13), none⟩,
   ⟨some 15, .fa 2 (.t 3), none⟩,
   ⟨some 16, .load none (.t 15), none⟩,
   ⟨some 17, .bin .sub false (.t 14) (.t 16), none⟩,
   ⟨some 18, .call F.dyadic_left [.t 12, .t 17], none⟩,
   ⟨some 19, .fa 0 (.t 3), none⟩,
   ⟨some 20, .fa 0 (.t 19), none⟩,
   ⟨some 21, .fa 1 (.t 20), none⟩,
   ⟨some 22, .load none (.t 21), none⟩,
   ⟨some 6, .mov (.t 18), none⟩,
   ⟨some 7, .mov (.t 22), none⟩]) (.seq (.region false [⟨some 23, .fa 0 (.t 2), none⟩,
   ⟨some 24, .fa 0 (.t 23), none⟩,
   ⟨some 25, .fa 0 (.t 24), none⟩,
   ⟨some 26, .load none (.t 25), none⟩,
   ⟨some 8, .mov (.t 26), none⟩]) (.seq (.seq (.region false [⟨some 27, .fa 0 (.t 2), none⟩,
   ⟨some 28, .fa 0 (.t 27), none⟩,
   ⟨some 29, .fa 0 (.t 28), none⟩,
   ⟨some 30, .load none (.t 29), none⟩,
   ⟨some 31, .fa 0 (.t 3), none⟩,
   ⟨some 32, .fa 0 (.t 31), none⟩,
   ⟨some 33, .fa 0 (.t 32), none⟩,
   ⟨some 34, .load none (.t 33), none⟩,
   ⟨some 35, .bin .neq true (.t 30) (.t 34), none⟩]) (.cond (.t 35) (.seq (.seq (.region false [⟨some 36, .mov (.t 6), none⟩,
   ⟨some 37, .mov (.t 7), none⟩,
   ⟨some 38, .call F.nat_Compare [.t 36, .t 37], none⟩,
   ⟨some 39, .bin .lss false (.t 38) (.c (iv 0)), none⟩]) (.cond (.t 39) (.region false [⟨some 40, .mov (.t 7), none⟩,
   ⟨some 41, .mov (.t 6), none⟩,
   ⟨some 42, .mov (.t 8), none⟩,
   ⟨some 43, .un .not (.t 42), none⟩,
   ⟨some 6, .mov (.t 40), none⟩,
   ⟨some 7, .mov (.t 41), none⟩,
   ⟨some 8, .mov (.t 43), none⟩]) .skip)) (.seq (.region true [⟨some 44, .mov (.t 8), none⟩,
   ⟨some 45, .mov (.t 6), none⟩,
   ⟨some 46, .mov (.t 7), none⟩,
   ⟨some 47, .call F.dyadic_minus [.t 45, .t 46], none⟩,
   ⟨some 48, .build [.bool false, .slice none 0 0] [(0, (1, .t 44)), (1, (1, .t 47))], none⟩,
   ⟨some 49, .fa 2 (.t 3), none⟩,
   ⟨some 50, .load none (.t 49), none⟩,
   ⟨some 51, .call F.dyadic_told [.t 48, .t 50], none⟩,
   ⟨some 52, .ext (.t 51) 0, none⟩,
   ⟨some 53, .ext (.t 51) 1, none⟩,
   ⟨none, .store 3 (.t 4) (.t 52), none⟩,
   ⟨some 5, .mov (.t 53), none⟩]) .ret)) .skip)) (.seq (.region true [⟨some 54, .mov (.t 8), none⟩,
   ⟨some 55, .mov (.t 6), none⟩,
   ⟨some 56, .mov (.t 7), none⟩,
   ⟨some 57, .call F.dyadic_plus [.t 55, .t 56], none⟩,
   ⟨some 58, .build [.bool false, .slice none 0 0] [(0, (1, .t 54)), (1, (1, .t 57))], none⟩,
   ⟨some 59, .fa 2 (.t 3), none⟩,
   ⟨some 60, .load none (.t 59), none⟩,
   ⟨some 61, .call F.dyadic_told [.t 58, .t 60], none⟩,
   ⟨some 62, .ext (.t 61) 0, none⟩,
   ⟨some 63, .ext (.t 61) 1, none⟩,
   ⟨none, .store 3 (.t 4) (.t 62), none⟩,
   ⟨some 5, .mov (.t 63), none⟩]) .ret))))
def R.dyadic_long : List VRes := [.cell 4 (some 3), .tmp 5]
theorem K.dyadic_long : resCode Tryz.prog Tryz.f149.ntmps (Tryz.f149.body.getD .skip) = C.dyadic_long := by kernel_rfl
theorem Q.dyadic_long : resResults Tryz.prog Tryz.f149.results.toList = some R.dyadic_long := by kernel_rfl
theorem E.dyadic_long : Tryz.prog.funcs[F.dyadic_long]? = some Tryz.f149 := Tryz.func149
theorem B.dyadic_long : Tryz.f149.body = some (Tryz.f149.body.getD .skip) := by kernel_rfl
theorem N.dyadic_long : Tryz.f149.ntmps = 64 := Tryz.ntmps149

def C.whole_Add : VC :=
  .seq (.region false [⟨some 2, .box (.t 0), none⟩,
   ⟨some 3, .box (.t 1), none⟩,
   ⟨some 4, .alloc [.bool false, .slice none 0 0], none⟩,
   ⟨some 5, .mov (.c (iv 0)), none⟩]) (.seq (.region true [⟨some 10, .load (some 2) (.t 2), none⟩,
   ⟨some 11, .call F.whole_norm [.t 10], none⟩,
   ⟨some 12, .load (some 2) (.t 3), none⟩,
   ⟨some 13, .call F.whole_norm [.t 12], none⟩,
   ⟨none, .store 2 (.t 2) (.t 11), none⟩,
   ⟨none, .store 2 (.t 3) (.t 13), none⟩]) (.seq (.seq (.region false [⟨some 14, .fa 0 (.t 2), none⟩,
   ⟨some 15, .load none (.t 14), none⟩,
   ⟨some 16, .fa 0 (.t 3), none⟩,
   ⟨some 17, .load none (.t 16), none⟩,
   ⟨some 18, .bin .eql true (.t 15) (.t 17), none⟩]) (.cond (.t 18) (.seq (.region false [⟨some 20, .fa 1 (.t 2), none⟩,
   ⟨some 21, .load none (.t 20), none⟩,
   ⟨some 22, .fa 1 (.t 3), none⟩,
   ⟨some 23, .load none (.t 22), none⟩,
   ⟨some 24, .call F.nat_Add [.t 21, .t 23], none⟩,
   ⟨some 19, .mov (.t 24), none⟩,
   ⟨some 25, .ext (.t 19) 0, none⟩,
   ⟨some 26, .ext (.t 19) 1, none⟩,
   ⟨some 6, .mov (.t 25), none⟩,
   ⟨some 7, .mov (.t 26), none⟩]) (.seq (.region false [⟨some 27, .fa 0 (.t 2), none⟩,
   ⟨some 28, .load none (.t 27), none⟩,
   ⟨some 29, .mov (.t 6), none⟩,
   ⟨some 30, .mov (.t 7), none⟩,
   ⟨some 31, .call F.whole_result [.t 28, .t 29, .t 30], none⟩,
   ⟨some 32, .ext (.t 31) 0, none⟩,
   ⟨some 33, .ext (.t 31) 1, none⟩,
   ⟨none, .store 2 (.t 4) (.t 32), none⟩,
   ⟨some 5, .mov (.t 33), none⟩]) .ret)) .skip)) (.seq (.seq (.region false [⟨some 34, .fa 1 (.t 2), none⟩,
   ⟨some 35, .load none (.t 34), none⟩,
   ⟨some 36, .fa 1 (.t 3), none⟩,
   ⟨some 37, .load none (.t 36), none⟩,
   ⟨some 38, .call F.nat_Compare [.t 35, .t 37], none⟩,
   ⟨some 39, .bin .lss false (.t 38) (.c (iv 0)), none⟩]) (.cond (.t 39) (.region false [⟨some 40, .load (some 2) (.t 3), none⟩,
   ⟨some 41, .load (some 2) (.t 2), none⟩,
   ⟨none, .store 2 (.t 2) (.t 40), none⟩,
   ⟨none, .store 2 (.t 3) (.t 41), none⟩]) .skip)) (.seq (.region false [⟨some 43, .fa 1 (.t 2), none⟩,
   ⟨some 44, .load none (.t 43), none⟩,
   ⟨some 45, .fa 1 (.t 3), none⟩,
   ⟨some 46, .load none (.t 45), none⟩,
   ⟨some 47, .call F.nat_Sub [.t 44, .t 46], none⟩,
   ⟨some 42, .mov (.t 47), none⟩,
   ⟨some 48, .ext (.t 42) 0, none⟩,
   ⟨some 49, .ext (.t 42) 1, none⟩,
   ⟨some 8, .mov (.t 48), none⟩,
   ⟨some 9, .mov (.t 49), none⟩]) (.seq (.region false [⟨some 50, .fa 0 (.t 2), none⟩,
   ⟨some 51, .load none (.t 50), none⟩,
   ⟨some 52, .mov (.t 8), none⟩,
   ⟨some 53, .mov (.t 9), none⟩,
   ⟨some 54, .call F.whole_result [.t 51, .t 52, .t 53], none⟩,
   ⟨some 55, .ext (.t 54) 0, none⟩,
   ⟨some 56, .ext (.t 54) 1, none⟩,
   ⟨none, .store 2 (.t 4) (.t 55), none⟩,
   ⟨some 5, .mov (.t 56), none⟩]) .ret)))))
def R.whole_Add : List VRes := [.cell 4 (some 2), .tmp 5]
theorem K.whole_Add : resCode Tryz.prog Tryz.f150.ntmps (Tryz.f150.body.getD .skip) = C.whole_Add := by kernel_rfl
theorem Q.whole_Add : resResults Tryz.prog Tryz.f150.results.toList = some R.whole_Add := by kernel_rfl
theorem E.whole_Add : Tryz.prog.funcs[F.whole_Add]? = some Tryz.f150 := Tryz.func150
theorem B.whole_Add : Tryz.f150.body = some (Tryz.f150.body.getD .skip) := by kernel_rfl
theorem N.whole_Add : Tryz.f150.ntmps = 57 := Tryz.ntmps150

def C.dyadic_odd : VC :=
  .seq (.region false [⟨some 2, .box (.t 0), none⟩,
   ⟨some 4, .alloc [.bool false, .slice none 0 0, .int .i64 0], none⟩]) (.seq (.seq (.region false [⟨some 6, .load (some 2) (.t 2), none⟩,
   ⟨some 7, .call F.whole_Sign [.t 6], none⟩,
   ⟨some 8, .bin .eql false (.t 7) (.c (iv 0)), none⟩]) (.cond (.t 8) (.seq (.region false [⟨some 9, .build [.bool false, .slice none 0 0, .int .i64 0] [], none⟩,
   ⟨none, .store 3 (.t 4) (.t 9), none⟩]) .ret) .skip)) (.seq (.region false [⟨some 10, .fa 1 (.t 2), none⟩,
   ⟨some 11, .load none (.t 10), none⟩,
   ⟨some 12, .call F.nat_Norm [.t 11], none⟩,
   ⟨some 13, .fa 1 (.t 2), none⟩,
   ⟨none, .store 1 (.t 13) (.t 12), none⟩]) (.seq (.region false [⟨some 14, .fa 1 (.t 2), none⟩,
   ⟨some 15, .load none (.t 14), none⟩,
   ⟨some 16, .call F.nat_Tail [.t 15], none⟩,
   ⟨some 5, .mov (.t 16), none⟩]) (.seq (.seq (.region false [⟨some 17, .mov (.t 5), none⟩,
   ⟨some 18, .bin .gtr false (.t 17) (.c (iv 0)), none⟩]) (.cond (.t 18) (.region false [⟨some 19, .fa 1 (.t 2), none⟩,
   ⟨some 20, .load none (.t 19), none⟩,
   ⟨some 21, .mov (.t 5), none⟩,
   ⟨some 22, .call F.dyadic_shifted [.t 20, .t 21], none⟩,
   ⟨some 23, .fa 1 (.t 2), none⟩,
   ⟨none, .store 1 (.t 23) (.t 22), none⟩]) .skip)) (.seq (.region false [⟨some 24, .load (some 2) (.t 2), none⟩,
   ⟨some 25, .build [.bool false, .slice none 0 0] [(0, (2, .t 24))], none⟩,
   ⟨some 26, .mov (.t 1), none⟩,
   ⟨some 27, .mov (.t 5), none⟩,
   ⟨some 28, .bin .add false (.t 26) (.t 27), none⟩,
   ⟨some 29, .build [.bool false, .slice none 0 0, .int .i64 0] [(0, (2, .t 25)), (2, (1, .t 28))], none⟩,
   ⟨none, .store 3 (.t 4) (.t 29), none⟩]) .ret)))))
def R.dyadic_odd : List VRes := [.cell 4 (some 3)]
theorem K.dyadic_odd : resCode Tryz.prog Tryz.f151.ntmps (Tryz.f151.body.getD .skip) = C.dyadic_odd := by kernel_rfl
theorem Q.dyadic_odd : resResults Tryz.prog Tryz.f151.results.toList = some R.dyadic_odd := by kernel_rfl
theorem E.dyadic_odd : Tryz.prog.funcs[F.dyadic_odd]? = some Tryz.f151 := Tryz.func151
theorem B.dyadic_odd : Tryz.f151.body = some (Tryz.f151.body.getD .skip) := by kernel_rfl
theorem N.dyadic_odd : Tryz.f151.ntmps = 30 := Tryz.ntmps151

def C.dyadic_steps : VC :=
  .seq (.region false [⟨some 3, .box (.t 0), none⟩,
   ⟨some 6, .alloc [.bool false, .slice none 0 0], none⟩]) (.seq (.seq (.region false [⟨some 10, .fa 0 (.t 3), none⟩,
   ⟨some 11, .load (some 2) (.t 10), none⟩,
   ⟨some 12, .call F.dyadic_part_sign [.t 11], none⟩,
   ⟨some 13, .bin .eql false (.t 12) (.c (iv 0)), none⟩,
   ⟨some 14, .mov (.t 13), none⟩,
   ⟨some 15, .fa 2 (.t 3), some (14, false)⟩,
   ⟨some 16, .load none (.t 15), some (14, false)⟩,
   ⟨some 17, .mov (.t 1), some (14, false)⟩,
   ⟨some 18, .bin .geq false (.t 16) (.t 17), some (14, false)⟩,
   ⟨some 19, .pick (.t 14) (.c (bv true)) (.t 18), none⟩]) (.cond (.t 19) (.seq (.region true [⟨some 20, .fa 0 (.t 3), none⟩,
   ⟨some 21, .fa 0 (.t 20), none⟩,
   ⟨some 22, .fa 0 (.t 21), none⟩,
   ⟨some 23, .load none (.t 22), none⟩,
   ⟨some 24, .fa 0 (.t 3), none⟩,
   ⟨some 25, .fa 0 (.t 24), none⟩,
   ⟨some 26, .fa 1 (.t 25), none⟩,
   ⟨some 27, .load none (.t 26), none⟩,
   ⟨some 28, .fa 2 (.t 3), none⟩,
   ⟨some 29, .load none (.t 28), none⟩,
   ⟨some 30, .mov (.t 1), none⟩,
   ⟨some 31, .bin .sub false (.t 29) (.t 30), none⟩,
   ⟨some 32, .mm true (.t 31) (.c (iv 0)), none⟩,
   ⟨some 33, .call F.dyadic_left [.t 27, .t 32], none⟩,
   ⟨some 34, .build [.bool false, .slice none 0 0] [(0, (1, .t 23)), (1, (1, .t 33))], none⟩,
   ⟨none, .store 2 (.t 6) (.t 34), none⟩]) .ret) .skip)) (.seq (.region false [⟨some 35, .mov (.t 1), none⟩,
   ⟨some 36, .fa 2 (.t 3), none⟩,
   ⟨some 37, .load none (.t 36), none⟩,
   ⟨some 38, .bin .sub false (.t 35) (.t 37), none⟩,
   ⟨some 7, .mov (.t 38), none⟩]) (.seq (.region false [⟨some 8, .mov (.c nil1), none⟩]) (.seq (.seq (.region false [⟨some 39, .mov (.t 7), none⟩,
   ⟨some 40, .fa 0 (.t 3), none⟩,
   ⟨some 41, .load (some 2) (.t 40), none⟩,
   ⟨some 42, .call F.dyadic_part_length [.t 41], none⟩,
   ⟨some 43, .bin .lss false (.t 39) (.t 42), none⟩]) (.cond (.t 43) (.region false [⟨some 44, .fa 0 (.t 3), none⟩,
   ⟨some 45, .fa 0 (.t 44), none⟩,
   ⟨some 46, .fa 1 (.t 45), none⟩,
   ⟨some 47, .load none (.t 46), none⟩,
   ⟨some 48, .mov (.t 7), none⟩,
   ⟨some 49, .call F.dyadic_shifted [.t 47, .t 48], none⟩,
   ⟨some 8, .mov (.t 49), none⟩]) .skip)) (.seq (.region false [⟨some 9, .mov (.c (bv false)), none⟩]) (.seq (.seq (.region false [⟨some 50, .mov (.t 2), none⟩]) (.block 0 (.seq (.region false [⟨some 57, .bin .eql false (.t 50) (.c (iv 2)), none⟩,
   ⟨some 56, .mov (.t 57), none⟩]) (.cond (.t 56) (.seq (.seq (.region false [⟨some 58, .fa 0 (.t 3), none⟩,
   ⟨some 59, .fa 0 (.t 58), none⟩,
   ⟨some 60, .fa 1 (.t 59), none⟩,
   ⟨some 61, .load none (.t 60), none⟩,
   ⟨some 62, .mov (.t 7), none⟩,
   ⟨some 63, .bin .sub false (.t 62) (.c (iv 1)), none⟩,
   ⟨some 64, .call F.nat_Bit [.t 61, .t 63], none⟩,
   ⟨some 65, .bin .eql false (.t 64) (.c (iv 1)), none⟩,
   ⟨some 66, .mov (.t 65), none⟩,
   ⟨some 67, .fa 0 (.t 3), some (66, true)⟩,
   ⟨some 68, .fa 0 (.t 67), some (66, true)⟩,
   ⟨some 69, .fa 1 (.t 68), some (66, true)⟩,
   ⟨some 70, .load none (.t 69), some (66, true)⟩,
   ⟨some 71, .call F.nat_Tail [.t 70], some (66, true)⟩,
   ⟨some 72, .mov (.t 7), some (66, true)⟩,
   ⟨some 73, .bin .sub false (.t 72) (.c (iv 1)), some (66, true)⟩,
   ⟨some 74, .bin .lss false (.t 71) (.t 73), some (66, true)⟩,
   ⟨some 75, .mov (.t 74), some (66, true)⟩,
   ⟨some 76, .mov (.t 8), some (75, false)⟩,
   ⟨some 77, .call F.nat_Bit [.t 76, .c (iv 0)], some (75, false)⟩,
   ⟨some 78, .bin .eql false (.t 77) (.c (iv 1)), some (75, false)⟩,
   ⟨some 79, .pick (.t 75) (.c (bv true)) (.t 78), some (66, true)⟩,
   ⟨some 80, .pick (.t 66) (.t 79) (.c (bv false)), none⟩,
   ⟨some 81, .un .not (.t 80), none⟩]) (.cond (.t 81) (.exit 0) .skip)) (.region false [⟨some 9, .mov (.c (bv true)), none⟩])) (.seq (.region false [⟨some 83, .bin .eql false (.t 50) (.c (iv 0)), none⟩,
   ⟨some 82, .mov (.t 83), none⟩]) (.cond (.t 82) (.region false [⟨some 84, .fa 0 (.t 3), none⟩,
   ⟨some 85, .fa 0 (.t 84), none⟩,
   ⟨some 86, .fa 0 (.t 85), none⟩,
   ⟨some 87, .load none (.t 86), none⟩,
   ⟨some 9, .mov (.t 87), none⟩]) (.region false [⟨some 51, .fa 0 (.t 3), none⟩,
   ⟨some 52, .fa 0 (.t 51), none⟩,
   ⟨some 53, .fa 0 (.t 52), none⟩,
   ⟨some 54, .load none (.t 53), none⟩,
   ⟨some 55, .un .not (.t 54), none⟩,
   ⟨some 9, .mov (.t 55), none⟩]))))))) (.seq (.seq (.region false [⟨some 88, .mov (.t 9), none⟩]) (.cond (.t 88) (.region false [⟨some 89, .mov (.t 8), none⟩,
   ⟨some 90, .call F.nat_From [.c (nv 1)], none⟩,
   ⟨some 91, .call F.dyadic_plus [.t 89, .t 90], none⟩,
   ⟨some 8, .mov (.t 91), none⟩]) .skip)) (.seq (.region false [⟨some 92, .fa 0 (.t 3), none⟩,
   ⟨some 93, .fa 0 (.t 92), none⟩,
   ⟨some 94, .fa 0 (.t 93), none⟩,
   ⟨some 95, .load none (.t 94), none⟩,
   ⟨some 96, .mov (.t 8), none⟩,
   ⟨some 97, .build [.bool false, .slice none 0 0] [(0, (1, .t 95)), (1, (1, .t 96))], none⟩,
   ⟨none, .store 2 (.t 6) (.t 97), none⟩]) .ret))))))))
def R.dyadic_steps : List VRes := [.cell 6 (some 2)]
theorem K.dyadic_steps : resCode Tryz.prog Tryz.f152.ntmps (Tryz.f152.body.getD .skip) = C.dyadic_steps := by kernel_rfl
theorem Q.dyadic_steps : resResults Tryz.prog Tryz.f152.results.toList = some R.dyadic_steps := by kernel_rfl
theorem E.dyadic_steps : Tryz.prog.funcs[F.dyadic_steps]? = some Tryz.f152 := Tryz.func152
theorem B.dyadic_steps : Tryz.f152.body = some (Tryz.f152.body.getD .skip) := by kernel_rfl
theorem N.dyadic_steps : Tryz.f152.ntmps = 98 := Tryz.ntmps152

def C.whole_result : VC :=
  .seq (.region false [⟨some 6, .alloc [.bool false, .slice none 0 0], none⟩,
   ⟨some 7, .mov (.c (iv 0)), none⟩]) (.seq (.seq (.region false [⟨some 8, .mov (.t 2), none⟩,
   ⟨some 9, .bin .neq false (.t 8) (.c (iv 0)), none⟩]) (.cond (.t 9) (.seq (.region false [⟨some 10, .build [.bool false, .slice none 0 0] [], none⟩,
   ⟨some 11, .mov (.t 2), none⟩,
   ⟨none, .store 2 (.t 6) (.t 10), none⟩,
   ⟨some 7, .mov (.t 11), none⟩]) .ret) .skip)) (.seq (.region false [⟨some 12, .mov (.t 0), none⟩,
   ⟨some 13, .mov (.t 1), none⟩,
   ⟨some 14, .build [.bool false, .slice none 0 0] [(0, (1, .t 12)), (1, (1, .t 13))], none⟩,
   ⟨some 15, .call F.whole_fits [.t 14], none⟩,
   ⟨some 16, .ext (.t 15) 0, none⟩,
   ⟨some 17, .ext (.t 15) 1, none⟩,
   ⟨none, .store 2 (.t 6) (.t 16), none⟩,
   ⟨some 7, .mov (.t 17), none⟩]) .ret))
def R.whole_result : List VRes := [.cell 6 (some 2), .tmp 7]
theorem K.whole_result : resCode Tryz.prog Tryz.f154.ntmps (Tryz.f154.body.getD .skip) = C.whole_result := by kernel_rfl
theorem Q.whole_result : resResults Tryz.prog Tryz.f154.results.toList = some R.whole_result := by kernel_rfl
theorem E.whole_result : Tryz.prog.funcs[F.whole_result]? = some Tryz.f154 := Tryz.func154
theorem B.whole_result : Tryz.f154.body = some (Tryz.f154.body.getD .skip) := by kernel_rfl
theorem N.whole_result : Tryz.f154.ntmps = 18 := Tryz.ntmps154

def C.dyadic_part_length : VC :=
  .seq (.region false [⟨some 1, .box (.t 0), none⟩,
   ⟨some 2, .mov (.c (iv 0)), none⟩]) (.seq (.region false [⟨some 3, .fa 0 (.t 1), none⟩,
   ⟨some 4, .fa 1 (.t 3), none⟩,
   ⟨some 5, .load none (.t 4), none⟩,
   ⟨some 6, .call F.nat_Length [.t 5], none⟩,
   ⟨some 2, .mov (.t 6), none⟩]) .ret)
def R.dyadic_part_length : List VRes := [.tmp 2]
theorem K.dyadic_part_length : resCode Tryz.prog Tryz.f155.ntmps (Tryz.f155.body.getD .skip) = C.dyadic_part_length := by kernel_rfl
theorem Q.dyadic_part_length : resResults Tryz.prog Tryz.f155.results.toList = some R.dyadic_part_length := by kernel_rfl
theorem E.dyadic_part_length : Tryz.prog.funcs[F.dyadic_part_length]? = some Tryz.f155 := Tryz.func155
theorem B.dyadic_part_length : Tryz.f155.body = some (Tryz.f155.body.getD .skip) := by kernel_rfl
theorem N.dyadic_part_length : Tryz.f155.ntmps = 7 := Tryz.ntmps155

def C.surdref01_Num_Limbs : VC :=
  .seq (.region false [⟨some 2, .mov (.c nil1), none⟩]) (.seq (.region false [⟨some 3, .mov (.c nil1), none⟩]) (.seq (.seq (.region false [⟨some 4, .mov (.c (iv 0)), none⟩]) (.block 0 (.loop (.seq (.seq (.region false [⟨some 6, .mov (.t 4), none⟩,
   ⟨some 7, .mov (.t 0), none⟩,
   ⟨some 8, .len (.t 7), none⟩,
   ⟨some 9, .bin .lss false (.t 6) (.t 8), none⟩]) (.cond (.t 9) .skip (.exit 0))) (.seq (.block 1 (.seq (.region false [⟨some 12, .mov (.t 0), none⟩,
   ⟨some 13, .mov (.t 4), none⟩,
   ⟨some 14, .ixa 1 (.t 12) (.t 13), none⟩,
   ⟨some 15, .load none (.t 14), none⟩,
   ⟨some 5, .mov (.t 15), none⟩]) (.seq (.seq (.region false [⟨some 16, .mov (.t 4), none⟩,
   ⟨some 17, .bin .add false (.t 16) (.c (iv 1)), none⟩,
   ⟨some 18, .mov (.t 0), none⟩,
   ⟨some 19, .len (.t 18), none⟩,
   ⟨some 20, .bin .lss false (.t 17) (.t 19), none⟩]) (.cond (.t 20) (.region false [⟨some 21, .mov (.t 5), none⟩,
   ⟨some 22, .mov (.t 0), none⟩,
   ⟨some 23, .mov (.t 4), none⟩,
   ⟨some 24, .bin .add false (.t 23) (.c (iv 1)), none⟩,
   ⟨some 25, .ixa 1 (.t 22) (.t 24), none⟩,
   ⟨some 26, .load none (.t 25), none⟩,
   ⟨some 27, .bin .mul false (.t 26) (.c (nv 4294967296)), none⟩,
   ⟨some 28, .bin .add false (.t 21) (.t 27), none⟩,
   ⟨some 5, .mov (.t 28), none⟩]) .skip)) (.region false [⟨some 29, .mov (.t 3), none⟩,
   ⟨some 30, .mov (.t 5), none⟩,
   ⟨some 31, .bsl true 1 1 [.int .u64 0] [(0, (1, .t 30))], none⟩,
   ⟨some 32, .app 1 8 [.int .u64 0] (.t 29) (.t 31), none⟩,
   ⟨some 3, .mov (.t 32), none⟩])))) (.region false [⟨some 10, .mov (.t 4), none⟩,
   ⟨some 11, .bin .add false (.t 10) (.c (iv 2)), none⟩,
   ⟨some 4, .mov (.t 11), none⟩])))))) (.seq (.region false [⟨some 33, .mov (.t 3), none⟩,
   ⟨some 2, .mov (.t 33), none⟩]) .ret)))
def R.surdref01_Num_Limbs : List VRes := [.tmp 2]
theorem K.surdref01_Num_Limbs : resCode Tryz.prog Tryz.f159.ntmps (Tryz.f159.body.getD .skip) = C.surdref01_Num_Limbs := by kernel_rfl
theorem Q.surdref01_Num_Limbs : resResults Tryz.prog Tryz.f159.results.toList = some R.surdref01_Num_Limbs := by kernel_rfl
theorem E.surdref01_Num_Limbs : Tryz.prog.funcs[F.surdref01_Num_Limbs]? = some Tryz.f159 := Tryz.func159
theorem B.surdref01_Num_Limbs : Tryz.f159.body = some (Tryz.f159.body.getD .skip) := by kernel_rfl
theorem N.surdref01_Num_Limbs : Tryz.f159.ntmps = 34 := Tryz.ntmps159

def C.nat_Left : VC :=
  .seq (.region false [⟨some 4, .mov (.c nil1), none⟩,
   ⟨some 5, .mov (.c (iv 0)), none⟩]) (.seq (.seq (.region false [⟨some 11, .mov (.t 1), none⟩,
   ⟨some 12, .bin .lss false (.t 11) (.c (iv 0)), none⟩,
   ⟨some 13, .mov (.t 12), none⟩,
   ⟨some 14, .mov (.t 1), some (13, false)⟩,
   ⟨some 15, .bin .gtr false (.t 14) (.c (iv 1099511627776)), some (13, false)⟩,
   ⟨some 16, .pick (.t 13) (.c (bv true)) (.t 15), none⟩]) (.cond (.t 16) (.seq (.region false [⟨some 4, .mov (.c nil1), none⟩,
   ⟨some 5, .mov (.c (iv 1)), none⟩]) .ret) .skip)) (.seq (.region false [⟨some 17, .mov (.t 0), none⟩,
   ⟨some 18, .call F.nat_trim [.t 17], none⟩,
   ⟨some 0, .mov (.t 18), none⟩]) (.seq (.seq (.region false [⟨some 19, .mov (.t 0), none⟩,
   ⟨some 20, .len (.t 19), none⟩,
   ⟨some 21, .bin .eql false (.t 20) (.c (iv 0)), none⟩]) (.cond (.t 21) (.seq (.region false [⟨some 4, .mov (.c nil1), none⟩,
   ⟨some 5, .mov (.c (iv 0)), none⟩]) .ret) .skip)) (.seq (.seq (.region false [⟨some 22, .mov (.t 0), none⟩,
   ⟨some 23, .call F.nat_Length [.t 22], none⟩,
   ⟨some 24, .mov (.t 1), none⟩,
   ⟨some 25, .bin .add false (.t 23) (.t 24), none⟩,
   ⟨some 26, .bin .gtr false (.t 25) (.c (iv 67108864)), none⟩]) (.cond (.t 26) (.seq (.region false [⟨some 4, .mov (.c nil1), none⟩,
   ⟨some 5, .mov (.c (iv 3)), none⟩]) .ret) .skip)) (.seq (.region false [⟨some 27, .mov (.t 1), none⟩,
   ⟨some 28, .bin .quo false (.t 27) (.c (iv 64)), none⟩,
   ⟨some 29, .mov (.t 1), none⟩,
   ⟨some 30, .bin .rem false (.t 29) (.c (iv 64)), none⟩,
   ⟨some 31, .conv .u64 (.t 30), none⟩,
   ⟨some 6, .mov (.t 28), none⟩,
   ⟨some 7, .mov (.t 31), none⟩]) (.seq (.region false [⟨some 32, .mov (.t 6), none⟩,
   ⟨some 33, .mov (.t 0), none⟩,
   ⟨some 34, .len (.t 33), none⟩,
   ⟨some 35, .bin .add false (.t 32) (.t 34), none⟩,
   ⟨some 36, .bin .add false (.t 35) (.c (iv 1)), none⟩,
   ⟨some 37, .mk [.int .u64 0] 8 (.t 36) (.t 36), none⟩,
   ⟨some 8, .mov (.t 37), none⟩]) (.seq (.seq (.region false [⟨some 38, .mov (.t 0), none⟩,
   ⟨some 39, .len (.t 38), none⟩,
   ⟨some 40, .mov (.c (iv 0)), none⟩]) (.block 0 (.loop (.seq (.region false [⟨some 41, .bin .lss false (.t 40) (.t 39), none⟩]) (.seq (.cond (.t 41) .skip (.exit 0)) (.seq (.block 1 (.seq (.region false [⟨some 42, .mov (.t 40), none⟩,
   ⟨some 43, .ixa 1 (.t 38) (.t 40), none⟩,
   ⟨some 44, .load none (.t 43), none⟩,
   ⟨some 9, .mov (.t 42), none⟩,
   ⟨some 10, .mov (.t 44), none⟩]) (.seq (.region false [⟨some 45, .mov (.t 8), none⟩,
   ⟨some 46, .mov (.t 6), none⟩,
   ⟨some 47, .mov (.t 9), none⟩,
   ⟨some 48, .bin .add false (.t 46) (.t 47), none⟩,
   ⟨some 49, .ixa 1 (.t 45) (.t 48), none⟩,
   ⟨some 50, .load none (.t 49), none⟩,
   ⟨some 51, .mov (.t 10), none⟩,
   ⟨some 52, .mov (.t 7), none⟩,
   ⟨some 53, .bin .shl false (.t 51) (.t 52), none⟩,
   ⟨some 54, .bin .or false (.t 50) (.t 53), none⟩,
   ⟨some 55, .ixa 1 (.t 45) (.t 48), none⟩,
   ⟨none, .store 1 (.t 55) (.t 54), none⟩]) (.region false [⟨some 56, .mov (.t 8), none⟩,
   ⟨some 57, .mov (.t 6), none⟩,
   ⟨some 58, .mov (.t 9), none⟩,
   ⟨some 59, .bin .add false (.t 57) (.t 58), none⟩,
   ⟨some 60, .bin .add false (.t 59) (.c (iv 1)), none⟩,
   ⟨some 61, .ixa 1 (.t 56) (.t 60), none⟩,
   ⟨some 62, .load none (.t 61), none⟩,
   ⟨some 63, .mov (.t 10), none⟩,
   ⟨some 64, .bin .shr false (.t 63) (.c (nv 1)), none⟩,
   ⟨some 65, .mov (.t 7), none⟩,
   ⟨some 66, .bin .sub false (.c (nv 63)) (.t 65), none⟩,
   ⟨some 67, .bin .shr false (.t 64) (.t 66), none⟩,
   ⟨some 68, .bin .or false (.t 62) (.t 67), none⟩,
   ⟨some 69, .ixa 1 (.t 56) (.t 60), none⟩,
   ⟨none, .store 1 (.t 69) (.t 68), none⟩])))) (.region false [⟨some 70, .bin .add false (.t 40) (.c (iv 1)), none⟩,
   ⟨some 40, .mov (.t 70), none⟩]))))))) (.seq (.region false [⟨some 71, .mov (.t 8), none⟩,
   ⟨some 72, .call F.nat_trim [.t 71], none⟩,
   ⟨some 4, .mov (.t 72), none⟩,
   ⟨some 5, .mov (.c (iv 0)), none⟩]) .ret))))))))
def R.nat_Left : List VRes := [.tmp 4, .tmp 5]
theorem K.nat_Left : resCode Tryz.prog Tryz.f160.ntmps (Tryz.f160.body.getD .skip) = C.nat_Left := by kernel_rfl
theorem Q.nat_Left : resResults Tryz.prog Tryz.f160.results.toList = some R.nat_Left := by kernel_rfl
theorem E.nat_Left : Tryz.prog.funcs[F.nat_Left]? = some Tryz.f160 := Tryz.func160
theorem B.nat_Left : Tryz.f160.body = some (Tryz.f160.body.getD .skip) := by kernel_rfl
theorem N.nat_Left : Tryz.f160.ntmps = 73 := Tryz.ntmps160

def C.nat_Norm : VC :=
  .seq (.region false [⟨some 2, .mov (.c nil1), none⟩]) (.seq (.region false [⟨some 3, .mov (.t 0), none⟩,
   ⟨some 4, .call F.nat_trim [.t 3], none⟩,
   ⟨some 5, .app 1 8 [.int .u64 0] (.c nil1) (.t 4), none⟩,
   ⟨some 2, .mov (.t 5), none⟩]) .ret)
def R.nat_Norm : List VRes := [.tmp 2]
theorem K.nat_Norm : resCode Tryz.prog Tryz.f161.ntmps (Tryz.f161.body.getD .skip) = C.nat_Norm := by kernel_rfl
theorem Q.nat_Norm : resResults Tryz.prog Tryz.f161.results.toList = some R.nat_Norm := by kernel_rfl
theorem E.nat_Norm : Tryz.prog.funcs[F.nat_Norm]? = some Tryz.f161 := Tryz.func161
theorem B.nat_Norm : Tryz.f161.body = some (Tryz.f161.body.getD .skip) := by kernel_rfl
theorem N.nat_Norm : Tryz.f161.ntmps = 6 := Tryz.ntmps161

def C.nat_trim : VC :=
  .seq (.region false [⟨some 2, .mov (.c nil1), none⟩]) (.seq (.block 0 (.loop (.seq (.seq (.region false [⟨some 3, .mov (.t 0), none⟩,
   ⟨some 4, .len (.t 3), none⟩,
   ⟨some 5, .bin .gtr false (.t 4) (.c (iv 0)), none⟩,
   ⟨some 6, .mov (.t 5), none⟩,
   ⟨some 7, .mov (.t 0), some (6, true)⟩,
   ⟨some 8, .mov (.t 0), some (6, true)⟩,
   ⟨some 9, .len (.t 8), some (6, true)⟩,
   ⟨some 10, .bin .sub false (.t 9) (.c (iv 1)), some (6, true)⟩,
   ⟨some 11, .ixa 1 (.t 7) (.t 10), some (6, true)⟩,
   ⟨some 12, .load none (.t 11), some (6, true)⟩,
   ⟨some 13, .bin .eql false (.t 12) (.c (nv 0)), some (6, true)⟩,
   ⟨some 14, .pick (.t 6) (.t 13) (.c (bv false)), none⟩]) (.cond (.t 14) .skip (.exit 0))) (.block 1 (.region false [⟨some 15, .mov (.t 0), none⟩,
   ⟨some 16, .mov (.t 0), none⟩,
   ⟨some 17, .len (.t 16), none⟩,
   ⟨some 18, .bin .sub false (.t 17) (.c (iv 1)), none⟩,
   ⟨some 19, .slc 1 (.t 15) none (some (.t 18)) none, none⟩,
   ⟨some 0, .mov (.t 19), none⟩]))))) (.seq (.region false [⟨some 20, .mov (.t 0), none⟩,
   ⟨some 2, .mov (.t 20), none⟩]) .ret))
def R.nat_trim : List VRes := [.tmp 2]
theorem K.nat_trim : resCode Tryz.prog Tryz.f162.ntmps (Tryz.f162.body.getD .skip) = C.nat_trim := by kernel_rfl
theorem Q.nat_trim : resResults Tryz.prog Tryz.f162.results.toList = some R.nat_trim := by kernel_rfl
theorem E.nat_trim : Tryz.prog.funcs[F.nat_trim]? = some Tryz.f162 := Tryz.func162
theorem B.nat_trim : Tryz.f162.body = some (Tryz.f162.body.getD .skip) := by kernel_rfl
theorem N.nat_trim : Tryz.f162.ntmps = 21 := Tryz.ntmps162

def C.bits_Len64 : VC :=
  .seq (.region false [⟨some 2, .mov (.c (iv 0)), none⟩]) (.seq (.seq (.region false [⟨some 3, .mov (.t 0), none⟩,
   ⟨some 4, .bin .geq false (.t 3) (.c (nv 4294967296)), none⟩]) (.cond (.t 4) (.seq (.region false [⟨some 5, .mov (.t 0), none⟩,
   ⟨some 6, .bin .shr false (.t 5) (.c (nv 32)), none⟩,
   ⟨some 0, .mov (.t 6), none⟩]) (.region false [⟨some 2, .mov (.c (iv 32)), none⟩])) .skip)) (.seq (.seq (.region false [⟨some 7, .mov (.t 0), none⟩,
   ⟨some 8, .bin .geq false (.t 7) (.c (nv 65536)), none⟩]) (.cond (.t 8) (.seq (.region false [⟨some 9, .mov (.t 0), none⟩,
   ⟨some 10, .bin .shr false (.t 9) (.c (nv 16)), none⟩,
   ⟨some 0, .mov (.t 10), none⟩]) (.region false [⟨some 11, .mov (.t 2), none⟩,
   ⟨some 12, .bin .add false (.t 11) (.c (iv 16)), none⟩,
   ⟨some 2, .mov (.t 12), none⟩])) .skip)) (.seq (.seq (.region false [⟨some 13, .mov (.t 0), none⟩,
   ⟨some 14, .bin .geq false (.t 13) (.c (nv 256)), none⟩]) (.cond (.t 14) (.seq (.region false [⟨some 15, .mov (.t 0), none⟩,
   ⟨some 16, .bin .shr false (.t 15) (.c (nv 8)), none⟩,
   ⟨some 0, .mov (.t 16), none⟩]) (.region false [⟨some 17, .mov (.t 2), none⟩,
   ⟨some 18, .bin .add false (.t 17) (.c (iv 8)), none⟩,
   ⟨some 2, .mov (.t 18), none⟩])) .skip)) (.seq (.region false [⟨some 19, .mov (.t 2), none⟩,
   ⟨some 20, .mov (.t 0), none⟩,
   ⟨some 21, .conv .u8 (.t 20), none⟩,
   ⟨some 22, .six (.c (.lit (.string ⟨#[0, 1, 2, 2, 3, 3, 3, 3, 4, 4, 4, 4, 4, 4, 4, 4, 5, 5, 5, 5, 5, 5, 5, 5, 5, 5, 5, 5, 5, 5, 5, 5, 6, 6, 6, 6, 6, 6, 6, 6, 6, 6, 6, 6, 6, 6, 6, 6, 6, 6, 6, 6, 6, 6, 6, 6, 6, 6, 6, 6, 6, 6, 6, 6, 7, 7, 7, 7, 7, 7, 7, 7, 7, 7, 7, 7, 7, 7, 7, 7, 7, 7, 7, 7, 7, 7, 7, 7, 7, 7, 7, 7, 7, 7, 7, 7, 7, 7, 7, 7, 7, 7, 7, 7, 7, 7, 7, 7, 7, 7, 7, 7, 7, 7, 7, 7, 7, 7, 7, 7, 7, 7, 7, 7, 7, 7, 7, 7, 8, 8, 8, 8, 8, 8, 8, 8, 8, 8, 8, 8, 8, 8, 8, 8, 8, 8, 8, 8, 8, 8, 8, 8, 8, 8, 8, 8, 8, 8, 8, 8, 8, 8, 8, 8, 8, 8, 8, 8, 8, 8, 8, 8, 8, 8, 8, 8, 8, 8, 8, 8, 8, 8, 8, 8, 8, 8, 8, 8, 8, 8, 8, 8, 8, 8, 8, 8, 8, 8, 8, 8, 8, 8, 8, 8, 8, 8, 8, 8, 8, 8, 8, 8, 8, 8, 8, 8, 8, 8, 8, 8, 8, 8, 8, 8, 8, 8, 8, 8, 8, 8, 8, 8, 8, 8, 8, 8, 8, 8, 8, 8, 8, 8, 8, 8, 8, 8, 8, 8, 8, 8, 8, 8, 8, 8, 8, 8]⟩))) (.t 21), none⟩,
   ⟨some 23, .conv .i64 (.t 22), none⟩,
   ⟨some 24, .bin .add false (.t 19) (.t 23), none⟩,
   ⟨some 2, .mov (.t 24), none⟩]) .ret))))
def R.bits_Len64 : List VRes := [.tmp 2]
theorem K.bits_Len64 : resCode Tryz.prog Tryz.f163.ntmps (Tryz.f163.body.getD .skip) = C.bits_Len64 := by kernel_rfl
theorem Q.bits_Len64 : resResults Tryz.prog Tryz.f163.results.toList = some R.bits_Len64 := by kernel_rfl
theorem E.bits_Len64 : Tryz.prog.funcs[F.bits_Len64]? = some Tryz.f163 := Tryz.func163
theorem B.bits_Len64 : Tryz.f163.body = some (Tryz.f163.body.getD .skip) := by kernel_rfl
theorem N.bits_Len64 : Tryz.f163.ntmps = 25 := Tryz.ntmps163

def C.whole_fits : VC :=
  .seq (.region false [⟨some 1, .box (.t 0), none⟩,
   ⟨some 2, .alloc [.bool false, .slice none 0 0], none⟩,
   ⟨some 3, .mov (.c (iv 0)), none⟩]) (.seq (.seq (.region false [⟨some 4, .fa 1 (.t 1), none⟩,
   ⟨some 5, .load none (.t 4), none⟩,
   ⟨some 6, .call F.nat_Length [.t 5], none⟩,
   ⟨some 7, .bin .gtr false (.t 6) (.c (iv 67108864)), none⟩]) (.cond (.t 7) (.seq (.region false [⟨some 8, .build [.bool false, .slice none 0 0] [], none⟩,
   ⟨none, .store 2 (.t 2) (.t 8), none⟩,
   ⟨some 3, .mov (.c (iv 3)), none⟩]) .ret) .skip)) (.seq (.region false [⟨some 9, .load (some 2) (.t 1), none⟩,
   ⟨some 10, .call F.whole_norm [.t 9], none⟩,
   ⟨none, .store 2 (.t 2) (.t 10), none⟩,
   ⟨some 3, .mov (.c (iv 0)), none⟩]) .ret))
def R.whole_fits : List VRes := [.cell 2 (some 2), .tmp 3]
theorem K.whole_fits : resCode Tryz.prog Tryz.f164.ntmps (Tryz.f164.body.getD .skip) = C.whole_fits := by kernel_rfl
theorem Q.whole_fits : resResults Tryz.prog Tryz.f164.results.toList = some R.whole_fits := by kernel_rfl
theorem E.whole_fits : Tryz.prog.funcs[F.whole_fits]? = some Tryz.f164 := Tryz.func164
theorem B.whole_fits : Tryz.f164.body = some (Tryz.f164.body.getD .skip) := by kernel_rfl
theorem N.whole_fits : Tryz.f164.ntmps = 11 := Tryz.ntmps164

def C.dyadic_minus : VC :=
  .seq (.region false [⟨some 4, .mov (.c nil1), none⟩]) (.seq (.region false [⟨some 11, .mov (.t 0), none⟩,
   ⟨some 12, .len (.t 11), none⟩,
   ⟨some 13, .mk [.int .u64 0] 8 (.t 12) (.t 12), none⟩,
   ⟨some 5, .mov (.t 13), none⟩]) (.seq (.region false [⟨some 6, .mov (.c (nv 0)), none⟩]) (.seq (.seq (.region false [⟨some 14, .mov (.t 5), none⟩,
   ⟨some 15, .len (.t 14), none⟩,
   ⟨some 16, .mov (.c (iv 0)), none⟩]) (.block 0 (.loop (.seq (.region false [⟨some 17, .bin .lss false (.t 16) (.t 15), none⟩]) (.seq (.cond (.t 17) .skip (.exit 0)) (.seq (.block 1 (.seq (.region false [⟨some 18, .mov (.t 16), none⟩,
   ⟨some 7, .mov (.t 18), none⟩]) (.seq (.region false [⟨some 19, .mov (.t 0), none⟩,
   ⟨some 20, .mov (.t 7), none⟩,
   ⟨some 21, .call F.dyadic_limb [.t 19, .t 20], none⟩,
   ⟨some 22, .mov (.t 1), none⟩,
   ⟨some 23, .mov (.t 7), none⟩,
   ⟨some 24, .call F.dyadic_limb [.t 22, .t 23], none⟩,
   ⟨some 8, .mov (.t 21), none⟩,
   ⟨some 9, .mov (.t 24), none⟩]) (.seq (.region false [⟨some 25, .mov (.t 8), none⟩,
   ⟨some 26, .mov (.t 9), none⟩,
   ⟨some 27, .bin .sub false (.t 25) (.t 26), none⟩,
   ⟨some 28, .mov (.t 6), none⟩,
   ⟨some 29, .bin .sub false (.t 27) (.t 28), none⟩,
   ⟨some 10, .mov (.t 29), none⟩]) (.seq (.seq (.region false [⟨some 30, .mov (.t 8), none⟩,
   ⟨some 31, .mov (.t 9), none⟩,
   ⟨some 32, .bin .lss false (.t 30) (.t 31), none⟩,
   ⟨some 33, .mov (.t 32), none⟩,
   ⟨some 34, .mov (.t 8), some (33, false)⟩,
   ⟨some 35, .mov (.t 9), some (33, false)⟩,
   ⟨some 36, .bin .eql false (.t 34) (.t 35), some (33, false)⟩,
   ⟨some 37, .mov (.t 36), some (33, false)⟩,
   ⟨some 38, .mov (.t 6), some (37, true)⟩,
   ⟨some 39, .bin .eql false (.t 38) (.c (nv 1)), some (37, true)⟩,
   ⟨some 40, .pick (.t 37) (.t 39) (.c (bv false)), some (33, false)⟩,
   ⟨some 41, .pick (.t 33) (.c (bv true)) (.t 40), none⟩]) (.cond (.t 41) (.region false [⟨some 6, .mov (.c (nv 1)), none⟩]) (.region false [⟨some 6, .mov (.c (nv 0)), none⟩]))) (.region false [⟨some 42, .mov (.t 5), none⟩,
   ⟨some 43, .mov (.t 7), none⟩,
   ⟨some 44, .mov (.t 10), none⟩,
   ⟨some 45, .ixa 1 (.t 42) (.t 43), none⟩,
   ⟨none, .store 1 (.t 45) (.t 44), none⟩])))))) (.region false [⟨some 46, .bin .add false (.t 16) (.c (iv 1)), none⟩,
   ⟨some 16, .mov (.t 46), none⟩]))))))) (.seq (.region false [⟨some 47, .mov (.t 5), none⟩,
   ⟨some 48, .call F.nat_Norm [.t 47], none⟩,
   ⟨some 4, .mov (.t 48), none⟩]) .ret))))
def R.dyadic_minus : List VRes := [.tmp 4]
theorem K.dyadic_minus : resCode Tryz.prog Tryz.f165.ntmps (Tryz.f165.body.getD .skip) = C.dyadic_minus := by kernel_rfl
theorem Q.dyadic_minus : resResults Tryz.prog Tryz.f165.results.toList = some R.dyadic_minus := by kernel_rfl
theorem E.dyadic_minus : Tryz.prog.funcs[F.dyadic_minus]? = some Tryz.f165 := Tryz.func165
theorem B.dyadic_minus : Tryz.f165.body = some (Tryz.f165.body.getD .skip) := by kernel_rfl
theorem N.dyadic_minus : Tryz.f165.ntmps = 49 := Tryz.ntmps165

def C.dyadic_plus : VC :=
  .seq (.region false [⟨some 4, .mov (.c nil1), none⟩]) (.seq (.region false [⟨some 12, .mov (.t 0), none⟩,
   ⟨some 13, .len (.t 12), none⟩,
   ⟨some 14, .mov (.t 1), none⟩,
   ⟨some 15, .len (.t 14), none⟩,
   ⟨some 16, .mm true (.t 13) (.t 15), none⟩,
   ⟨some 17, .bin .add false (.t 16) (.c (iv 1)), none⟩,
   ⟨some 18, .mk [.int .u64 0] 8 (.t 17) (.t 17), none⟩,
   ⟨some 5, .mov (.t 18), none⟩]) (.seq (.region false [⟨some 6, .mov (.c (nv 0)), none⟩]) (.seq (.seq (.region false [⟨some 19, .mov (.t 5), none⟩,
   ⟨some 20, .len (.t 19), none⟩,
   ⟨some 21, .mov (.c (iv 0)), none⟩]) (.block 0 (.loop (.seq (.region false [⟨some 22, .bin .lss false (.t 21) (.t 20), none⟩]) (.seq (.cond (.t 22) .skip (.exit 0)) (.seq (.block 1 (.seq (.region false [⟨some 23, .mov (.t 21), none⟩,
   ⟨some 7, .mov (.t 23), none⟩]) (.seq (.region false [⟨some 24, .mov (.t 0), none⟩,
   ⟨some 25, .mov (.t 7), none⟩,
   ⟨some 26, .call F.dyadic_limb [.t 24, .t 25], none⟩,
   ⟨some 27, .mov (.t 1), none⟩,
   ⟨some 28, .mov (.t 7), none⟩,
   ⟨some 29, .call F.dyadic_limb [.t 27, .t 28], none⟩,
   ⟨some 8, .mov (.t 26), none⟩,
   ⟨some 9, .mov (.t 29), none⟩]) (.seq (.region false [⟨some 30, .mov (.t 8), none⟩,
   ⟨some 31, .mov (.t 9), none⟩,
   ⟨some 32, .bin .add false (.t 30) (.t 31), none⟩,
   ⟨some 10, .mov (.t 32), none⟩]) (.seq (.region false [⟨some 33, .mov (.t 10), none⟩,
   ⟨some 34, .mov (.t 6), none⟩,
   ⟨some 35, .bin .add false (.t 33) (.t 34), none⟩,
   ⟨some 11, .mov (.t 35), none⟩]) (.seq (.region false [⟨some 6, .mov (.c (nv 0)), none⟩]) (.seq (.seq (.region false [⟨some 36, .mov (.t 10), none⟩,
   ⟨some 37, .mov (.t 8), none⟩,
   ⟨some 38, .bin .lss false (.t 36) (.t 37), none⟩,
   ⟨some 39, .mov (.t 38), none⟩,
   ⟨some 40, .mov (.t 11), some (39, false)⟩,
   ⟨some 41, .mov (.t 10), some (39, false)⟩,
   ⟨some 42, .bin .lss false (.t 40) (.t 41), some (39, false)⟩,
   ⟨some 43, .pick (.t 39) (.c (bv true)) (.t 42), none⟩]) (.cond (.t 43) (.region false [⟨some 6, .mov (.c (nv 1)), none⟩]) .skip)) (.region false [⟨some 44, .mov (.t 5), none⟩,
   ⟨some 45, .mov (.t 7), none⟩,
   ⟨some 46, .mov (.t 11), none⟩,
   ⟨some 47, .ixa 1 (.t 44) (.t 45), none⟩,
   ⟨none, .store 1 (.t 47) (.t 46), none⟩])))))))) (.region false [⟨some 48, .bin .add false (.t 21) (.c (iv 1)), none⟩,
   ⟨some 21, .mov (.t 48), none⟩]))))))) (.seq (.region false [⟨some 49, .mov (.t 5), none⟩,
   ⟨some 50, .call F.nat_Norm [.t 49], none⟩,
   ⟨some 4, .mov (.t 50), none⟩]) .ret))))
def R.dyadic_plus : List VRes := [.tmp 4]
theorem K.dyadic_plus : resCode Tryz.prog Tryz.f166.ntmps (Tryz.f166.body.getD .skip) = C.dyadic_plus := by kernel_rfl
theorem Q.dyadic_plus : resResults Tryz.prog Tryz.f166.results.toList = some R.dyadic_plus := by kernel_rfl
theorem E.dyadic_plus : Tryz.prog.funcs[F.dyadic_plus]? = some Tryz.f166 := Tryz.func166
theorem B.dyadic_plus : Tryz.f166.body = some (Tryz.f166.body.getD .skip) := by kernel_rfl
theorem N.dyadic_plus : Tryz.f166.ntmps = 51 := Tryz.ntmps166

def C.whole_norm : VC :=
  .seq (.region false [⟨some 1, .box (.t 0), none⟩,
   ⟨some 2, .alloc [.bool false, .slice none 0 0], none⟩]) (.seq (.region false [⟨some 4, .fa 1 (.t 1), none⟩,
   ⟨some 5, .load none (.t 4), none⟩,
   ⟨some 6, .call F.nat_Norm [.t 5], none⟩,
   ⟨some 3, .mov (.t 6), none⟩]) (.seq (.region false [⟨some 7, .fa 0 (.t 1), none⟩,
   ⟨some 8, .load none (.t 7), none⟩,
   ⟨some 9, .mov (.t 8), none⟩,
   ⟨some 10, .mov (.t 3), some (9, true)⟩,
   ⟨some 11, .len (.t 10), some (9, true)⟩,
   ⟨some 12, .bin .gtr false (.t 11) (.c (iv 0)), some (9, true)⟩,
   ⟨some 13, .pick (.t 9) (.t 12) (.c (bv false)), none⟩,
   ⟨some 14, .mov (.t 3), none⟩,
   ⟨some 15, .build [.bool false, .slice none 0 0] [(0, (1, .t 13)), (1, (1, .t 14))], none⟩,
   ⟨none, .store 2 (.t 2) (.t 15), none⟩]) .ret))
def R.whole_norm : List VRes := [.cell 2 (some 2)]
theorem K.whole_norm : resCode Tryz.prog Tryz.f167.ntmps (Tryz.f167.body.getD .skip) = C.whole_norm := by kernel_rfl
theorem Q.whole_norm : resResults Tryz.prog Tryz.f167.results.toList = some R.whole_norm := by kernel_rfl
theorem E.whole_norm : Tryz.prog.funcs[F.whole_norm]? = some Tryz.f167 := Tryz.func167
theorem B.whole_norm : Tryz.f167.body = some (Tryz.f167.body.getD .skip) := by kernel_rfl
theorem N.whole_norm : Tryz.f167.ntmps = 16 := Tryz.ntmps167

def C.nat_Add : VC :=
  .seq (.region false [⟨some 4, .mov (.c nil1), none⟩,
   ⟨some 5, .mov (.c (iv 0)), none⟩]) (.seq (.region false [⟨some 10, .mov (.t 0), none⟩,
   ⟨some 11, .call F.nat_trim [.t 10], none⟩,
   ⟨some 12, .mov (.t 1), none⟩,
   ⟨some 13, .call F.nat_trim [.t 12], none⟩,
   ⟨some 0, .mov (.t 11), none⟩,
   ⟨some 1, .mov (.t 13), none⟩]) (.seq (.seq (.region false [⟨some 14, .mov (.t 0), none⟩,
   ⟨some 15, .len (.t 14), none⟩,
   ⟨some 16, .mov (.t 1), none⟩,
   ⟨some 17, .len (.t 16), none⟩,
   ⟨some 18, .bin .lss false (.t 15) (.t 17), none⟩]) (.cond (.t 18) (.region false [⟨some 19, .mov (.t 1), none⟩,
   ⟨some 20, .mov (.t 0), none⟩,
   ⟨some 0, .mov (.t 19), none⟩,
   ⟨some 1, .mov (.t 20), none⟩]) .skip)) (.seq (.region false [⟨some 21, .mov (.t 0), none⟩,
   ⟨some 22, .len (.t 21), none⟩,
   ⟨some 23, .bin .add false (.t 22) (.c (iv 1)), none⟩,
   ⟨some 24, .mk [.int .u64 0] 8 (.t 23) (.t 23), none⟩,
   ⟨some 6, .mov (.t 24), none⟩]) (.seq (.region false [⟨some 7, .mov (.c (nv 0)), none⟩]) (.seq (.seq (.region false [⟨some 25, .mov (.t 0), none⟩,
   ⟨some 26, .len (.t 25), none⟩,
   ⟨some 27, .mov (.c (iv 0)), none⟩]) (.block 0 (.loop (.seq (.region false [⟨some 28, .bin .lss false (.t 27) (.t 26), none⟩]) (.seq (.cond (.t 28) .skip (.exit 0)) (.seq (.block 1 (.seq (.region false [⟨some 29, .mov (.t 27), none⟩,
   ⟨some 8, .mov (.t 29), none⟩]) (.seq (.region false [⟨some 9, .mov (.c (nv 0)), none⟩]) (.seq (.seq (.region false [⟨some 30, .mov (.t 8), none⟩,
   ⟨some 31, .mov (.t 1), none⟩,
   ⟨some 32, .len (.t 31), none⟩,
   ⟨some 33, .bin .lss false (.t 30) (.t 32), none⟩]) (.cond (.t 33) (.region false [⟨some 34, .mov (.t 1), none⟩,
   ⟨some 35, .mov (.t 8), none⟩,
   ⟨some 36, .ixa 1 (.t 34) (.t 35), none⟩,
   ⟨some 37, .load none (.t 36), none⟩,
   ⟨some 9, .mov (.t 37), none⟩]) .skip)) (.region false [⟨some 39, .mov (.t 6), none⟩,
   ⟨some 40, .mov (.t 8), none⟩,
   ⟨some 41, .mov (.t 0), none⟩,
   ⟨some 42, .mov (.t 8), none⟩,
   ⟨some 43, .ixa 1 (.t 41) (.t 42), none⟩,
   ⟨some 44, .load none (.t 43), none⟩,
   ⟨some 45, .mov (.t 9), none⟩,
   ⟨some 46, .mov (.t 7), none⟩,
   ⟨some 47, .ext64 false (.t 44) (.t 45) (.t 46), none⟩,
   ⟨some 38, .mov (.t 47), none⟩,
   ⟨some 48, .ext (.t 38) 0, none⟩,
   ⟨some 49, .ext (.t 38) 1, none⟩,
   ⟨some 50, .ixa 1 (.t 39) (.t 40), none⟩,
   ⟨none, .store 1 (.t 50) (.t 48), none⟩,
   ⟨some 7, .mov (.t 49), none⟩]))))) (.region false [⟨some 51, .bin .add false (.t 27) (.c (iv 1)), none⟩,
   ⟨some 27, .mov (.t 51), none⟩]))))))) (.seq (.region false [⟨some 52, .mov (.t 6), none⟩,
   ⟨some 53, .mov (.t 0), none⟩,
   ⟨some 54, .len (.t 53), none⟩,
   ⟨some 55, .mov (.t 7), none⟩,
   ⟨some 56, .ixa 1 (.t 52) (.t 54), none⟩,
   ⟨none, .store 1 (.t 56) (.t 55), none⟩]) (.seq (.region false [⟨some 57, .mov (.t 6), none⟩,
   ⟨some 58, .call F.nat_told [.t 57], none⟩,
   ⟨some 59, .ext (.t 58) 0, none⟩,
   ⟨some 60, .ext (.t 58) 1, none⟩,
   ⟨some 4, .mov (.t 59), none⟩,
   ⟨some 5, .mov (.t 60), none⟩]) .ret)))))))
def R.nat_Add : List VRes := [.tmp 4, .tmp 5]
theorem K.nat_Add : resCode Tryz.prog Tryz.f168.ntmps (Tryz.f168.body.getD .skip) = C.nat_Add := by kernel_rfl
theorem Q.nat_Add : resResults Tryz.prog Tryz.f168.results.toList = some R.nat_Add := by kernel_rfl
theorem E.nat_Add : Tryz.prog.funcs[F.nat_Add]? = some Tryz.f168 := Tryz.func168
theorem B.nat_Add : Tryz.f168.body = some (Tryz.f168.body.getD .skip) := by kernel_rfl
theorem N.nat_Add : Tryz.f168.ntmps = 61 := Tryz.ntmps168

def C.nat_Sub : VC :=
  .seq (.region false [⟨some 4, .mov (.c nil1), none⟩,
   ⟨some 5, .mov (.c (iv 0)), none⟩]) (.seq (.seq (.region false [⟨some 10, .mov (.t 0), none⟩,
   ⟨some 11, .mov (.t 1), none⟩,
   ⟨some 12, .call F.nat_Compare [.t 10, .t 11], none⟩,
   ⟨some 13, .bin .lss false (.t 12) (.c (iv 0)), none⟩]) (.cond (.t 13) (.seq (.region false [⟨some 4, .mov (.c nil1), none⟩,
   ⟨some 5, .mov (.c (iv 10)), none⟩]) .ret) .skip)) (.seq (.region false [⟨some 14, .mov (.t 0), none⟩,
   ⟨some 15, .call F.nat_trim [.t 14], none⟩,
   ⟨some 16, .mov (.t 1), none⟩,
   ⟨some 17, .call F.nat_trim [.t 16], none⟩,
   ⟨some 0, .mov (.t 15), none⟩,
   ⟨some 1, .mov (.t 17), none⟩]) (.seq (.region false [⟨some 18, .mov (.t 0), none⟩,
   ⟨some 19, .len (.t 18), none⟩,
   ⟨some 20, .mk [.int .u64 0] 8 (.t 19) (.t 19), none⟩,
   ⟨some 6, .mov (.t 20), none⟩]) (.seq (.region false [⟨some 7, .mov (.c (nv 0)), none⟩]) (.seq (.seq (.region false [⟨some 21, .mov (.t 0), none⟩,
   ⟨some 22, .len (.t 21), none⟩,
   ⟨some 23, .mov (.c (iv 0)), none⟩]) (.block 0 (.loop (.seq (.region false [⟨some 24, .bin .lss false (.t 23) (.t 22), none⟩]) (.seq (.cond (.t 24) .skip (.exit 0)) (.seq (.block 1 (.seq (.region false [⟨some 25, .mov (.t 23), none⟩,
   ⟨some 8, .mov (.t 25), none⟩]) (.seq (.region false [⟨some 9, .mov (.c (nv 0)), none⟩]) (.seq (.seq (.region false [⟨some 26, .mov (.t 8), none⟩,
   ⟨some 27, .mov (.t 1), none⟩,
   ⟨some 28, .len (.t 27), none⟩,
   ⟨some 29, .bin .lss false (.t 26) (.t 28), none⟩]) (.cond (.t 29) (.region false [⟨some 30, .mov (.t 1), none⟩,
   ⟨some 31, .mov (.t 8), none⟩,
   ⟨some 32, .ixa 1 (.t 30) (.t 31), none⟩,
   ⟨some 33, .load none (.t 32), none⟩,
   ⟨some 9, .mov (.t 33), none⟩]) .skip)) (.region false [⟨some 35, .mov (.t 6), none⟩,
   ⟨some 36, .mov (.t 8), none⟩,
   ⟨some 37, .mov (.t 0), none⟩,
   ⟨some 38, .mov (.t 8), none⟩,
   ⟨some 39, .ixa 1 (.t 37) (.t 38), none⟩,
   ⟨some 40, .load none (.t 39), none⟩,
   ⟨some 41, .mov (.t 9), none⟩,
   ⟨some 42, .mov (.t 7), none⟩,
   ⟨some 43, .ext64 true (.t 40) (.t 41) (.t 42), none⟩,
   ⟨some 34, .mov (.t 43), none⟩,
   ⟨some 44, .ext (.t 34) 0, none⟩,
   ⟨some 45, .ext (.t 34) 1, none⟩,
   ⟨some 46, .ixa 1 (.t 35) (.t 36), none⟩,
   ⟨none, .store 1 (.t 46) (.t 44), none⟩,
   ⟨some 7, .mov (.t 45), none⟩]))))) (.region false [⟨some 47, .bin .add false (.t 23) (.c (iv 1)), none⟩,
   ⟨some 23, .mov (.t 47), none⟩]))))))) (.seq (.region false [⟨some 48, .mov (.t 6), none⟩,
   ⟨some 49, .call F.nat_told [.t 48], none⟩,
   ⟨some 50, .ext (.t 49) 0, none⟩,
   ⟨some 51, .ext (.t 49) 1, none⟩,
   ⟨some 4, .mov (.t 50), none⟩,
   ⟨some 5, .mov (.t 51), none⟩]) .ret))))))
def R.nat_Sub : List VRes := [.tmp 4, .tmp 5]
theorem K.nat_Sub : resCode Tryz.prog Tryz.f169.ntmps (Tryz.f169.body.getD .skip) = C.nat_Sub := by kernel_rfl
theorem Q.nat_Sub : resResults Tryz.prog Tryz.f169.results.toList = some R.nat_Sub := by kernel_rfl
theorem E.nat_Sub : Tryz.prog.funcs[F.nat_Sub]? = some Tryz.f169 := Tryz.func169
theorem B.nat_Sub : Tryz.f169.body = some (Tryz.f169.body.getD .skip) := by kernel_rfl
theorem N.nat_Sub : Tryz.f169.ntmps = 52 := Tryz.ntmps169

def C.nat_Tail : VC :=
  .seq (.region false [⟨some 2, .mov (.c (iv 0)), none⟩]) (.seq (.seq (.region false [⟨some 5, .mov (.t 0), none⟩,
   ⟨some 6, .len (.t 5), none⟩,
   ⟨some 7, .mov (.c (iv 0)), none⟩]) (.block 0 (.loop (.seq (.region false [⟨some 8, .bin .lss false (.t 7) (.t 6), none⟩]) (.seq (.cond (.t 8) .skip (.exit 0)) (.seq (.block 1 (.seq (.region false [⟨some 9, .mov (.t 7), none⟩,
   ⟨some 10, .ixa 1 (.t 5) (.t 7), none⟩,
   ⟨some 11, .load none (.t 10), none⟩,
   ⟨some 3, .mov (.t 9), none⟩,
   ⟨some 4, .mov (.t 11), none⟩]) (.seq (.region false [⟨some 12, .mov (.t 4), none⟩,
   ⟨some 13, .bin .neq false (.t 12) (.c (nv 0)), none⟩]) (.cond (.t 13) (.seq (.region false [⟨some 14, .mov (.t 3), none⟩,
   ⟨some 15, .bin .mul false (.c (iv 64)) (.t 14), none⟩,
   ⟨some 16, .mov (.t 4), none⟩,
   ⟨some 17, .call F.bits_TrailingZeros64 [.t 16], none⟩,
   ⟨some 18, .bin .add false (.t 15) (.t 17), none⟩,
   ⟨some 2, .mov (.t 18), none⟩]) .ret) .skip)))) (.region false [⟨some 19, .bin .add false (.t 7) (.c (iv 1)), none⟩,
   ⟨some 7, .mov (.t 19), none⟩]))))))) (.seq (.region false [⟨some 2, .mov (.c (iv 0)), none⟩]) .ret))
def R.nat_Tail : List VRes := [.tmp 2]
theorem K.nat_Tail : resCode Tryz.prog Tryz.f170.ntmps (Tryz.f170.body.getD .skip) = C.nat_Tail := by kernel_rfl
theorem Q.nat_Tail : resResults Tryz.prog Tryz.f170.results.toList = some R.nat_Tail := by kernel_rfl
theorem E.nat_Tail : Tryz.prog.funcs[F.nat_Tail]? = some Tryz.f170 := Tryz.func170
theorem B.nat_Tail : Tryz.f170.body = some (Tryz.f170.body.getD .skip) := by kernel_rfl
theorem N.nat_Tail : Tryz.f170.ntmps = 20 := Tryz.ntmps170

def C.dyadic_shifted : VC :=
  .seq (.region false [⟨some 4, .mov (.c nil1), none⟩]) (.seq (.region false [⟨some 12, .mov (.t 0), none⟩,
   ⟨some 13, .mov (.t 1), none⟩,
   ⟨some 14, .call F.nat_Right [.t 12, .t 13], none⟩,
   ⟨some 11, .mov (.t 14), none⟩,
   ⟨some 15, .ext (.t 11) 0, none⟩,
   ⟨some 16, .ext (.t 11) 1, none⟩,
   ⟨some 5, .mov (.t 15), none⟩,
   ⟨some 6, .mov (.t 16), none⟩]) (.seq (.seq (.region false [⟨some 17, .mov (.t 6), none⟩,
   ⟨some 18, .bin .eql false (.t 17) (.c (iv 0)), none⟩]) (.cond (.t 18) (.seq (.region false [⟨some 19, .mov (.t 5), none⟩,
   ⟨some 4, .mov (.t 19), none⟩]) .ret) .skip)) (.seq (.region false [⟨some 20, .mov (.t 1), none⟩,
   ⟨some 21, .bin .quo false (.t 20) (.c (iv 64)), none⟩,
   ⟨some 22, .mov (.t 1), none⟩,
   ⟨some 23, .bin .rem false (.t 22) (.c (iv 64)), none⟩,
   ⟨some 24, .conv .u64 (.t 23), none⟩,
   ⟨some 7, .mov (.t 21), none⟩,
   ⟨some 8, .mov (.t 24), none⟩]) (.seq (.region false [⟨some 25, .mov (.t 0), none⟩,
   ⟨some 26, .len (.t 25), none⟩,
   ⟨some 27, .mov (.t 7), none⟩,
   ⟨some 28, .bin .sub false (.t 26) (.t 27), none⟩,
   ⟨some 29, .mk [.int .u64 0] 8 (.t 28) (.t 28), none⟩,
   ⟨some 9, .mov (.t 29), none⟩]) (.seq (.seq (.region false [⟨some 30, .mov (.t 9), none⟩,
   ⟨some 31, .len (.t 30), none⟩,
   ⟨some 32, .mov (.c (iv 0)), none⟩]) (.block 0 (.loop (.seq (.region false [⟨some 33, .bin .lss false (.t 32) (.t 31), none⟩]) (.seq (.cond (.t 33) .skip (.exit 0)) (.seq (.block 1 (.seq (.region false [⟨some 34, .mov (.t 32), none⟩,
   ⟨some 10, .mov (.t 34), none⟩]) (.seq (.region false [⟨some 35, .mov (.t 9), none⟩,
   ⟨some 36, .mov (.t 10), none⟩,
   ⟨some 37, .mov (.t 0), none⟩,
   ⟨some 38, .mov (.t 10), none⟩,
   ⟨some 39, .mov (.t 7), none⟩,
   ⟨some 40, .bin .add false (.t 38) (.t 39), none⟩,
   ⟨some 41, .ixa 1 (.t 37) (.t 40), none⟩,
   ⟨some 42, .load none (.t 41), none⟩,
   ⟨some 43, .mov (.t 8), none⟩,
   ⟨some 44, .bin .shr false (.t 42) (.t 43), none⟩,
   ⟨some 45, .ixa 1 (.t 35) (.t 36), none⟩,
   ⟨none, .store 1 (.t 45) (.t 44), none⟩]) (.seq (.region false [⟨some 46, .mov (.t 8), none⟩,
   ⟨some 47, .bin .gtr false (.t 46) (.c (nv 0)), none⟩,
   ⟨some 48, .mov (.t 47), none⟩,
   ⟨some 49, .mov (.t 10), some (48, true)⟩,
   ⟨some 50, .mov (.t 7), some (48, true)⟩,
   ⟨some 51, .bin .add false (.t 49) (.t 50), some (48, true)⟩,
   ⟨some 52, .bin .add false (.t 51) (.c (iv 1)), some (48, true)⟩,
   ⟨some 53, .mov (.t 0), some (48, true)⟩,
   ⟨some 54, .len (.t 53), some (48, true)⟩,
   ⟨some 55, .bin .lss false (.t 52) (.t 54), some (48, true)⟩,
   ⟨some 56, .pick (.t 48) (.t 55) (.c (bv false)), none⟩]) (.cond (.t 56) (.region true [⟨some 57, .mov (.t 9), none⟩,
   ⟨some 58, .mov (.t 10), none⟩,
   ⟨some 59, .ixa 1 (.t 57) (.t 58), none⟩,
   ⟨some 60, .load none (.t 59), none⟩,
   ⟨some 61, .mov (.t 0), none⟩,
   ⟨some 62, .mov (.t 10), none⟩,
   ⟨some 63, .mov (.t 7), none⟩,
   ⟨some 64, .bin .add false (.t 62) (.t 63), none⟩,
   ⟨some 65, .bin .add false (.t 64) (.c (iv 1)), none⟩,
   ⟨some 66, .ixa 1 (.t 61) (.t 65), none⟩,
   ⟨some 67, .load none (.t 66), none⟩,
   ⟨some 68, .mov (.t 8), none⟩,
   ⟨some 69, .bin .sub false (.c (nv 64)) (.t 68), none⟩,
   ⟨some 70, .bin .shl false (.t 67) (.t 69), none⟩,
   ⟨some 71, .bin .or false (.t 60) (.t 70), none⟩,
   ⟨some 72, .ixa 1 (.t 57) (.t 58), none⟩,
   ⟨none, .store 1 (.t 72) (.t 71), none⟩]) .skip))))) (.region false [⟨some 73, .bin .add false (.t 32) (.c (iv 1)), none⟩,
   ⟨some 32, .mov (.t 73), none⟩]))))))) (.seq (.region false [⟨some 74, .mov (.t 9), none⟩,
   ⟨some 75, .call F.nat_Norm [.t 74], none⟩,
   ⟨some 4, .mov (.t 75), none⟩]) .ret))))))
def R.dyadic_shifted : List VRes := [.tmp 4]
theorem K.dyadic_shifted : resCode Tryz.prog Tryz.f171.ntmps (Tryz.f171.body.getD .skip) = C.dyadic_shifted := by kernel_rfl
theorem Q.dyadic_shifted : resResults Tryz.prog Tryz.f171.results.toList = some R.dyadic_shifted := by kernel_rfl
theorem E.dyadic_shifted : Tryz.prog.funcs[F.dyadic_shifted]? = some Tryz.f171 := Tryz.func171
theorem B.dyadic_shifted : Tryz.f171.body = some (Tryz.f171.body.getD .skip) := by kernel_rfl
theorem N.dyadic_shifted : Tryz.f171.ntmps = 76 := Tryz.ntmps171

def C.nat_Bit : VC :=
  .seq (.region false [⟨some 4, .mov (.c (iv 0)), none⟩]) (.seq (.seq (.region false [⟨some 5, .mov (.t 1), none⟩,
   ⟨some 6, .bin .lss false (.t 5) (.c (iv 0)), none⟩,
   ⟨some 7, .mov (.t 6), none⟩,
   ⟨some 8, .mov (.t 1), some (7, false)⟩,
   ⟨some 9, .bin .quo false (.t 8) (.c (iv 64)), some (7, false)⟩,
   ⟨some 10, .mov (.t 0), some (7, false)⟩,
   ⟨some 11, .len (.t 10), some (7, false)⟩,
   ⟨some 12, .bin .geq false (.t 9) (.t 11), some (7, false)⟩,
   ⟨some 13, .pick (.t 7) (.c (bv true)) (.t 12), none⟩]) (.cond (.t 13) (.seq (.region false [⟨some 4, .mov (.c (iv 0)), none⟩]) .ret) .skip)) (.seq (.region false [⟨some 14, .mov (.t 0), none⟩,
   ⟨some 15, .mov (.t 1), none⟩,
   ⟨some 16, .bin .quo false (.t 15) (.c (iv 64)), none⟩,
   ⟨some 17, .ixa 1 (.t 14) (.t 16), none⟩,
   ⟨some 18, .load none (.t 17), none⟩,
   ⟨some 19, .mov (.t 1), none⟩,
   ⟨some 20, .bin .rem false (.t 19) (.c (iv 64)), none⟩,
   ⟨some 21, .conv .u64 (.t 20), none⟩,
   ⟨some 22, .bin .shr false (.t 18) (.t 21), none⟩,
   ⟨some 23, .bin .and false (.t 22) (.c (nv 1)), none⟩,
   ⟨some 24, .conv .i64 (.t 23), none⟩,
   ⟨some 4, .mov (.t 24), none⟩]) .ret))
def R.nat_Bit : List VRes := [.tmp 4]
theorem K.nat_Bit : resCode Tryz.prog Tryz.f172.ntmps (Tryz.f172.body.getD .skip) = C.nat_Bit := by kernel_rfl
theorem Q.nat_Bit : resResults Tryz.prog Tryz.f172.results.toList = some R.nat_Bit := by kernel_rfl
theorem E.nat_Bit : Tryz.prog.funcs[F.nat_Bit]? = some Tryz.f172 := Tryz.func172
theorem B.nat_Bit : Tryz.f172.body = some (Tryz.f172.body.getD .skip) := by kernel_rfl
theorem N.nat_Bit : Tryz.f172.ntmps = 25 := Tryz.ntmps172

def C.nat_From : VC :=
  .seq (.region false [⟨some 2, .mov (.c nil1), none⟩]) (.seq (.seq (.region false [⟨some 3, .mov (.t 0), none⟩,
   ⟨some 4, .bin .eql false (.t 3) (.c (nv 0)), none⟩]) (.cond (.t 4) (.seq (.region false [⟨some 2, .mov (.c nil1), none⟩]) .ret) .skip)) (.seq (.region false [⟨some 5, .mov (.t 0), none⟩,
   ⟨some 6, .bsl true 1 1 [.int .u64 0] [(0, (1, .t 5))], none⟩,
   ⟨some 2, .mov (.t 6), none⟩]) .ret))
def R.nat_From : List VRes := [.tmp 2]
theorem K.nat_From : resCode Tryz.prog Tryz.f173.ntmps (Tryz.f173.body.getD .skip) = C.nat_From := by kernel_rfl
theorem Q.nat_From : resResults Tryz.prog Tryz.f173.results.toList = some R.nat_From := by kernel_rfl
theorem E.nat_From : Tryz.prog.funcs[F.nat_From]? = some Tryz.f173 := Tryz.func173
theorem B.nat_From : Tryz.f173.body = some (Tryz.f173.body.getD .skip) := by kernel_rfl
theorem N.nat_From : Tryz.f173.ntmps = 7 := Tryz.ntmps173

def C.dyadic_limb : VC :=
  .seq (.region false [⟨some 4, .mov (.c (nv 0)), none⟩]) (.seq (.seq (.region false [⟨some 5, .mov (.t 1), none⟩,
   ⟨some 6, .mov (.t 0), none⟩,
   ⟨some 7, .len (.t 6), none⟩,
   ⟨some 8, .bin .lss false (.t 5) (.t 7), none⟩]) (.cond (.t 8) (.seq (.region false [⟨some 9, .mov (.t 0), none⟩,
   ⟨some 10, .mov (.t 1), none⟩,
   ⟨some 11, .ixa 1 (.t 9) (.t 10), none⟩,
   ⟨some 12, .load none (.t 11), none⟩,
   ⟨some 4, .mov (.t 12), none⟩]) .ret) .skip)) (.seq (.region false [⟨some 4, .mov (.c (nv 0)), none⟩]) .ret))
def R.dyadic_limb : List VRes := [.tmp 4]
theorem K.dyadic_limb : resCode Tryz.prog Tryz.f178.ntmps (Tryz.f178.body.getD .skip) = C.dyadic_limb := by kernel_rfl
theorem Q.dyadic_limb : resResults Tryz.prog Tryz.f178.results.toList = some R.dyadic_limb := by kernel_rfl
theorem E.dyadic_limb : Tryz.prog.funcs[F.dyadic_limb]? = some Tryz.f178 := Tryz.func178
theorem B.dyadic_limb : Tryz.f178.body = some (Tryz.f178.body.getD .skip) := by kernel_rfl
theorem N.dyadic_limb : Tryz.f178.ntmps = 13 := Tryz.ntmps178

def C.nat_told : VC :=
  .seq (.region false [⟨some 2, .mov (.c nil1), none⟩,
   ⟨some 3, .mov (.c (iv 0)), none⟩]) (.seq (.region false [⟨some 4, .mov (.t 0), none⟩,
   ⟨some 5, .call F.nat_trim [.t 4], none⟩,
   ⟨some 0, .mov (.t 5), none⟩]) (.seq (.seq (.region false [⟨some 6, .mov (.t 0), none⟩,
   ⟨some 7, .call F.nat_Length [.t 6], none⟩,
   ⟨some 8, .bin .gtr false (.t 7) (.c (iv 67108864)), none⟩]) (.cond (.t 8) (.seq (.region false [⟨some 2, .mov (.c nil1), none⟩,
   ⟨some 3, .mov (.c (iv 3)), none⟩]) .ret) .skip)) (.seq (.region false [⟨some 9, .mov (.t 0), none⟩,
   ⟨some 2, .mov (.t 9), none⟩,
   ⟨some 3, .mov (.c (iv 0)), none⟩]) .ret)))
def R.nat_told : List VRes := [.tmp 2, .tmp 3]
theorem K.nat_told : resCode Tryz.prog Tryz.f180.ntmps (Tryz.f180.body.getD .skip) = C.nat_told := by kernel_rfl
theorem Q.nat_told : resResults Tryz.prog Tryz.f180.results.toList = some R.nat_told := by kernel_rfl
theorem E.nat_told : Tryz.prog.funcs[F.nat_told]? = some Tryz.f180 := Tryz.func180
theorem B.nat_told : Tryz.f180.body = some (Tryz.f180.body.getD .skip) := by kernel_rfl
theorem N.nat_told : Tryz.f180.ntmps = 10 := Tryz.ntmps180

def C.bits_TrailingZeros64 : VC :=
  .seq (.region false [⟨some 2, .mov (.c (iv 0)), none⟩]) (.seq (.seq (.region false [⟨some 3, .mov (.t 0), none⟩,
   ⟨some 4, .bin .eql false (.t 3) (.c (nv 0)), none⟩]) (.cond (.t 4) (.seq (.region false [⟨some 2, .mov (.c (iv 64)), none⟩]) .ret) .skip)) (.seq (.region false [⟨some 5, .mov (.t 0), none⟩,
   ⟨some 6, .mov (.t 0), none⟩,
   ⟨some 7, .un .neg (.t 6), none⟩,
   ⟨some 8, .bin .and false (.t 5) (.t 7), none⟩,
   ⟨some 9, .bin .mul false (.t 8) (.c (nv 285870213051353865)), none⟩,
   ⟨some 10, .bin .shr false (.t 9) (.c (nv 58)), none⟩,
   ⟨some 11, .axa 64 1 (.c (.gptr 0 0)) (.t 10), none⟩,
   ⟨some 12, .load none (.t 11), none⟩,
   ⟨some 13, .conv .i64 (.t 12), none⟩,
   ⟨some 2, .mov (.t 13), none⟩]) .ret))
def R.bits_TrailingZeros64 : List VRes := [.tmp 2]
theorem K.bits_TrailingZeros64 : resCode Tryz.prog Tryz.f182.ntmps (Tryz.f182.body.getD .skip) = C.bits_TrailingZeros64 := by kernel_rfl
theorem Q.bits_TrailingZeros64 : resResults Tryz.prog Tryz.f182.results.toList = some R.bits_TrailingZeros64 := by kernel_rfl
theorem E.bits_TrailingZeros64 : Tryz.prog.funcs[F.bits_TrailingZeros64]? = some Tryz.f182 := Tryz.func182
theorem B.bits_TrailingZeros64 : Tryz.f182.body = some (Tryz.f182.body.getD .skip) := by kernel_rfl
theorem N.bits_TrailingZeros64 : Tryz.f182.ntmps = 14 := Tryz.ntmps182

def C.nat_Right : VC :=
  .seq (.region false [⟨some 4, .mov (.c nil1), none⟩,
   ⟨some 5, .mov (.c (iv 0)), none⟩]) (.seq (.seq (.region false [⟨some 10, .mov (.t 1), none⟩,
   ⟨some 11, .bin .lss false (.t 10) (.c (iv 0)), none⟩,
   ⟨some 12, .mov (.t 11), none⟩,
   ⟨some 13, .mov (.t 1), some (12, false)⟩,
   ⟨some 14, .bin .gtr false (.t 13) (.c (iv 1099511627776)), some (12, false)⟩,
   ⟨some 15, .pick (.t 12) (.c (bv true)) (.t 14), none⟩]) (.cond (.t 15) (.seq (.region false [⟨some 4, .mov (.c nil1), none⟩,
   ⟨some 5, .mov (.c (iv 1)), none⟩]) .ret) .skip)) (.seq (.region false [⟨some 16, .mov (.t 0), none⟩,
   ⟨some 17, .call F.nat_trim [.t 16], none⟩,
   ⟨some 0, .mov (.t 17), none⟩]) (.seq (.region false [⟨some 18, .mov (.t 1), none⟩,
   ⟨some 19, .bin .quo false (.t 18) (.c (iv 64)), none⟩,
   ⟨some 20, .mov (.t 1), none⟩,
   ⟨some 21, .bin .rem false (.t 20) (.c (iv 64)), none⟩,
   ⟨some 22, .conv .u64 (.t 21), none⟩,
   ⟨some 6, .mov (.t 19), none⟩,
   ⟨some 7, .mov (.t 22), none⟩]) (.seq (.seq (.region false [⟨some 23, .mov (.t 6), none⟩,
   ⟨some 24, .mov (.t 0), none⟩,
   ⟨some 25, .len (.t 24), none⟩,
   ⟨some 26, .bin .geq false (.t 23) (.t 25), none⟩]) (.cond (.t 26) (.seq (.region false [⟨some 4, .mov (.c nil1), none⟩,
   ⟨some 5, .mov (.c (iv 0)), none⟩]) .ret) .skip)) (.seq (.region false [⟨some 27, .mov (.t 0), none⟩,
   ⟨some 28, .len (.t 27), none⟩,
   ⟨some 29, .mov (.t 6), none⟩,
   ⟨some 30, .bin .sub false (.t 28) (.t 29), none⟩,
   ⟨some 31, .mk [.int .u64 0] 8 (.t 30) (.t 30), none⟩,
   ⟨some 8, .mov (.t 31), none⟩]) (.seq (.seq (.region false [⟨some 32, .mov (.t 8), none⟩,
   ⟨some 33, .len (.t 32), none⟩,
   ⟨some 34, .mov (.c (iv 0)), none⟩]) (.block 0 (.loop (.seq (.region false [⟨some 35, .bin .lss false (.t 34) (.t 33), none⟩]) (.seq (.cond (.t 35) .skip (.exit 0)) (.seq (.block 1 (.seq (.region false [⟨some 36, .mov (.t 34), none⟩,
   ⟨some 9, .mov (.t 36), none⟩]) (.seq (.region false [⟨some 37, .mov (.t 8), none⟩,
   ⟨some 38, .mov (.t 9), none⟩,
   ⟨some 39, .mov (.t 0), none⟩,
   ⟨some 40, .mov (.t 6), none⟩,
   ⟨some 41, .mov (.t 9), none⟩,
   ⟨some 42, .bin .add false (.t 40) (.t 41), none⟩,
   ⟨some 43, .ixa 1 (.t 39) (.t 42), none⟩,
   ⟨some 44, .load none (.t 43), none⟩,
   ⟨some 45, .mov (.t 7), none⟩,
   ⟨some 46, .bin .shr false (.t 44) (.t 45), none⟩,
   ⟨some 47, .ixa 1 (.t 37) (.t 38), none⟩,
   ⟨none, .store 1 (.t 47) (.t 46), none⟩]) (.seq (.region false [⟨some 48, .mov (.t 6), none⟩,
   ⟨some 49, .mov (.t 9), none⟩,
   ⟨some 50, .bin .add false (.t 48) (.t 49), none⟩,
   ⟨some 51, .bin .add false (.t 50) (.c (iv 1)), none⟩,
   ⟨some 52, .mov (.t 0), none⟩,
   ⟨some 53, .len (.t 52), none⟩,
   ⟨some 54, .bin .lss false (.t 51) (.t 53), none⟩]) (.cond (.t 54) (.region true [⟨some 55, .mov (.t 8), none⟩,
   ⟨some 56, .mov (.t 9), none⟩,
   ⟨some 57, .ixa 1 (.t 55) (.t 56), none⟩,
   ⟨some 58, .load none (.t 57), none⟩,
   ⟨some 59, .mov (.t 0), none⟩,
   ⟨some 60, .mov (.t 6), none⟩,
   ⟨some 61, .mov (.t 9), none⟩,
   ⟨some 62, .bin .add false (.t 60) (.t 61), none⟩,
   ⟨some 63, .bin .add false (.t 62) (.c (iv 1)), none⟩,
   ⟨some 64, .ixa 1 (.t 59) (.t 63), none⟩,
   ⟨some 65, .load none (.t 64), none⟩,
   ⟨some 66, .bin .shl false (.t 65) (.c (nv 1)), none⟩,
   ⟨some 67, .mov (.t 7), none⟩,
   ⟨some 68, .bin .sub false (.c (nv 63)) (.t 67), none⟩,
   ⟨some 69, .bin .shl false (.t 66) (.t 68), none⟩,
   ⟨some 70, .bin .or false (.t 58) (.t 69), none⟩,
   ⟨some 71, .ixa 1 (.t 55) (.t 56), none⟩,
   ⟨none, .store 1 (.t 71) (.t 70), none⟩]) .skip))))) (.region false [⟨some 72, .bin .add false (.t 34) (.c (iv 1)), none⟩,
   ⟨some 34, .mov (.t 72), none⟩]))))))) (.seq (.region false [⟨some 73, .mov (.t 8), none⟩,
   ⟨some 74, .call F.nat_told [.t 73], none⟩,
   ⟨some 75, .ext (.t 74) 0, none⟩,
   ⟨some 76, .ext (.t 74) 1, none⟩,
   ⟨some 4, .mov (.t 75), none⟩,
   ⟨some 5, .mov (.t 76), none⟩]) .ret)))))))
def R.nat_Right : List VRes := [.tmp 4, .tmp 5]
theorem K.nat_Right : resCode Tryz.prog Tryz.f183.ntmps (Tryz.f183.body.getD .skip) = C.nat_Right := by kernel_rfl
theorem Q.nat_Right : resResults Tryz.prog Tryz.f183.results.toList = some R.nat_Right := by kernel_rfl
theorem E.nat_Right : Tryz.prog.funcs[F.nat_Right]? = some Tryz.f183 := Tryz.func183
theorem B.nat_Right : Tryz.f183.body = some (Tryz.f183.body.getD .skip) := by kernel_rfl
theorem N.nat_Right : Tryz.f183.ntmps = 77 := Tryz.ntmps183

end Go.Proofs.YtacodmnlnlbahaaGreatDoor
set_option linter.unusedSimpArgs false
set_option linter.unusedVariables false
set_option maxRecDepth 100000
set_option maxHeartbeats 4000000
namespace Go.Proofs.YtacodmnlnlbahaaGreatDoor
open Go.VM
theorem hm : Tryz.prog.follows .mixedOrders = true := Tryz.checked.mixed
theorem two64 : 2 ≤ 18446744073709551616 := by decide

theorem getD_snoc (m : List Nat) (x : Nat) : (m ++ [x]).getD m.length 0 = x := by simp
theorem take_snoc' (m : List Nat) (x : Nat) : (m ++ [x]).take m.length = m := by simp

theorem trim_spec (t : Tok) (l : List Nat) (c : Nat) (hl : Lim 18446744073709551616 l) (hn : l.length ≤ 4398046511104) : VSpec Tryz.prog F.nat_trim c [nats t l] (fun r _ => r = nats t (digs 18446744073709551616 (val 18446744073709551616 l))) := by
  rw [← trim_digs two64 hl]
  refine spec_mk hm E.nat_trim B.nat_trim K.nat_trim Q.nat_trim (by rw [N.nat_trim]; simp) ?_
  unfold C.nat_trim R.nat_trim
  refine v_reg ?_
  simp only [vm, ite_true, ite_false, eq_self, reduceIte, Nat.reduceEqDiff, Option.map]
  refine vwp_seq (vwp_block (vwp_loop (fun n S => ∃ l', S.ρ 0 = nats t l' ∧ trimL l' = trimL l ∧ l'.length = n ∧ n ≤ l.length ∧ S.σ = noBlk ∧ S.c = c) l.length ⟨l, rfl, rfl, rfl, Nat.le_refl _, rfl, rfl⟩ ?_))
  rintro n ⟨ρ, σ, k⟩ ⟨l', h0, h1, h2, h3, rfl, rfl⟩
  dsimp only at h0
  refine vwp_seq (v_reg ?_)
  rcases snoc_cases l' with rfl | ⟨m, x, rfl⟩
  · have e : ¬ (0 : Int) < ([] : List Nat).length := by simp
    simp only [vm, ite_true, ite_false, eq_self, reduceIte, Nat.reduceEqDiff, Option.map, h0, e]
    refine v_cond ?_
    simp only [vm, ite_true, ite_false, eq_self, reduceIte, Nat.reduceEqDiff, Option.map]
    refine vwp_exit ?_
    simp only [vm, ite_true, ite_false, eq_self, reduceIte, Nat.reduceEqDiff, Option.map]
    refine v_reg ?_
    simp only [vm, ite_true, ite_false, eq_self, reduceIte, Nat.reduceEqDiff, Option.map, h0]
    refine vwp_ret ?_
    simp only [vm, ite_true, ite_false, eq_self, reduceIte, Nat.reduceEqDiff, Option.map]
    exact ⟨Nat.le_refl _, by rw [← h1]; rfl⟩
  · have e : (0 : Int) < (m ++ [x]).length := by simp
    have e1 : ((m ++ [x]).length - 1 : Int).toNat = m.length := by simp
    have e2 : (m ++ [x]).length = m.length + 1 := by simp
    simp only [vm, ite_true, ite_false, eq_self, reduceIte, Nat.reduceEqDiff, Option.map, h0, e, e1, getD_snoc]
    refine ⟨⟨by omega, by omega⟩, ⟨by omega, by omega⟩, by omega, v_cond ?_⟩
    simp only [vm, ite_true, ite_false, eq_self, reduceIte, Nat.reduceEqDiff, Option.map]
    refine ⟨fun g => vwp_skip ?_, fun g => vwp_exit ?_⟩
    · simp only [vm, ite_true, ite_false, eq_self, reduceIte, Nat.reduceEqDiff, Option.map]
      refine vwp_block (v_last ?_)
      simp only [vm, ite_true, ite_false, eq_self, reduceIte, Nat.reduceEqDiff, Option.map, h0, e1, take_snoc']
      refine ⟨by omega, by omega, m.length, by omega, m, rfl, ?_, rfl, by omega⟩
      rw [← h1, g, trimL_zero]
    · simp only [vm, ite_true, ite_false, eq_self, reduceIte, Nat.reduceEqDiff, Option.map]
      refine v_reg ?_
      simp only [vm, ite_true, ite_false, eq_self, reduceIte, Nat.reduceEqDiff, Option.map, h0]
      refine vwp_ret ?_
      simp only [vm, ite_true, ite_false, eq_self, reduceIte, Nat.reduceEqDiff, Option.map]
      exact ⟨Nat.le_refl _, by rw [← h1, trimL_pos _ _ g]⟩

def Tk (c c' : Nat) (t : Tok) : Prop := t = .nil ∨ ∃ i, t = .id i ∧ c ≤ i ∧ i < c'
theorem Tk.mono {c c' d d' : Nat} {t : Tok} (h : Tk c c' t) (h1 : d ≤ c) (h2 : c' ≤ d') : Tk d d' t := by
  rcases h with rfl | ⟨i, rfl, h3, h4⟩
  · exact .inl rfl
  · exact .inr ⟨i, rfl, by omega, by omega⟩
def NatR (c c' n : Nat) (v : V) : Prop := ∃ t, v = nats t (digs 18446744073709551616 n) ∧ Tk c c' t

theorem norm_spec (t : Tok) (l : List Nat) (c : Nat) (hl : Lim 18446744073709551616 l) (hn : l.length ≤ 4398046511104) : VSpec Tryz.prog F.nat_Norm c [nats t l] (fun r c' => NatR c c' (val 18446744073709551616 l) r) := by
  refine spec_mk hm E.nat_Norm B.nat_Norm K.nat_Norm Q.nat_Norm (by rw [N.nat_Norm]; simp) ?_
  unfold C.nat_Norm R.nat_Norm
  refine v_reg ?_
  simp only [vm, ite_true, ite_false, eq_self, reduceIte, Nat.reduceEqDiff, Option.map]
  refine v_reg ?_
  simp only [vm, ite_true, ite_false, eq_self, reduceIte, Nat.reduceEqDiff, Option.map]
  refine s_call (trim_spec t l c hl hn) (by simp only [vm, ite_true, ite_false, eq_self, reduceIte, Nat.reduceEqDiff, Option.map, List.map]) ?_
  rintro v c' hc rfl
  have hlen := digs_len_le two64 hl
  refine s_app0 (t := t) (l := digs 18446744073709551616 (val 18446744073709551616 l)) (by simp only [vm, ite_true, ite_false, eq_self, reduceIte, Nat.reduceEqDiff, Option.map]) (by simp only [vm, ite_true, ite_false, eq_self, reduceIte, Nat.reduceEqDiff, Option.map]) (by omega) (fun e => ?_) (fun e => ?_)
  · simp only [vm, ite_true, ite_false, eq_self, reduceIte, Nat.reduceEqDiff, Option.map]
    refine vwp_ret ?_
    simp only [vm, ite_true, ite_false, eq_self, reduceIte, Nat.reduceEqDiff, Option.map]
    exact ⟨hc, .nil, by rw [e]; rfl, .inl rfl⟩
  · simp only [vm, ite_true, ite_false, eq_self, reduceIte, Nat.reduceEqDiff, Option.map]
    refine v_freeze 2 (l := digs 18446744073709551616 (val 18446744073709551616 l)) rfl (by simp only [vm, ite_true, ite_false, eq_self, reduceIte, Nat.reduceEqDiff, Option.map]) hc (by omega) ?_
    refine vwp_ret ?_
    simp only [vm, ite_true, ite_false, eq_self, reduceIte, Nat.reduceEqDiff, Option.map, List.drop_zero, List.take_length]
    exact ⟨by omega, .id c', rfl, .inr ⟨c', rfl, hc, by omega⟩⟩

end Go.Proofs.YtacodmnlnlbahaaGreatDoor
set_option linter.unusedSimpArgs false
set_option linter.unusedVariables false
set_option maxRecDepth 100000
set_option maxHeartbeats 8000000
namespace Go.Proofs.YtacodmnlnlbahaaGreatDoor
open Go.VM

structure RowS (σ : Nat → Option Blk) (tL : Nat) (ds : List (Option (Nat × Nat))) : Prop where
  hd : σ tL = some ⟨ds.map rowOf, true⟩
  row : ∀ (i t n : Nat), ds[i]? = some (some (t, n)) → t ≠ tL ∧ n ≤ 4398046511200 ∧ ∃ cells, σ t = some ⟨cells, true⟩ ∧ n ≤ cells.length
  inj : ∀ (i j t n m : Nat), ds[i]? = some (some (t, n)) → ds[j]? = some (some (t, m)) → i = j
def Holds (σ : Nat → Option Blk) (d : Option (Nat × Nat)) (f : Nat → Nat) : Prop := ∀ t n, d = some (t, n) → ∃ cells, σ t = some ⟨cells, true⟩ ∧ ∀ k, k < n → cells[k]? = some (nv (f k))
theorem Holds.none {σ : Nat → Option Blk} {f : Nat → Nat} : Holds σ none f := fun t n h => by cases h
theorem Holds.congr {σ : Nat → Option Blk} {d : Option (Nat × Nat)} {f g : Nat → Nat} (h : Holds σ d f) (e : ∀ t n, d = some (t, n) → ∀ k, k < n → f k = g k) : Holds σ d g := fun t n hd => by
  obtain ⟨cells, h1, h2⟩ := h t n hd
  exact ⟨cells, h1, fun k hk => by rw [h2 k hk, e t n hd k hk]⟩
theorem Holds.put {σ : Nat → Option Blk} {d : Option (Nat × Nat)} {f : Nat → Nat} (h : Holds σ d f) {t : Nat} {b : Option Blk} (ht : ∀ n, d ≠ some (t, n)) : Holds (supd σ t b) d f := fun u n hd => by
  obtain ⟨cells, h1, h2⟩ := h u n hd
  refine ⟨cells, ?_, h2⟩
  rw [supd_app, if_neg (fun e => ht n (by rw [← e]; exact hd))]
  exact h1
theorem RowS.put {σ : Nat → Option Blk} {tL : Nat} {ds : List (Option (Nat × Nat))} (h : RowS σ tL ds) {t : Nat} {cells : List V} (ht : t ≠ tL) (hn : ∀ (i n : Nat), ds[i]? = some (some (t, n)) → n ≤ cells.length) : RowS (supd σ t (some ⟨cells, true⟩)) tL ds := by
  refine ⟨?_, fun i u n hi => ?_, h.inj⟩
  · rw [supd_app, if_neg (Ne.symm ht)]; exact h.hd
  · obtain ⟨h1, h2, cs, h3, h4⟩ := h.row i u n hi
    refine ⟨h1, h2, ?_⟩
    by_cases e : u = t
    · subst e
      exact ⟨cells, supd_same _ _ _, hn i n hi⟩
    · exact ⟨cs, by rw [supd_app, if_neg e]; exact h3, h4⟩
theorem RowS.len {σ : Nat → Option Blk} {tL : Nat} {ds : List (Option (Nat × Nat))} (h : RowS σ tL ds) {i : Nat} {d : Option (Nat × Nat)} (hi : ds[i]? = some d) : (ds.map rowOf)[i]? = some (rowOf d) := by
  rw [List.getElem?_map, hi]; rfl

section
variable {P : Program} {dr : Bool} {c0 : Nat} {ρ : Nat → V} {σ : Nat → Option Blk} {c i : Nat} {r : List VO} {K : VS → Prop}
end
theorem killed_buf {t u o n sz : Nat} {cp : Option Nat} (h : u ≠ t) : killV t (.buf u o n cp sz) = .buf u o n cp sz := by simp [killV, h]
theorem killσ_at {t : Nat} {σ : Nat → Option Blk} {u : Nat} {cs : List V} {b : Bool} (h : σ u = some ⟨cs, b⟩) : killσ t σ u = some ⟨cs.map (killV t), b⟩ := by simp [killσ, h]

theorem Holds.kill {σ : Nat → Option Blk} {d : Option (Nat × Nat)} {f : Nat → Nat} (h : Holds σ d f) (t : Nat) : Holds (killσ t σ) d f := fun u n hd => by
  obtain ⟨cells, h1, h2⟩ := h u n hd
  exact ⟨_, killσ_at h1, fun k hk => by rw [List.getElem?_map, h2 k hk]; rfl⟩

theorem set_get {ds : List (Option (Nat × Nat))} {i j : Nat} {d x : Option (Nat × Nat)} (h : (ds.set i x)[j]? = some d) : (j = i ∧ d = x) ∨ (j ≠ i ∧ ds[j]? = some d) := by
  rw [List.getElem?_set] at h
  split at h
  · rename_i e
    split at h
    · exact .inl ⟨e.symm, by cases h; rfl⟩
    · cases h
  · rename_i e; exact .inr ⟨fun q => e q.symm, h⟩

theorem RowS.grow {σ : Nat → Option Blk} {tL : Nat} {ds : List (Option (Nat × Nat))} (h : RowS σ tL ds) {i t m : Nat} (hi : ds[i]? = some (some (t, m))) {cs ys : List V} (hn : (m + 5 ≤ cs.length)) (hm2 : m + 5 ≤ 4398046511200) :
    RowS (supd (supd (killσ t σ) t (some ⟨cs, true⟩)) tL (some ⟨((ds.map rowOf).map (killV t)).set i (.buf t 0 (m + 5) none 1), true⟩)) tL (ds.set i (some (t, m + 5))) := by
  have hne := (h.row i t m hi).1
  have hil : i < ds.length := (List.getElem?_eq_some_iff.1 hi).1
  refine ⟨?_, fun j u n hj => ?_, fun j k u n n' hj hk => ?_⟩
  · rw [supd_same]
    refine congrArg some (congrArg (fun l => (⟨l, true⟩ : Blk)) ?_)
    refine List.ext_getElem? fun j => ?_
    rw [List.map_set, List.getElem?_set, List.getElem?_set]
    simp only [List.length_map]
    by_cases e : i = j
    · subst e; rw [if_pos rfl, if_pos rfl]; rfl
    · rw [if_neg e, if_neg e, List.getElem?_map, List.getElem?_map]
      cases hj : ds[j]? with
      | none => rfl
      | some d =>
        cases d with
        | none => rfl
        | some q =>
          obtain ⟨u, n⟩ := q
          have : u ≠ t := by rintro rfl; exact e (h.inj i j u m n hi hj)
          simp only [Option.map, rowOf, killed_buf this]
  · rcases set_get hj with ⟨rfl, e⟩ | ⟨e, hj2⟩
    · cases e
      exact ⟨hne, hm2, cs, by rw [supd_ne _ _ _ _ hne, supd_same], hn⟩
    · obtain ⟨q1, q2, cells, q3, q4⟩ := h.row j u n hj2
      have : u ≠ t := by rintro rfl; exact e (h.inj j i u n m hj2 hi)
      exact ⟨q1, q2, _, by rw [supd_ne _ _ _ _ q1, supd_ne _ _ _ _ this]; exact killσ_at q3, by simpa using q4⟩
  · rcases set_get hj with ⟨rfl, e⟩ | ⟨e, hj2⟩ <;> rcases set_get hk with ⟨rfl, e'⟩ | ⟨e', hk2⟩
    · rfl
    · cases e; exact absurd (h.inj _ _ _ _ _ hk2 hi) e'
    · cases e'; exact absurd (h.inj _ _ _ _ _ hj2 hi) e
    · exact h.inj _ _ _ _ _ hj2 hk2
theorem RowS.fresh {σ : Nat → Option Blk} {tL : Nat} {ds : List (Option (Nat × Nat))} (h : RowS σ tL ds) {i t : Nat} (hi : ds[i]? = some none) {cs : List V} (hn : (5 ≤ cs.length)) (hd : ∀ u k, σ u = some k → u < t) :
    RowS (supd (supd σ t (some ⟨cs, true⟩)) tL (some ⟨(ds.map rowOf).set i (.buf t 0 5 none 1), true⟩)) tL (ds.set i (some (t, 5))) := by
  have hne : t ≠ tL := fun e => by have := hd tL _ h.hd; omega
  have hil : i < ds.length := (List.getElem?_eq_some_iff.1 hi).1
  have hnew : ∀ (j u n : Nat), ds[j]? = some (some (u, n)) → u ≠ t := fun j u n hj e => by
    obtain ⟨_, _, cells, q, _⟩ := h.row j u n hj
    have := hd u _ q
    omega
  refine ⟨?_, fun j u n hj => ?_, fun j k u n n' hj hk => ?_⟩
  · rw [supd_same]
    refine congrArg some (congrArg (fun l => (⟨l, true⟩ : Blk)) ?_)
    rw [List.map_set]; rfl
  · rcases set_get hj with ⟨rfl, e⟩ | ⟨e, hj2⟩
    · cases e
      exact ⟨hne, by omega, cs, by rw [supd_ne _ _ _ _ hne, supd_same], hn⟩
    · obtain ⟨q1, q2, cells, q3, q4⟩ := h.row j u n hj2
      exact ⟨q1, q2, cells, by rw [supd_ne _ _ _ _ q1, supd_ne _ _ _ _ (hnew j u n hj2)]; exact q3, q4⟩
  · rcases set_get hj with ⟨rfl, e⟩ | ⟨e, hj2⟩ <;> rcases set_get hk with ⟨rfl, e'⟩ | ⟨e', hk2⟩
    · rfl
    · cases e; exact absurd rfl (hnew _ _ _ hk2)
    · cases e'; exact absurd rfl (hnew _ _ _ hj2)
    · exact h.inj _ _ _ _ _ hj2 hk2

def f1 (j : Nat) : Nat → Nat := fun _ => j % 251 + 1
def f2 (j m : Nat) : Nat → Nat := fun k => if k < m then j % 251 + 1 else 300 + 5 * j + (k - m)
def Dom (σ : Nat → Option Blk) (c : Nat) : Prop := ∀ t k, σ t = some k → t < c
theorem Dom.put {σ : Nat → Option Blk} {c : Nat} (h : Dom σ c) {t : Nat} {b : Option Blk} (ht : t < c) : Dom (supd σ t b) c := fun u k hk => by
  rw [supd_app] at hk
  split at hk
  · rename_i e; rw [e]; exact ht
  · exact h u k hk

end Go.Proofs.YtacodmnlnlbahaaGreatDoor
set_option linter.unusedSimpArgs false
set_option linter.unusedVariables false
set_option maxRecDepth 100000
set_option maxHeartbeats 4000000
namespace Go.Proofs.YtacodmnlnlbahaaGreatDoor
open Go.VM

theorem len64_spec (x c : Nat) (hx : x < 18446744073709551616) : VSpec Tryz.prog F.bits_Len64 c [nv x] (fun r _ => r = iv (bl x)) := by
  refine spec_mk hm E.bits_Len64 B.bits_Len64 K.bits_Len64 Q.bits_Len64 (by rw [N.bits_Len64]; simp) ?_
  unfold C.bits_Len64 R.bits_Len64
  refine v_reg ?_
  simp only [vm, ite_true, ite_false, eq_self, reduceIte, Nat.reduceEqDiff, Option.map]
  refine v_cut (fun S => ∃ n y : Nat, S.ρ 0 = nv y ∧ S.ρ 2 = iv n ∧ y < 4294967296 ∧ bl x = n + bl y ∧ n ≤ 32 ∧ S.σ = noBlk ∧ S.c = c) ?_ ?_
  · refine v_reg ?_
    simp only [vm, ite_true, ite_false, eq_self, reduceIte, Nat.reduceEqDiff, Option.map]
    refine v_cond ?_
    simp only [vm, ite_true, ite_false, eq_self, reduceIte, Nat.reduceEqDiff, Option.map]
    refine ⟨fun g => v_reg ?_, fun g => vwp_skip ⟨rfl, 0, x, ?_⟩⟩
    · simp only [vm, ite_true, ite_false, eq_self, reduceIte, Nat.reduceEqDiff, Option.map]
      refine v_last ?_
      simp only [vm, ite_true, ite_false, eq_self, reduceIte, Nat.reduceEqDiff, Option.map]
      exact ⟨32, x / 4294967296, rfl, rfl, by omega, bl_shift (k := 32) g, by omega⟩
    · simp only [vm, ite_true, ite_false, eq_self, reduceIte, Nat.reduceEqDiff, Option.map]
      exact ⟨rfl, by omega, by omega⟩
  rintro ⟨ρ, σ, k⟩ ⟨n, y, h0, h2, hy, hb, hn, rfl, rfl⟩
  dsimp only at h0 h2
  refine v_cut (fun S => ∃ n y : Nat, S.ρ 0 = nv y ∧ S.ρ 2 = iv n ∧ y < 65536 ∧ bl x = n + bl y ∧ n ≤ 48 ∧ S.σ = noBlk ∧ S.c = k) ?_ ?_
  · refine v_reg ?_
    simp only [vm, ite_true, ite_false, eq_self, reduceIte, Nat.reduceEqDiff, Option.map, h0, h2]
    refine v_cond ?_
    simp only [vm, ite_true, ite_false, eq_self, reduceIte, Nat.reduceEqDiff, Option.map]
    refine ⟨fun g => v_reg ?_, fun g => vwp_skip ⟨rfl, n, y, ?_⟩⟩
    · simp only [vm, ite_true, ite_false, eq_self, reduceIte, Nat.reduceEqDiff, Option.map, h0, h2]
      refine v_last ?_
      simp only [vm, ite_true, ite_false, eq_self, reduceIte, Nat.reduceEqDiff, Option.map, h0, h2]
      refine ⟨by omega, n + 16, y / 65536, rfl, rfl, by omega, ?_, by omega⟩
      rw [hb, bl_shift (k := 16) g, Nat.add_assoc]
    · simp only [vm, ite_true, ite_false, eq_self, reduceIte, Nat.reduceEqDiff, Option.map, h0, h2]
      exact ⟨by omega, hb, by omega⟩
  rintro ⟨ρ, σ, k⟩ ⟨n, y, h0, h2, hy, hb, hn, rfl, rfl⟩
  dsimp only at h0 h2
  refine v_cut (fun S => ∃ n y : Nat, S.ρ 0 = nv y ∧ S.ρ 2 = iv n ∧ y < 256 ∧ bl x = n + bl y ∧ n ≤ 56 ∧ S.σ = noBlk ∧ S.c = k) ?_ ?_
  · refine v_reg ?_
    simp only [vm, ite_true, ite_false, eq_self, reduceIte, Nat.reduceEqDiff, Option.map, h0, h2]
    refine v_cond ?_
    simp only [vm, ite_true, ite_false, eq_self, reduceIte, Nat.reduceEqDiff, Option.map]
    refine ⟨fun g => v_reg ?_, fun g => vwp_skip ⟨rfl, n, y, ?_⟩⟩
    · simp only [vm, ite_true, ite_false, eq_self, reduceIte, Nat.reduceEqDiff, Option.map, h0, h2]
      refine v_last ?_
      simp only [vm, ite_true, ite_false, eq_self, reduceIte, Nat.reduceEqDiff, Option.map, h0, h2]
      refine ⟨by omega, n + 8, y / 256, rfl, rfl, by omega, ?_, by omega⟩
      rw [hb, bl_shift (k := 8) g, Nat.add_assoc]
    · simp only [vm, ite_true, ite_false, eq_self, reduceIte, Nat.reduceEqDiff, Option.map, h0, h2]
      exact ⟨by omega, hb, by omega⟩
  rintro ⟨ρ, σ, k⟩ ⟨n, y, h0, h2, hy, hb, hn, rfl, rfl⟩
  dsimp only at h0 h2
  have h8 : bl y ≤ 8 := bl_le hy
  refine v_reg ?_
  simp only [vm, ite_true, ite_false, eq_self, reduceIte, Nat.reduceEqDiff, Option.map, h0, h2, Nat.mod_eq_of_lt hy]
  rw [six_tab (blTab_at (by decide +kernel) hy)]
  simp only [vm, ite_true, ite_false, eq_self, reduceIte, Nat.reduceEqDiff, Option.map, h0, h2, c_8i (n := bl y) (by omega)]
  refine ⟨by omega, vwp_ret ?_⟩
  simp only [vm, ite_true, ite_false, eq_self, reduceIte, Nat.reduceEqDiff, Option.map]
  refine ⟨Nat.le_refl _, ?_⟩
  rw [hb]; rfl

theorem length_spec (t : Tok) (l : List Nat) (c : Nat) (hl : Lim 18446744073709551616 l) (hn : l.length ≤ 4398046511104) : VSpec Tryz.prog F.nat_Length c [nats t l] (fun r _ => r = iv (bl (val 18446744073709551616 l))) := by
  refine spec_mk hm E.nat_Length B.nat_Length K.nat_Length Q.nat_Length (by rw [N.nat_Length]; simp) ?_
  unfold C.nat_Length R.nat_Length
  refine v_reg ?_
  simp only [vm, ite_true, ite_false, eq_self, reduceIte, Nat.reduceEqDiff, Option.map]
  refine v_reg ?_
  simp only [vm, ite_true, ite_false, eq_self, reduceIte, Nat.reduceEqDiff, Option.map]
  refine s_call (trim_spec t l c hl hn) (by simp only [vm, ite_true, ite_false, eq_self, reduceIte, Nat.reduceEqDiff, Option.map, List.map]) ?_
  rintro v c' hc rfl
  have hlen := digs_len_le two64 hl
  simp only [vm, ite_true, ite_false, eq_self, reduceIte, Nat.reduceEqDiff, Option.map]
  refine vwp_seq (v_reg ?_)
  simp only [vm, ite_true, ite_false, eq_self, reduceIte, Nat.reduceEqDiff, Option.map]
  refine v_cond ?_
  simp only [vm, ite_true, ite_false, eq_self, reduceIte, Nat.reduceEqDiff, Option.map]
  refine ⟨fun g => v_reg ?_, fun g => vwp_skip ?_⟩
  · simp only [vm, ite_true, ite_false, eq_self, reduceIte, Nat.reduceEqDiff, Option.map]
    refine vwp_ret ?_
    simp only [vm, ite_true, ite_false, eq_self, reduceIte, Nat.reduceEqDiff, Option.map]
    have e : digs 18446744073709551616 (val 18446744073709551616 l) = [] := List.eq_nil_of_length_eq_zero (by omega)
    rw [(digs_eq_nil two64).1 e]
    exact ⟨hc, rfl⟩
  · simp only [vm, ite_true, ite_false, eq_self, reduceIte, Nat.reduceEqDiff, Option.map]
    obtain ⟨m, x, e⟩ := snoc_of_ne (l := digs 18446744073709551616 (val 18446744073709551616 l)) (fun e => g (by rw [e]; rfl))
    obtain ⟨h1, h2, h3⟩ := bl_digs64 e
    rw [e] at hlen ⊢
    have e1 : ((m ++ [x]).length - 1 : Int).toNat = m.length := by simp
    have e2 : (m ++ [x]).length = m.length + 1 := by simp
    refine v_reg ?_
    simp only [vm, ite_true, ite_false, eq_self, reduceIte, Nat.reduceEqDiff, Option.map, e1, getD_snoc]
    refine ⟨by omega, by omega, by omega, by omega, by omega, ?_⟩
    refine s_call (len64_spec x c' h2) (by simp only [vm, ite_true, ite_false, eq_self, reduceIte, Nat.reduceEqDiff, Option.map, List.map]) ?_
    rintro v c2 hc2 rfl
    have h8 : bl x ≤ 64 := bl_le h2
    simp only [vm, ite_true, ite_false, eq_self, reduceIte, Nat.reduceEqDiff, Option.map]
    refine ⟨by omega, vwp_ret ?_⟩
    simp only [vm, ite_true, ite_false, eq_self, reduceIte, Nat.reduceEqDiff, Option.map]
    refine ⟨by omega, ?_⟩
    congr 2
    omega
end Go.Proofs.YtacodmnlnlbahaaGreatDoor
set_option linter.unusedSimpArgs false
set_option linter.unusedVariables false
set_option maxRecDepth 100000
set_option maxHeartbeats 4000000
namespace Go.Proofs.YtacodmnlnlbahaaGreatDoor
open Go.VM

theorem told_spec (t : Tok) (l : List Nat) (c : Nat) (hl : Lim 18446744073709551616 l) (hn : l.length ≤ 4398046511104) : VSpec Tryz.prog F.nat_told c [nats t l]
    (fun r _ => r = if bl (val 18446744073709551616 l) ≤ 67108864 then .tup [nats t (digs 18446744073709551616 (val 18446744073709551616 l)), iv 0] else .tup [nil1, iv 3]) := by
  refine spec_mk hm E.nat_told B.nat_told K.nat_told Q.nat_told (by rw [N.nat_told]; simp) ?_
  unfold C.nat_told R.nat_told
  have hlen := digs_len_le two64 hl
  refine v_reg ?_
  simp only [vm, ite_true, ite_false, eq_self, reduceIte, Nat.reduceEqDiff, Option.map]
  refine v_reg ?_
  simp only [vm, ite_true, ite_false, eq_self, reduceIte, Nat.reduceEqDiff, Option.map]
  refine s_call (trim_spec t l c hl hn) (by simp only [vm, ite_true, ite_false, eq_self, reduceIte, Nat.reduceEqDiff, Option.map, List.map]) ?_
  rintro v c' hc rfl
  simp only [vm, ite_true, ite_false, eq_self, reduceIte, Nat.reduceEqDiff, Option.map]
  refine vwp_seq (v_reg ?_)
  simp only [vm, ite_true, ite_false, eq_self, reduceIte, Nat.reduceEqDiff, Option.map]
  refine s_call (length_spec t (digs 18446744073709551616 (val 18446744073709551616 l)) c' (lim_digs two64 _) (by omega)) (by simp only [vm, ite_true, ite_false, eq_self, reduceIte, Nat.reduceEqDiff, Option.map, List.map]) ?_
  rintro v c2 hc2 rfl
  simp only [vm, ite_true, ite_false, eq_self, reduceIte, Nat.reduceEqDiff, Option.map, val_digs two64]
  refine v_cond ?_
  simp only [vm, ite_true, ite_false, eq_self, reduceIte, Nat.reduceEqDiff, Option.map]
  refine ⟨fun g => v_reg ?_, fun g => vwp_skip ?_⟩
  · simp only [vm, ite_true, ite_false, eq_self, reduceIte, Nat.reduceEqDiff, Option.map]
    refine vwp_ret ?_
    simp only [vm, ite_true, ite_false, eq_self, reduceIte, Nat.reduceEqDiff, Option.map]
    exact ⟨by omega, by rw [if_neg (by omega)]⟩
  · simp only [vm, ite_true, ite_false, eq_self, reduceIte, Nat.reduceEqDiff, Option.map]
    refine v_reg ?_
    simp only [vm, ite_true, ite_false, eq_self, reduceIte, Nat.reduceEqDiff, Option.map]
    refine vwp_ret ?_
    simp only [vm, ite_true, ite_false, eq_self, reduceIte, Nat.reduceEqDiff, Option.map]
    exact ⟨by omega, by rw [if_pos (by omega)]⟩

def cmpI (a b : Nat) : Int := if a < b then -1 else if a = b then 0 else 1

theorem compare_spec (t u : Tok) (a b : List Nat) (c : Nat) (ha : Lim 18446744073709551616 a) (hb : Lim 18446744073709551616 b) (hna : a.length ≤ 1099511627776) (hnb : b.length ≤ 1099511627776) : VSpec Tryz.prog F.nat_Compare c [nats t a, nats u b] (fun r _ => r = iv (cmpI (val 18446744073709551616 a) (val 18446744073709551616 b))) := by
  refine spec_mk hm E.nat_Compare B.nat_Compare K.nat_Compare Q.nat_Compare (by rw [N.nat_Compare]; simp) ?_
  unfold C.nat_Compare R.nat_Compare
  have hla := digs_len_le two64 ha
  have hlb := digs_len_le two64 hb
  have hda := lim_digs two64 (val 18446744073709551616 a)
  have hdb := lim_digs two64 (val 18446744073709551616 b)
  refine v_reg ?_
  simp only [vm, ite_true, ite_false, eq_self, reduceIte, Nat.reduceEqDiff, Option.map]
  refine v_reg ?_
  simp only [vm, ite_true, ite_false, eq_self, reduceIte, Nat.reduceEqDiff, Option.map]
  refine s_call (trim_spec t a c ha (by omega)) (by simp only [vm, ite_true, ite_false, eq_self, reduceIte, Nat.reduceEqDiff, Option.map, List.map]) ?_
  rintro v c' hc rfl
  simp only [vm, ite_true, ite_false, eq_self, reduceIte, Nat.reduceEqDiff, Option.map]
  refine s_call (trim_spec u b c' hb (by omega)) (by simp only [vm, ite_true, ite_false, eq_self, reduceIte, Nat.reduceEqDiff, Option.map, List.map]) ?_
  rintro v c2 hc2 rfl
  have va := val_digs two64 (val 18446744073709551616 a)
  have vb := val_digs two64 (val 18446744073709551616 b)
  have hlt := lt_of_len two64 (m := val 18446744073709551616 a) (n := val 18446744073709551616 b)
  have hgt := lt_of_len two64 (m := val 18446744073709551616 b) (n := val 18446744073709551616 a)
  generalize digs 18446744073709551616 (val 18446744073709551616 a) = x at *
  generalize digs 18446744073709551616 (val 18446744073709551616 b) = y at *
  generalize val 18446744073709551616 a = m at *
  generalize val 18446744073709551616 b = n at *
  simp only [vm, ite_true, ite_false, eq_self, reduceIte, Nat.reduceEqDiff, Option.map]
  refine vwp_seq (v_reg ?_)
  simp only [vm, ite_true, ite_false, eq_self, reduceIte, Nat.reduceEqDiff, Option.map]
  refine v_cond ?_
  simp only [vm, ite_true, ite_false, eq_self, reduceIte, Nat.reduceEqDiff, Option.map]
  refine ⟨fun g => vwp_seq (v_reg ?_), fun g => vwp_skip ?_⟩
  · simp only [vm, ite_true, ite_false, eq_self, reduceIte, Nat.reduceEqDiff, Option.map]
    refine v_cond ?_
    simp only [vm, ite_true, ite_false, eq_self, reduceIte, Nat.reduceEqDiff, Option.map]
    refine ⟨fun g2 => v_reg ?_, fun g2 => vwp_skip ?_⟩
    · simp only [vm, ite_true, ite_false, eq_self, reduceIte, Nat.reduceEqDiff, Option.map]
      refine vwp_ret ?_
      simp only [vm, ite_true, ite_false, eq_self, reduceIte, Nat.reduceEqDiff, Option.map]
      exact ⟨by omega, by rw [cmpI, if_pos (hlt (by omega))]⟩
    · simp only [vm, ite_true, ite_false, eq_self, reduceIte, Nat.reduceEqDiff, Option.map]
      refine v_reg ?_
      simp only [vm, ite_true, ite_false, eq_self, reduceIte, Nat.reduceEqDiff, Option.map]
      refine vwp_ret ?_
      simp only [vm, ite_true, ite_false, eq_self, reduceIte, Nat.reduceEqDiff, Option.map]
      have := hgt (by omega)
      exact ⟨by omega, by rw [cmpI, if_neg (by omega), if_neg (by omega)]⟩
  · simp only [vm, ite_true, ite_false, eq_self, reduceIte, Nat.reduceEqDiff, Option.map]
    have hxy : x.length = y.length := by omega
    refine vwp_seq (v_reg ?_)
    simp only [vm, ite_true, ite_false, eq_self, reduceIte, Nat.reduceEqDiff, Option.map]
    refine ⟨by omega, vwp_block (vwp_loop (fun k S => S.ρ 0 = nats t x ∧ S.ρ 1 = nats u y ∧ S.ρ 5 = iv ((k : Int) - 1) ∧ k ≤ x.length ∧ val 18446744073709551616 (x.drop k) = val 18446744073709551616 (y.drop k) ∧ S.σ = noBlk ∧ S.c = c2) x.length ⟨rfl, rfl, rfl, Nat.le_refl _, ?_, rfl, rfl⟩ ?_)⟩
    · rw [List.drop_of_length_le (Nat.le_refl _), hxy, List.drop_of_length_le (Nat.le_refl _)]
    rintro k ⟨ρ, σ, c3⟩ ⟨h0, h1, h5, hk, hv, hσ, hc3⟩
    dsimp only at h0 h1 h5 hσ hc3
    subst hσ hc3
    (repeat (first | refine v_reg ?_ | refine v_last ?_ | refine vwp_seq ?_ | refine vwp_block ?_ | refine vwp_skip ?_ | refine vwp_exit ?_ | refine vwp_ret ?_ | refine v_cond ?_)); simp only [vm, ite_true, ite_false, eq_self, reduceIte, Nat.reduceEqDiff, Option.map, h0, h1, h5]
    (repeat (first | refine v_reg ?_ | refine v_last ?_ | refine vwp_seq ?_ | refine vwp_block ?_ | refine vwp_skip ?_ | refine vwp_exit ?_ | refine vwp_ret ?_ | refine v_cond ?_)); simp only [vm, ite_true, ite_false, eq_self, reduceIte, Nat.reduceEqDiff, Option.map]
    refine ⟨fun g3 => ?_, fun g3 => ?_⟩
    · (repeat (first | refine v_reg ?_ | refine v_last ?_ | refine vwp_seq ?_ | refine vwp_block ?_ | refine vwp_skip ?_ | refine vwp_exit ?_ | refine vwp_ret ?_ | refine v_cond ?_)); simp only [vm, ite_true, ite_false, eq_self, reduceIte, Nat.reduceEqDiff, Option.map]
      obtain ⟨i, rfl⟩ : ∃ i, k = i + 1 := ⟨k - 1, by omega⟩
      have e1 : (((i + 1 : Nat) : Int) - 1).toNat = i := by omega
      (repeat (first | refine v_reg ?_ | refine v_last ?_ | refine vwp_seq ?_ | refine vwp_block ?_ | refine vwp_skip ?_ | refine vwp_exit ?_ | refine vwp_ret ?_ | refine v_cond ?_)); simp only [vm, ite_true, ite_false, eq_self, reduceIte, Nat.reduceEqDiff, Option.map, h0, h1, h5, e1]
      refine ⟨by omega, by omega, by omega, by omega, ?_⟩
      (repeat (first | refine v_reg ?_ | refine v_last ?_ | refine vwp_seq ?_ | refine vwp_block ?_ | refine vwp_skip ?_ | refine vwp_exit ?_ | refine vwp_ret ?_ | refine v_cond ?_)); simp only [vm, ite_true, ite_false, eq_self, reduceIte, Nat.reduceEqDiff, Option.map]
      refine ⟨fun g4 => ?_, fun g4 => ?_⟩
      · (repeat (first | refine v_reg ?_ | refine v_last ?_ | refine vwp_seq ?_ | refine vwp_block ?_ | refine vwp_skip ?_ | refine vwp_exit ?_ | refine vwp_ret ?_ | refine v_cond ?_)); simp only [vm, ite_true, ite_false, eq_self, reduceIte, Nat.reduceEqDiff, Option.map]
        (repeat (first | refine v_reg ?_ | refine v_last ?_ | refine vwp_seq ?_ | refine vwp_block ?_ | refine vwp_skip ?_ | refine vwp_exit ?_ | refine vwp_ret ?_ | refine v_cond ?_)); simp only [vm, ite_true, ite_false, eq_self, reduceIte, Nat.reduceEqDiff, Option.map]
        have := val_lt_of_top two64 hda hdb (i := i) (by omega) (by omega) hxy hv g4
        exact ⟨by omega, by rw [cmpI, if_pos (by omega)]⟩
      · (repeat (first | refine v_reg ?_ | refine v_last ?_ | refine vwp_seq ?_ | refine vwp_block ?_ | refine vwp_skip ?_ | refine vwp_exit ?_ | refine vwp_ret ?_ | refine v_cond ?_)); simp only [vm, ite_true, ite_false, eq_self, reduceIte, Nat.reduceEqDiff, Option.map]
        (repeat (first | refine v_reg ?_ | refine v_last ?_ | refine vwp_seq ?_ | refine vwp_block ?_ | refine vwp_skip ?_ | refine vwp_exit ?_ | refine vwp_ret ?_ | refine v_cond ?_)); simp only [vm, ite_true, ite_false, eq_self, reduceIte, Nat.reduceEqDiff, Option.map, h0, h1, h5, e1]
        refine ⟨by omega, by omega, by omega, by omega, ?_⟩
        (repeat (first | refine v_reg ?_ | refine v_last ?_ | refine vwp_seq ?_ | refine vwp_block ?_ | refine vwp_skip ?_ | refine vwp_exit ?_ | refine vwp_ret ?_ | refine v_cond ?_)); simp only [vm, ite_true, ite_false, eq_self, reduceIte, Nat.reduceEqDiff, Option.map]
        refine ⟨fun g5 => ?_, fun g5 => ?_⟩
        · (repeat (first | refine v_reg ?_ | refine v_last ?_ | refine vwp_seq ?_ | refine vwp_block ?_ | refine vwp_skip ?_ | refine vwp_exit ?_ | refine vwp_ret ?_ | refine v_cond ?_)); simp only [vm, ite_true, ite_false, eq_self, reduceIte, Nat.reduceEqDiff, Option.map]
          (repeat (first | refine v_reg ?_ | refine v_last ?_ | refine vwp_seq ?_ | refine vwp_block ?_ | refine vwp_skip ?_ | refine vwp_exit ?_ | refine vwp_ret ?_ | refine v_cond ?_)); simp only [vm, ite_true, ite_false, eq_self, reduceIte, Nat.reduceEqDiff, Option.map]
          have := val_lt_of_top two64 hdb hda (i := i) (by omega) (by omega) hxy.symm hv.symm g5
          exact ⟨by omega, by rw [cmpI, if_neg (by omega), if_neg (by omega)]⟩
        · (repeat (first | refine v_reg ?_ | refine v_last ?_ | refine vwp_seq ?_ | refine vwp_block ?_ | refine vwp_skip ?_ | refine vwp_exit ?_ | refine vwp_ret ?_ | refine v_cond ?_)); simp only [vm, ite_true, ite_false, eq_self, reduceIte, Nat.reduceEqDiff, Option.map]
          (repeat (first | refine v_reg ?_ | refine v_last ?_ | refine vwp_seq ?_ | refine vwp_block ?_ | refine vwp_skip ?_ | refine vwp_exit ?_ | refine vwp_ret ?_ | refine v_cond ?_)); simp only [vm, ite_true, ite_false, eq_self, reduceIte, Nat.reduceEqDiff, Option.map, h0, h1, h5]
          refine ⟨by omega, i, by omega, congrArg iv (by omega), by omega, ?_⟩
          rw [val_drop (l := x) (i := i) (by omega), val_drop (l := y) (i := i) (by omega), hv, show x.getD i 0 = y.getD i 0 by omega]
    · (repeat (first | refine v_reg ?_ | refine v_last ?_ | refine vwp_seq ?_ | refine vwp_block ?_ | refine vwp_skip ?_ | refine vwp_exit ?_ | refine vwp_ret ?_ | refine v_cond ?_)); simp only [vm, ite_true, ite_false, eq_self, reduceIte, Nat.reduceEqDiff, Option.map]
      (repeat (first | refine v_reg ?_ | refine v_last ?_ | refine vwp_seq ?_ | refine vwp_block ?_ | refine vwp_skip ?_ | refine vwp_exit ?_ | refine vwp_ret ?_ | refine v_cond ?_)); simp only [vm, ite_true, ite_false, eq_self, reduceIte, Nat.reduceEqDiff, Option.map]
      (repeat (first | refine v_reg ?_ | refine v_last ?_ | refine vwp_seq ?_ | refine vwp_block ?_ | refine vwp_skip ?_ | refine vwp_exit ?_ | refine vwp_ret ?_ | refine v_cond ?_)); simp only [vm, ite_true, ite_false, eq_self, reduceIte, Nat.reduceEqDiff, Option.map]
      have hk0 : k = 0 := by omega
      subst hk0
      rw [List.drop_zero, List.drop_zero] at hv
      exact ⟨by omega, by rw [cmpI, if_neg (by omega), if_pos (by omega)]⟩
end Go.Proofs.YtacodmnlnlbahaaGreatDoor
set_option linter.unusedSimpArgs false
set_option linter.unusedVariables false
set_option maxRecDepth 100000
set_option maxHeartbeats 4000000
namespace Go.Proofs.YtacodmnlnlbahaaGreatDoor
open Go.VM

def Told (c c' n : Nat) (v : V) : Prop := (bl n ≤ 67108864 ∧ ∃ t, v = .tup [nats t (digs 18446744073709551616 n), iv 0] ∧ Tk c c' t) ∨ (67108864 < bl n ∧ v = .tup [nil1, iv 3])

end Go.Proofs.YtacodmnlnlbahaaGreatDoor
set_option linter.unusedSimpArgs false
set_option linter.unusedVariables false
set_option maxRecDepth 100000
set_option maxHeartbeats 4000000
namespace Go.Proofs.YtacodmnlnlbahaaGreatDoor
open Go.VM

end Go.Proofs.YtacodmnlnlbahaaGreatDoor
set_option linter.unusedSimpArgs false
set_option linter.unusedVariables false
set_option maxRecDepth 100000
set_option maxHeartbeats 4000000
namespace Go.Proofs.YtacodmnlnlbahaaGreatDoor
open Go.VM

end Go.Proofs.YtacodmnlnlbahaaGreatDoor
set_option linter.unusedSimpArgs false
set_option linter.unusedVariables false
set_option maxRecDepth 100000
set_option maxHeartbeats 4000000
namespace Go.Proofs.YtacodmnlnlbahaaGreatDoor
open Go.VM

end Go.Proofs.YtacodmnlnlbahaaGreatDoor
set_option linter.unusedSimpArgs false
set_option linter.unusedVariables false
set_option maxRecDepth 100000
set_option maxHeartbeats 4000000
namespace Go.Proofs.YtacodmnlnlbahaaGreatDoor
open Go.VM

theorem left_spec (t : Tok) (a : List Nat) (n c : Nat) (ha : Lim 18446744073709551616 a) (hn : n ≤ 1099511627776) (hna : a.length ≤ 1099511627776) :
    VSpec Tryz.prog F.nat_Left c [nats t a, iv n] (fun r c' => Told c c' (val 18446744073709551616 a * 2 ^ n) r) := by
  refine spec_mk hm E.nat_Left B.nat_Left K.nat_Left Q.nat_Left (by rw [N.nat_Left]; simp) ?_
  unfold C.nat_Left R.nat_Left
  have hla := digs_len_le two64 ha
  have g1 : ¬ (n : Int) < 0 := by omega
  have g2 : ¬ (1099511627776 : Int) < n := by omega
  (repeat (first | refine v_reg ?_ | refine v_last ?_ | refine vwp_seq ?_ | refine vwp_block ?_ | refine vwp_skip ?_ | refine vwp_exit ?_ | refine vwp_ret ?_ | refine v_cond ?_ | simp only [vm, ite_true, ite_false, eq_self, reduceIte, Nat.reduceEqDiff, Option.map, g1, g2] | refine And.intro (by omega) ?_))
  refine s_call (trim_spec t a c ha (by omega)) (by simp only [vm, ite_true, ite_false, eq_self, reduceIte, Nat.reduceEqDiff, Option.map, List.map]) ?_
  rintro v c2 hc2 rfl
  have hx := lim_digs two64 (val 18446744073709551616 a)
  have va := val_digs two64 (val 18446744073709551616 a)
  have hz := digs_eq_nil two64 (n := val 18446744073709551616 a)
  generalize digs 18446744073709551616 (val 18446744073709551616 a) = x at *
  by_cases hx0 : x = []
  · have g3 : (x.length : Int) = 0 := by rw [hx0]; rfl
    (repeat (first | refine v_reg ?_ | refine v_last ?_ | refine vwp_seq ?_ | refine vwp_block ?_ | refine vwp_skip ?_ | refine vwp_exit ?_ | refine vwp_ret ?_ | refine v_cond ?_ | simp only [vm, ite_true, ite_false, eq_self, reduceIte, Nat.reduceEqDiff, Option.map, g1, g2, g3] | refine And.intro (by omega) ?_))
    have := hz.1 hx0
    rw [this, Nat.zero_mul]
    exact .inl ⟨by decide, .nil, rfl, .inl rfl⟩
  have hpos : 0 < val 18446744073709551616 a := by
    rcases Nat.eq_zero_or_pos (val 18446744073709551616 a) with h | h
    · exact absurd (hz.2 h) hx0
    · exact h
  have hxl : 0 < x.length := List.length_pos_iff.2 hx0
  have g3 : ¬ (x.length : Int) = 0 := by omega
  (repeat (first | refine v_reg ?_ | refine v_last ?_ | refine vwp_seq ?_ | refine vwp_block ?_ | refine vwp_skip ?_ | refine vwp_exit ?_ | refine vwp_ret ?_ | refine v_cond ?_ | simp only [vm, ite_true, ite_false, eq_self, reduceIte, Nat.reduceEqDiff, Option.map, g1, g2, g3] | refine And.intro (by omega) ?_))
  refine s_call (length_spec t x c2 hx (by omega)) (by simp only [vm, ite_true, ite_false, eq_self, reduceIte, Nat.reduceEqDiff, Option.map, List.map]) ?_
  rintro v c3 hc3 rfl
  rw [va]
  have hbl : bl (val 18446744073709551616 a) ≤ 64 * x.length := by
    refine bl_le ?_
    have := val_lt hx
    rw [va, pow64] at this
    exact this
  have hmul := bl_mul_pow (n := n) hpos
  by_cases g4 : (67108864 : Int) < (bl (val 18446744073709551616 a) : Int) + n
  · (repeat (first | refine v_reg ?_ | refine v_last ?_ | refine vwp_seq ?_ | refine vwp_block ?_ | refine vwp_skip ?_ | refine vwp_exit ?_ | refine vwp_ret ?_ | refine v_cond ?_ | simp only [vm, ite_true, ite_false, eq_self, reduceIte, Nat.reduceEqDiff, Option.map, g4] | refine And.intro (by omega) ?_))
    exact .inr ⟨by omega, rfl⟩
  have hns : ((n : Int) % 64).toNat = n % 64 := by omega
  have hnw : (n : Int) / 64 = ((n / 64 : Nat) : Int) := by omega
  (repeat (first | refine v_reg ?_ | refine v_last ?_ | refine vwp_seq ?_ | refine vwp_block ?_ | refine vwp_skip ?_ | refine vwp_exit ?_ | refine vwp_ret ?_ | refine v_cond ?_ | simp only [vm, ite_true, ite_false, eq_self, reduceIte, Nat.reduceEqDiff, Option.map, g4, hns, hnw] | refine And.intro (by omega) ?_))
  refine s_mk (n := n / 64 + x.length + 1) (m := n / 64 + x.length + 1) (by simp only [vm, ite_true, ite_false, eq_self, reduceIte, Nat.reduceEqDiff, Option.map]; rfl) (by simp only [vm, ite_true, ite_false, eq_self, reduceIte, Nat.reduceEqDiff, Option.map]; rfl) (Nat.le_refl _) (by omega) ?_
  have hs : n % 64 < 64 := Nat.mod_lt _ (by decide)
  have hpow : val 18446744073709551616 x * 2 ^ n = 18446744073709551616 ^ (n / 64) * (val 18446744073709551616 x * 2 ^ (n % 64)) := by
    rw [pow64, Nat.mul_left_comm, ← Nat.pow_add, show 64 * (n / 64) + n % 64 = n by omega]
  generalize n / 64 = wd at *
  generalize n % 64 = s at *
  (repeat (first | refine v_reg ?_ | refine v_last ?_ | refine vwp_seq ?_ | refine vwp_block ?_ | refine vwp_skip ?_ | refine vwp_exit ?_ | refine vwp_ret ?_ | refine v_cond ?_ | simp only [vm, ite_true, ite_false, eq_self, reduceIte, Nat.reduceEqDiff, Option.map] | refine And.intro (by omega) ?_))
  refine v_loop (fun S => ∃ w, w.length = wd + x.length + 1 ∧ Lim 18446744073709551616 w ∧ val 18446744073709551616 w = val 18446744073709551616 x * 2 ^ n ∧ S.ρ 8 = .buf c3 0 (wd + x.length + 1) (some (wd + x.length + 1)) 1 ∧ S.σ = supd noBlk c3 (nblk w) ∧ c3 + 1 ≤ S.c) ?_ ?_
  · refine vwp_loop (fun k S => ∃ i w top, k = x.length - i ∧ i ≤ x.length ∧ w.length = i ∧ Lim 18446744073709551616 w ∧ top < 2 ^ s ∧ val 18446744073709551616 (w ++ [top]) = val 18446744073709551616 (x.take i) * 2 ^ s ∧ S.ρ 38 = nats t x ∧ S.ρ 6 = iv wd ∧ S.ρ 7 = nv s ∧ S.ρ 39 = iv x.length ∧ S.ρ 40 = iv i ∧ S.ρ 8 = .buf c3 0 (wd + x.length + 1) (some (wd + x.length + 1)) 1 ∧ S.σ = supd noBlk c3 (nblk ((List.replicate wd 0 ++ w) ++ top :: List.replicate (x.length - i) 0)) ∧ c3 + 1 ≤ S.c) x.length ?_ ?_
    · refine ⟨0, [], 0, by omega, by omega, ?_⟩
      simp only [vm, ite_true, ite_false, eq_self, reduceIte, Nat.reduceEqDiff, Option.map]
      have e0 : List.replicate (wd + x.length + 1) 0 = (List.replicate wd 0 ++ []) ++ 0 :: List.replicate (x.length - 0) 0 := by
        rw [List.append_nil, Nat.sub_zero, Nat.add_assoc, ← List.replicate_append_replicate, List.replicate_succ]
      (repeat' apply And.intro) <;> first | rfl | omega | assumption | exact Lim.nil | exact Nat.two_pow_pos s | (simp [val]; done) | (rw [e0])
    rintro k ⟨ρ2, σ, c4⟩ ⟨i, w, top, hk, hi, hw, hlw, ht, hinv, h38, h6, h7, h39, h40, h8, hσ, hc4⟩
    dsimp only at h38 h6 h7 h39 h40 h8 hσ hc4
    subst hσ
    by_cases g : (i : Int) < x.length
    · have hi' : i < x.length := by omega
      have hxi := hx.getD (i := i) (by decide)
      obtain ⟨p1, p2, p3⟩ := shl_parts hs hxi
      obtain ⟨o1, o2⟩ := or_top hs hxi ht
      have hlo := Nat.mod_lt (x.getD i 0 * 2 ^ s) (show 0 < 18446744073709551616 by decide)
      have e1 : ((wd : Int) + (i : Int)).toNat = wd + i := by omega
      have e2 : ((wd : Int) + (i : Int) + 1).toNat = wd + i + 1 := by omega
      have e3 : min s 64 = s := by omega
      have e4 : (63 + (18446744073709551616 - s % 18446744073709551616)) % 18446744073709551616 = 63 - s := by omega
      have e5 : min (63 - s) 64 = 63 - s := by omega
      have hps : 2 ^ s ≤ 18446744073709551616 := Nat.le_trans (Nat.pow_le_pow_right (by decide) (show s ≤ 64 by omega)) (by decide)
      have e6 : top % 18446744073709551616 = top := Nat.mod_eq_of_lt (by omega)
      have e7 : x.getD i 0 / 2 / 2 ^ (63 - s) % 18446744073709551616 = x.getD i 0 / 2 / 2 ^ (63 - s) := Nat.mod_eq_of_lt (by omega)
      have hl1 : (List.replicate wd 0 ++ w).length = wd + i := by simp; omega
      have hget1 : ((List.replicate wd 0 ++ w) ++ top :: List.replicate (x.length - i) 0).getD (wd + i) 0 = top := by
        rw [← hl1]; exact getD_at _ _ _
      have hlen1 : ((List.replicate wd 0 ++ w) ++ top :: List.replicate (x.length - i) 0).length = wd + x.length + 1 := by simp; omega
      have hset1 : ∀ v, ((List.replicate wd 0 ++ w) ++ top :: List.replicate (x.length - i) 0).set (wd + i) v = ((List.replicate wd 0 ++ w) ++ [v]) ++ 0 :: List.replicate (x.length - (i + 1)) 0 := fun v => by
        rw [← hl1, set_at, show x.length - i = x.length - (i + 1) + 1 by omega, List.replicate_succ]; simp
      have hl2 : ∀ v, ((List.replicate wd 0 ++ w) ++ [v]).length = wd + i + 1 := fun v => by simp; omega
      have hget2 : ∀ v, (((List.replicate wd 0 ++ w) ++ [v]) ++ 0 :: List.replicate (x.length - (i + 1)) 0).getD (wd + i + 1) 0 = 0 := fun v => by
        rw [← hl2 v]; exact getD_at _ _ _
      have hlen2 : ∀ v, (((List.replicate wd 0 ++ w) ++ [v]) ++ 0 :: List.replicate (x.length - (i + 1)) 0).length = wd + x.length + 1 := fun v => by simp; omega
      have hset2 : ∀ v u, (((List.replicate wd 0 ++ w) ++ [v]) ++ 0 :: List.replicate (x.length - (i + 1)) 0).set (wd + i + 1) u = (List.replicate wd 0 ++ (w ++ [v])) ++ u :: List.replicate (x.length - (i + 1)) 0 := fun v u => by
        rw [← hl2 v, set_at, List.append_assoc (List.replicate wd 0)]
      have key := shl_step (i := i) hw hinv p1
      rw [← Nat.mul_assoc, ← Nat.add_mul, ← val_take (l := x) (i := i) hi'] at key
      (repeat (first | refine v_reg ?_ | refine v_last ?_ | refine vwp_seq ?_ | refine vwp_block ?_ | refine vwp_skip ?_ | refine vwp_exit ?_ | refine vwp_ret ?_ | refine v_cond ?_ | simp only [vm, ite_true, ite_false, eq_self, reduceIte, Nat.reduceEqDiff, Option.map, h38, h6, h7, h39, h40, h8, g, e1, e2, e3, e4, e5, hget1, hlen1, hset1, u_or, e6, Nat.mod_mod, o1, hget2, hlen2, hset2, e7, Nat.zero_mod, Nat.zero_or] | refine And.intro (by omega) ?_))
      refine ⟨x.length - (i + 1), by omega, i + 1, w ++ [top + x.getD i 0 * 2 ^ s % 18446744073709551616], x.getD i 0 / 2 / 2 ^ (63 - s), ?_⟩
      (repeat' apply And.intro) <;> first | rfl | omega | assumption | (simp [hw]; done) | exact lim_snoc hlw o2 | exact key
    · have hi' : i = x.length := by omega
      subst hi'
      (repeat (first | refine v_reg ?_ | refine v_last ?_ | refine vwp_seq ?_ | refine vwp_block ?_ | refine vwp_skip ?_ | refine vwp_exit ?_ | refine vwp_ret ?_ | refine v_cond ?_ | simp only [vm, ite_true, ite_false, eq_self, reduceIte, Nat.reduceEqDiff, Option.map, h38, h6, h7, h39, h40, h8, g] | refine And.intro (by omega) ?_))
      rw [List.take_length] at hinv
      have hps : 2 ^ s ≤ 18446744073709551616 := Nat.le_trans (Nat.pow_le_pow_right (by decide) (show s ≤ 64 by omega)) (by decide)
      refine ⟨(List.replicate wd 0 ++ w) ++ [top], ?_⟩
      have e0 : (List.replicate wd 0 ++ w) ++ top :: List.replicate (x.length - x.length) 0 = (List.replicate wd 0 ++ w) ++ [top] := by simp
      rw [e0]
      have hvv : val 18446744073709551616 ((List.replicate wd 0 ++ w) ++ [top]) = val 18446744073709551616 x * 2 ^ n := by
        rw [List.append_assoc, val_zeros, hinv, hpow]
      (repeat' apply And.intro) <;> first | rfl | omega | assumption | (simp [hw]; omega) | exact (Lim.append (Lim.append (Lim.replicate (by decide)) hlw) (.cons (by omega) .nil)) | exact hvv
  rintro ⟨ρ3, σ, c5⟩ ⟨w, hw, hlw, hvw, h8, hσ, hc5⟩
  dsimp only at h8 hσ hc5
  subst hσ
  refine v_freeze 8 (t := c3) (off := 0) (n := wd + x.length + 1) (cap := some (wd + x.length + 1)) (l := w) (by simp only [vm, ite_true, ite_false, eq_self, reduceIte, Nat.reduceEqDiff, Option.map, h8]) (by simp only [vm, ite_true, ite_false, eq_self, reduceIte, Nat.reduceEqDiff, Option.map]) (by omega) (by omega) ?_
  rw [List.drop_zero, show w.take (wd + x.length + 1) = w from List.take_of_length_le (by omega)]
  (repeat (first | refine v_reg ?_ | refine v_last ?_ | refine vwp_seq ?_ | refine vwp_block ?_ | refine vwp_skip ?_ | refine vwp_exit ?_ | refine vwp_ret ?_ | refine v_cond ?_ | simp only [vm, ite_true, ite_false, eq_self, reduceIte, Nat.reduceEqDiff, Option.map] | refine And.intro (by omega) ?_))
  refine s_call (trim_spec (.id c3) w c5 hlw (by omega)) (by simp only [vm, ite_true, ite_false, eq_self, reduceIte, Nat.reduceEqDiff, Option.map, List.map]) ?_
  rintro v c6 hc6 rfl
  rw [hvw, va]
  (repeat (first | refine v_reg ?_ | refine v_last ?_ | refine vwp_seq ?_ | refine vwp_block ?_ | refine vwp_skip ?_ | refine vwp_exit ?_ | refine vwp_ret ?_ | refine v_cond ?_ | simp only [vm, ite_true, ite_false, eq_self, reduceIte, Nat.reduceEqDiff, Option.map] | refine And.intro (by omega) ?_))
  exact .inl ⟨by omega, .id c3, rfl, .inr ⟨c3, rfl, by omega, by omega⟩⟩
end Go.Proofs.YtacodmnlnlbahaaGreatDoor
set_option linter.unusedSimpArgs false
set_option linter.unusedVariables false
set_option maxRecDepth 100000
set_option maxHeartbeats 4000000
namespace Go.Proofs.YtacodmnlnlbahaaGreatDoor
open Go.VM

end Go.Proofs.YtacodmnlnlbahaaGreatDoor
set_option linter.unusedSimpArgs false
set_option linter.unusedVariables false
set_option maxRecDepth 100000
set_option maxHeartbeats 4000000
namespace Go.Proofs.YtacodmnlnlbahaaGreatDoor
open Go.VM

end Go.Proofs.YtacodmnlnlbahaaGreatDoor
set_option linter.unusedSimpArgs false
set_option linter.unusedVariables false
set_option maxRecDepth 100000
set_option maxHeartbeats 4000000
namespace Go.Proofs.YtacodmnlnlbahaaGreatDoor
open Go.VM

end Go.Proofs.YtacodmnlnlbahaaGreatDoor
set_option linter.unusedSimpArgs false
set_option linter.unusedVariables false
set_option maxRecDepth 100000
set_option maxHeartbeats 4000000
namespace Go.Proofs.YtacodmnlnlbahaaGreatDoor
open Go.VM

end Go.Proofs.YtacodmnlnlbahaaGreatDoor
set_option linter.unusedSimpArgs false
set_option linter.unusedVariables false
set_option maxRecDepth 100000
set_option maxHeartbeats 4000000
namespace Go.Proofs.YtacodmnlnlbahaaGreatDoor
open Go.VM

end Go.Proofs.YtacodmnlnlbahaaGreatDoor
set_option linter.unusedSimpArgs false
set_option linter.unusedVariables false
set_option maxRecDepth 100000
set_option maxHeartbeats 4000000
namespace Go.Proofs.YtacodmnlnlbahaaGreatDoor
open Go.VM

end Go.Proofs.YtacodmnlnlbahaaGreatDoor
set_option linter.unusedSimpArgs false
set_option linter.unusedVariables false
set_option maxRecDepth 100000
set_option maxHeartbeats 4000000
namespace Go.Proofs.YtacodmnlnlbahaaGreatDoor
open Go.VM

end Go.Proofs.YtacodmnlnlbahaaGreatDoor
set_option linter.unusedSimpArgs false
set_option linter.unusedVariables false
set_option maxRecDepth 100000
set_option maxHeartbeats 4000000
namespace Go.Proofs.YtacodmnlnlbahaaGreatDoor
open Go.VM

end Go.Proofs.YtacodmnlnlbahaaGreatDoor
set_option linter.unusedSimpArgs false
set_option linter.unusedVariables false
set_option maxRecDepth 100000
set_option maxHeartbeats 4000000
namespace Go.Proofs.YtacodmnlnlbahaaGreatDoor
open Go.VM

end Go.Proofs.YtacodmnlnlbahaaGreatDoor
set_option linter.unusedVariables false
set_option maxRecDepth 20000
namespace Go.VM
section
variable {B m T lowU W lowV U V q : Nat}
end
end Go.VM
namespace Go.VM
end Go.VM
namespace Go.VM
end Go.VM
namespace Go.VM
end Go.VM
namespace Go.VM
end Go.VM
set_option linter.unusedSimpArgs false
set_option linter.unusedVariables false
set_option maxRecDepth 100000
set_option maxHeartbeats 8000000
namespace Go.Proofs.YtacodmnlnlbahaaGreatDoor
open Go.VM

end Go.Proofs.YtacodmnlnlbahaaGreatDoor
set_option linter.unusedSimpArgs false
set_option linter.unusedVariables false
set_option maxRecDepth 100000
set_option maxHeartbeats 8000000
namespace Go.Proofs.YtacodmnlnlbahaaGreatDoor
open Go.VM

def Kn (c : Nat) (t : Tok) : Prop := t = .nil ∨ ∃ i, (t = .id i ∨ t = .sub i) ∧ i < c
theorem Kn.thaw {c t : Nat} {tk : Tok} (h : Kn c tk) (hc : c ≤ t) (l : List Nat) : V.thaw t (nats tk l) = nats tk l := by
  rcases h with rfl | ⟨i, rfl | rfl, hi⟩
  · exact thaw_nil t l
  · exact thaw_id (by omega) l
  · exact thaw_sub (by omega) l
theorem Kn.mono {c d : Nat} {t : Tok} (h : Kn c t) (hc : c ≤ d) : Kn d t := by
  rcases h with rfl | ⟨i, h, hi⟩
  · exact .inl rfl
  · exact .inr ⟨i, h, by omega⟩
end Go.Proofs.YtacodmnlnlbahaaGreatDoor
set_option linter.unusedVariables false
namespace Go.VM
def IsRoot (A k r : Nat) : Prop := r ^ k ≤ A ∧ A < (r + 1) ^ k
end Go.VM
set_option linter.unusedSimpArgs false
set_option linter.unusedVariables false
set_option maxRecDepth 100000
set_option maxHeartbeats 8000000
namespace Go.Proofs.YtacodmnlnlbahaaGreatDoor
open Go.VM

def RootR (c c' A0 k : Nat) (r : V) : Prop := (bl A0 ≤ 67108864 ∧ ∃ x t1 t2, IsRoot A0 k x ∧ r = .tup [nats t1 (digs 18446744073709551616 x), nats t2 (digs 18446744073709551616 (A0 - x ^ k)), iv 0] ∧ Tk c c' t1 ∧ Tk c c' t2) ∨ (67108864 < bl A0 ∧ r = .tup [nil1, nil1, iv 3])

def Apt (t u : Tok) : Prop := ∀ i, t = .id i → u = .id i → False
theorem Apt.nil {t : Tok} : Apt t .nil := fun i _ h => by cases h
theorem Apt.of {a b c d : Nat} {t u : Tok} (ht : Tk a b t) (hu : Tk c d u) (h : b ≤ c) : Apt t u := fun i e e' => by
  rcases ht with rfl | ⟨j, rfl, h1, h2⟩
  · cases e
  · rcases hu with rfl | ⟨k, rfl, h3, h4⟩
    · cases e'
    · cases e; cases e'; omega
def RootS (c c' A0 k : Nat) (r : V) : Prop := (bl A0 ≤ 67108864 ∧ ∃ x t1 t2, IsRoot A0 k x ∧ r = .tup [nats t1 (digs 18446744073709551616 x), nats t2 (digs 18446744073709551616 (A0 - x ^ k)), iv 0] ∧ Tk c c' t1 ∧ Tk c c' t2 ∧ Apt t1 t2) ∨ (67108864 < bl A0 ∧ r = .tup [nil1, nil1, iv 3])
theorem RootS.R {c c' A0 k : Nat} {r : V} (h : RootS c c' A0 k r) : RootR c c' A0 k r := by
  rcases h with ⟨hb, x, t1, t2, hx, hr, h1, h2, _⟩ | h
  · exact .inl ⟨hb, x, t1, t2, hx, hr, h1, h2⟩
  · exact .inr h

end Go.Proofs.YtacodmnlnlbahaaGreatDoor
set_option linter.unusedSimpArgs false
set_option linter.unusedVariables false
set_option maxRecDepth 100000
set_option maxHeartbeats 8000000
namespace Go.Proofs.YtacodmnlnlbahaaGreatDoor
open Go.VM
theorem two32 : 2 ≤ 4294967296 := by decide

section
variable {P : Program} {dr : Bool} {c0 : Nat} {ρ : Nat → V} {σ : Nat → Option Blk} {c i : Nat} {r : List VO} {K : VS → Prop}
theorem s_bsl2 {x y : X} {n m : Nat} (h : x.ev ρ = nv n) (h' : y.ev ρ = nv m) (hk : wps P dr c0 r ⟨upd ρ i (nats (.id c) [n, m]), σ, c + 1⟩ K) : wps P dr c0 (⟨some i, .bsl true 1 2 [.int .u64 0] [(0, (1, x)), (1, (1, y))], none⟩ :: r) ⟨ρ, σ, c⟩ K := by
  refine s_eff rfl (by intros; exact fun h => by cases h) (by intros; exact fun h => by cases h) ⟨_, _, _, none, .bsl (cs := [nv n, nv m]) ?_, hk⟩
  simp only [partsOf, List.map, h, h']
  rfl
theorem s_appfit {x y : X} {t n cap : Nat} {w rest ys : List Nat} {u : Tok} (hx : x.ev ρ = .buf t 0 n (some cap) 1) (ht : σ t = nblk (w ++ rest)) (hw : w.length = n) (hy : y.ev ρ = nats u ys) (h1 : n + ys.length ≤ cap) (h2 : ys.length ≤ rest.length)
    (hk : wps P dr c0 r ⟨upd ρ i (.buf t 0 (n + ys.length) (some cap) 1), supd σ t (nblk ((w ++ ys) ++ rest.drop ys.length)), c⟩ K) : wps P dr c0 (⟨some i, .app 1 8 [.int .u64 0] x y, none⟩ :: r) ⟨ρ, σ, c⟩ K := by
  have hc : vcells 1 σ (y.ev ρ) = some (ys.map nv) := by rw [hy]; cases u <;> rfl
  refine s_eff rfl (by intros; exact fun h => by cases h) (by intros; exact fun h => by cases h) ⟨_, _, _, none, .appFit (k := ys.length) hx ht hc (by simp) h1 (by simp; omega), ?_⟩
  have e : putCells ((w ++ rest).map nv) (n * 1) (ys.map nv) = ((w ++ ys) ++ rest.drop ys.length).map nv := by
    rw [Nat.mul_one, putCells_all _ _ _ (by simp; omega)]
    rw [← hw]
    simp [List.map_drop, List.drop_append]
  rw [e]
  exact hk
end

theorem norm32_spec (t : Tok) (l : List Nat) (c : Nat) (hl : Lim 4294967296 l) (hn : l.length ≤ 4398046511104) : VSpec Tryz.prog F.surdref01_norm c [nats t l] (fun r _ => r = nats t (digs 4294967296 (val 4294967296 l))) := by
  rw [← trim_digs two32 hl]
  refine spec_mk hm E.surdref01_norm B.surdref01_norm K.surdref01_norm Q.surdref01_norm (by rw [N.surdref01_norm]; simp) ?_
  unfold C.surdref01_norm R.surdref01_norm
  (repeat (first | refine v_reg ?_ | refine v_last ?_ | refine vwp_seq ?_ | refine vwp_block ?_ | refine vwp_skip ?_ | refine vwp_exit ?_ | refine vwp_ret ?_ | refine v_cond ?_ | simp only [vm, ite_true, ite_false, eq_self, reduceIte, Nat.reduceEqDiff, Option.map] | refine And.intro (by omega) ?_))
  refine v_loop (fun S => ∃ n : Nat, S.ρ 0 = nats t l ∧ S.ρ 3 = iv (n : Int) ∧ n ≤ l.length ∧ l.take n = trimL l ∧ S.σ = noBlk ∧ S.c = c) ?_ ?_
  · refine vwp_loop (fun n S => S.ρ 0 = nats t l ∧ S.ρ 3 = iv (n : Int) ∧ n ≤ l.length ∧ trimL (l.take n) = trimL l ∧ S.σ = noBlk ∧ S.c = c) l.length ?_ ?_
    · refine ⟨?_, ?_⟩
      · simp only [vm, ite_true, ite_false, eq_self, reduceIte, Nat.reduceEqDiff, Option.map]
      · simp only [vm, ite_true, ite_false, eq_self, reduceIte, Nat.reduceEqDiff, Option.map, List.take_length]
        (repeat' apply And.intro) <;> first | rfl | omega | assumption
    rintro n ⟨ρ, σ, k⟩ ⟨h0, h3, hn2, ht, hσ, hk⟩
    dsimp only at h0 h3 hσ hk
    subst hσ hk
    rcases Nat.eq_zero_or_pos n with rfl | hp
    · have g : ¬ (0 : Int) < ((0 : Nat) : Int) := by omega
      (repeat (first | refine v_reg ?_ | refine v_last ?_ | refine vwp_seq ?_ | refine vwp_block ?_ | refine vwp_skip ?_ | refine vwp_exit ?_ | refine vwp_ret ?_ | refine v_cond ?_ | simp only [vm, ite_true, ite_false, eq_self, reduceIte, Nat.reduceEqDiff, Option.map, h0, h3, g] | refine And.intro (by omega) ?_))
      exact ⟨0, rfl, by omega, by rw [← ht]; rfl⟩
    · obtain ⟨i, rfl⟩ : ∃ i, n = i + 1 := ⟨n - 1, by omega⟩
      have g : (0 : Int) < ((i + 1 : Nat) : Int) := by omega
      have e1 : (((i + 1 : Nat) : Int) - 1) = (i : Int) := by omega
      have hts := take_snoc (l := l) (i := i) (by omega)
      rw [hts] at ht
      by_cases gz : l.getD i 0 = 0
      · rw [gz, trimL_zero] at ht
        (repeat (first | refine v_reg ?_ | refine v_last ?_ | refine vwp_seq ?_ | refine vwp_block ?_ | refine vwp_skip ?_ | refine vwp_exit ?_ | refine vwp_ret ?_ | refine v_cond ?_ | simp only [vm, ite_true, ite_false, eq_self, reduceIte, Nat.reduceEqDiff, Option.map, h0, h3, g, e1, gz] | refine And.intro (by omega) ?_))
        exact ⟨i, by omega, rfl, by omega, ht⟩
      · rw [trimL_pos _ _ gz] at ht
        (repeat (first | refine v_reg ?_ | refine v_last ?_ | refine vwp_seq ?_ | refine vwp_block ?_ | refine vwp_skip ?_ | refine vwp_exit ?_ | refine vwp_ret ?_ | refine v_cond ?_ | simp only [vm, ite_true, ite_false, eq_self, reduceIte, Nat.reduceEqDiff, Option.map, h0, h3, g, e1, gz] | refine And.intro (by omega) ?_))
        exact ⟨i + 1, rfl, by omega, by rw [hts]; exact ht⟩
  rintro ⟨ρ, σ, k⟩ ⟨n, h0, h3, hn2, ht, hσ, hk⟩
  dsimp only at h0 h3 hσ hk
  subst hσ hk
  (repeat (first | refine v_reg ?_ | refine v_last ?_ | refine vwp_seq ?_ | refine vwp_block ?_ | refine vwp_skip ?_ | refine vwp_exit ?_ | refine vwp_ret ?_ | refine v_cond ?_ | simp only [vm, ite_true, ite_false, eq_self, reduceIte, Nat.reduceEqDiff, Option.map, h0, h3] | refine And.intro (by omega) ?_))
  rw [ht]

theorem of_spec (t : Tok) (a : List Nat) (c : Nat) (ha : Lim 18446744073709551616 a) (hna : a.length ≤ 1099511627776) :
    VSpec Tryz.prog F.surdref01_Of c [nats t a] (fun r c' => ∃ i, r = nats (.id i) (digs 4294967296 (val 18446744073709551616 a)) ∧ c ≤ i ∧ i < c') := by
  refine spec_mk hm E.surdref01_Of B.surdref01_Of K.surdref01_Of Q.surdref01_Of (by rw [N.surdref01_Of]; simp) ?_
  unfold C.surdref01_Of R.surdref01_Of
  (repeat (first | refine v_reg ?_ | refine v_last ?_ | refine vwp_seq ?_ | refine vwp_block ?_ | refine vwp_skip ?_ | refine vwp_exit ?_ | refine vwp_ret ?_ | refine v_cond ?_ | simp only [vm, ite_true, ite_false, eq_self, reduceIte, Nat.reduceEqDiff, Option.map] | refine And.intro (by omega) ?_))
  refine s_mk (n := 0) (m := 2 * a.length) (by simp only [vm, ite_true, ite_false, eq_self, reduceIte, Nat.reduceEqDiff, Option.map]; rfl) (by simp only [vm, ite_true, ite_false, eq_self, reduceIte, Nat.reduceEqDiff, Option.map]; rfl) (by omega) (by omega) ?_
  (repeat (first | refine v_reg ?_ | refine v_last ?_ | refine vwp_seq ?_ | refine vwp_block ?_ | refine vwp_skip ?_ | refine vwp_exit ?_ | refine vwp_ret ?_ | refine v_cond ?_ | simp only [vm, ite_true, ite_false, eq_self, reduceIte, Nat.reduceEqDiff, Option.map] | refine And.intro (by omega) ?_))
  refine v_loop (fun S => ∃ w, w.length = 2 * a.length ∧ Lim 4294967296 w ∧ val 4294967296 w = val 18446744073709551616 a ∧ S.ρ 3 = .buf c 0 (2 * a.length) (some (2 * a.length)) 1 ∧ S.σ = supd noBlk c (nblk w) ∧ c + 1 ≤ S.c) ?_ ?_
  · refine vwp_loop (fun k S => ∃ i w, k = a.length - i ∧ i ≤ a.length ∧ w.length = 2 * i ∧ Lim 4294967296 w ∧ val 4294967296 w = val 18446744073709551616 (a.take i) ∧ S.ρ 10 = nats t a ∧ S.ρ 11 = iv a.length ∧ S.ρ 12 = iv i ∧ S.ρ 3 = .buf c 0 (2 * i) (some (2 * a.length)) 1 ∧ S.σ = supd noBlk c (nblk (w ++ List.replicate (2 * a.length - 2 * i) 0)) ∧ c + 1 ≤ S.c) a.length ?_ ?_
    · refine ⟨0, [], by omega, by omega, ?_⟩
      simp only [vm, ite_true, ite_false, eq_self, reduceIte, Nat.reduceEqDiff, Option.map]
      (repeat' apply And.intro) <;> first | rfl | omega | assumption | exact Lim.nil | (simp [val]; done)
    rintro k ⟨ρ2, σ, c4⟩ ⟨i, w, hk, hi, hw, hlw, hinv, h10, h11, h12, h3, hσ, hc4⟩
    dsimp only at h10 h11 h12 h3 hσ hc4
    subst hσ
    by_cases g : (i : Int) < a.length
    · have hi' : i < a.length := by omega
      have hxi := ha.getD (i := i) (by decide)
      have hval := val_take (b := 18446744073709551616) hi'
      (repeat (first | refine v_reg ?_ | refine v_last ?_ | refine vwp_seq ?_ | refine vwp_block ?_ | refine vwp_skip ?_ | refine vwp_exit ?_ | refine vwp_ret ?_ | refine v_cond ?_ | simp only [vm, ite_true, ite_false, eq_self, reduceIte, Nat.reduceEqDiff, Option.map, h10, h11, h12, h3, g] | refine And.intro (by omega) ?_))
      have hq : a.getD i 0 / 4294967296 % 18446744073709551616 = a.getD i 0 / 4294967296 := Nat.mod_eq_of_lt (by omega)
      refine s_bsl2 (n := a.getD i 0 % 4294967296) (m := a.getD i 0 / 4294967296) (by simp only [vm, ite_true, ite_false, eq_self, reduceIte, Nat.reduceEqDiff, Option.map]) (by simp only [vm, ite_true, ite_false, eq_self, reduceIte, Nat.reduceEqDiff, Option.map, hq]) ?_
      refine s_appfit (t := c) (n := 2 * i) (cap := 2 * a.length) (w := w) (rest := List.replicate (2 * a.length - 2 * i) 0) (u := .id c4) (ys := [a.getD i 0 % 4294967296, a.getD i 0 / 4294967296]) (by simp only [vm, ite_true, ite_false, eq_self, reduceIte, Nat.reduceEqDiff, Option.map]) (by simp only [vm, ite_true, ite_false, eq_self, reduceIte, Nat.reduceEqDiff, Option.map]) hw (by simp only [vm, ite_true, ite_false, eq_self, reduceIte, Nat.reduceEqDiff, Option.map]) (by simp; omega) (by simp; omega) ?_
      have hdrop : (List.replicate (2 * a.length - 2 * i) 0).drop [a.getD i 0 % 4294967296, a.getD i 0 / 4294967296].length = List.replicate (2 * a.length - 2 * (i + 1)) 0 := by
        rw [List.drop_replicate]; congr 1 <;> first | omega | (simp; done) | (simp; omega)
      have hlen2 : 2 * i + [a.getD i 0 % 4294967296, a.getD i 0 / 4294967296].length = 2 * (i + 1) := by simp; omega
      rw [hdrop, hlen2]
      (repeat (first | refine v_reg ?_ | refine v_last ?_ | refine vwp_seq ?_ | refine vwp_block ?_ | refine vwp_skip ?_ | refine vwp_exit ?_ | refine vwp_ret ?_ | refine v_cond ?_ | simp only [vm, ite_true, ite_false, eq_self, reduceIte, Nat.reduceEqDiff, Option.map, h10, h11, h12, h3] | refine And.intro (by omega) ?_))
      have hv : val 4294967296 (w ++ [a.getD i 0 % 4294967296, a.getD i 0 / 4294967296]) = val 18446744073709551616 (a.take (i + 1)) := by
        rw [val_append, hw, hinv, hval, pow32, pow64, show 32 * (2 * i) = 64 * i by omega]
        congr 1
        congr 1
        simp only [val]
        omega
      refine ⟨a.length - (i + 1), by omega, i + 1, w ++ [a.getD i 0 % 4294967296, a.getD i 0 / 4294967296], ?_⟩
      (repeat' apply And.intro) <;> first | rfl | omega | assumption | (simp [hw]; done) | (simp [hw]; omega) | exact hlw.append (.cons (Nat.mod_lt _ (by decide)) (.cons (by omega) .nil)) | exact hv
    · have hi' : i = a.length := by omega
      subst hi'
      (repeat (first | refine v_reg ?_ | refine v_last ?_ | refine vwp_seq ?_ | refine vwp_block ?_ | refine vwp_skip ?_ | refine vwp_exit ?_ | refine vwp_ret ?_ | refine v_cond ?_ | simp only [vm, ite_true, ite_false, eq_self, reduceIte, Nat.reduceEqDiff, Option.map, h10, h11, h12, h3, g] | refine And.intro (by omega) ?_))
      rw [List.take_length] at hinv
      refine ⟨w, ?_⟩
      have e0 : w ++ List.replicate (2 * a.length - 2 * a.length) 0 = w := by simp
      rw [e0]
      (repeat' apply And.intro) <;> first | rfl | omega | assumption
  rintro ⟨ρ3, σ, c5⟩ ⟨w, hw, hlw, hvw, h3, hσ, hc5⟩
  dsimp only at h3 hσ hc5
  subst hσ
  refine v_freeze 3 (t := c) (off := 0) (n := 2 * a.length) (cap := some (2 * a.length)) (l := w) (by simp only [vm, ite_true, ite_false, eq_self, reduceIte, Nat.reduceEqDiff, Option.map, h3]) (by simp only [vm, ite_true, ite_false, eq_self, reduceIte, Nat.reduceEqDiff, Option.map]) (by omega) (by omega) ?_
  rw [List.drop_zero, show w.take (2 * a.length) = w from List.take_of_length_le (by omega)]
  (repeat (first | refine v_reg ?_ | refine v_last ?_ | refine vwp_seq ?_ | refine vwp_block ?_ | refine vwp_skip ?_ | refine vwp_exit ?_ | refine vwp_ret ?_ | refine v_cond ?_ | simp only [vm, ite_true, ite_false, eq_self, reduceIte, Nat.reduceEqDiff, Option.map] | refine And.intro (by omega) ?_))
  refine s_call (norm32_spec (.id c) w c5 hlw (by omega)) (by simp only [vm, ite_true, ite_false, eq_self, reduceIte, Nat.reduceEqDiff, Option.map, List.map]) ?_
  rintro v c6 hc6 rfl
  rw [hvw]
  (repeat (first | refine v_reg ?_ | refine v_last ?_ | refine vwp_seq ?_ | refine vwp_block ?_ | refine vwp_skip ?_ | refine vwp_exit ?_ | refine vwp_ret ?_ | refine v_cond ?_ | simp only [vm, ite_true, ite_false, eq_self, reduceIte, Nat.reduceEqDiff, Option.map] | refine And.intro (by omega) ?_))
  exact ⟨c, rfl, by omega, by omega⟩

end Go.Proofs.YtacodmnlnlbahaaGreatDoor
set_option linter.unusedSimpArgs false
set_option linter.unusedVariables false
set_option maxRecDepth 100000
set_option maxHeartbeats 8000000
namespace Go.Proofs.YtacodmnlnlbahaaGreatDoor
open Go.VM

theorem bl_div2 {v : Nat} (h : 0 < v) : bl v = bl (v / 2) + 1 := by
  rcases Nat.lt_or_ge v 2 with g | g
  · have : v = 1 := by omega
    subst this
    rfl
  · have := bl_shift (x := v) (k := 1) (by simpa using g)
    rw [Nat.pow_one] at this
    omega

theorem len_spec (t : Tok) (n c : Nat) (hn : (digs 4294967296 n).length ≤ 4398046511104) : VSpec Tryz.prog F.surdref01_Num_Len c [nats t (digs 4294967296 n)] (fun r _ => r = iv (bl n)) := by
  refine spec_mk hm E.surdref01_Num_Len B.surdref01_Num_Len K.surdref01_Num_Len Q.surdref01_Num_Len (by rw [N.surdref01_Num_Len]; simp) ?_
  unfold C.surdref01_Num_Len R.surdref01_Num_Len
  by_cases g : digs 4294967296 n = []
  · have hz := (digs_eq_nil two32).1 g
    rw [g]
    have e : (([] : List Nat).length : Int) = 0 := rfl
    (repeat (first | refine v_reg ?_ | refine v_last ?_ | refine vwp_seq ?_ | refine vwp_block ?_ | refine vwp_skip ?_ | refine vwp_exit ?_ | refine vwp_ret ?_ | refine v_cond ?_ | simp only [vm, ite_true, ite_false, eq_self, reduceIte, Nat.reduceEqDiff, Option.map, e] | refine And.intro (by omega) ?_))
    rw [hz]; rfl
  obtain ⟨m, x, hmx⟩ := snoc_of_ne g
  obtain ⟨hx0, hx1, hbl⟩ := bl_digs32 hmx
  rw [hmx] at hn ⊢
  have hlen : (m ++ [x]).length = m.length + 1 := by simp
  rw [hlen] at hn
  have e0 : ¬ ((m.length + 1 : Nat) : Int) = 0 := by omega
  have e1 : ((m.length + 1 : Nat) : Int) - 1 = (m.length : Int) := by omega
  have hg : (m ++ [x]).getD m.length 0 = x := by simp
  rw [hbl]
  (repeat (first | refine v_reg ?_ | refine v_last ?_ | refine vwp_seq ?_ | refine vwp_block ?_ | refine vwp_skip ?_ | refine vwp_exit ?_ | refine vwp_ret ?_ | refine v_cond ?_ | simp only [vm, ite_true, ite_false, eq_self, reduceIte, Nat.reduceEqDiff, Option.map, hlen, e0, e1, hg] | refine And.intro (by omega) ?_))
  refine v_loop (fun S => S.ρ 3 = iv ((32 * m.length + bl x : Nat) : Int) ∧ S.σ = noBlk ∧ S.c = c) ?_ ?_
  · refine vwp_loop (fun v S => ∃ k, bl x = k + bl v ∧ v ≤ x ∧ S.ρ 3 = iv ((32 * m.length + k : Nat) : Int) ∧ S.ρ 4 = nv v ∧ S.σ = noBlk ∧ S.c = c) x ?_ ?_
    · refine ⟨0, by omega, Nat.le_refl _, ?_⟩
      simp only [vm, ite_true, ite_false, eq_self, reduceIte, Nat.reduceEqDiff, Option.map]
      (repeat' apply And.intro) <;> first | rfl | omega | assumption | (congr 1; omega)
    rintro v ⟨ρ, σ, c1⟩ ⟨k, hk, hvx, h3, h4, hσ, hc1⟩
    dsimp only at h3 h4 hσ hc1
    subst hσ hc1
    have hbx : bl x ≤ 32 := bl_le hx1
    rcases Nat.eq_zero_or_pos v with rfl | hv
    · have g1 : ¬ 0 < 0 := by omega
      (repeat (first | refine v_reg ?_ | refine v_last ?_ | refine vwp_seq ?_ | refine vwp_block ?_ | refine vwp_skip ?_ | refine vwp_exit ?_ | refine vwp_ret ?_ | refine v_cond ?_ | simp only [vm, ite_true, ite_false, eq_self, reduceIte, Nat.reduceEqDiff, Option.map, h3, h4, g1] | refine And.intro (by omega) ?_))
      rw [bl_zero] at hk
      rw [hk]; rfl
    · have hd := bl_div2 hv
      have e2 : ((32 * m.length + k : Nat) : Int) + 1 = ((32 * m.length + (k + 1) : Nat) : Int) := by omega
      have e3 : v / 2 % 18446744073709551616 = v / 2 := Nat.mod_eq_of_lt (by omega)
      (repeat (first | refine v_reg ?_ | refine v_last ?_ | refine vwp_seq ?_ | refine vwp_block ?_ | refine vwp_skip ?_ | refine vwp_exit ?_ | refine vwp_ret ?_ | refine v_cond ?_ | simp only [vm, ite_true, ite_false, eq_self, reduceIte, Nat.reduceEqDiff, Option.map, h3, h4, hv, e2, e3] | refine And.intro (by omega) ?_))
      refine ⟨v / 2, by omega, k + 1, by omega, by omega, ?_⟩
      (repeat' apply And.intro) <;> first | rfl | omega | assumption
  rintro ⟨ρ, σ, c1⟩ ⟨h3, hσ, hc1⟩
  dsimp only at h3 hσ hc1
  subst hσ hc1
  (repeat (first | refine v_reg ?_ | refine v_last ?_ | refine vwp_seq ?_ | refine vwp_block ?_ | refine vwp_skip ?_ | refine vwp_exit ?_ | refine vwp_ret ?_ | refine v_cond ?_ | simp only [vm, ite_true, ite_false, eq_self, reduceIte, Nat.reduceEqDiff, Option.map, h3] | refine And.intro (by omega) ?_))
  exact Nat.le_refl _

theorem cmp_spec (t u : Tok) (m n c : Nat) (hm1 : (digs 4294967296 m).length ≤ 4398046511104) (hn1 : (digs 4294967296 n).length ≤ 4398046511104) : VSpec Tryz.prog F.surdref01_Cmp c [nats t (digs 4294967296 m), nats u (digs 4294967296 n)] (fun r _ => r = iv (cmpI m n)) := by
  refine spec_mk hm E.surdref01_Cmp B.surdref01_Cmp K.surdref01_Cmp Q.surdref01_Cmp (by rw [N.surdref01_Cmp]; simp) ?_
  unfold C.surdref01_Cmp R.surdref01_Cmp
  have hda := lim_digs two32 m
  have hdb := lim_digs two32 n
  have va := val_digs two32 m
  have vb := val_digs two32 n
  have hlt := lt_of_len two32 (m := m) (n := n)
  have hgt := lt_of_len two32 (m := n) (n := m)
  generalize digs 4294967296 m = x at *
  generalize digs 4294967296 n = y at *
  by_cases g : (x.length : Int) = y.length
  rotate_left
  · by_cases g2 : (x.length : Int) < y.length
    · (repeat (first | refine v_reg ?_ | refine v_last ?_ | refine vwp_seq ?_ | refine vwp_block ?_ | refine vwp_skip ?_ | refine vwp_exit ?_ | refine vwp_ret ?_ | refine v_cond ?_ | simp only [vm, ite_true, ite_false, eq_self, reduceIte, Nat.reduceEqDiff, Option.map, g, g2] | refine And.intro (by omega) ?_))
      rw [cmpI, if_pos (hlt (by omega))]
    · (repeat (first | refine v_reg ?_ | refine v_last ?_ | refine vwp_seq ?_ | refine vwp_block ?_ | refine vwp_skip ?_ | refine vwp_exit ?_ | refine vwp_ret ?_ | refine v_cond ?_ | simp only [vm, ite_true, ite_false, eq_self, reduceIte, Nat.reduceEqDiff, Option.map, g, g2] | refine And.intro (by omega) ?_))
      have := hgt (by omega)
      rw [cmpI, if_neg (by omega), if_neg (by omega)]
  have hxy : x.length = y.length := by omega
  (repeat (first | refine v_reg ?_ | refine v_last ?_ | refine vwp_seq ?_ | refine vwp_block ?_ | refine vwp_skip ?_ | refine vwp_exit ?_ | refine vwp_ret ?_ | refine v_cond ?_ | simp only [vm, ite_true, ite_false, eq_self, reduceIte, Nat.reduceEqDiff, Option.map, g] | refine And.intro (by omega) ?_))
  refine v_loopR (fun S => val 4294967296 x = val 4294967296 y ∧ S.σ = noBlk ∧ S.c = c) ?_ ?_
  · refine vwp_loop (fun k S => S.ρ 0 = nats t x ∧ S.ρ 1 = nats u y ∧ S.ρ 5 = iv ((k : Int) - 1) ∧ k ≤ x.length ∧ val 4294967296 (x.drop k) = val 4294967296 (y.drop k) ∧ S.σ = noBlk ∧ S.c = c) x.length ?_ ?_
    · rw [List.drop_of_length_le (Nat.le_refl _), hxy, List.drop_of_length_le (Nat.le_refl _)]
      simp only [vm, ite_true, ite_false, eq_self, reduceIte, Nat.reduceEqDiff, Option.map, g]
      (repeat' apply And.intro) <;> first | rfl | omega | assumption
    rintro k ⟨ρ, σ, c3⟩ ⟨h0, h1, h5, hk, hv, hσ, hc3⟩
    dsimp only at h0 h1 h5 hσ hc3
    subst hσ hc3
    rcases Nat.eq_zero_or_pos k with rfl | hp
    · have g1 : ¬ (0 : Int) ≤ ((0 : Nat) : Int) - 1 := by omega
      (repeat (first | refine v_reg ?_ | refine v_last ?_ | refine vwp_seq ?_ | refine vwp_block ?_ | refine vwp_skip ?_ | refine vwp_exit ?_ | refine vwp_ret ?_ | refine v_cond ?_ | simp only [vm, ite_true, ite_false, eq_self, reduceIte, Nat.reduceEqDiff, Option.map, h0, h1, h5, g1] | refine And.intro (by omega) ?_))
      rw [List.drop_zero, List.drop_zero] at hv
      exact hv
    · obtain ⟨i, rfl⟩ : ∃ i, k = i + 1 := ⟨k - 1, by omega⟩
      have e1 : (((i + 1 : Nat) : Int) - 1) = (i : Int) := by omega
      rw [e1] at h5
      have g1 : (0 : Int) ≤ (i : Int) := by omega
      by_cases g4 : x.getD i 0 < y.getD i 0
      · have := val_lt_of_top two32 hda hdb (i := i) (by omega) (by omega) hxy hv g4
        (repeat (first | refine v_reg ?_ | refine v_last ?_ | refine vwp_seq ?_ | refine vwp_block ?_ | refine vwp_skip ?_ | refine vwp_exit ?_ | refine vwp_ret ?_ | refine v_cond ?_ | simp only [vm, ite_true, ite_false, eq_self, reduceIte, Nat.reduceEqDiff, Option.map, h0, h1, h5, g1, g4] | refine And.intro (by omega) ?_))
        rw [cmpI, if_pos (by omega)]
      by_cases g5 : y.getD i 0 < x.getD i 0
      · have := val_lt_of_top two32 hdb hda (i := i) (by omega) (by omega) hxy.symm hv.symm g5
        (repeat (first | refine v_reg ?_ | refine v_last ?_ | refine vwp_seq ?_ | refine vwp_block ?_ | refine vwp_skip ?_ | refine vwp_exit ?_ | refine vwp_ret ?_ | refine v_cond ?_ | simp only [vm, ite_true, ite_false, eq_self, reduceIte, Nat.reduceEqDiff, Option.map, h0, h1, h5, g1, g4, g5] | refine And.intro (by omega) ?_))
        rw [cmpI, if_neg (by omega), if_neg (by omega)]
      · have e2 := val_drop (b := 4294967296) (l := x) (i := i) (by omega)
        have e3 := val_drop (b := 4294967296) (l := y) (i := i) (by omega)
        have e4 : x.getD i 0 = y.getD i 0 := by omega
        have hv2 : val 4294967296 (x.drop i) = val 4294967296 (y.drop i) := by rw [e2, e3, e4, hv]
        (repeat (first | refine v_reg ?_ | refine v_last ?_ | refine vwp_seq ?_ | refine vwp_block ?_ | refine vwp_skip ?_ | refine vwp_exit ?_ | refine vwp_ret ?_ | refine v_cond ?_ | simp only [vm, ite_true, ite_false, eq_self, reduceIte, Nat.reduceEqDiff, Option.map, h0, h1, h5, g1, g4, g5] | refine And.intro (by omega) ?_))
        refine ⟨i, by omega, ?_⟩
        (repeat' apply And.intro) <;> first | rfl | omega | assumption | exact hv2
  rintro ⟨ρ, σ, c1⟩ ⟨hv, hσ, hc1⟩
  dsimp only at hσ hc1
  subst hσ hc1
  (repeat (first | refine v_reg ?_ | refine v_last ?_ | refine vwp_seq ?_ | refine vwp_block ?_ | refine vwp_skip ?_ | refine vwp_exit ?_ | refine vwp_ret ?_ | refine v_cond ?_ | simp only [vm, ite_true, ite_false, eq_self, reduceIte, Nat.reduceEqDiff, Option.map] | refine And.intro (by omega) ?_))
  have : m = n := by omega
  rw [cmpI, if_neg (by omega), if_pos this]
end Go.Proofs.YtacodmnlnlbahaaGreatDoor
set_option linter.unusedSimpArgs false
set_option linter.unusedVariables false
set_option maxRecDepth 100000
set_option maxHeartbeats 8000000
namespace Go.Proofs.YtacodmnlnlbahaaGreatDoor
open Go.VM
theorem at_spec (t : Tok) (l : List Nat) (i c : Nat) (hn : l.length ≤ 4398046511104) : VSpec Tryz.prog F.surdref01_Num_at c [nats t l, iv i] (fun r c' => r = nv (l.getD i 0)) := by
  refine spec_mk hm E.surdref01_Num_at B.surdref01_Num_at K.surdref01_Num_at Q.surdref01_Num_at (by rw [N.surdref01_Num_at]; simp) ?_
  unfold C.surdref01_Num_at R.surdref01_Num_at
  by_cases g : (i : Int) < l.length
  · (repeat (first | refine v_reg ?_ | refine v_last ?_ | refine vwp_seq ?_ | refine vwp_block ?_ | refine vwp_skip ?_ | refine vwp_exit ?_ | refine vwp_ret ?_ | refine v_cond ?_ | simp only [vm, ite_true, ite_false, eq_self, reduceIte, Nat.reduceEqDiff, Option.map, g] | refine And.intro (by omega) ?_))
    exact Nat.le_refl _
  · (repeat (first | refine v_reg ?_ | refine v_last ?_ | refine vwp_seq ?_ | refine vwp_block ?_ | refine vwp_skip ?_ | refine vwp_exit ?_ | refine vwp_ret ?_ | refine v_cond ?_ | simp only [vm, ite_true, ite_false, eq_self, reduceIte, Nat.reduceEqDiff, Option.map, g] | refine And.intro (by omega) ?_))
    rw [getD_ge (by omega)]

theorem len32_bl {n k : Nat} (h : bl n ≤ 32 * k) : (digs 4294967296 n).length ≤ k := by
  refine digs_len two32 ?_
  rw [pow32]
  exact lt_of_bl h
def RefR (c c' n : Nat) (r : V) : Prop := ∃ i, r = nats (.id i) (digs 4294967296 n) ∧ c ≤ i ∧ i < c'
theorem cmpR (t u : Tok) (m n c : Nat) (hm : bl m ≤ 68719476736) (hn : bl n ≤ 68719476736) : VSpec Tryz.prog F.surdref01_Cmp c [nats t (digs 4294967296 m), nats u (digs 4294967296 n)] (fun r _ => r = iv (cmpI m n)) :=
  cmp_spec t u m n c (Nat.le_trans (len32_bl (k := 2147483648) (by omega)) (by decide)) (Nat.le_trans (len32_bl (k := 2147483648) (by omega)) (by decide))
end Go.Proofs.YtacodmnlnlbahaaGreatDoor
set_option linter.unusedSimpArgs false
set_option linter.unusedVariables false
set_option maxRecDepth 100000
set_option maxHeartbeats 8000000
namespace Go.Proofs.YtacodmnlnlbahaaGreatDoor
open Go.VM
section
variable {P : Program} {dr : Bool} {c0 : Nat} {ρ : Nat → V} {σ : Nat → Option Blk} {c i : Nat} {r : List VO} {K : VS → Prop}
end
end Go.Proofs.YtacodmnlnlbahaaGreatDoor
set_option linter.unusedSimpArgs false
set_option linter.unusedVariables false
set_option maxRecDepth 100000
set_option maxHeartbeats 8000000
namespace Go.Proofs.YtacodmnlnlbahaaGreatDoor
open Go.VM

end Go.Proofs.YtacodmnlnlbahaaGreatDoor
set_option linter.unusedSimpArgs false
set_option linter.unusedVariables false
set_option maxRecDepth 100000
set_option maxHeartbeats 8000000
namespace Go.Proofs.YtacodmnlnlbahaaGreatDoor
open Go.VM

def wholeL (a : List Nat) : List Nat := [10855845, 10855845] ++ a ++ [10855845, 10855845]
theorem wholeL_len (a : List Nat) : (wholeL a).length = a.length + 4 := by simp [wholeL]
theorem wholeL_at (a : List Nat) (i : Nat) (h : i < a.length + 4) : (wholeL a).getD i 0 = if 2 ≤ i ∧ i < a.length + 2 then a.getD (i - 2) 0 else 10855845 := by
  unfold wholeL
  rcases Nat.lt_or_ge i 2 with g | g
  · rw [if_neg (by omega)]
    match i, g with
    | 0, _ => rfl
    | 1, _ => rfl
  · obtain ⟨j, rfl⟩ : ∃ j, i = j + 2 := ⟨i - 2, by omega⟩
    show (a ++ [10855845, 10855845]).getD j 0 = _
    rcases Nat.lt_or_ge j a.length with g2 | g2
    · rw [if_pos (by omega), getD_append_left g2]; rfl
    · rw [if_neg (by omega)]
      obtain ⟨k, rfl⟩ : ∃ k, j = a.length + k := ⟨j - a.length, by omega⟩
      rw [List.getD_eq_getElem?_getD, List.getElem?_append_right (by omega)]
      have : k = 0 ∨ k = 1 := by omega
      rcases this with rfl | rfl
      · simp
      · simp

theorem kept_spec (t u : Tok) (a : List Nat) (c : Nat) (hna : a.length ≤ 1099511627776) : VSpec Tryz.prog F.surdref01_Kept c [nats t (wholeL a), nats u a] (fun r _ => r = bv true) := by
  refine spec_mk hm E.surdref01_Kept B.surdref01_Kept K.surdref01_Kept Q.surdref01_Kept (by rw [N.surdref01_Kept]; simp) ?_
  unfold C.surdref01_Kept R.surdref01_Kept
  have hl := wholeL_len a
  have g0 : ((a.length + 4 : Nat) : Int) = (a.length : Int) + 4 := by omega
  (repeat (first | refine v_reg ?_ | refine v_last ?_ | refine vwp_seq ?_ | refine vwp_block ?_ | refine vwp_skip ?_ | refine vwp_exit ?_ | refine vwp_ret ?_ | refine v_cond ?_ | simp only [vm, ite_true, ite_false, eq_self, reduceIte, Nat.reduceEqDiff, Option.map, hl, g0] | refine And.intro (by omega) ?_))
  refine v_loopR (fun S => S.σ = noBlk ∧ c ≤ S.c) ?_ ?_
  · refine vwp_loop (fun k S => ∃ i, k = a.length + 4 - i ∧ i ≤ a.length + 4 ∧ S.ρ 1 = nats u a ∧ S.ρ 13 = nats t (wholeL a) ∧ S.ρ 14 = iv ((a.length + 4 : Nat) : Int) ∧ S.ρ 15 = iv i ∧ S.σ = noBlk ∧ c ≤ S.c) (a.length + 4) ?_ ?_
    · refine ⟨0, by omega, by omega, ?_⟩
      simp only [vm, ite_true, ite_false, eq_self, reduceIte, Nat.reduceEqDiff, Option.map, hl, g0]
      (repeat' apply And.intro) <;> first | rfl | omega | assumption
    rintro k ⟨ρ, σ, c3⟩ ⟨i, hk, hi, h1, h13, h14, h15, hσ, hc3⟩
    dsimp only at h1 h13 h14 h15 hσ hc3
    subst hσ
    by_cases g2 : (i : Int) < ((a.length + 4 : Nat) : Int)
    · have hat := wholeL_at a i (by omega)
      by_cases g3 : (i : Int) < 2
      · rw [if_neg (by omega)] at hat
        (repeat (first | refine v_reg ?_ | refine v_last ?_ | refine vwp_seq ?_ | refine vwp_block ?_ | refine vwp_skip ?_ | refine vwp_exit ?_ | refine vwp_ret ?_ | refine v_cond ?_ | simp only [vm, ite_true, ite_false, eq_self, reduceIte, Nat.reduceEqDiff, Option.map, h1, h13, h14, h15, g2, g3, hl, hat] | refine And.intro (by omega) ?_))
        refine ⟨a.length + 4 - (i + 1), by omega, i + 1, ?_⟩
        (repeat' apply And.intro) <;> first | rfl | omega | assumption
      · by_cases g4 : (a.length : Int) + 2 ≤ (i : Int)
        · rw [if_neg (by omega)] at hat
          (repeat (first | refine v_reg ?_ | refine v_last ?_ | refine vwp_seq ?_ | refine vwp_block ?_ | refine vwp_skip ?_ | refine vwp_exit ?_ | refine vwp_ret ?_ | refine v_cond ?_ | simp only [vm, ite_true, ite_false, eq_self, reduceIte, Nat.reduceEqDiff, Option.map, h1, h13, h14, h15, g2, g3, g4, hl, hat] | refine And.intro (by omega) ?_))
          refine ⟨a.length + 4 - (i + 1), by omega, i + 1, ?_⟩
          (repeat' apply And.intro) <;> first | rfl | omega | assumption
        · rw [if_pos (by omega)] at hat
          have e1 : ((i : Int) - 2).toNat = i - 2 := by omega
          (repeat (first | refine v_reg ?_ | refine v_last ?_ | refine vwp_seq ?_ | refine vwp_block ?_ | refine vwp_skip ?_ | refine vwp_exit ?_ | refine vwp_ret ?_ | refine v_cond ?_ | simp only [vm, ite_true, ite_false, eq_self, reduceIte, Nat.reduceEqDiff, Option.map, h1, h13, h14, h15, g2, g3, g4, hl, hat, e1] | refine And.intro (by omega) ?_))
          refine ⟨a.length + 4 - (i + 1), by omega, i + 1, ?_⟩
          (repeat' apply And.intro) <;> first | rfl | omega | assumption
    · (repeat (first | refine v_reg ?_ | refine v_last ?_ | refine vwp_seq ?_ | refine vwp_block ?_ | refine vwp_skip ?_ | refine vwp_exit ?_ | refine vwp_ret ?_ | refine v_cond ?_ | simp only [vm, ite_true, ite_false, eq_self, reduceIte, Nat.reduceEqDiff, Option.map, h1, h13, h14, h15, g2] | refine And.intro (by omega) ?_))
      omega
  rintro ⟨ρ3, σ, c5⟩ ⟨hσ, hc5⟩
  dsimp only at hσ hc5
  subst hσ
  (repeat (first | refine v_reg ?_ | refine v_last ?_ | refine vwp_seq ?_ | refine vwp_block ?_ | refine vwp_skip ?_ | refine vwp_exit ?_ | refine vwp_ret ?_ | refine v_cond ?_ | simp only [vm, ite_true, ite_false, eq_self, reduceIte, Nat.reduceEqDiff, Option.map] | refine And.intro (by omega) ?_))
  omega

theorem lend_spec (t : Tok) (a : List Nat) (c : Nat) (ha : Lim 18446744073709551616 a) (hna : a.length ≤ 1099511627776) :
    VSpec Tryz.prog F.surdref01_Lend c [nats t a] (fun r c' => ∃ i, r = .tup [nats (.id i) (wholeL a), nats (.sub i) a] ∧ c ≤ i ∧ i < c') := by
  refine spec_mk hm E.surdref01_Lend B.surdref01_Lend K.surdref01_Lend Q.surdref01_Lend (by rw [N.surdref01_Lend]; simp) ?_
  unfold C.surdref01_Lend R.surdref01_Lend
  (repeat (first | refine v_reg ?_ | refine v_last ?_ | refine vwp_seq ?_ | refine vwp_block ?_ | refine vwp_skip ?_ | refine vwp_exit ?_ | refine vwp_ret ?_ | refine v_cond ?_ | simp only [vm, ite_true, ite_false, eq_self, reduceIte, Nat.reduceEqDiff, Option.map] | refine And.intro (by omega) ?_))
  refine s_mk (n := a.length + 4) (m := a.length + 4) (by simp only [vm, ite_true, ite_false, eq_self, reduceIte, Nat.reduceEqDiff, Option.map]; rfl) (by simp only [vm, ite_true, ite_false, eq_self, reduceIte, Nat.reduceEqDiff, Option.map]; rfl) (Nat.le_refl _) (by omega) ?_
  (repeat (first | refine v_reg ?_ | refine v_last ?_ | refine vwp_seq ?_ | refine vwp_block ?_ | refine vwp_skip ?_ | refine vwp_exit ?_ | refine vwp_ret ?_ | refine v_cond ?_ | simp only [vm, ite_true, ite_false, eq_self, reduceIte, Nat.reduceEqDiff, Option.map] | refine And.intro (by omega) ?_))
  refine v_loop (fun S => S.ρ 0 = nats t a ∧ S.ρ 4 = .buf c 0 (a.length + 4) (some (a.length + 4)) 1 ∧ S.σ = supd noBlk c (nblk (List.replicate (a.length + 4) 10855845)) ∧ c + 1 ≤ S.c) ?_ ?_
  · refine vwp_loop (fun k S => ∃ i, k = a.length + 4 - i ∧ i ≤ a.length + 4 ∧ S.ρ 0 = nats t a ∧ S.ρ 4 = .buf c 0 (a.length + 4) (some (a.length + 4)) 1 ∧ S.ρ 13 = iv ((a.length + 4 : Nat) : Int) ∧ S.ρ 14 = iv i ∧ S.σ = supd noBlk c (nblk (List.replicate i 10855845 ++ List.replicate (a.length + 4 - i) 0)) ∧ c + 1 ≤ S.c) (a.length + 4) ?_ ?_
    · refine ⟨0, by omega, by omega, ?_⟩
      simp only [vm, ite_true, ite_false, eq_self, reduceIte, Nat.reduceEqDiff, Option.map]
      (repeat' apply And.intro) <;> first | rfl | omega | assumption
    rintro k ⟨ρ, σ, c3⟩ ⟨i, hk, hi, h0, h4, h13, h14, hσ, hc3⟩
    dsimp only at h0 h4 h13 h14 hσ hc3
    subst hσ
    by_cases g : (i : Int) < ((a.length + 4 : Nat) : Int)
    · have hlen : (List.replicate i 10855845 ++ List.replicate (a.length + 4 - i) 0).length = a.length + 4 := by simp; omega
      have hset : (List.replicate i 10855845 ++ List.replicate (a.length + 4 - i) 0).set i 10855845 = List.replicate (i + 1) 10855845 ++ List.replicate (a.length + 4 - (i + 1)) 0 := by
        have := set_fill (List.replicate i 10855845) (a.length + 4 - (i + 1)) 10855845
        rw [List.length_replicate] at this
        rw [show a.length + 4 - i = a.length + 4 - (i + 1) + 1 by omega, this, List.replicate_succ']
      (repeat (first | refine v_reg ?_ | refine v_last ?_ | refine vwp_seq ?_ | refine vwp_block ?_ | refine vwp_skip ?_ | refine vwp_exit ?_ | refine vwp_ret ?_ | refine v_cond ?_ | simp only [vm, ite_true, ite_false, eq_self, reduceIte, Nat.reduceEqDiff, Option.map, h0, h4, h13, h14, g, hlen, hset] | refine And.intro (by omega) ?_))
      refine ⟨a.length + 4 - (i + 1), by omega, i + 1, ?_⟩
      (repeat' apply And.intro) <;> first | rfl | omega | assumption
    · have : i = a.length + 4 := by omega
      subst this
      (repeat (first | refine v_reg ?_ | refine v_last ?_ | refine vwp_seq ?_ | refine vwp_block ?_ | refine vwp_skip ?_ | refine vwp_exit ?_ | refine vwp_ret ?_ | refine v_cond ?_ | simp only [vm, ite_true, ite_false, eq_self, reduceIte, Nat.reduceEqDiff, Option.map, h0, h4, h13, h14, g] | refine And.intro (by omega) ?_))
      rw [Nat.sub_self, List.replicate_zero, List.append_nil]
      (repeat' apply And.intro) <;> first | rfl | omega | assumption
  rintro ⟨ρ3, σ, c5⟩ ⟨h0, h4, hσ, hc5⟩
  dsimp only at h0 h4 hσ hc5
  subst hσ
  (repeat (first | refine v_reg ?_ | refine v_last ?_ | refine vwp_seq ?_ | refine vwp_block ?_ | refine vwp_skip ?_ | refine vwp_exit ?_ | refine vwp_ret ?_ | refine v_cond ?_ | simp only [vm, ite_true, ite_false, eq_self, reduceIte, Nat.reduceEqDiff, Option.map, h0, h4] | refine And.intro (by omega) ?_))
  refine v_loop (fun S => S.ρ 0 = nats t a ∧ S.ρ 4 = .buf c 0 (a.length + 4) (some (a.length + 4)) 1 ∧ S.σ = supd noBlk c (nblk (wholeL a)) ∧ c + 1 ≤ S.c) ?_ ?_
  · refine vwp_loop (fun k S => ∃ i, k = a.length - i ∧ i ≤ a.length ∧ S.ρ 0 = nats t a ∧ S.ρ 4 = .buf c 0 (a.length + 4) (some (a.length + 4)) 1 ∧ S.ρ 21 = nats t a ∧ S.ρ 22 = iv a.length ∧ S.ρ 23 = iv i ∧ S.σ = supd noBlk c (nblk (([10855845, 10855845] ++ a.take i) ++ List.replicate (a.length - i + 2) 10855845)) ∧ c + 1 ≤ S.c) a.length ?_ ?_
    · refine ⟨0, by omega, by omega, ?_⟩
      have e0 : List.replicate (a.length + 4) 10855845 = ([10855845, 10855845] ++ a.take 0) ++ List.replicate (a.length - 0 + 2) 10855845 := by
        rw [show a.length + 4 = (a.length - 0 + 2) + 1 + 1 by omega, List.replicate_succ, List.replicate_succ]; simp
      simp only [vm, ite_true, ite_false, eq_self, reduceIte, Nat.reduceEqDiff, Option.map, h0, h4]
      (repeat' apply And.intro) <;> first | rfl | omega | assumption | (rw [e0])
    rintro k ⟨ρ, σ, c3⟩ ⟨i, hk, hi, h0, h4, h21, h22, h23, hσ, hc3⟩
    dsimp only at h0 h4 h21 h22 h23 hσ hc3
    subst hσ
    by_cases g : (i : Int) < a.length
    · have hti : (a.take i).length = i := by simp; omega
      have hlen : (([10855845, 10855845] ++ a.take i) ++ List.replicate (a.length - i + 2) 10855845).length = a.length + 4 := by simp; omega
      have hset : ∀ v, (([10855845, 10855845] ++ a.take i) ++ List.replicate (a.length - i + 2) 10855845).set (i + 2) v = (([10855845, 10855845] ++ a.take i) ++ [v]) ++ List.replicate (a.length - (i + 1) + 2) 10855845 := fun v => by
        have e : ([10855845, 10855845] ++ a.take i).length = i + 2 := by simp; omega
        rw [show a.length - i + 2 = (a.length - (i + 1) + 2) + 1 by omega, List.replicate_succ]
        conv => lhs; rw [← e]
        rw [set_at]; simp
      have e2 : ((i : Int) + 2).toNat = i + 2 := by omega
      have hts := take_snoc (l := a) (i := i) (by omega)
      (repeat (first | refine v_reg ?_ | refine v_last ?_ | refine vwp_seq ?_ | refine vwp_block ?_ | refine vwp_skip ?_ | refine vwp_exit ?_ | refine vwp_ret ?_ | refine v_cond ?_ | simp only [vm, ite_true, ite_false, eq_self, reduceIte, Nat.reduceEqDiff, Option.map, h0, h4, h21, h22, h23, g, e2, hlen, hset] | refine And.intro (by omega) ?_))
      refine ⟨a.length - (i + 1), by omega, i + 1, ?_⟩
      rw [hts, ← List.append_assoc [10855845, 10855845]]
      (repeat' apply And.intro) <;> first | rfl | omega | assumption
    · have : i = a.length := by omega
      subst this
      (repeat (first | refine v_reg ?_ | refine v_last ?_ | refine vwp_seq ?_ | refine vwp_block ?_ | refine vwp_skip ?_ | refine vwp_exit ?_ | refine vwp_ret ?_ | refine v_cond ?_ | simp only [vm, ite_true, ite_false, eq_self, reduceIte, Nat.reduceEqDiff, Option.map, h0, h4, h21, h22, h23, g] | refine And.intro (by omega) ?_))
      have e0 : ([10855845, 10855845] ++ a.take a.length) ++ List.replicate (a.length - a.length + 2) 10855845 = wholeL a := by rw [List.take_length, Nat.sub_self]; rfl
      rw [e0]
      (repeat' apply And.intro) <;> first | rfl | omega | assumption
  rintro ⟨ρ4, σ, c6⟩ ⟨h0, h4, hσ, hc6⟩
  dsimp only at h0 h4 hσ hc6
  subst hσ
  have hl := wholeL_len a
  refine v_freeze 4 (t := c) (off := 0) (n := a.length + 4) (cap := some (a.length + 4)) (l := wholeL a) (by simp only [vm, ite_true, ite_false, eq_self, reduceIte, Nat.reduceEqDiff, Option.map, h4]) (by simp only [vm, ite_true, ite_false, eq_self, reduceIte, Nat.reduceEqDiff, Option.map]) (by omega) (by omega) ?_
  rw [List.drop_zero, show (wholeL a).take (a.length + 4) = wholeL a from List.take_of_length_le (by omega)]
  have e1 : (2 : Int).toNat = 2 := rfl
  have e2 : ((a.length : Int) + 2).toNat = a.length + 2 := by omega
  have e3 : ((wholeL a).drop 2).take (a.length + 2 - 2) = a := by
    show (a ++ [10855845, 10855845]).take (a.length + 2 - 2) = a
    rw [Nat.add_sub_cancel, List.take_append_of_le_length (Nat.le_refl _), List.take_length]
  have e4 : Tok.cut 2 (.id c) = .sub c := rfl
  (repeat (first | refine v_reg ?_ | refine v_last ?_ | refine vwp_seq ?_ | refine vwp_block ?_ | refine vwp_skip ?_ | refine vwp_exit ?_ | refine vwp_ret ?_ | refine v_cond ?_ | simp only [vm, ite_true, ite_false, eq_self, reduceIte, Nat.reduceEqDiff, Option.map, h0, hl, e1, e2, e3, e4] | refine And.intro (by omega) ?_))
  exact ⟨c, rfl, by omega, by omega⟩
end Go.Proofs.YtacodmnlnlbahaaGreatDoor
set_option linter.unusedSimpArgs false
set_option linter.unusedVariables false
set_option maxRecDepth 100000
set_option maxHeartbeats 8000000
namespace Go.Proofs.YtacodmnlnlbahaaGreatDoor
open Go.VM

theorem shl32_low {x s : Nat} (hs : s ≤ 31) (hx : x < 4294967296) : x * 2 ^ s % 18446744073709551616 = x * 2 ^ s ∧ x * 2 ^ s % 4294967296 + 2 ^ s ≤ 4294967296 ∧ x * 2 ^ s / 4294967296 < 2 ^ s ∧ x * 2 ^ s / 4294967296 % 18446744073709551616 = x * 2 ^ s / 4294967296 ∧ 2 ^ s ≤ 2147483648 := by
  have h31 : 2 ^ s ≤ 2 ^ 31 := Nat.pow_le_pow_right (by decide) hs
  have hp : 0 < 2 ^ s := Nat.two_pow_pos s
  have hlt : x * 2 ^ s < 4294967296 * 2 ^ s := Nat.mul_lt_mul_of_pos_right hx hp
  have h32 : 4294967296 = 2 ^ (32 - s) * 2 ^ s := by rw [← Nat.pow_add, show 32 - s + s = 32 by omega]
  have hlow : x * 2 ^ s % 4294967296 + 2 ^ s ≤ 4294967296 := by
    have e : x * 2 ^ s % 4294967296 = (x % 2 ^ (32 - s)) * 2 ^ s := by rw [h32, Nat.mul_mod_mul_right]
    rw [e, ← Nat.succ_mul, h32]
    exact Nat.mul_le_mul_right _ (Nat.mod_lt _ (Nat.two_pow_pos _))
  have hdiv : x * 2 ^ s / 4294967296 < 2 ^ s := Nat.div_lt_of_lt_mul hlt
  have h1 : x * 2 ^ s < 18446744073709551616 := by
    have : 4294967296 * 2 ^ s ≤ 4294967296 * 2 ^ 31 := Nat.mul_le_mul_left _ h31
    omega
  exact ⟨Nat.mod_eq_of_lt h1, hlow, hdiv, Nat.mod_eq_of_lt (by omega), by omega⟩

theorem shl32_spec (t : Tok) (a : List Nat) (n c : Nat) (ha : Lim 4294967296 a) (hna : a.length ≤ 1099511627776) (hn : n ≤ 1099511627776) :
    VSpec Tryz.prog F.surdref01_Shl c [nats t a, iv n] (fun r c' => (a = [] ∧ r = nil1) ∨ ∃ i, r = nats (.id i) (digs 4294967296 (val 4294967296 a * 2 ^ n)) ∧ c ≤ i ∧ i < c') := by
  refine spec_mk hm E.surdref01_Shl B.surdref01_Shl K.surdref01_Shl Q.surdref01_Shl (by rw [N.surdref01_Shl]; simp) ?_
  unfold C.surdref01_Shl R.surdref01_Shl
  by_cases g0 : (a.length : Int) = 0
  · (repeat (first | refine v_reg ?_ | refine v_last ?_ | refine vwp_seq ?_ | refine vwp_block ?_ | refine vwp_skip ?_ | refine vwp_exit ?_ | refine vwp_ret ?_ | refine v_cond ?_ | simp only [vm, ite_true, ite_false, eq_self, reduceIte, Nat.reduceEqDiff, Option.map, g0] | refine And.intro (by omega) ?_))
    exact .inl (List.eq_nil_of_length_eq_zero (by omega))
  obtain ⟨q, hq⟩ : ∃ q, q = n / 32 := ⟨_, rfl⟩
  obtain ⟨s, hs⟩ : ∃ s, s = n % 32 := ⟨_, rfl⟩
  have hs31 : s ≤ 31 := by omega
  have eq1 : (n : Int) / 32 = (q : Int) := by omega
  have es1 : (n : Int) % 32 = (s : Int) := by omega
  have el : (a.length : Int) + (q : Int) + 1 = ((q + a.length + 1 : Nat) : Int) := by omega
  (repeat (first | refine v_reg ?_ | refine v_last ?_ | refine vwp_seq ?_ | refine vwp_block ?_ | refine vwp_skip ?_ | refine vwp_exit ?_ | refine vwp_ret ?_ | refine v_cond ?_ | simp only [vm, ite_true, ite_false, eq_self, reduceIte, Nat.reduceEqDiff, Option.map, g0, eq1, el] | refine And.intro (by omega) ?_))
  refine s_mk (n := q + a.length + 1) (m := q + a.length + 1) (by simp only [vm, ite_true, ite_false, eq_self, reduceIte, Nat.reduceEqDiff, Option.map]) (by simp only [vm, ite_true, ite_false, eq_self, reduceIte, Nat.reduceEqDiff, Option.map]) (Nat.le_refl _) (by omega) ?_
  (repeat (first | refine v_reg ?_ | refine v_last ?_ | refine vwp_seq ?_ | refine vwp_block ?_ | refine vwp_skip ?_ | refine vwp_exit ?_ | refine vwp_ret ?_ | refine v_cond ?_ | simp only [vm, ite_true, ite_false, eq_self, reduceIte, Nat.reduceEqDiff, Option.map, es1] | refine And.intro (by omega) ?_))
  refine v_loop (fun S => ∃ w, w.length = q + a.length + 1 ∧ Lim 4294967296 w ∧ val 4294967296 w = val 4294967296 a * 2 ^ n ∧ S.ρ 5 = .buf c 0 (q + a.length + 1) (some (q + a.length + 1)) 1 ∧ S.σ = supd noBlk c (nblk w) ∧ c + 1 ≤ S.c) ?_ ?_
  · refine vwp_loop (fun k S => ∃ i w o, k = a.length - i ∧ i ≤ a.length ∧ w.length = i ∧ Lim 4294967296 w ∧ o < 2 ^ s ∧ val 4294967296 (w ++ [o]) = val 4294967296 (a.take i) * 2 ^ s ∧ S.ρ 1 = iv (n : Int) ∧ S.ρ 6 = iv (s : Int) ∧ S.ρ 21 = nats t a ∧ S.ρ 22 = iv (a.length : Int) ∧ S.ρ 23 = iv (i : Int) ∧ S.ρ 5 = .buf c 0 (q + a.length + 1) (some (q + a.length + 1)) 1 ∧ S.σ = supd noBlk c (nblk ((List.replicate q 0 ++ w) ++ o :: List.replicate (a.length - i) 0)) ∧ c + 1 ≤ S.c) a.length ?_ ?_
    · refine ⟨0, [], 0, by omega, by omega, ?_⟩
      simp only [vm, ite_true, ite_false, eq_self, reduceIte, Nat.reduceEqDiff, Option.map]
      have e0 : List.replicate (q + a.length + 1) 0 = (List.replicate q 0 ++ []) ++ 0 :: List.replicate (a.length - 0) 0 := by
        rw [List.append_nil, ← List.replicate_succ, List.replicate_append_replicate]; rfl
      rw [e0]
      (repeat' apply And.intro) <;> first | rfl | omega | assumption | exact Lim.nil | exact Nat.two_pow_pos s | (simp [val]; done)
    rintro k ⟨ρ2, σ, c4⟩ ⟨i, w, o, hk, hi, hw, hlw, ho, hinv, h1, h6, h21, h22, h23, h5, hσ, hc4⟩
    dsimp only at h1 h6 h21 h22 h23 h5 hσ hc4
    subst hσ
    by_cases g : (i : Int) < a.length
    · have hi' : i < a.length := by omega
      have hxi := ha.getD (i := i) (by decide)
      have hax := val_take' 4294967296 a i
      obtain ⟨m1, m2, m3, m4, m5⟩ := shl32_low hs31 hxi
      have hql : (List.replicate q 0 ++ w).length = i + q := by simp [hw]; omega
      have eiq : ((i : Int) + (q : Int)).toNat = i + q := by omega
      have eiq1 : ((i : Int) + (q : Int) + 1).toNat = i + q + 1 := by omega
      have hlen : ((List.replicate q 0 ++ w) ++ o :: List.replicate (a.length - i) 0).length = q + a.length + 1 := by simp [hw]; omega
      have hget : ((List.replicate q 0 ++ w) ++ o :: List.replicate (a.length - i) 0).getD (i + q) 0 = o := by rw [← hql]; exact getD_at _ _ _
      have hset1 : ∀ v, ((List.replicate q 0 ++ w) ++ o :: List.replicate (a.length - i) 0).set (i + q) v = (List.replicate q 0 ++ w) ++ v :: List.replicate (a.length - i) 0 := fun v => by rw [← hql]; exact set_at _ _ _ _
      have hset2 : ∀ v v', ((List.replicate q 0 ++ w) ++ v :: List.replicate (a.length - i) 0).set (i + q + 1) v' = (List.replicate q 0 ++ (w ++ [v])) ++ v' :: List.replicate (a.length - (i + 1)) 0 := fun v v' => by
        have e : (List.replicate q 0 ++ w) ++ v :: List.replicate (a.length - i) 0 = (List.replicate q 0 ++ (w ++ [v])) ++ 0 :: List.replicate (a.length - (i + 1)) 0 := by
          rw [show a.length - i = a.length - (i + 1) + 1 by omega, List.replicate_succ]; simp
        rw [e, show i + q + 1 = (List.replicate q 0 ++ (w ++ [v])).length by simp [hw]; omega]
        exact set_at _ _ _ _
      have hlen2 : ∀ v, ((List.replicate q 0 ++ w) ++ v :: List.replicate (a.length - i) 0).length = q + a.length + 1 := fun v => by simp [hw]; omega
      have emin : min s 64 = s := by omega
      have hod : (o + a.getD i 0 * 2 ^ s % 4294967296) % 18446744073709551616 = o + a.getD i 0 * 2 ^ s % 4294967296 := Nat.mod_eq_of_lt (by omega)
      have hstep := shl_step (b := 4294967296) (lo := a.getD i 0 * 2 ^ s % 4294967296) (hi := a.getD i 0 * 2 ^ s / 4294967296) (x := a.getD i 0) (P := 2 ^ s) hw hinv (by omega)
      (repeat (first | refine v_reg ?_ | refine v_last ?_ | refine vwp_seq ?_ | refine vwp_block ?_ | refine vwp_skip ?_ | refine vwp_exit ?_ | refine vwp_ret ?_ | refine v_cond ?_ | simp only [vm, ite_true, ite_false, eq_self, reduceIte, Nat.reduceEqDiff, Option.map, h1, h6, h21, h22, h23, h5, g, eq1, eiq, eiq1, hlen, hlen2, hget, hset1, hset2, emin, m1, m4, hod] | refine And.intro (by omega) ?_))
      refine ⟨a.length - (i + 1), by omega, i + 1, w ++ [o + a.getD i 0 * 2 ^ s % 4294967296], a.getD i 0 * 2 ^ s / 4294967296, ?_⟩
      have key : val 4294967296 ((w ++ [o + a.getD i 0 * 2 ^ s % 4294967296]) ++ [a.getD i 0 * 2 ^ s / 4294967296]) = val 4294967296 (a.take (i + 1)) * 2 ^ s := by
        rw [hstep, hax, Nat.add_mul, Nat.mul_assoc]
      have hlw2 := lim_snoc (v := o + a.getD i 0 * 2 ^ s % 4294967296) hlw (by omega)
      (repeat' apply And.intro) <;> first | rfl | exact key | exact hlw2 | exact m3 | (simp [hw]; done) | omega | assumption
    · have hi' : i = a.length := by omega
      subst hi'
      (repeat (first | refine v_reg ?_ | refine v_last ?_ | refine vwp_seq ?_ | refine vwp_block ?_ | refine vwp_skip ?_ | refine vwp_exit ?_ | refine vwp_ret ?_ | refine v_cond ?_ | simp only [vm, ite_true, ite_false, eq_self, reduceIte, Nat.reduceEqDiff, Option.map, h1, h6, h21, h22, h23, h5, g] | refine And.intro (by omega) ?_))
      rw [List.take_length] at hinv
      refine ⟨List.replicate q 0 ++ (w ++ [o]), ?_⟩
      have hwl : Lim 4294967296 (w ++ [o]) := lim_snoc hlw (by have := Nat.pow_le_pow_right (n := 2) (by decide) hs31; omega)
      have key : val 4294967296 (List.replicate q 0 ++ (w ++ [o])) = val 4294967296 a * 2 ^ n := by
        rw [val_zeros, hinv, pow32, Nat.mul_left_comm, ← Nat.pow_add, show 32 * q + s = n by omega]
      have e0 : (List.replicate q 0 ++ w) ++ o :: List.replicate (a.length - a.length) 0 = List.replicate q 0 ++ (w ++ [o]) := by simp
      rw [e0]
      (repeat' apply And.intro) <;> first | rfl | omega | assumption | exact key | exact (Lim.replicate (by decide)).append hwl | (simp [hw]; omega)
  rintro ⟨ρ3, σ, c5⟩ ⟨w, hw, hlw, hvw, h5, hσ, hc5⟩
  dsimp only at h5 hσ hc5
  subst hσ
  refine v_freeze 5 (t := c) (off := 0) (n := q + a.length + 1) (cap := some (q + a.length + 1)) (l := w) (by simp only [vm, ite_true, ite_false, eq_self, reduceIte, Nat.reduceEqDiff, Option.map, h5]) (by simp only [vm, ite_true, ite_false, eq_self, reduceIte, Nat.reduceEqDiff, Option.map]) (by omega) (by omega) ?_
  rw [List.drop_zero, show w.take (q + a.length + 1) = w from List.take_of_length_le (by omega)]
  (repeat (first | refine v_reg ?_ | refine v_last ?_ | refine vwp_seq ?_ | refine vwp_block ?_ | refine vwp_skip ?_ | refine vwp_exit ?_ | refine vwp_ret ?_ | refine v_cond ?_ | simp only [vm, ite_true, ite_false, eq_self, reduceIte, Nat.reduceEqDiff, Option.map] | refine And.intro (by omega) ?_))
  refine s_call (norm32_spec (.id c) w c5 hlw (by omega)) (by simp only [vm, ite_true, ite_false, eq_self, reduceIte, Nat.reduceEqDiff, Option.map, List.map]) ?_
  rintro v c6 hc6 rfl
  rw [hvw]
  (repeat (first | refine v_reg ?_ | refine v_last ?_ | refine vwp_seq ?_ | refine vwp_block ?_ | refine vwp_skip ?_ | refine vwp_exit ?_ | refine vwp_ret ?_ | refine v_cond ?_ | simp only [vm, ite_true, ite_false, eq_self, reduceIte, Nat.reduceEqDiff, Option.map] | refine And.intro (by omega) ?_))
  exact .inr ⟨c, rfl, by omega, by omega⟩
end Go.Proofs.YtacodmnlnlbahaaGreatDoor
set_option linter.unusedSimpArgs false
set_option linter.unusedVariables false
set_option maxRecDepth 100000
set_option maxHeartbeats 8000000
namespace Go.Proofs.YtacodmnlnlbahaaGreatDoor
open Go.VM

theorem shlR (t : Tok) (m n c : Nat) (hm : bl m ≤ 68719476736) (hm0 : 0 < m) (hn : n ≤ 1099511627776) : VSpec Tryz.prog F.surdref01_Shl c [nats t (digs 4294967296 m), iv n] (fun r c' => RefR c c' (m * 2 ^ n) r) := by
  have h := shl32_spec t (digs 4294967296 m) n c (lim_digs two32 m) (Nat.le_trans (len32_bl (k := 2147483648) (by omega)) (by decide)) hn
  rw [val_digs two32] at h
  refine h.mono ?_
  rintro r c' (⟨h1, _⟩ | h1)
  · exact absurd ((digs_eq_nil two32).1 h1) (by omega)
  · exact h1

end Go.Proofs.YtacodmnlnlbahaaGreatDoor
set_option linter.unusedSimpArgs false
set_option linter.unusedVariables false
set_option maxRecDepth 100000
set_option maxHeartbeats 8000000
namespace Go.VM
end Go.VM
namespace Go.Proofs.YtacodmnlnlbahaaGreatDoor
open Go.VM

theorem u_and1 {b : Bool} {x : Nat} : sbin .and b (nv x) (nv 1) = some (nv (x % 2)) := by
  have e : (BitVec.ofInt 64 (x : Int) &&& BitVec.ofInt 64 1).toNat = x % 2 := by
    simp only [BitVec.ofInt_natCast, BitVec.toNat_and, BitVec.toNat_ofNat]
    have h := Nat.and_two_pow_sub_one_eq_mod (x % 2 ^ 64) 1
    show (x % 2 ^ 64) &&& (2 ^ 1 - 1) = _
    rw [h]
    omega
  show some (V.lit (.int .u64 (IntKind.u64.wrap ((BitVec.ofInt 64 (x : Int) &&& BitVec.ofInt 64 1).toNat : Int)))) = _
  rw [e, wrap_u64 (by omega) (by omega)]

end Go.Proofs.YtacodmnlnlbahaaGreatDoor
namespace Go.Proofs.YtacodmnlnlbahaaGreatDoor
open Go.VM

theorem zero_spec (t : Tok) (n c : Nat) (hn : (digs 4294967296 n).length ≤ 4398046511104) : VSpec Tryz.prog F.surdref01_Num_Zero c [nats t (digs 4294967296 n)] (fun r _ => r = bv (decide (n = 0))) := by
  refine spec_mk hm E.surdref01_Num_Zero B.surdref01_Num_Zero K.surdref01_Num_Zero Q.surdref01_Num_Zero (by rw [N.surdref01_Num_Zero]; simp) ?_
  unfold C.surdref01_Num_Zero R.surdref01_Num_Zero
  have hz := digs_eq_nil two32 (n := n)
  (repeat (first | refine v_reg ?_ | refine v_last ?_ | refine vwp_seq ?_ | refine vwp_block ?_ | refine vwp_skip ?_ | refine vwp_exit ?_ | refine vwp_ret ?_ | refine v_cond ?_ | simp only [vm, ite_true, ite_false, eq_self, reduceIte, Nat.reduceEqDiff, Option.map] | refine And.intro (by omega) ?_))
  by_cases g : n = 0
  · rw [hz.2 g, g]; rfl
  · have h1 : ¬ digs 4294967296 n = [] := fun e => g (hz.1 e)
    have h2 : 0 < (digs 4294967296 n).length := List.length_pos_iff.2 h1
    have h3 : decide (((digs 4294967296 n).length : Int) = 0) = decide (n = 0) := by rw [decide_eq_false (show ¬ ((digs 4294967296 n).length : Int) = 0 by omega), decide_eq_false g]
    rw [h3]
end Go.Proofs.YtacodmnlnlbahaaGreatDoor
set_option linter.unusedVariables false
namespace Go.VM
def tz (n : Nat) : Nat := if h : n = 0 then 0 else if n % 2 = 1 then 0 else tz (n / 2) + 1
termination_by n
decreasing_by omega
theorem tz_zero : tz 0 = 0 := by rw [tz]; rfl
theorem tz_odd {n : Nat} (h : n % 2 = 1) : tz n = 0 := by
  rw [tz, dif_neg (by omega), if_pos h]
theorem tz_even {n : Nat} (h0 : n ≠ 0) (h : n % 2 = 0) : tz n = tz (n / 2) + 1 := by
  rw [tz, dif_neg h0, if_neg (by omega)]
theorem tz_two (n : Nat) (h : n ≠ 0) : tz (2 * n) = tz n + 1 := by
  rw [tz_even (by omega) (by omega), Nat.mul_div_cancel_left _ (by decide)]
theorem tz_pow {n : Nat} (h : n ≠ 0) : ∀ k, tz (2 ^ k * n) = k + tz n
  | 0 => by simp
  | k + 1 => by
    have hp : 0 < 2 ^ k := Nat.two_pow_pos k
    have e : 2 ^ (k + 1) * n = 2 * (2 ^ k * n) := by rw [Nat.pow_succ, Nat.mul_comm (2 ^ k) 2, Nat.mul_assoc]
    rw [e, tz_two _ (Nat.mul_ne_zero (by omega) h), tz_pow h k]
    omega
def od (n : Nat) : Nat := n / 2 ^ tz n
theorem tz_od {n : Nat} (h : n ≠ 0) : n = 2 ^ tz n * od n ∧ od n % 2 = 1 := by
  induction n using Nat.strongRecOn with
  | _ n ih =>
    rcases Nat.mod_two_eq_zero_or_one n with g | g
    · obtain ⟨m, rfl⟩ : ∃ m, n = 2 * m := ⟨n / 2, by omega⟩
      have hm : m ≠ 0 := by omega
      obtain ⟨h1, h2⟩ := ih m (by omega) hm
      have e := tz_two m hm
      have e2 : od (2 * m) = od m := by
        unfold od
        rw [e, Nat.pow_succ, Nat.mul_comm (2 ^ tz m) 2, Nat.mul_div_mul_left _ _ (by decide)]
      rw [e2, e]
      refine ⟨?_, h2⟩
      rw [Nat.pow_succ, Nat.mul_comm (2 ^ tz m) 2, Nat.mul_assoc, ← h1]
    · have e := tz_odd g
      unfold od
      rw [e]
      simp [g]
theorem tz_uniq {n k m : Nat} (h : n = 2 ^ k * m) (hm : m % 2 = 1) : tz n = k ∧ od n = m := by
  have e : tz n = k := by rw [h, tz_pow (by omega), tz_odd hm]; rfl
  refine ⟨e, ?_⟩
  unfold od
  rw [e, h, Nat.mul_div_cancel_left _ (Nat.two_pow_pos k)]
theorem od_pos {n : Nat} (h : n ≠ 0) : 0 < od n := by have := (tz_od h).2; omega
theorem tz_lt {n k : Nat} (h0 : n ≠ 0) (h : n < 2 ^ k) : tz n < k := by
  obtain ⟨h1, h2⟩ := tz_od h0
  have h3 : 2 ^ tz n ≤ n := by
    have := Nat.mul_le_mul_left (2 ^ tz n) (od_pos h0)
    omega
  exact (Nat.pow_lt_pow_iff_right (by decide : 1 < 2)).1 (Nat.lt_of_le_of_lt h3 h)
theorem tz_low {x r k : Nat} (hx0 : x ≠ 0) (hx : x < 2 ^ k) : tz (x + 2 ^ k * r) = tz x := by
  obtain ⟨h1, h2⟩ := tz_od hx0
  have hk := tz_lt hx0 hx
  obtain ⟨j, hj⟩ : ∃ j, k = tz x + 1 + j := ⟨k - tz x - 1, by omega⟩
  refine (tz_uniq (n := x + 2 ^ k * r) (k := tz x) (m := od x + 2 * (2 ^ j * r)) ?_ (by omega)).1
  have e : 2 ^ k * r = 2 ^ tz x * (2 * (2 ^ j * r)) := by
    rw [hj, Nat.pow_add, Nat.pow_succ]; ac_rfl
  rw [Nat.mul_add, ← h1, e]
theorem low_bit {x k : Nat} (h0 : 0 < x) (hk : x < 2 ^ k) : x &&& (2 ^ k - x) = 2 ^ tz x := by
  obtain ⟨h1, h2⟩ := tz_od (n := x) (by omega)
  obtain ⟨y, rfl⟩ : ∃ y, x = y + 1 := ⟨x - 1, by omega⟩
  obtain ⟨j, hj⟩ : ∃ j, od (y + 1) = 2 * j + 1 := ⟨od (y + 1) / 2, by omega⟩
  have ht := tz_lt (n := y + 1) (by omega) hk
  generalize tz (y + 1) = t at *
  generalize od (y + 1) = o at *
  subst hj
  have hp : 0 < 2 ^ t := Nat.two_pow_pos t
  have ey : y = 2 ^ t * (2 * j) + (2 ^ t - 1) := by
    have : 2 ^ t * (2 * j + 1) = 2 ^ t * (2 * j) + 2 ^ t := by rw [Nat.mul_add, Nat.mul_one]
    omega
  have ex : y + 1 = 2 ^ t * (2 * j + 1) + 0 := by omega
  refine Nat.eq_of_testBit_eq fun i => ?_
  rw [Nat.testBit_and, Nat.testBit_two_pow_sub_succ (by omega), Nat.testBit_two_pow]
  rw [show (y + 1).testBit i = (2 ^ t * (2 * j + 1) + 0).testBit i by rw [← ex], show y.testBit i = (2 ^ t * (2 * j) + (2 ^ t - 1)).testBit i by rw [← ey]]
  rw [Nat.testBit_two_pow_mul_add _ (by omega), Nat.testBit_two_pow_mul_add _ (by omega)]
  by_cases g : i < t
  · rw [if_pos g, if_pos g]
    have : ¬ t = i := by omega
    simp [this]
  · rw [if_neg g, if_neg g]
    rcases Nat.lt_or_ge t i with g2 | g2
    · obtain ⟨d, hd⟩ : ∃ d, i - t = d + 1 := ⟨i - t - 1, by omega⟩
      have e1 : (2 * j + 1).testBit (d + 1) = j.testBit d := by rw [Nat.testBit_succ, show (2 * j + 1) / 2 = j by omega]
      have e2 : (2 * j).testBit (d + 1) = j.testBit d := by rw [Nat.testBit_succ, show (2 * j) / 2 = j by omega]
      have : ¬ t = i := by omega
      rw [hd, e1, e2]
      cases j.testBit d <;> simp [this]
    · have : t = i := by omega
      subst this
      have hk2 : t < k := ht
      simp [hk2, Nat.testBit_zero]
end Go.VM
namespace Go.VM
def dbTab : List Nat := [0, 1, 56, 2, 57, 49, 28, 3, 61, 58, 42, 50, 38, 29, 17, 4, 62, 47, 59, 36, 45, 43, 51, 22, 53, 39, 33, 30, 24, 18, 12, 5, 63, 55, 48, 27, 60, 41, 37, 16, 46, 35, 44, 21, 52, 32, 23, 11, 54, 26, 40, 15, 34, 20, 31, 10, 25, 14, 19, 9, 13, 8, 7, 6]
theorem db_ok : ∀ k, k < 64 → (2 ^ k * 285870213051353865 % 18446744073709551616) / 288230376151711744 < 64 ∧ dbTab[(2 ^ k * 285870213051353865 % 18446744073709551616) / 288230376151711744]? = some k := by decide
theorem db_tz {x : Nat} (h0 : 0 < x) (hx : x < 18446744073709551616) : ((x &&& (18446744073709551616 - x)) * 285870213051353865 % 18446744073709551616) / 288230376151711744 < 64 ∧ dbTab[((x &&& (18446744073709551616 - x)) * 285870213051353865 % 18446744073709551616) / 288230376151711744]? = some (tz x) := by
  have h := low_bit (k := 64) h0 hx
  have h2 : x &&& (18446744073709551616 - x) = 2 ^ tz x := h
  rw [h2]
  exact db_ok (tz x) (tz_lt (k := 64) (by omega) hx)
end Go.VM
set_option linter.unusedVariables false
set_option linter.unusedSimpArgs false
namespace Go.VM

def boxS (P : Program) (dr : Bool) (c0 : Nat) (a : Option (List V)) (i : Nat) (ρ : Nat → V) (σ : Nat → Option Blk) (c : Nat) (r : List VO) (K : VS → Prop) : Prop := ∃ l, a = some l ∧ wps P dr c0 r ⟨upd ρ i (.ptr c 0), supd σ c (some ⟨l, true⟩), c + 1⟩ K
def boxAS (P : Program) (dr : Bool) (c0 n : Nat) (b : Option Blk) (a : Option (List V)) (i : Nat) (ρ : Nat → V) (σ : Nat → Option Blk) (c : Nat) (r : List VO) (K : VS → Prop) : Prop := b = none ∧ ∃ l, a = some l ∧ l.length = n ∧ wps P dr c0 r ⟨upd ρ i (.ptr c 0), supd σ c (some ⟨l, true⟩), c + 1⟩ K
section
variable {P : Program} {dr : Bool} {c0 : Nat} {S : VS} {r : List VO} {K : VS → Prop} {d : Option Nat} {i c : Nat} {ρ : Nat → V} {σ : Nat → Option Blk}
theorem q_alloc {z : List Value} : wps P dr c0 (⟨some i, .alloc z, none⟩ :: r) ⟨ρ, σ, c⟩ K = wps P dr c0 r ⟨upd ρ i (.ptr c 0), supd σ c (some ⟨vlits z, true⟩), c + 1⟩ K := by
  refine propext ⟨fun h => ?_, fun h => s_alloc h⟩
  obtain ⟨v, σ', c', kt, h, hk⟩ := opS_eff h
  cases h with
  | pure h => simp [vpure] at h
  | alloc => exact hk
theorem q_box {x : X} : wps P dr c0 (⟨some i, .box x, none⟩ :: r) ⟨ρ, σ, c⟩ K = boxS P dr c0 (x.ev ρ).cells i ρ σ c r K := by
  refine propext ⟨fun h => ?_, fun ⟨l, h1, h2⟩ => s_box h1 h2⟩
  obtain ⟨v, σ', c', kt, h, hk⟩ := opS_eff h
  cases h with
  | pure h => simp [vpure] at h
  | box h => exact ⟨_, h, hk⟩
theorem q_boxA {n : Nat} {x : X} : wps P dr c0 (⟨some i, .boxA n x, none⟩ :: r) ⟨ρ, σ, c⟩ K = boxAS P dr c0 n (σ c) (x.ev ρ).cells i ρ σ c r K := by
  refine propext ⟨fun h => ?_, fun ⟨h0, l, h1, hn, h2⟩ => s_boxA h1 hn h0 h2⟩
  obtain ⟨v, σ', c', kt, h, hk⟩ := opS_eff h
  cases h with
  | pure h => simp [vpure] at h
  | boxA hf h hn => exact ⟨hf, _, h, hn, hk⟩
theorem all_offL {p : V} {e : Nat → V} : ∀ {ys : List Nat}, (∀ i ∈ ys, V.offp p (e i)) → offL p (ys.map e)
  | [], _ => trivial
  | y :: ys, h => ⟨h y List.mem_cons_self, all_offL fun i hi => h i (List.mem_cons_of_mem _ hi)⟩
theorem q_storeA {n : Nat} {x y : X} {ys : List Nat} : wps P dr c0 (⟨none, .storeA n x y ys, none⟩ :: r) ⟨ρ, σ, c⟩ K = offS P dr c0 (x.ev ρ) (ys.map ρ) (vstore σ n (x.ev ρ) (y.ev ρ)) ρ c r K := by
  refine propext ⟨fun h => ?_, fun h => s_storeA h⟩
  obtain ⟨v, σ', c', kt, h, hk⟩ := opS_eff h
  cases h with
  | pure h => simp [vpure] at h
  | storeA ha h => exact ⟨all_offL ha, _, h, hk⟩
theorem offS_eq {p : V} {l : List V} {a : Option (Nat → Option Blk)} : offS P dr c0 p l a ρ c r K = (offL p l ∧ putS P dr c0 a ρ c r K) := Eq.trans rfl rfl
theorem boxS_some {l : List V} : boxS P dr c0 (some l) i ρ σ c r K = wps P dr c0 r ⟨upd ρ i (.ptr c 0), supd σ c (some ⟨l, true⟩), c + 1⟩ K := by simp [boxS]
theorem boxAS_some {n : Nat} {l : List V} : boxAS P dr c0 n none (some l) i ρ σ c r K = (l.length = n ∧ wps P dr c0 r ⟨upd ρ i (.ptr c 0), supd σ c (some ⟨l, true⟩), c + 1⟩ K) := by simp [boxAS]
theorem boxS_congr {a b : Option (List V)} (h : a = b) : boxS P dr c0 a i ρ σ c r K = boxS P dr c0 b i ρ σ c r K := by rw [h]
theorem boxAS_congr {n : Nat} {a b : Option (List V)} {p q : Option Blk} (h : a = b) (g : p = q) : boxAS P dr c0 n p a i ρ σ c r K = boxAS P dr c0 n q b i ρ σ c r K := by rw [h, g]
theorem offS_congr {p q : V} {l m : List V} {a b : Option (Nat → Option Blk)} (h : p = q) (g : l = m) (e : a = b) : offS P dr c0 p l a ρ c r K = offS P dr c0 q m b ρ c r K := by rw [h, g, e]
end
attribute [congr] boxS_congr boxAS_congr offS_congr

theorem cells_agg {l : List V} : V.cells (.agg l) = some l := Eq.trans rfl rfl
theorem cells_sl {t : Tok} {n : Nat} {l : List V} : V.cells (.sl t n l) = some [.sl t n l] := Eq.trans rfl rfl
theorem cells_int {k : IntKind} {n : Int} : V.cells (.lit (.int k n)) = some [.lit (.int k n)] := Eq.trans rfl rfl
theorem cells_bool {b : Bool} : V.cells (.lit (.bool b)) = some [.lit (.bool b)] := Eq.trans rfl rfl
theorem cellsB_agg {l : List V} : V.cellsB (.agg l) = some l := Eq.trans rfl rfl
theorem cellsB_sl {t : Tok} {n : Nat} {l : List V} : V.cellsB (.sl t n l) = some [.sl t n l] := Eq.trans rfl rfl
theorem cellsB_int {k : IntKind} {n : Int} : V.cellsB (.lit (.int k n)) = some [.lit (.int k n)] := Eq.trans rfl rfl
theorem cellsB_bool {b : Bool} : V.cellsB (.lit (.bool b)) = some [.lit (.bool b)] := Eq.trans rfl rfl
theorem cellsB_buf {t off n sz : Nat} {cap : Option Nat} : V.cellsB (.buf t off n cap sz) = some [.buf t off n cap sz] := Eq.trans rfl rfl

def takeF : Nat → List V → Option (List V)
  | 0, _ => some []
  | n + 1, [] => none
  | n + 1, x :: l => if x.flat = true then (takeF n l).map (x :: ·) else none
theorem takeF_zero {l : List V} : takeF 0 l = some [] := by cases l <;> rfl
theorem takeF_succ {n : Nat} {x : V} {l : List V} : takeF (n + 1) (x :: l) = if x.flat = true then (takeF n l).map (x :: ·) else none := Eq.trans rfl rfl
theorem takeF_eq : ∀ (n : Nat) (l : List V), takeF n l = if n ≤ l.length ∧ (l.take n).all V.flat = true then some (l.take n) else none
  | 0, l => by simp [takeF_zero]
  | n + 1, [] => by simp [takeF]
  | n + 1, x :: l => by
    rw [takeF_succ, takeF_eq n l]
    by_cases h : x.flat = true
    · by_cases g : n ≤ l.length ∧ (l.take n).all V.flat = true
      · rw [if_pos h, if_pos g, if_pos ⟨by simp; exact g.1, by simp [h]; simpa using g.2⟩]; rfl
      · rw [if_pos h, if_neg g, if_neg]; · rfl
        intro q
        exact g ⟨by simpa using q.1, by have := q.2; simp [h] at this; simpa using this⟩
    · rw [if_neg h, if_neg]
      intro q
      have := q.2
      simp at this
      exact h this.1
theorem vp_succ {x : V} {l : List V} {i : Nat} {ag : Option Nat} : vpart (x :: l) (i + 1) ag = vpart l i ag := by
  cases ag with
  | none => simp [vpart]
  | some n =>
    simp only [vpart, List.length_cons, List.drop_succ_cons]
    by_cases h : i + n ≤ l.length ∧ ((l.drop i).take n).all V.flat = true
    · rw [if_pos h, if_pos ⟨by omega, h.2⟩]
    · rw [if_neg h, if_neg fun q => h ⟨by omega, q.2⟩]
theorem vp_none {x : V} {l : List V} : vpart (x :: l) 0 none = some x := Eq.trans rfl rfl
theorem vp_some {l : List V} {n : Nat} : vpart l 0 (some n) = (takeF n l).map .agg := by
  rw [takeF_eq]
  simp only [vpart, Nat.zero_add, List.drop_zero]
  split <;> rfl
theorem dl_some {l : List V} {b : Bool} {ag : Option Nat} {i : Nat} : dload (some ⟨l, b⟩) ag i = vpart l i ag := Eq.trans rfl rfl
theorem flat_sl {t : Tok} {n : Nat} {l : List V} : V.flat (.sl t n l) = true := Eq.trans rfl rfl
theorem flat_lit {v : Value} : V.flat (.lit v) = true := Eq.trans rfl rfl
theorem flat_agg {l : List V} : V.flat (.agg l) = true := Eq.trans rfl rfl
theorem ld_eptr {σ : Nat → Option Blk} {ag : Option Nat} {l : List V} {i : Nat} : vload σ ag (.eptr l i) = vpart l i ag := Eq.trans rfl rfl
theorem fd_agg {off : Nat} {ag : Option Nat} {l : List V} : vfld off ag (.agg l) = vpart l off ag := Eq.trans rfl rfl
theorem fa_ptr {off t o : Nat} : vfa off (.ptr t o) = some (.ptr t (o + off)) := Eq.trans rfl rfl
theorem fa_eptr {off i : Nat} {l : List V} : vfa off (.eptr l i) = some (.eptr l (i + off)) := Eq.trans rfl rfl
theorem ds_agg {l cs : List V} {σ : Nat → Option Blk} {t n off : Nat} : dstore (some ⟨l, true⟩) σ t n off (.agg cs) = if cs.length = n ∧ off + n ≤ l.length then some (supd σ t (some ⟨putCells l off cs, true⟩)) else none := by
  simp [dstore, V.cellsB, V.cells]
theorem ds_one {l : List V} {σ : Nat → Option Blk} {t off : Nat} {v : V} (h : v.cellsB = some [v]) : dstore (some ⟨l, true⟩) σ t 1 off v = if off < l.length then some (supd σ t (some ⟨l.set off v, true⟩)) else none := by
  simp only [dstore, h]
  by_cases g : off < l.length
  · rw [if_pos g, if_pos ⟨trivial, rfl, by omega⟩]; rfl
  · rw [if_neg g, if_neg (by omega)]
theorem ds_sl {l : List V} {σ : Nat → Option Blk} {t off n : Nat} {tk : Tok} {m : List V} : dstore (some ⟨l, true⟩) σ t 1 off (.sl tk n m) = if off < l.length then some (supd σ t (some ⟨l.set off (.sl tk n m), true⟩)) else none := ds_one rfl
theorem ds_int {l : List V} {σ : Nat → Option Blk} {t off : Nat} {k : IntKind} {n : Int} : dstore (some ⟨l, true⟩) σ t 1 off (.lit (.int k n)) = if off < l.length then some (supd σ t (some ⟨l.set off (.lit (.int k n)), true⟩)) else none := ds_one rfl
theorem ds_bool {l : List V} {σ : Nat → Option Blk} {t off : Nat} {b : Bool} : dstore (some ⟨l, true⟩) σ t 1 off (.lit (.bool b)) = if off < l.length then some (supd σ t (some ⟨l.set off (.lit (.bool b)), true⟩)) else none := ds_one rfl
theorem ds_buf {l : List V} {σ : Nat → Option Blk} {t off t' o' n' sz : Nat} {cap : Option Nat} : dstore (some ⟨l, true⟩) σ t 1 off (.buf t' o' n' cap sz) = if off < l.length then some (supd σ t (some ⟨l.set off (.buf t' o' n' cap sz), true⟩)) else none := ds_one rfl
theorem pc_nil {l : List V} {i : Nat} : putCells l i [] = l := Eq.trans rfl rfl
theorem pc_cons {l xs : List V} {x : V} {i : Nat} : putCells l i (x :: xs) = putCells (l.set i x) (i + 1) xs := Eq.trans rfl rfl
theorem vl_nil : vlits [] = [] := Eq.trans rfl rfl
theorem vl_cons {v : Value} {z : List Value} : vlits (v :: z) = ofCell v :: vlits z := Eq.trans rfl rfl
theorem oc_bool {b : Bool} : ofCell (.bool b) = .lit (.bool b) := Eq.trans rfl rfl
theorem oc_int {k : IntKind} {n : Int} : ofCell (.int k n) = .lit (.int k n) := Eq.trans rfl rfl
theorem oc_nil : ofCell (.slice none 0 0) = .sl .nil 1 [] := Eq.trans rfl rfl
theorem po_nil {e : X → V} : partsOf e [] = [] := Eq.trans rfl rfl
theorem po_cons {e : X → V} {a n : Nat} {x : X} {ps : List (Nat × Nat × X)} : partsOf e ((a, n, x) :: ps) = (a, n, e x) :: partsOf e ps := Eq.trans rfl rfl
theorem vb_eq {z : List Value} {ps : List (Nat × Nat × V)} : vbuild z ps = (vfill (vlits z) ps).map .agg := Eq.trans rfl rfl
theorem vf_nil {cs : List V} : vfill cs [] = some cs := Eq.trans rfl rfl
theorem vf_agg {cs l : List V} {off n : Nat} {r : List (Nat × Nat × V)} : vfill cs ((off, n, .agg l) :: r) = if l.length = n ∧ off + n ≤ cs.length then vfill (putCells cs off l) r else none := Eq.trans rfl rfl
theorem vf_one {cs : List V} {v : V} (h : v.cells = some [v]) {off : Nat} {r : List (Nat × Nat × V)} : vfill cs ((off, 1, v) :: r) = if off < cs.length then vfill (cs.set off v) r else none := by
  simp only [vfill, h]
  by_cases g : off < cs.length
  · rw [if_pos g, if_pos ⟨rfl, by omega⟩]; rfl
  · rw [if_neg g, if_neg (by omega)]
theorem vf_sl {cs : List V} {t : Tok} {n : Nat} {l : List V} {off : Nat} {r : List (Nat × Nat × V)} : vfill cs ((off, 1, .sl t n l) :: r) = if off < cs.length then vfill (cs.set off (.sl t n l)) r else none := vf_one rfl
theorem vf_int {cs : List V} {k : IntKind} {n : Int} {off : Nat} {r : List (Nat × Nat × V)} : vfill cs ((off, 1, .lit (.int k n)) :: r) = if off < cs.length then vfill (cs.set off (.lit (.int k n))) r else none := vf_one rfl
theorem vf_bool {cs : List V} {b : Bool} {off : Nat} {r : List (Nat × Nat × V)} : vfill cs ((off, 1, .lit (.bool b)) :: r) = if off < cs.length then vfill (cs.set off (.lit (.bool b))) r else none := vf_one rfl
def oneQ (v : V) : Option V := if v.one = true then some v else none
theorem oneQ_agg {l : List V} : oneQ (.agg l) = some (.agg l) := Eq.trans rfl rfl
theorem oneQ_sl {t : Tok} {n : Nat} {l : List V} : oneQ (.sl t n l) = some (.sl t n l) := Eq.trans rfl rfl
theorem oneQ_lit {v : Value} : oneQ (.lit v) = some (.lit v) := Eq.trans rfl rfl
theorem oneQ_tup {l : List V} : oneQ (.tup l) = some (.tup l) := Eq.trans rfl rfl
def getS (a : Option V) (K : V → Prop) : Prop := ∃ r, a = some r ∧ K r
theorem getS_some {v : V} {K : V → Prop} : getS (some v) K = K v := by simp [getS]
theorem getS_congr {a b : Option V} {K : V → Prop} (h : a = b) : getS a K = getS b K := by rw [h]
attribute [congr] getS_congr
theorem vr_tmp {ρ : Nat → V} {σ : Nat → Option Blk} {c t : Nat} : vres ⟨ρ, σ, c⟩ (.tmp t) = oneQ (ρ t) := Eq.trans rfl rfl
theorem vr_cell {ρ : Nat → V} {σ : Nat → Option Blk} {c t : Nat} {ag : Option Nat} : vres ⟨ρ, σ, c⟩ (.cell t ag) = (vload σ ag (ρ t)).bind oneQ := by
  unfold vres
  simp only
  cases vload σ ag (ρ t) <;> rfl
theorem vr_nil {S : VS} : vresL S [] = some [] := Eq.trans rfl rfl
theorem vr_cons {S : VS} {r : VRes} {l : List VRes} : vresL S (r :: l) = (vres S r).bind fun v => (vresL S l).map (v :: ·) := by
  simp only [vresL]
  cases vres S r <;> cases vresL S l <;> rfl
def resV : Option (List V) → Option V | some [v] => some v | some vs => some (.tup vs) | none => none
theorem resV_1 {v : V} : resV (some [v]) = some v := Eq.trans rfl rfl
theorem resV_2 {a b : V} {l : List V} : resV (some (a :: b :: l)) = some (.tup (a :: b :: l)) := Eq.trans rfl rfl
theorem rt_any {rs : List VRes} {Q : V → Nat → Prop} {ρ : Nat → V} {σ : Nat → Option Blk} {c : Nat} : retQ rs Q .ret ⟨ρ, σ, c⟩ = getS (resV (vresL ⟨ρ, σ, c⟩ rs)) fun r => Q r c := by
  rw [retQ_ret]
  unfold getS resV vresult
  rfl
def bslS (P : Program) (dr : Bool) (c0 : Nat) (a : Option (List V)) (sz i : Nat) (ρ : Nat → V) (σ : Nat → Option Blk) (c : Nat) (r : List VO) (K : VS → Prop) : Prop := ∃ l, a = some l ∧ wps P dr c0 r ⟨upd ρ i (.sl (.id c) sz l), σ, c + 1⟩ K
def bslS0 (P : Program) (dr : Bool) (c0 : Nat) (a : Option (List V)) (sz i : Nat) (ρ : Nat → V) (σ : Nat → Option Blk) (c : Nat) (r : List VO) (K : VS → Prop) : Prop := ∃ l, a = some l ∧ wps P dr c0 r ⟨upd ρ i (.sl .unk sz l), σ, c⟩ K
section
variable {P : Program} {dr : Bool} {c0 : Nat} {S : VS} {r : List VO} {K : VS → Prop} {d : Option Nat} {i c : Nat} {ρ : Nat → V} {σ : Nat → Option Blk}
theorem q_bsl {sz len : Nat} {z : List Value} {ps : List (Nat × Nat × X)} : wps P dr c0 (⟨some i, .bsl true sz len z ps, none⟩ :: r) ⟨ρ, σ, c⟩ K = bslS P dr c0 (vfill (rept z len) (partsOf (X.ev ρ) ps)) sz i ρ σ c r K := by
  refine propext ⟨fun h => ?_, fun ⟨l, h1, h2⟩ => s_eff rfl (by intros; exact fun h => by cases h) (by intros; exact fun h => by cases h) ⟨_, _, _, none, .bsl h1, h2⟩⟩
  obtain ⟨v, σ', c', kt, h, hk⟩ := opS_eff h
  cases h with
  | pure h => simp [vpure] at h
  | bsl h => exact ⟨_, h, hk⟩
theorem q_bsl0 {sz len : Nat} {z : List Value} {ps : List (Nat × Nat × X)} : wps P dr c0 (⟨some i, .bsl false sz len z ps, none⟩ :: r) ⟨ρ, σ, c⟩ K = bslS0 P dr c0 (vfill (rept z len) (partsOf (X.ev ρ) ps)) sz i ρ σ c r K := by
  refine propext ⟨fun h => ?_, fun ⟨l, h1, h2⟩ => s_eff rfl (by intros; exact fun h => by cases h) (by intros; exact fun h => by cases h) ⟨_, _, _, none, .bsl0 h1, h2⟩⟩
  obtain ⟨v, σ', c', kt, h, hk⟩ := opS_eff h
  cases h with
  | pure h => simp [vpure] at h
  | bsl0 h => exact ⟨_, h, hk⟩
theorem bslS_some {l : List V} {sz : Nat} : bslS P dr c0 (some l) sz i ρ σ c r K = wps P dr c0 r ⟨upd ρ i (.sl (.id c) sz l), σ, c + 1⟩ K := by simp [bslS]
theorem bslS0_some {l : List V} {sz : Nat} : bslS0 P dr c0 (some l) sz i ρ σ c r K = wps P dr c0 r ⟨upd ρ i (.sl .unk sz l), σ, c⟩ K := by simp [bslS0]
theorem bslS_congr {a b : Option (List V)} {sz : Nat} (h : a = b) : bslS P dr c0 a sz i ρ σ c r K = bslS P dr c0 b sz i ρ σ c r K := by rw [h]
theorem bslS0_congr {a b : Option (List V)} {sz : Nat} (h : a = b) : bslS0 P dr c0 a sz i ρ σ c r K = bslS0 P dr c0 b sz i ρ σ c r K := by rw [h]
end
attribute [congr] bslS_congr bslS0_congr
theorem rp_zero {z : List Value} : rept z 0 = [] := Eq.trans rfl rfl
theorem rp_succ {z : List Value} {n : Nat} : rept z (n + 1) = vlits z ++ rept z n := Eq.trans rfl rfl
theorem ix_sl {sz : Nat} {t : Tok} {l : List V} {n : Int} : vixa sz (.sl t sz l) (iv n) = if 0 ≤ n ∧ n.toNat < l.length / sz then some (.eptr l (n.toNat * sz)) else none := by simp [vixa]
theorem ln_sl {sz : Nat} {t : Tok} {l : List V} : vlen (.sl t sz l) = some (iv ((l.length / sz : Nat) : Int)) := Eq.trans rfl rfl
def nextQ (P : Program) (c0 : Nat) (b : VC) (Q : VEx → VS → Prop) : VEx → VS → Prop
  | .normal, S => VWP P c0 (.loop b) Q S
  | e, S => Q e S
theorem nextQ_normal {P : Program} {c0 : Nat} {b : VC} {Q : VEx → VS → Prop} {S : VS} : nextQ P c0 b Q .normal S = VWP P c0 (.loop b) Q S := Eq.trans rfl rfl
theorem nextQ_exit {P : Program} {c0 : Nat} {b : VC} {Q : VEx → VS → Prop} {S : VS} {j : Nat} : nextQ P c0 b Q (.exit j) S = Q (.exit j) S := Eq.trans rfl rfl
theorem nextQ_ret {P : Program} {c0 : Nat} {b : VC} {Q : VEx → VS → Prop} {S : VS} : nextQ P c0 b Q .ret S = Q .ret S := Eq.trans rfl rfl
theorem v_next {P : Program} {c0 : Nat} {b : VC} {Q : VEx → VS → Prop} {S : VS} (h : VWP P c0 b (nextQ P c0 b Q) S) : VWP P c0 (.loop b) Q S := by
  obtain ⟨e, S1, h1, h2⟩ := h
  cases e with
  | normal =>
    obtain ⟨e, S', h3, h4⟩ := h2
    exact ⟨e, S', .loop h1 h3, h4⟩
  | exit j => exact ⟨_, S1, .loopOut h1 (fun h => by cases h), h2⟩
  | ret => exact ⟨_, S1, .loopOut h1 (fun h => by cases h), h2⟩
attribute [irreducible] nextQ
theorem b_neS {a : Bool} : sbin .neq true (bv a) (bv a) = some (bv false) := by cases a <;> rfl
theorem b_ne1 : sbin .neq true (bv false) (bv true) = some (bv true) := Eq.trans rfl rfl
theorem b_ne2 : sbin .neq true (bv true) (bv false) = some (bv true) := Eq.trans rfl rfl
theorem b_eqS {a : Bool} : sbin .eql true (bv a) (bv a) = some (bv true) := by cases a <;> rfl
theorem b_eq1 : sbin .eql true (bv false) (bv true) = some (bv false) := Eq.trans rfl rfl
theorem b_eq2 : sbin .eql true (bv true) (bv false) = some (bv false) := Eq.trans rfl rfl
theorem k_ne {α : Sort _} {a b : Nat} {x y : α} (h : a ≠ b) : (if a = b then x else y) = y := if_neg h
theorem vst : type_of% (And.intro @b_neS (And.intro @b_ne1 (And.intro @b_ne2 (And.intro @b_eqS (And.intro @b_eq1 (And.intro @b_eq2 (And.intro @q_bsl (And.intro @q_bsl0 (And.intro @bslS_some (And.intro @bslS0_some (And.intro @rp_zero (And.intro @rp_succ (And.intro @ix_sl (And.intro @ln_sl (And.intro @nextQ_normal (And.intro @nextQ_exit (And.intro @nextQ_ret (And.intro @q_alloc (And.intro @q_box (And.intro @q_boxA (And.intro @q_storeA (And.intro @offS_eq (And.intro @boxS_some (And.intro @boxAS_some (And.intro @offL_nil (And.intro @offL_cons (And.intro @offp_ptr (And.intro @cells_agg (And.intro @cells_sl (And.intro @cells_int (And.intro @cells_bool (And.intro @cellsB_agg (And.intro @cellsB_sl (And.intro @cellsB_int (And.intro @cellsB_bool (And.intro @cellsB_buf (And.intro @takeF_zero (And.intro @takeF_succ (And.intro @vp_succ (And.intro @vp_none (And.intro @vp_some (And.intro @dl_some (And.intro @flat_sl (And.intro @flat_lit (And.intro @flat_agg (And.intro @ld_eptr (And.intro @fd_agg (And.intro @fa_ptr (And.intro @fa_eptr (And.intro @ds_agg (And.intro @ds_sl (And.intro @ds_int (And.intro @ds_bool (And.intro @ds_buf (And.intro @pc_nil (And.intro @pc_cons (And.intro @vl_nil (And.intro @vl_cons (And.intro @oc_bool (And.intro @oc_int (And.intro @oc_nil (And.intro @po_nil (And.intro @po_cons (And.intro @vb_eq (And.intro @vf_nil (And.intro @vf_agg (And.intro @vf_sl (And.intro @vf_int (And.intro @vf_bool (And.intro @oneQ_agg (And.intro @oneQ_sl (And.intro @oneQ_lit (And.intro @oneQ_tup (And.intro @getS_some (And.intro @vr_tmp (And.intro @vr_cell (And.intro @vr_nil (And.intro @vr_cons (And.intro @resV_1 (And.intro @resV_2 (And.intro @rt_any @s_build))))))))))))))))))))))))))))))))))))))))))))))))))))))))))))))))))))))))))))))))) :=
  (And.intro @b_neS (And.intro @b_ne1 (And.intro @b_ne2 (And.intro @b_eqS (And.intro @b_eq1 (And.intro @b_eq2 (And.intro @q_bsl (And.intro @q_bsl0 (And.intro @bslS_some (And.intro @bslS0_some (And.intro @rp_zero (And.intro @rp_succ (And.intro @ix_sl (And.intro @ln_sl (And.intro @nextQ_normal (And.intro @nextQ_exit (And.intro @nextQ_ret (And.intro @q_alloc (And.intro @q_box (And.intro @q_boxA (And.intro @q_storeA (And.intro @offS_eq (And.intro @boxS_some (And.intro @boxAS_some (And.intro @offL_nil (And.intro @offL_cons (And.intro @offp_ptr (And.intro @cells_agg (And.intro @cells_sl (And.intro @cells_int (And.intro @cells_bool (And.intro @cellsB_agg (And.intro @cellsB_sl (And.intro @cellsB_int (And.intro @cellsB_bool (And.intro @cellsB_buf (And.intro @takeF_zero (And.intro @takeF_succ (And.intro @vp_succ (And.intro @vp_none (And.intro @vp_some (And.intro @dl_some (And.intro @flat_sl (And.intro @flat_lit (And.intro @flat_agg (And.intro @ld_eptr (And.intro @fd_agg (And.intro @fa_ptr (And.intro @fa_eptr (And.intro @ds_agg (And.intro @ds_sl (And.intro @ds_int (And.intro @ds_bool (And.intro @ds_buf (And.intro @pc_nil (And.intro @pc_cons (And.intro @vl_nil (And.intro @vl_cons (And.intro @oc_bool (And.intro @oc_int (And.intro @oc_nil (And.intro @po_nil (And.intro @po_cons (And.intro @vb_eq (And.intro @vf_nil (And.intro @vf_agg (And.intro @vf_sl (And.intro @vf_int (And.intro @vf_bool (And.intro @oneQ_agg (And.intro @oneQ_sl (And.intro @oneQ_lit (And.intro @oneQ_tup (And.intro @getS_some (And.intro @vr_tmp (And.intro @vr_cell (And.intro @vr_nil (And.intro @vr_cons (And.intro @resV_1 (And.intro @resV_2 (And.intro @rt_any @s_build)))))))))))))))))))))))))))))))))))))))))))))))))))))))))))))))))))))))))))))))))
end Go.VM
set_option linter.unusedSimpArgs false
set_option linter.unusedVariables false
set_option maxRecDepth 100000
set_option maxHeartbeats 8000000
namespace Go.Proofs.YtacodmnlnlbahaaGreatDoor
open Go.VM

theorem u_neg {x : Nat} : vun .neg (nv x) = some (nv ((18446744073709551616 - x % 18446744073709551616) % 18446744073709551616)) := by
  simp only [vun]
  have : IntKind.u64.wrap (0 - (x : Int)) = (((18446744073709551616 - x % 18446744073709551616) % 18446744073709551616 : Nat) : Int) := by
    simp only [IntKind.wrap, IntKind.signed, IntKind.bits]
    simp
    omega
  rw [this]
theorem ax_g {n sz g off x : Nat} : vaxa n sz (.gptr g off) (nv x) = if x < n then some (.gptr g (off + x * sz)) else none := by
  simp [vaxa]
theorem ld_tab {σ : Nat → Option Blk} {i k : Nat} (h : dbTab[i]? = some k) : vload σ none (.gptr 0 i) = some (.lit (.int .u8 (k : Int))) := by
  have e : ∀ (l : List Nat) (j : Nat) (k : Nat), l[j]? = some k → ((l.map fun z : Nat => Value.int .u8 (z : Int)).map ofCell)[j]? = some (.lit (.int .u8 (k : Int))) := by
    intro l j k h
    rw [List.getElem?_map, List.getElem?_map, h]
    rfl
  have e2 : GT 0 = some (dbTab.map fun z : Nat => Value.int .u8 (z : Int)) := rfl
  simp only [vload, e2, vpart]
  exact e _ _ _ h

theorem tz64_spec (x c : Nat) (h0 : 0 < x) (hx : x < 18446744073709551616) : VSpec Tryz.prog F.bits_TrailingZeros64 c [nv x] (fun r _ => r = iv (tz x)) := by
  refine spec_mk hm E.bits_TrailingZeros64 B.bits_TrailingZeros64 K.bits_TrailingZeros64 Q.bits_TrailingZeros64 (by rw [N.bits_TrailingZeros64]; simp) ?_
  unfold C.bits_TrailingZeros64 R.bits_TrailingZeros64
  obtain ⟨h1, h2⟩ := db_tz h0 hx
  have h3 : (18446744073709551616 - x % 18446744073709551616) % 18446744073709551616 = 18446744073709551616 - x := by omega
  have h4 : x &&& (18446744073709551616 - x) = 2 ^ tz x := low_bit (k := 64) h0 hx
  have h5 : x % 18446744073709551616 &&& (18446744073709551616 - x) % 18446744073709551616 = x &&& (18446744073709551616 - x) := by rw [Nat.mod_eq_of_lt hx, Nat.mod_eq_of_lt (by omega)]
  have hne : ¬ x = 0 := by omega
  have hp : 2 ^ min 58 64 = 288230376151711744 := by decide
  (repeat (first | refine v_reg ?_ | refine v_last ?_ | refine vwp_seq ?_ | refine vwp_block ?_ | refine vwp_skip ?_ | refine vwp_exit ?_ | refine vwp_ret ?_ | refine v_cond ?_ | simp only [vm, ite_true, ite_false, eq_self, reduceIte, Nat.reduceEqDiff, Option.map, hne] | refine And.intro (by omega) ?_))
  simp only [u_neg, u_and, h3, h5, vm, ite_true, ite_false, eq_self, reduceIte, Nat.reduceEqDiff, Option.map, hp, ax_g, h1]
  simp only [Nat.mul_one, ld_tab h2, vm, ite_true, ite_false, eq_self, reduceIte, Nat.reduceEqDiff, Option.map]
  have ht := tz_lt (k := 64) (by omega) hx
  rw [c_8i (by omega)]
  (repeat (first | refine v_reg ?_ | refine v_last ?_ | refine vwp_seq ?_ | refine vwp_block ?_ | refine vwp_skip ?_ | refine vwp_exit ?_ | refine vwp_ret ?_ | refine v_cond ?_ | simp only [vm, ite_true, ite_false, eq_self, reduceIte, Nat.reduceEqDiff, Option.map] | refine And.intro (by omega) ?_))
  exact Nat.le_refl _
end Go.Proofs.YtacodmnlnlbahaaGreatDoor
set_option linter.unusedSimpArgs false
set_option linter.unusedVariables false
set_option maxRecDepth 100000
set_option maxHeartbeats 8000000
namespace Go.Proofs.YtacodmnlnlbahaaGreatDoor
open Go.VM

theorem tz_limb {x R : Nat} (i : Nat) (h0 : 0 < x) (hx : x < 18446744073709551616) : tz (2 ^ (64 * i) * (x + 18446744073709551616 * R)) = 64 * i + tz x := by
  rw [tz_pow (by omega)]
  have := tz_low (k := 64) (r := R) (by omega : x ≠ 0) hx
  rw [show (2 : Nat) ^ 64 = 18446744073709551616 by decide] at this
  rw [this]

theorem tail_spec (t : Tok) (l : List Nat) (c : Nat) (hl : Lim 18446744073709551616 l) (hn : l.length ≤ 4398046511104) : VSpec Tryz.prog F.nat_Tail c [nats t l] (fun r _ => r = iv (tz (val 18446744073709551616 l) : Nat)) := by
  refine spec_mk hm E.nat_Tail B.nat_Tail K.nat_Tail Q.nat_Tail (by rw [N.nat_Tail]; simp) ?_
  unfold C.nat_Tail R.nat_Tail
  (repeat (first | refine v_reg ?_ | refine v_last ?_ | refine vwp_seq ?_ | refine vwp_block ?_ | refine vwp_skip ?_ | refine vwp_exit ?_ | refine vwp_ret ?_ | refine v_cond ?_ | simp only [vm, ite_true, ite_false, eq_self, reduceIte, Nat.reduceEqDiff, Option.map] | refine And.intro (by omega) ?_))
  refine v_loopR (fun S => S.σ = noBlk ∧ c ≤ S.c ∧ val 18446744073709551616 l = 0) ?_ ?_
  · refine vwp_loop (fun k S => ∃ i, k = l.length - i ∧ i ≤ l.length ∧ S.ρ 5 = nats t l ∧ S.ρ 6 = iv l.length ∧ S.ρ 7 = iv i ∧ val 18446744073709551616 l = 2 ^ (64 * i) * val 18446744073709551616 (l.drop i) ∧ S.σ = noBlk ∧ c ≤ S.c) l.length ?_ ?_
    · refine ⟨0, by omega, by omega, ?_⟩
      simp only [vm, ite_true, ite_false, eq_self, reduceIte, Nat.reduceEqDiff, Option.map]
      (repeat' apply And.intro) <;> first | rfl | omega | assumption | simp
    rintro k ⟨ρ, σ, c3⟩ ⟨i, hk, hi, h5, h6, h7, hv, hσ, hc3⟩
    dsimp only at h5 h6 h7 hσ hc3
    subst hσ
    by_cases g : (i : Int) < l.length
    · have hi' : i < l.length := by omega
      have hd := val_drop (b := 18446744073709551616) hi'
      have hx := hl.getD (i := i) (by decide)
      by_cases g2 : l.getD i 0 = 0
      · (repeat (first | refine v_reg ?_ | refine v_last ?_ | refine vwp_seq ?_ | refine vwp_block ?_ | refine vwp_skip ?_ | refine vwp_exit ?_ | refine vwp_ret ?_ | refine v_cond ?_ | simp only [vm, ite_true, ite_false, eq_self, reduceIte, Nat.reduceEqDiff, Option.map, h5, h6, h7, g, g2] | refine And.intro (by omega) ?_))
        refine ⟨l.length - (i + 1), by omega, i + 1, ?_⟩
        have hv2 : val 18446744073709551616 l = 2 ^ (64 * (i + 1)) * val 18446744073709551616 (l.drop (i + 1)) := by
          rw [hv, hd, g2, Nat.zero_add, Nat.mul_add, Nat.pow_add, Nat.mul_assoc]
        (repeat' apply And.intro) <;> first | rfl | omega | assumption
      · (repeat (first | refine v_reg ?_ | refine v_last ?_ | refine vwp_seq ?_ | refine vwp_block ?_ | refine vwp_skip ?_ | refine vwp_exit ?_ | refine vwp_ret ?_ | refine v_cond ?_ | simp only [vm, ite_true, ite_false, eq_self, reduceIte, Nat.reduceEqDiff, Option.map, h5, h6, h7, g, g2] | refine And.intro (by omega) ?_))
        refine s_call (tz64_spec _ c3 (by omega) hx) (by simp only [vm, ite_true, ite_false, eq_self, reduceIte, Nat.reduceEqDiff, Option.map, List.map]) ?_
        rintro v c4 hc4 rfl
        have ht := tz_lt (k := 64) g2 hx
        (repeat (first | refine v_reg ?_ | refine v_last ?_ | refine vwp_seq ?_ | refine vwp_block ?_ | refine vwp_skip ?_ | refine vwp_exit ?_ | refine vwp_ret ?_ | refine v_cond ?_ | simp only [vm, ite_true, ite_false, eq_self, reduceIte, Nat.reduceEqDiff, Option.map] | refine And.intro (by omega) ?_))
        have hv2 : tz (val 18446744073709551616 l) = 64 * i + tz (l.getD i 0) := by rw [hv, hd]; exact tz_limb i (by omega) hx
        rw [hv2]
        (repeat' apply And.intro) <;> first | rfl | omega | assumption | (push_cast; rfl)
    · have : i = l.length := by omega
      subst this
      rw [List.drop_length] at hv
      (repeat (first | refine v_reg ?_ | refine v_last ?_ | refine vwp_seq ?_ | refine vwp_block ?_ | refine vwp_skip ?_ | refine vwp_exit ?_ | refine vwp_ret ?_ | refine v_cond ?_ | simp only [vm, ite_true, ite_false, eq_self, reduceIte, Nat.reduceEqDiff, Option.map, h5, h6, h7, g] | refine And.intro (by omega) ?_))
      (repeat' apply And.intro) <;> first | rfl | omega | assumption | (rw [hv]; rfl)
  rintro ⟨ρ3, σ, c5⟩ ⟨hσ, hc5, hv⟩
  dsimp only at hσ hc5
  subst hσ
  (repeat (first | refine v_reg ?_ | refine v_last ?_ | refine vwp_seq ?_ | refine vwp_block ?_ | refine vwp_skip ?_ | refine vwp_exit ?_ | refine vwp_ret ?_ | refine v_cond ?_ | simp only [vm, ite_true, ite_false, eq_self, reduceIte, Nat.reduceEqDiff, Option.map] | refine And.intro (by omega) ?_))
  rw [hv, tz_zero]
  (repeat' apply And.intro) <;> first | rfl | omega | assumption
end Go.Proofs.YtacodmnlnlbahaaGreatDoor
set_option linter.unusedSimpArgs false
set_option linter.unusedVariables false
set_option maxRecDepth 100000
set_option maxHeartbeats 8000000
namespace Go.Proofs.YtacodmnlnlbahaaGreatDoor
open Go.VM

theorem val_right (x : List Nat) (n : Nat) (hx : Lim 18446744073709551616 x) : val 18446744073709551616 x / 2 ^ n = val 18446744073709551616 (x.drop (n / 64)) / 2 ^ (n % 64) := by
  have e : 2 ^ n = 18446744073709551616 ^ (n / 64) * 2 ^ (n % 64) := by rw [pow64, ← Nat.pow_add, Nat.div_add_mod]
  rw [e, ← Nat.div_div_eq_div_mul]
  congr 1
  rcases Nat.lt_or_ge x.length (n / 64) with g | g
  · rw [List.drop_eq_nil_of_le (Nat.le_of_lt g)]
    exact Nat.div_eq_of_lt (Nat.lt_of_lt_of_le (val_lt hx) (Nat.pow_le_pow_right (by decide) (Nat.le_of_lt g)))
  · have h := val_take_drop 18446744073709551616 (n / 64) x g
    have h2 : val 18446744073709551616 (x.take (n / 64)) < 18446744073709551616 ^ (n / 64) := by
      have := val_lt (hx.take (k := n / 64))
      rwa [List.length_take, Nat.min_eq_left g] at this
    rw [h, Nat.add_mul_div_left _ _ (Nat.pow_pos (by decide)), Nat.div_eq_of_lt h2, Nat.zero_add]

theorem right_spec (t : Tok) (a : List Nat) (n c : Nat) (ha : Lim 18446744073709551616 a) (hna : a.length ≤ 1099511627776) (hn : n ≤ 1099511627776) : VSpec Tryz.prog F.nat_Right c [nats t a, iv (n : Int)] (fun r c' => Told c c' (val 18446744073709551616 a / 2 ^ n) r) := by
  refine spec_mk hm E.nat_Right B.nat_Right K.nat_Right Q.nat_Right (by rw [N.nat_Right]; simp) ?_
  unfold C.nat_Right R.nat_Right
  have hla := digs_len_le two64 ha
  have g1 : ¬ (n : Int) < 0 := by omega
  have g2 : ¬ (1099511627776 : Int) < n := by omega
  have d1 : (n : Int) / 64 = ((n / 64 : Nat) : Int) := by omega
  have d2 : (n : Int) % 64 = ((n % 64 : Nat) : Int) := by omega
  have d3 : ((n % 64 : Nat) : Int).toNat = n % 64 := by omega
  (repeat (first | refine v_reg ?_ | refine v_last ?_ | refine vwp_seq ?_ | refine vwp_block ?_ | refine vwp_skip ?_ | refine vwp_exit ?_ | refine vwp_ret ?_ | refine v_cond ?_ | simp only [vm, ite_true, ite_false, eq_self, reduceIte, Nat.reduceEqDiff, Option.map, g1, g2] | refine And.intro (by omega) ?_))
  refine s_call (trim_spec t a c ha (by omega)) (by simp only [vm, ite_true, ite_false, eq_self, reduceIte, Nat.reduceEqDiff, Option.map, List.map]) ?_
  rintro v c2 hc2 rfl
  have hx := lim_digs two64 (val 18446744073709551616 a)
  have va := val_digs two64 (val 18446744073709551616 a)
  generalize digs 18446744073709551616 (val 18446744073709551616 a) = x at *
  have hvr := val_right x n hx
  rw [va] at hvr
  obtain ⟨q, hq⟩ : ∃ q, q = n / 64 := ⟨_, rfl⟩
  obtain ⟨s, hs⟩ : ∃ s, s = n % 64 := ⟨_, rfl⟩
  rw [← hq, ← hs] at hvr
  rw [← hq] at d1
  rw [← hs] at d2 d3
  by_cases g3 : (x.length : Int) ≤ (q : Int)
  · have hx0 : x.drop q = [] := List.drop_eq_nil_of_le (by omega)
    (repeat (first | refine v_reg ?_ | refine v_last ?_ | refine vwp_seq ?_ | refine vwp_block ?_ | refine vwp_skip ?_ | refine vwp_exit ?_ | refine vwp_ret ?_ | refine v_cond ?_ | simp only [vm, ite_true, ite_false, eq_self, reduceIte, Nat.reduceEqDiff, Option.map, g1, g2, d1, d2, d3, g3] | refine And.intro (by omega) ?_))
    rw [hvr, hx0]
    refine .inl ⟨?_, .nil, ?_, .inl rfl⟩
    · rw [val_nil, Nat.zero_div]; decide
    · rw [val_nil, Nat.zero_div]; rfl
  have hlX : (x.drop q).length = x.length - q := List.length_drop
  have hg : ∀ j, x.getD (q + j) 0 = (x.drop q).getD j 0 := fun j => by
    rw [List.getD_eq_getElem?_getD, List.getD_eq_getElem?_getD, List.getElem?_drop]
  have hX := hx.drop (k := q)
  obtain ⟨m, hm⟩ : ∃ m, m = x.length - q := ⟨_, rfl⟩
  have hm2 : (x.length : Int) - (q : Int) = (m : Int) := by omega
  (repeat (first | refine v_reg ?_ | refine v_last ?_ | refine vwp_seq ?_ | refine vwp_block ?_ | refine vwp_skip ?_ | refine vwp_exit ?_ | refine vwp_ret ?_ | refine v_cond ?_ | simp only [vm, ite_true, ite_false, eq_self, reduceIte, Nat.reduceEqDiff, Option.map, g1, g2, d1, d2, d3, g3, hm2] | refine And.intro (by omega) ?_))
  refine s_mk (n := m) (m := m) (by simp only [vm, ite_true, ite_false, eq_self, reduceIte, Nat.reduceEqDiff, Option.map]) (by simp only [vm, ite_true, ite_false, eq_self, reduceIte, Nat.reduceEqDiff, Option.map]) (Nat.le_refl _) (by omega) ?_
  have hs64 : s < 64 := by omega
  have hp : (18446744073709551616 : Nat) = 2 ^ s * 2 ^ (64 - s) := by rw [← Nat.pow_add, show s + (64 - s) = 64 by omega]
  (repeat (first | refine v_reg ?_ | refine v_last ?_ | refine vwp_seq ?_ | refine vwp_block ?_ | refine vwp_skip ?_ | refine vwp_exit ?_ | refine vwp_ret ?_ | refine v_cond ?_ | simp only [vm, ite_true, ite_false, eq_self, reduceIte, Nat.reduceEqDiff, Option.map] | refine And.intro (by omega) ?_))
  refine v_loop (fun S => ∃ w, w.length = m ∧ Lim 18446744073709551616 w ∧ val 18446744073709551616 w = val 18446744073709551616 (x.drop q) / 2 ^ s ∧ S.ρ 8 = .buf c2 0 m (some m) 1 ∧ S.σ = supd noBlk c2 (nblk w) ∧ c2 + 1 ≤ S.c) ?_ ?_
  · refine vwp_loop (fun k S => ∃ i w, k = m - i ∧ i ≤ m ∧ w.length = i ∧ Lim 18446744073709551616 w ∧ val 18446744073709551616 w * 2 ^ s + (x.drop q).getD 0 0 % 2 ^ s = val 18446744073709551616 ((x.drop q).take i) + 18446744073709551616 ^ i * ((x.drop q).getD i 0 % 2 ^ s) ∧ S.ρ 0 = nats t x ∧ S.ρ 6 = iv q ∧ S.ρ 7 = nv s ∧ S.ρ 33 = iv m ∧ S.ρ 34 = iv i ∧ S.ρ 8 = .buf c2 0 m (some m) 1 ∧ S.σ = supd noBlk c2 (nblk (w ++ List.replicate (m - i) 0)) ∧ c2 + 1 ≤ S.c) m ?_ ?_
    · refine ⟨0, [], by omega, by omega, ?_⟩
      simp only [vm, ite_true, ite_false, eq_self, reduceIte, Nat.reduceEqDiff, Option.map]
      (repeat' apply And.intro) <;> first | rfl | omega | assumption | exact Lim.nil | (rw [d3]) | (simp [val]; done)
    rintro k ⟨ρ2, σ, c4⟩ ⟨i, w, hk, hi, hw, hlw, hinv, h0, h6, h7, h33, h34, h8, hσ, hc4⟩
    dsimp only at h0 h6 h7 h33 h34 h8 hσ hc4
    subst hσ
    by_cases g : (i : Int) < m
    · have hi' : i < m := by omega
      have hxi := hX.getD (i := i) (by decide)
      obtain ⟨o1, o2⟩ := down_limb (y := (x.drop q).getD (i + 1) 0) hs64 hxi
      have e1 : ((q : Int) + (i : Int)).toNat = q + i := by omega
      have e1b : q + i < x.length := by omega
      have e2 : ((q : Int) + (i : Int) + 1).toNat = q + (i + 1) := by omega
      have e3 : min s 64 = s := by omega
      have e4 : (63 + (18446744073709551616 - s % 18446744073709551616)) % 18446744073709551616 = 63 - s := by omega
      have e5 : min (63 - s) 64 = 63 - s := by omega
      have e6 : (x.drop q).getD i 0 / 2 ^ s < 18446744073709551616 := Nat.lt_of_le_of_lt (Nat.div_le_self _ _) hxi
      have e7 : (x.drop q).getD i 0 / 2 ^ s % 18446744073709551616 = (x.drop q).getD i 0 / 2 ^ s := Nat.mod_eq_of_lt e6
      have hlen1 : (w ++ List.replicate (m - i) 0).length = m := by simp; omega
      have hset1 : ∀ v, (w ++ List.replicate (m - i) 0).set i v = w ++ v :: List.replicate (m - (i + 1)) 0 := fun v => by
        conv => lhs; rw [← hw]
        rw [show m - w.length = m - (i + 1) + 1 by omega, List.replicate_succ, set_at]
      have hlen2 : ∀ v, (w ++ v :: List.replicate (m - (i + 1)) 0).length = m := fun v => by simp; omega
      have hget2 : ∀ v, (w ++ v :: List.replicate (m - (i + 1)) 0).getD i 0 = v := fun v => by rw [← hw]; exact getD_at _ _ _
      have hset2 : ∀ v u, (w ++ v :: List.replicate (m - (i + 1)) 0).set i u = w ++ u :: List.replicate (m - (i + 1)) 0 := fun v u => by
        conv => lhs; rw [← hw]
        rw [set_at, hw]
      have key := down_step (y := (x.drop q).getD (i + 1) 0) hw hinv hp rfl
      rw [← val_take (l := x.drop q) (i := i) (by omega)] at key
      have eapp : ∀ v, w ++ v :: List.replicate (m - (i + 1)) 0 = (w ++ [v]) ++ List.replicate (m - (i + 1)) 0 := fun v => by simp
      by_cases g5 : (q : Int) + (i : Int) + 1 < x.length
      · have e2b : q + (i + 1) < x.length := by omega
        (repeat (first | refine v_reg ?_ | refine v_last ?_ | refine vwp_seq ?_ | refine vwp_block ?_ | refine vwp_skip ?_ | refine vwp_exit ?_ | refine vwp_ret ?_ | refine v_cond ?_ | simp only [vm, ite_true, ite_false, eq_self, reduceIte, Nat.reduceEqDiff, Option.map, h0, h6, h7, h33, h34, h8, g, g5, e1, e1b, e2, e2b, hg, e3, e4, e5, e7, hlen1, hset1, hlen2, hget2, hset2, u_or, Nat.mod_mod, o1] | refine And.intro (by omega) ?_))
        refine ⟨m - (i + 1), by omega, i + 1, w ++ [(x.drop q).getD i 0 / 2 ^ s + ((x.drop q).getD (i + 1) 0 % 2 ^ s) * 2 ^ (64 - s)], ?_⟩
        rw [eapp]
        (repeat' apply And.intro) <;> first | rfl | exact key | exact lim_snoc hlw o2 | (simp [hw]; done) | omega | assumption
      · have hy : (x.drop q).getD (i + 1) 0 = 0 := getD_ge (by omega)
        rw [hy, Nat.zero_mod, Nat.zero_mul, Nat.add_zero] at key
        (repeat (first | refine v_reg ?_ | refine v_last ?_ | refine vwp_seq ?_ | refine vwp_block ?_ | refine vwp_skip ?_ | refine vwp_exit ?_ | refine vwp_ret ?_ | refine v_cond ?_ | simp only [vm, ite_true, ite_false, eq_self, reduceIte, Nat.reduceEqDiff, Option.map, h0, h6, h7, h33, h34, h8, g, g5, e1, e1b, e2, hg, e3, e4, e5, e7, hlen1, hset1] | refine And.intro (by omega) ?_))
        refine ⟨m - (i + 1), by omega, i + 1, w ++ [(x.drop q).getD i 0 / 2 ^ s], ?_⟩
        rw [eapp, hy, Nat.zero_mod]
        (repeat' apply And.intro) <;> first | rfl | exact key | exact lim_snoc hlw e6 | (simp [hw]; done) | omega | assumption
    · have hi' : i = m := by omega
      have e8 : (x.drop q).length = m := by rw [hlX, hm]
      subst hi'
      (repeat (first | refine v_reg ?_ | refine v_last ?_ | refine vwp_seq ?_ | refine vwp_block ?_ | refine vwp_skip ?_ | refine vwp_exit ?_ | refine vwp_ret ?_ | refine v_cond ?_ | simp only [vm, ite_true, ite_false, eq_self, reduceIte, Nat.reduceEqDiff, Option.map, h0, h6, h7, h33, h34, h8, g] | refine And.intro (by omega) ?_))
      have e9 : (x.drop q).take i = x.drop q := List.take_of_length_le (Nat.le_of_eq e8)
      rw [e9, getD_ge (l := x.drop q) (Nat.le_of_eq e8), Nat.zero_mod, Nat.mul_zero, Nat.add_zero] at hinv
      refine ⟨w, ?_⟩
      have e0 : w ++ List.replicate (i - i) 0 = w := by simp
      rw [e0]
      have hv : val 18446744073709551616 w = val 18446744073709551616 (x.drop q) / 2 ^ s := (div_mod_of hinv (Nat.mod_lt _ (Nat.two_pow_pos s))).1.symm
      (repeat' apply And.intro) <;> first | rfl | omega | assumption | exact hv
  rintro ⟨ρ3, σ, c5⟩ ⟨w, hw, hlw, hvw, h8, hσ, hc5⟩
  dsimp only at h8 hσ hc5
  subst hσ
  refine v_freeze 8 (t := c2) (off := 0) (n := m) (cap := some m) (l := w) (by simp only [vm, ite_true, ite_false, eq_self, reduceIte, Nat.reduceEqDiff, Option.map, h8]) (by simp only [vm, ite_true, ite_false, eq_self, reduceIte, Nat.reduceEqDiff, Option.map]) (by omega) (by omega) ?_
  rw [List.drop_zero, show w.take m = w from List.take_of_length_le (by omega)]
  (repeat (first | refine v_reg ?_ | refine v_last ?_ | refine vwp_seq ?_ | refine vwp_block ?_ | refine vwp_skip ?_ | refine vwp_exit ?_ | refine vwp_ret ?_ | refine v_cond ?_ | simp only [vm, ite_true, ite_false, eq_self, reduceIte, Nat.reduceEqDiff, Option.map] | refine And.intro (by omega) ?_))
  refine s_call (told_spec (.id c2) w c5 hlw (by omega)) (by simp only [vm, ite_true, ite_false, eq_self, reduceIte, Nat.reduceEqDiff, Option.map, List.map]) ?_
  rintro v c6 hc6 rfl
  rw [hvw, ← hvr]
  by_cases gb : bl (val 18446744073709551616 a / 2 ^ n) ≤ 67108864
  · rw [if_pos gb]
    (repeat (first | refine v_reg ?_ | refine v_last ?_ | refine vwp_seq ?_ | refine vwp_block ?_ | refine vwp_skip ?_ | refine vwp_exit ?_ | refine vwp_ret ?_ | refine v_cond ?_ | simp only [vm, ite_true, ite_false, eq_self, reduceIte, Nat.reduceEqDiff, Option.map] | refine And.intro (by omega) ?_))
    exact .inl ⟨gb, .id c2, rfl, .inr ⟨c2, rfl, by omega, by omega⟩⟩
  · rw [if_neg gb]
    (repeat (first | refine v_reg ?_ | refine v_last ?_ | refine vwp_seq ?_ | refine vwp_block ?_ | refine vwp_skip ?_ | refine vwp_exit ?_ | refine vwp_ret ?_ | refine v_cond ?_ | simp only [vm, ite_true, ite_false, eq_self, reduceIte, Nat.reduceEqDiff, Option.map] | refine And.intro (by omega) ?_))
    exact .inr ⟨by omega, rfl⟩
end Go.Proofs.YtacodmnlnlbahaaGreatDoor
set_option linter.unusedVariables false
namespace Go.Proofs.YtacodmnlnlbahaaGreatDoor
open Go.VM

structure Dy where
  neg : Bool
  m : Nat
  e : Int
def dy0 : Dy := ⟨false, 0, 0⟩
def dyOf (neg : Bool) (n : Nat) (e : Int) : Dy := if n = 0 then dy0 else ⟨neg, od n, e + (tz n : Int)⟩
structure Dy.Ok (d : Dy) : Prop where
  odd : d.m = 0 ∨ d.m % 2 = 1
  zero : d.m = 0 → d = dy0
theorem dyOf_ok (neg : Bool) (n : Nat) (e : Int) : (dyOf neg n e).Ok := by
  unfold dyOf
  split
  · exact ⟨.inl rfl, fun _ => rfl⟩
  · rename_i h
    exact ⟨.inr (tz_od h).2, fun h2 => absurd h2 (Nat.ne_of_gt (od_pos h))⟩
theorem od_le (n : Nat) : od n ≤ n := Nat.div_le_self _ _
theorem dyOf_le (neg : Bool) (n : Nat) (e : Int) : (dyOf neg n e).m ≤ n := by
  unfold dyOf
  split
  · exact Nat.zero_le _
  · exact od_le n
theorem tz_le_bl (n : Nat) : tz n ≤ bl n := by
  by_cases h : n = 0
  · rw [h, tz_zero]; exact Nat.zero_le _
  · exact Nat.le_of_lt (tz_lt h (lt_bl n))
def Dy.sg (d : Dy) : Int := if d.m = 0 then 0 else if d.neg = true then -1 else 1
def Dy.top (d : Dy) : Int := d.e + (bl d.m : Int) - 1
def cmpD (x y : Dy) : Int :=
  if x.sg < y.sg then -1 else if y.sg < x.sg then 1 else if x.sg = 0 then 0 else
  if x.top < y.top then - x.sg else if y.top < x.top then x.sg else
  x.sg * cmpI (x.m * 2 ^ (x.e - y.e).toNat) (y.m * 2 ^ (y.e - x.e).toNat)
theorem sg_cases (d : Dy) : (d.m = 0 ∧ d.sg = 0) ∨ (d.m ≠ 0 ∧ d.neg = true ∧ d.sg = -1) ∨ (d.m ≠ 0 ∧ d.neg = false ∧ d.sg = 1) := by
  unfold Dy.sg
  by_cases g : d.m = 0
  · exact .inl ⟨g, if_pos g⟩
  · rw [if_neg g]
    cases h : d.neg
    · exact .inr (.inr ⟨g, rfl, by simp⟩)
    · exact .inr (.inl ⟨g, rfl, by simp⟩)
theorem bl_shl {x k : Nat} (h : x ≠ 0) : bl (x * 2 ^ k) = bl x + k := by
  have h1 : 2 ^ (bl x - 1) ≤ x := by
    rcases Nat.lt_or_ge x (2 ^ (bl x - 1)) with g | g
    · have := bl_le g
      have := bl_pos (Nat.pos_of_ne_zero h)
      omega
    · exact g
  have h2 := lt_bl x
  have hp : 0 < 2 ^ k := Nat.two_pow_pos k
  have h3 := bl_pos (Nat.pos_of_ne_zero h)
  have e := bl_eq (n := x * 2 ^ k) (k := bl x + k - 1) (by
    rw [show bl x + k - 1 = (bl x - 1) + k by omega, Nat.pow_add]
    exact Nat.mul_le_mul_right _ h1) (by
    rw [show bl x + k - 1 + 1 = bl x + k by omega, Nat.pow_add]
    exact (Nat.mul_lt_mul_right hp).2 h2)
  omega
end Go.Proofs.YtacodmnlnlbahaaGreatDoor
