/- Texts of a claim, merged: what they prove is told at the last one's head. -/
import Derived.Test.YtplofcianjnkmaaGreatDoorOwM3
import Derived.Test.YtplofcianjnkmaaGreatDoorChecked
import Derived.Lib.Mul64
set_option linter.unusedVariables false
namespace Go.Proofs.YtplofcianjnkmaaGreatDoor
open Go.VM

def C.dyadic_Mul : VC :=
  .seq (.region false [⟨some 2, .box (.t 0), none⟩,
   ⟨some 3, .box (.t 1), none⟩,
   ⟨some 4, .alloc [.bool false, .slice none 0 0, .int .i64 0], none⟩,
   ⟨some 5, .mov (.c (iv 0)), none⟩]) (.seq (.region false [⟨some 11, .load (some 3) (.t 2), none⟩,
   ⟨some 12, .load (some 3) (.t 3), none⟩,
   ⟨some 13, .call F.dyadic_two [.t 11, .t 12], none⟩,
   ⟨some 10, .mov (.t 13), none⟩,
   ⟨some 14, .ext (.t 10) 0, none⟩,
   ⟨some 15, .ext (.t 10) 1, none⟩,
   ⟨some 16, .ext (.t 10) 2, none⟩,
   ⟨some 6, .alloc [.bool false, .slice none 0 0, .int .i64 0], none⟩,
   ⟨some 7, .alloc [.bool false, .slice none 0 0, .int .i64 0], none⟩,
   ⟨none, .store 3 (.t 6) (.t 14), none⟩,
   ⟨none, .store 3 (.t 7) (.t 15), none⟩,
   ⟨some 8, .mov (.t 16), none⟩]) (.seq (.seq (.region false [⟨some 17, .mov (.t 8), none⟩,
   ⟨some 18, .bin .neq false (.t 17) (.c (iv 0)), none⟩]) (.cond (.t 18) (.seq (.region false [⟨some 19, .build [.bool false, .slice none 0 0, .int .i64 0] [], none⟩,
   ⟨some 20, .mov (.t 8), none⟩,
   ⟨none, .store 3 (.t 4) (.t 19), none⟩,
   ⟨some 5, .mov (.t 20), none⟩]) .ret) .skip)) (.seq (.region false [⟨some 22, .fa 0 (.t 6), none⟩,
   ⟨some 23, .fa 0 (.t 22), none⟩,
   ⟨some 24, .load (some 2) (.t 23), none⟩,
   ⟨some 25, .fa 0 (.t 7), none⟩,
   ⟨some 26, .fa 0 (.t 25), none⟩,
   ⟨some 27, .load (some 2) (.t 26), none⟩,
   ⟨some 28, .call F.whole_Mul [.t 24, .t 27], none⟩,
   ⟨some 21, .mov (.t 28), none⟩,
   ⟨some 29, .ext (.t 21) 0, none⟩,
   ⟨some 30, .ext (.t 21) 1, none⟩,
   ⟨some 9, .alloc [.bool false, .slice none 0 0], none⟩,
   ⟨none, .store 2 (.t 9) (.t 29), none⟩,
   ⟨some 8, .mov (.t 30), none⟩]) (.seq (.seq (.region false [⟨some 31, .mov (.t 8), none⟩,
   ⟨some 32, .bin .neq false (.t 31) (.c (iv 0)), none⟩]) (.cond (.t 32) (.seq (.region false [⟨some 33, .build [.bool false, .slice none 0 0, .int .i64 0] [], none⟩,
   ⟨some 34, .mov (.t 8), none⟩,
   ⟨none, .store 3 (.t 4) (.t 33), none⟩,
   ⟨some 5, .mov (.t 34), none⟩]) .ret) .skip)) (.seq (.region false [⟨some 35, .load (some 2) (.t 9), none⟩,
   ⟨some 36, .fa 2 (.t 6), none⟩,
   ⟨some 37, .load none (.t 36), none⟩,
   ⟨some 38, .fa 2 (.t 7), none⟩,
   ⟨some 39, .load none (.t 38), none⟩,
   ⟨some 40, .bin .add false (.t 37) (.t 39), none⟩,
   ⟨some 41, .call F.dyadic_told [.t 35, .t 40], none⟩,
   ⟨some 42, .ext (.t 41) 0, none⟩,
   ⟨some 43, .ext (.t 41) 1, none⟩,
   ⟨none, .store 3 (.t 4) (.t 42), none⟩,
   ⟨some 5, .mov (.t 43), none⟩]) .ret)))))
def R.dyadic_Mul : List VRes := [.cell 4 (some 3), .tmp 5]
theorem K.dyadic_Mul : resCode Tryz.prog Tryz.f100.ntmps (Tryz.f100.body.getD .skip) = C.dyadic_Mul := by kernel_rfl
theorem Q.dyadic_Mul : resResults Tryz.prog Tryz.f100.results.toList = some R.dyadic_Mul := by kernel_rfl
theorem E.dyadic_Mul : Tryz.prog.funcs[F.dyadic_Mul]? = some Tryz.f100 := Tryz.func100
theorem B.dyadic_Mul : Tryz.f100.body = some (Tryz.f100.body.getD .skip) := by kernel_rfl
theorem N.dyadic_Mul : Tryz.f100.ntmps = 44 := Tryz.ntmps100

def C.span_hull : VC :=
  .seq (.region false [⟨some 4, .alloc [.bool false, .slice none 0 0, .int .i64 0, .bool false, .slice none 0 0, .int .i64 0], none⟩,
   ⟨some 5, .mov (.c (iv 0)), none⟩]) (.seq (.region true [⟨some 14, .mov (.t 1), none⟩,
   ⟨some 15, .ixa 3 (.t 14) (.c (iv 0)), none⟩,
   ⟨some 16, .load (some 3) (.t 15), none⟩,
   ⟨some 17, .mov (.t 1), none⟩,
   ⟨some 18, .ixa 3 (.t 17) (.c (iv 0)), none⟩,
   ⟨some 19, .load (some 3) (.t 18), none⟩,
   ⟨some 6, .mov (.c .any), none⟩,
   ⟨some 7, .mov (.c .any), none⟩,
   ⟨some 6, .boxA 3 (.t 16), none⟩,
   ⟨some 7, .boxA 3 (.t 19), none⟩]) (.seq (.seq (.region false [⟨some 20, .mov (.t 1), none⟩,
   ⟨some 21, .slc 3 (.t 20) (some (.c (iv 1))) none none, none⟩,
   ⟨some 22, .len (.t 21), none⟩,
   ⟨some 23, .mov (.c (iv 0)), none⟩]) (.block 0 (.loop (.seq (.region false [⟨some 24, .bin .lss false (.t 23) (.t 22), none⟩]) (.seq (.cond (.t 24) .skip (.exit 0)) (.seq (.block 1 (.seq (.region false [⟨some 25, .ixa 3 (.t 21) (.t 23), none⟩,
   ⟨some 26, .load (some 3) (.t 25), none⟩,
   ⟨some 9, .alloc [.bool false, .slice none 0 0, .int .i64 0], none⟩,
   ⟨none, .store 3 (.t 9) (.t 26), none⟩]) (.seq (.seq (.region false [⟨some 28, .load (some 3) (.t 9), none⟩,
   ⟨some 29, .load (some 3) (.t 6), none⟩,
   ⟨some 30, .call F.dyadic_Compare [.t 28, .t 29], none⟩,
   ⟨some 27, .mov (.t 30), none⟩,
   ⟨some 31, .ext (.t 27) 0, none⟩,
   ⟨some 32, .ext (.t 27) 1, none⟩,
   ⟨some 10, .mov (.t 31), none⟩,
   ⟨some 11, .mov (.t 32), none⟩]) (.seq (.region false [⟨some 33, .mov (.t 10), none⟩,
   ⟨some 34, .bin .lss false (.t 33) (.c (iv 0)), none⟩]) (.cond (.t 34) (.region false [⟨some 35, .load (some 3) (.t 9), none⟩,
   ⟨none, .store 3 (.t 6) (.t 35), none⟩]) .skip))) (.seq (.region false [⟨some 37, .load (some 3) (.t 9), none⟩,
   ⟨some 38, .load (some 3) (.t 7), none⟩,
   ⟨some 39, .call F.dyadic_Compare [.t 37, .t 38], none⟩,
   ⟨some 36, .mov (.t 39), none⟩,
   ⟨some 40, .ext (.t 36) 0, none⟩,
   ⟨some 41, .ext (.t 36) 1, none⟩,
   ⟨some 12, .mov (.t 40), none⟩,
   ⟨some 13, .mov (.t 41), none⟩]) (.seq (.region false [⟨some 42, .mov (.t 12), none⟩,
   ⟨some 43, .bin .gtr false (.t 42) (.c (iv 0)), none⟩]) (.cond (.t 43) (.region false [⟨some 44, .load (some 3) (.t 9), none⟩,
   ⟨none, .store 3 (.t 7) (.t 44), none⟩]) .skip)))))) (.region false [⟨some 45, .bin .add false (.t 23) (.c (iv 1)), none⟩,
   ⟨some 23, .mov (.t 45), none⟩]))))))) (.seq (.region false [⟨some 46, .load (some 3) (.t 6), none⟩,
   ⟨some 47, .load (some 3) (.t 7), none⟩,
   ⟨some 48, .mov (.t 0), none⟩,
   ⟨some 49, .call F.span_outward [.t 46, .t 47, .t 48], none⟩,
   ⟨some 50, .ext (.t 49) 0, none⟩,
   ⟨some 51, .ext (.t 49) 1, none⟩,
   ⟨none, .store 6 (.t 4) (.t 50), none⟩,
   ⟨some 5, .mov (.t 51), none⟩]) .ret)))
def R.span_hull : List VRes := [.cell 4 (some 6), .tmp 5]
theorem K.span_hull : resCode Tryz.prog Tryz.f101.ntmps (Tryz.f101.body.getD .skip) = C.span_hull := by kernel_rfl
theorem Q.span_hull : resResults Tryz.prog Tryz.f101.results.toList = some R.span_hull := by kernel_rfl
theorem E.span_hull : Tryz.prog.funcs[F.span_hull]? = some Tryz.f101 := Tryz.func101
theorem B.span_hull : Tryz.f101.body = some (Tryz.f101.body.getD .skip) := by kernel_rfl
theorem N.span_hull : Tryz.f101.ntmps = 52 := Tryz.ntmps101

def C.surdref10_Outward : VC :=
  .seq (.region false [⟨some 3, .box (.t 0), none⟩,
   ⟨some 4, .box (.t 1), none⟩,
   ⟨some 6, .alloc [.bool false, .slice none 0 0, .int .i64 0, .bool false, .slice none 0 0, .int .i64 0], none⟩]) (.seq (.region true [⟨some 7, .load (some 3) (.t 3), none⟩,
   ⟨some 8, .mov (.t 2), none⟩,
   ⟨some 9, .call F.surdref08_Round [.t 7, .t 8, .c (iv 0)], none⟩,
   ⟨some 10, .load (some 3) (.t 4), none⟩,
   ⟨some 11, .mov (.t 2), none⟩,
   ⟨some 12, .call F.surdref08_Round [.t 10, .t 11, .c (iv 1)], none⟩,
   ⟨some 13, .build [.bool false, .slice none 0 0, .int .i64 0, .bool false, .slice none 0 0, .int .i64 0] [(0, (3, .t 9)), (3, (3, .t 12))], none⟩,
   ⟨none, .store 6 (.t 6) (.t 13), none⟩]) .ret)
def R.surdref10_Outward : List VRes := [.cell 6 (some 6)]
theorem K.surdref10_Outward : resCode Tryz.prog Tryz.f102.ntmps (Tryz.f102.body.getD .skip) = C.surdref10_Outward := by kernel_rfl
theorem Q.surdref10_Outward : resResults Tryz.prog Tryz.f102.results.toList = some R.surdref10_Outward := by kernel_rfl
theorem E.surdref10_Outward : Tryz.prog.funcs[F.surdref10_Outward]? = some Tryz.f102 := Tryz.func102
theorem B.surdref10_Outward : Tryz.f102.body = some (Tryz.f102.body.getD .skip) := by kernel_rfl
theorem N.surdref10_Outward : Tryz.f102.ntmps = 14 := Tryz.ntmps102

def C.surdlaw10_dy : VC :=
  .seq (.region false [⟨some 1, .box (.t 0), none⟩,
   ⟨some 2, .alloc [.bool false, .slice none 0 0, .int .i64 0], none⟩]) (.seq (.region false [⟨some 3, .fa 0 (.t 1), none⟩,
   ⟨some 4, .load none (.t 3), none⟩,
   ⟨some 5, .fa 1 (.t 1), none⟩,
   ⟨some 6, .load none (.t 5), none⟩,
   ⟨some 7, .build [.bool false, .slice none 0 0] [(0, (1, .t 4)), (1, (1, .t 6))], none⟩,
   ⟨some 8, .fa 2 (.t 1), none⟩,
   ⟨some 9, .load none (.t 8), none⟩,
   ⟨some 10, .build [.bool false, .slice none 0 0, .int .i64 0] [(0, (2, .t 7)), (2, (1, .t 9))], none⟩,
   ⟨none, .store 3 (.t 2) (.t 10), none⟩]) .ret)
def R.surdlaw10_dy : List VRes := [.cell 2 (some 3)]
theorem K.surdlaw10_dy : resCode Tryz.prog Tryz.f103.ntmps (Tryz.f103.body.getD .skip) = C.surdlaw10_dy := by kernel_rfl
theorem Q.surdlaw10_dy : resResults Tryz.prog Tryz.f103.results.toList = some R.surdlaw10_dy := by kernel_rfl
theorem E.surdlaw10_dy : Tryz.prog.funcs[F.surdlaw10_dy]? = some Tryz.f103 := Tryz.func103
theorem B.surdlaw10_dy : Tryz.f103.body = some (Tryz.f103.body.getD .skip) := by kernel_rfl
theorem N.surdlaw10_dy : Tryz.f103.ntmps = 11 := Tryz.ntmps103

def C.surdref01_Num_Zero : VC :=
  .seq (.region false [⟨some 2, .mov (.c (bv false)), none⟩]) (.seq (.region false [⟨some 3, .mov (.t 0), none⟩,
   ⟨some 4, .len (.t 3), none⟩,
   ⟨some 5, .bin .eql false (.t 4) (.c (iv 0)), none⟩,
   ⟨some 2, .mov (.t 5), none⟩]) .ret)
def R.surdref01_Num_Zero : List VRes := [.tmp 2]
theorem K.surdref01_Num_Zero : resCode Tryz.prog Tryz.f104.ntmps (Tryz.f104.body.getD .skip) = C.surdref01_Num_Zero := by kernel_rfl
theorem Q.surdref01_Num_Zero : resResults Tryz.prog Tryz.f104.results.toList = some R.surdref01_Num_Zero := by kernel_rfl
theorem E.surdref01_Num_Zero : Tryz.prog.funcs[F.surdref01_Num_Zero]? = some Tryz.f104 := Tryz.func104
theorem B.surdref01_Num_Zero : Tryz.f104.body = some (Tryz.f104.body.getD .skip) := by kernel_rfl
theorem N.surdref01_Num_Zero : Tryz.f104.ntmps = 6 := Tryz.ntmps104

def C.surdref06_Add : VC :=
  .seq (.region false [⟨some 2, .box (.t 0), none⟩,
   ⟨some 3, .box (.t 1), none⟩,
   ⟨some 4, .alloc [.bool false, .slice none 0 0], none⟩]) (.seq (.seq (.region false [⟨some 5, .fa 0 (.t 2), none⟩,
   ⟨some 6, .load none (.t 5), none⟩,
   ⟨some 7, .fa 0 (.t 3), none⟩,
   ⟨some 8, .load none (.t 7), none⟩,
   ⟨some 9, .bin .eql true (.t 6) (.t 8), none⟩]) (.cond (.t 9) (.seq (.region true [⟨some 10, .fa 0 (.t 2), none⟩,
   ⟨some 11, .load none (.t 10), none⟩,
   ⟨some 12, .fa 1 (.t 2), none⟩,
   ⟨some 13, .load none (.t 12), none⟩,
   ⟨some 14, .fa 1 (.t 3), none⟩,
   ⟨some 15, .load none (.t 14), none⟩,
   ⟨some 16, .call F.surdref01_Add [.t 13, .t 15], none⟩,
   ⟨some 17, .call F.surdref06_make1 [.t 11, .t 16], none⟩,
   ⟨none, .store 2 (.t 4) (.t 17), none⟩]) .ret) .skip)) (.seq (.seq (.region false [⟨some 18, .fa 1 (.t 2), none⟩,
   ⟨some 19, .load none (.t 18), none⟩,
   ⟨some 20, .fa 1 (.t 3), none⟩,
   ⟨some 21, .load none (.t 20), none⟩,
   ⟨some 22, .call F.surdref01_Cmp [.t 19, .t 21], none⟩,
   ⟨some 23, .bin .geq false (.t 22) (.c (iv 0)), none⟩]) (.cond (.t 23) (.seq (.region true [⟨some 24, .fa 0 (.t 2), none⟩,
   ⟨some 25, .load none (.t 24), none⟩,
   ⟨some 26, .fa 1 (.t 2), none⟩,
   ⟨some 27, .load none (.t 26), none⟩,
   ⟨some 28, .fa 1 (.t 3), none⟩,
   ⟨some 29, .load none (.t 28), none⟩,
   ⟨some 30, .call F.surdref01_Sub [.t 27, .t 29], none⟩,
   ⟨some 31, .call F.surdref06_make1 [.t 25, .t 30], none⟩,
   ⟨none, .store 2 (.t 4) (.t 31), none⟩]) .ret) .skip)) (.seq (.region true [⟨some 32, .fa 0 (.t 3), none⟩,
   ⟨some 33, .load none (.t 32), none⟩,
   ⟨some 34, .fa 1 (.t 3), none⟩,
   ⟨some 35, .load none (.t 34), none⟩,
   ⟨some 36, .fa 1 (.t 2), none⟩,
   ⟨some 37, .load none (.t 36), none⟩,
   ⟨some 38, .call F.surdref01_Sub [.t 35, .t 37], none⟩,
   ⟨some 39, .call F.surdref06_make1 [.t 33, .t 38], none⟩,
   ⟨none, .store 2 (.t 4) (.t 39), none⟩]) .ret)))
def R.surdref06_Add : List VRes := [.cell 4 (some 2)]
theorem K.surdref06_Add : resCode Tryz.prog Tryz.f106.ntmps (Tryz.f106.body.getD .skip) = C.surdref06_Add := by kernel_rfl
theorem Q.surdref06_Add : resResults Tryz.prog Tryz.f106.results.toList = some R.surdref06_Add := by kernel_rfl
theorem E.surdref06_Add : Tryz.prog.funcs[F.surdref06_Add]? = some Tryz.f106 := Tryz.func106
theorem B.surdref06_Add : Tryz.f106.body = some (Tryz.f106.body.getD .skip) := by kernel_rfl
theorem N.surdref06_Add : Tryz.f106.ntmps = 40 := Tryz.ntmps106

def C.surdref06_Mul : VC :=
  .seq (.region false [⟨some 2, .box (.t 0), none⟩,
   ⟨some 3, .box (.t 1), none⟩,
   ⟨some 4, .alloc [.bool false, .slice none 0 0], none⟩]) (.seq (.region true [⟨some 5, .fa 0 (.t 2), none⟩,
   ⟨some 6, .load none (.t 5), none⟩,
   ⟨some 7, .fa 0 (.t 3), none⟩,
   ⟨some 8, .load none (.t 7), none⟩,
   ⟨some 9, .bin .neq true (.t 6) (.t 8), none⟩,
   ⟨some 10, .fa 1 (.t 2), none⟩,
   ⟨some 11, .load none (.t 10), none⟩,
   ⟨some 12, .fa 1 (.t 3), none⟩,
   ⟨some 13, .load none (.t 12), none⟩,
   ⟨some 14, .call F.surdref01_Mul [.t 11, .t 13], none⟩,
   ⟨some 15, .call F.surdref06_make1 [.t 9, .t 14], none⟩,
   ⟨none, .store 2 (.t 4) (.t 15), none⟩]) .ret)
def R.surdref06_Mul : List VRes := [.cell 4 (some 2)]
theorem K.surdref06_Mul : resCode Tryz.prog Tryz.f108.ntmps (Tryz.f108.body.getD .skip) = C.surdref06_Mul := by kernel_rfl
theorem Q.surdref06_Mul : resResults Tryz.prog Tryz.f108.results.toList = some R.surdref06_Mul := by kernel_rfl
theorem E.surdref06_Mul : Tryz.prog.funcs[F.surdref06_Mul]? = some Tryz.f108 := Tryz.func108
theorem B.surdref06_Mul : Tryz.f108.body = some (Tryz.f108.body.getD .skip) := by kernel_rfl
theorem N.surdref06_Mul : Tryz.f108.ntmps = 16 := Tryz.ntmps108

def C.span_norm : VC :=
  .seq (.region false [⟨some 1, .box (.t 0), none⟩,
   ⟨some 2, .alloc [.bool false, .slice none 0 0, .int .i64 0], none⟩,
   ⟨some 3, .mov (.c (iv 0)), none⟩]) (.seq (.region false [⟨some 4, .load (some 3) (.t 1), none⟩,
   ⟨some 5, .call F.dyadic_Scale [.t 4, .c (iv 0)], none⟩,
   ⟨some 6, .ext (.t 5) 0, none⟩,
   ⟨some 7, .ext (.t 5) 1, none⟩,
   ⟨none, .store 3 (.t 2) (.t 6), none⟩,
   ⟨some 3, .mov (.t 7), none⟩]) .ret)
def R.span_norm : List VRes := [.cell 2 (some 3), .tmp 3]
theorem K.span_norm : resCode Tryz.prog Tryz.f109.ntmps (Tryz.f109.body.getD .skip) = C.span_norm := by kernel_rfl
theorem Q.span_norm : resResults Tryz.prog Tryz.f109.results.toList = some R.span_norm := by kernel_rfl
theorem E.span_norm : Tryz.prog.funcs[F.span_norm]? = some Tryz.f109 := Tryz.func109
theorem B.span_norm : Tryz.f109.body = some (Tryz.f109.body.getD .skip) := by kernel_rfl
theorem N.span_norm : Tryz.f109.ntmps = 8 := Tryz.ntmps109

def C.span_ends : VC :=
  .seq (.region false [⟨some 4, .box (.t 0), none⟩,
   ⟨some 6, .box (.t 2), none⟩,
   ⟨some 8, .alloc [.bool false, .slice none 0 0, .int .i64 0, .bool false, .slice none 0 0, .int .i64 0], none⟩,
   ⟨some 9, .mov (.c (iv 0)), none⟩]) (.seq (.seq (.region false [⟨some 11, .mov (.t 1), none⟩,
   ⟨some 12, .mov (.t 3), none⟩,
   ⟨some 13, .call F.span_worst [.t 11, .t 12], none⟩,
   ⟨some 10, .mov (.t 13), none⟩]) (.seq (.region false [⟨some 14, .mov (.t 10), none⟩,
   ⟨some 15, .bin .neq false (.t 14) (.c (iv 0)), none⟩]) (.cond (.t 15) (.seq (.region false [⟨some 16, .build [.bool false, .slice none 0 0, .int .i64 0, .bool false, .slice none 0 0, .int .i64 0] [], none⟩,
   ⟨some 17, .mov (.t 10), none⟩,
   ⟨none, .store 6 (.t 8) (.t 16), none⟩,
   ⟨some 9, .mov (.t 17), none⟩]) .ret) .skip))) (.seq (.region false [⟨some 18, .load (some 3) (.t 4), none⟩,
   ⟨some 19, .load (some 3) (.t 6), none⟩,
   ⟨some 20, .build [.bool false, .slice none 0 0, .int .i64 0, .bool false, .slice none 0 0, .int .i64 0] [(0, (3, .t 18)), (3, (3, .t 19))], none⟩,
   ⟨none, .store 6 (.t 8) (.t 20), none⟩,
   ⟨some 9, .mov (.c (iv 0)), none⟩]) .ret))
def R.span_ends : List VRes := [.cell 8 (some 6), .tmp 9]
theorem K.span_ends : resCode Tryz.prog Tryz.f110.ntmps (Tryz.f110.body.getD .skip) = C.span_ends := by kernel_rfl
theorem Q.span_ends : resResults Tryz.prog Tryz.f110.results.toList = some R.span_ends := by kernel_rfl
theorem E.span_ends : Tryz.prog.funcs[F.span_ends]? = some Tryz.f110 := Tryz.func110
theorem B.span_ends : Tryz.f110.body = some (Tryz.f110.body.getD .skip) := by kernel_rfl
theorem N.span_ends : Tryz.f110.ntmps = 21 := Tryz.ntmps110

def C.surdref01_Num_Tail : VC :=
  .seq (.region false [⟨some 2, .mov (.c (iv 0)), none⟩]) (.seq (.seq (.region false [⟨some 4, .mov (.t 0), none⟩,
   ⟨some 5, .len (.t 4), none⟩,
   ⟨some 6, .bin .eql false (.t 5) (.c (iv 0)), none⟩]) (.cond (.t 6) (.seq (.region false [⟨some 2, .mov (.c (iv 0)), none⟩]) .ret) .skip)) (.seq (.region false [⟨some 3, .mov (.c (iv 0)), none⟩]) (.seq (.block 0 (.loop (.seq (.seq (.region false [⟨some 7, .mov (.t 0), none⟩,
   ⟨some 8, .mov (.t 3), none⟩,
   ⟨some 9, .call F.surdref01_Num_Bit [.t 7, .t 8], none⟩,
   ⟨some 10, .bin .eql false (.t 9) (.c (iv 0)), none⟩]) (.cond (.t 10) .skip (.exit 0))) (.block 1 (.region false [⟨some 11, .mov (.t 3), none⟩,
   ⟨some 12, .bin .add false (.t 11) (.c (iv 1)), none⟩,
   ⟨some 3, .mov (.t 12), none⟩]))))) (.seq (.region false [⟨some 13, .mov (.t 3), none⟩,
   ⟨some 2, .mov (.t 13), none⟩]) .ret))))
def R.surdref01_Num_Tail : List VRes := [.tmp 2]
theorem K.surdref01_Num_Tail : resCode Tryz.prog Tryz.f111.ntmps (Tryz.f111.body.getD .skip) = C.surdref01_Num_Tail := by kernel_rfl
theorem Q.surdref01_Num_Tail : resResults Tryz.prog Tryz.f111.results.toList = some R.surdref01_Num_Tail := by kernel_rfl
theorem E.surdref01_Num_Tail : Tryz.prog.funcs[F.surdref01_Num_Tail]? = some Tryz.f111 := Tryz.func111
theorem B.surdref01_Num_Tail : Tryz.f111.body = some (Tryz.f111.body.getD .skip) := by kernel_rfl
theorem N.surdref01_Num_Tail : Tryz.f111.ntmps = 14 := Tryz.ntmps111

def C.surdref01_Shr : VC :=
  .seq (.region false [⟨some 4, .mov (.c nil1), none⟩]) (.seq (.seq (.region false [⟨some 9, .mov (.t 1), none⟩,
   ⟨some 10, .bin .quo false (.t 9) (.c (iv 32)), none⟩,
   ⟨some 11, .mov (.t 0), none⟩,
   ⟨some 12, .len (.t 11), none⟩,
   ⟨some 13, .bin .geq false (.t 10) (.t 12), none⟩]) (.cond (.t 13) (.seq (.region false [⟨some 4, .mov (.c nil1), none⟩]) .ret) .skip)) (.seq (.region false [⟨some 14, .mov (.t 0), none⟩,
   ⟨some 15, .len (.t 14), none⟩,
   ⟨some 16, .mov (.t 1), none⟩,
   ⟨some 17, .bin .quo false (.t 16) (.c (iv 32)), none⟩,
   ⟨some 18, .bin .sub false (.t 15) (.t 17), none⟩,
   ⟨some 19, .mk [.int .u64 0] 8 (.t 18) (.t 18), none⟩,
   ⟨some 5, .mov (.t 19), none⟩]) (.seq (.region false [⟨some 20, .mov (.t 1), none⟩,
   ⟨some 21, .bin .rem false (.t 20) (.c (iv 32)), none⟩,
   ⟨some 6, .mov (.t 21), none⟩]) (.seq (.seq (.region false [⟨some 22, .mov (.t 5), none⟩,
   ⟨some 23, .len (.t 22), none⟩,
   ⟨some 24, .mov (.c (iv 0)), none⟩]) (.block 0 (.loop (.seq (.region false [⟨some 25, .bin .lss false (.t 24) (.t 23), none⟩]) (.seq (.cond (.t 25) .skip (.exit 0)) (.seq (.block 1 (.seq (.region false [⟨some 26, .mov (.t 24), none⟩,
   ⟨some 7, .mov (.t 26), none⟩]) (.seq (.region true [⟨some 27, .mov (.t 0), none⟩,
   ⟨some 28, .mov (.t 7), none⟩,
   ⟨some 29, .mov (.t 1), none⟩,
   ⟨some 30, .bin .quo false (.t 29) (.c (iv 32)), none⟩,
   ⟨some 31, .bin .add false (.t 28) (.t 30), none⟩,
   ⟨some 32, .ixa 1 (.t 27) (.t 31), none⟩,
   ⟨some 33, .load none (.t 32), none⟩,
   ⟨some 34, .mov (.t 0), none⟩,
   ⟨some 35, .mov (.t 7), none⟩,
   ⟨some 36, .mov (.t 1), none⟩,
   ⟨some 37, .bin .quo false (.t 36) (.c (iv 32)), none⟩,
   ⟨some 38, .bin .add false (.t 35) (.t 37), none⟩,
   ⟨some 39, .bin .add false (.t 38) (.c (iv 1)), none⟩,
   ⟨some 40, .call F.surdref01_Num_at [.t 34, .t 39], none⟩,
   ⟨some 41, .bin .mul false (.t 40) (.c (nv 4294967296)), none⟩,
   ⟨some 42, .bin .add false (.t 33) (.t 41), none⟩,
   ⟨some 8, .mov (.t 42), none⟩]) (.region false [⟨some 43, .mov (.t 5), none⟩,
   ⟨some 44, .mov (.t 7), none⟩,
   ⟨some 45, .mov (.t 8), none⟩,
   ⟨some 46, .mov (.t 6), none⟩,
   ⟨some 47, .bin .shr false (.t 45) (.t 46), none⟩,
   ⟨some 48, .bin .rem false (.t 47) (.c (nv 4294967296)), none⟩,
   ⟨some 49, .ixa 1 (.t 43) (.t 44), none⟩,
   ⟨none, .store 1 (.t 49) (.t 48), none⟩])))) (.region false [⟨some 50, .bin .add false (.t 24) (.c (iv 1)), none⟩,
   ⟨some 24, .mov (.t 50), none⟩]))))))) (.seq (.region false [⟨some 51, .mov (.t 5), none⟩,
   ⟨some 52, .call F.surdref01_norm [.t 51], none⟩,
   ⟨some 4, .mov (.t 52), none⟩]) .ret)))))
def R.surdref01_Shr : List VRes := [.tmp 4]
theorem K.surdref01_Shr : resCode Tryz.prog Tryz.f112.ntmps (Tryz.f112.body.getD .skip) = C.surdref01_Shr := by kernel_rfl
theorem Q.surdref01_Shr : resResults Tryz.prog Tryz.f112.results.toList = some R.surdref01_Shr := by kernel_rfl
theorem E.surdref01_Shr : Tryz.prog.funcs[F.surdref01_Shr]? = some Tryz.f112 := Tryz.func112
theorem B.surdref01_Shr : Tryz.f112.body = some (Tryz.f112.body.getD .skip) := by kernel_rfl
theorem N.surdref01_Shr : Tryz.f112.ntmps = 53 := Tryz.ntmps112

def C.surdref06_make1 : VC :=
  .seq (.region false [⟨some 4, .alloc [.bool false, .slice none 0 0], none⟩]) (.seq (.region false [⟨some 5, .mov (.t 0), none⟩,
   ⟨some 6, .mov (.t 5), none⟩,
   ⟨some 7, .mov (.t 1), some (6, true)⟩,
   ⟨some 8, .call F.surdref01_Num_Zero [.t 7], some (6, true)⟩,
   ⟨some 9, .un .not (.t 8), some (6, true)⟩,
   ⟨some 10, .pick (.t 6) (.t 9) (.c (bv false)), none⟩,
   ⟨some 11, .mov (.t 1), none⟩,
   ⟨some 12, .build [.bool false, .slice none 0 0] [(0, (1, .t 10)), (1, (1, .t 11))], none⟩,
   ⟨none, .store 2 (.t 4) (.t 12), none⟩]) .ret)
def R.surdref06_make1 : List VRes := [.cell 4 (some 2)]
theorem K.surdref06_make1 : resCode Tryz.prog Tryz.f113.ntmps (Tryz.f113.body.getD .skip) = C.surdref06_make1 := by kernel_rfl
theorem Q.surdref06_make1 : resResults Tryz.prog Tryz.f113.results.toList = some R.surdref06_make1 := by kernel_rfl
theorem E.surdref06_make1 : Tryz.prog.funcs[F.surdref06_make1]? = some Tryz.f113 := Tryz.func113
theorem B.surdref06_make1 : Tryz.f113.body = some (Tryz.f113.body.getD .skip) := by kernel_rfl
theorem N.surdref06_make1 : Tryz.f113.ntmps = 13 := Tryz.ntmps113

def C.surdref01_Of : VC :=
  .seq (.region false [⟨some 2, .mov (.c nil1), none⟩]) (.seq (.region false [⟨some 6, .mov (.t 0), none⟩,
   ⟨some 7, .len (.t 6), none⟩,
   ⟨some 8, .bin .mul false (.c (iv 2)) (.t 7), none⟩,
   ⟨some 9, .mk [.int .u64 0] 8 (.c (iv 0)) (.t 8), none⟩,
   ⟨some 3, .mov (.t 9), none⟩]) (.seq (.seq (.region false [⟨some 10, .mov (.t 0), none⟩,
   ⟨some 11, .len (.t 10), none⟩,
   ⟨some 12, .mov (.c (iv 0)), none⟩]) (.block 0 (.loop (.seq (.region false [⟨some 13, .bin .lss false (.t 12) (.t 11), none⟩]) (.seq (.cond (.t 13) .skip (.exit 0)) (.seq (.block 1 (.seq (.region false [⟨some 14, .ixa 1 (.t 10) (.t 12), none⟩,
   ⟨some 15, .load none (.t 14), none⟩,
   ⟨some 5, .mov (.t 15), none⟩]) (.region false [⟨some 16, .mov (.t 3), none⟩,
   ⟨some 17, .mov (.t 5), none⟩,
   ⟨some 18, .bin .rem false (.t 17) (.c (nv 4294967296)), none⟩,
   ⟨some 19, .mov (.t 5), none⟩,
   ⟨some 20, .bin .quo false (.t 19) (.c (nv 4294967296)), none⟩,
   ⟨some 21, .bsl true 1 2 [.int .u64 0] [(0, (1, .t 18)), (1, (1, .t 20))], none⟩,
   ⟨some 22, .app 1 8 [.int .u64 0] (.t 16) (.t 21), none⟩,
   ⟨some 3, .mov (.t 22), none⟩]))) (.region false [⟨some 23, .bin .add false (.t 12) (.c (iv 1)), none⟩,
   ⟨some 12, .mov (.t 23), none⟩]))))))) (.seq (.region false [⟨some 24, .mov (.t 3), none⟩,
   ⟨some 25, .call F.surdref01_norm [.t 24], none⟩,
   ⟨some 2, .mov (.t 25), none⟩]) .ret)))
def R.surdref01_Of : List VRes := [.tmp 2]
theorem K.surdref01_Of : resCode Tryz.prog Tryz.f114.ntmps (Tryz.f114.body.getD .skip) = C.surdref01_Of := by kernel_rfl
theorem Q.surdref01_Of : resResults Tryz.prog Tryz.f114.results.toList = some R.surdref01_Of := by kernel_rfl
theorem E.surdref01_Of : Tryz.prog.funcs[F.surdref01_Of]? = some Tryz.f114 := Tryz.func114
theorem B.surdref01_Of : Tryz.f114.body = some (Tryz.f114.body.getD .skip) := by kernel_rfl
theorem N.surdref01_Of : Tryz.f114.ntmps = 26 := Tryz.ntmps114

def C.surdref06_Z_Is : VC :=
  .seq (.region false [⟨some 3, .box (.t 0), none⟩,
   ⟨some 6, .mov (.c (bv false)), none⟩]) (.seq (.region false [⟨some 7, .fa 0 (.t 3), none⟩,
   ⟨some 8, .load none (.t 7), none⟩,
   ⟨some 9, .mov (.t 1), none⟩,
   ⟨some 10, .bin .eql true (.t 8) (.t 9), none⟩,
   ⟨some 11, .mov (.t 10), none⟩,
   ⟨some 12, .fa 1 (.t 3), some (11, true)⟩,
   ⟨some 13, .load none (.t 12), some (11, true)⟩,
   ⟨some 14, .mov (.t 2), some (11, true)⟩,
   ⟨some 15, .call F.surdref01_Num_Is [.t 13, .t 14], some (11, true)⟩,
   ⟨some 16, .pick (.t 11) (.t 15) (.c (bv false)), none⟩,
   ⟨some 6, .mov (.t 16), none⟩]) .ret)
def R.surdref06_Z_Is : List VRes := [.tmp 6]
theorem K.surdref06_Z_Is : resCode Tryz.prog Tryz.f115.ntmps (Tryz.f115.body.getD .skip) = C.surdref06_Z_Is := by kernel_rfl
theorem Q.surdref06_Z_Is : resResults Tryz.prog Tryz.f115.results.toList = some R.surdref06_Z_Is := by kernel_rfl
theorem E.surdref06_Z_Is : Tryz.prog.funcs[F.surdref06_Z_Is]? = some Tryz.f115 := Tryz.func115
theorem B.surdref06_Z_Is : Tryz.f115.body = some (Tryz.f115.body.getD .skip) := by kernel_rfl
theorem N.surdref06_Z_Is : Tryz.f115.ntmps = 17 := Tryz.ntmps115

def C.surdref06_Int : VC :=
  .seq (.region false [⟨some 2, .alloc [.bool false, .slice none 0 0], none⟩]) (.seq (.seq (.region false [⟨some 3, .mov (.t 0), none⟩,
   ⟨some 4, .bin .lss false (.t 3) (.c (iv 0)), none⟩]) (.cond (.t 4) (.seq (.region false [⟨some 5, .mov (.t 0), none⟩,
   ⟨some 6, .bin .add false (.t 5) (.c (iv 1)), none⟩,
   ⟨some 7, .un .neg (.t 6), none⟩,
   ⟨some 8, .conv .u64 (.t 7), none⟩,
   ⟨some 9, .bin .add false (.t 8) (.c (nv 1)), none⟩,
   ⟨some 10, .bsl true 1 1 [.int .u64 0] [(0, (1, .t 9))], none⟩,
   ⟨some 11, .call F.surdref01_Of [.t 10], none⟩,
   ⟨some 12, .call F.surdref06_make1 [.c (bv true), .t 11], none⟩,
   ⟨none, .store 2 (.t 2) (.t 12), none⟩]) .ret) .skip)) (.seq (.region false [⟨some 13, .mov (.t 0), none⟩,
   ⟨some 14, .call F.surdref01_Int [.t 13], none⟩,
   ⟨some 15, .call F.surdref06_make1 [.c (bv false), .t 14], none⟩,
   ⟨none, .store 2 (.t 2) (.t 15), none⟩]) .ret))
def R.surdref06_Int : List VRes := [.cell 2 (some 2)]
theorem K.surdref06_Int : resCode Tryz.prog Tryz.f116.ntmps (Tryz.f116.body.getD .skip) = C.surdref06_Int := by kernel_rfl
theorem Q.surdref06_Int : resResults Tryz.prog Tryz.f116.results.toList = some R.surdref06_Int := by kernel_rfl
theorem E.surdref06_Int : Tryz.prog.funcs[F.surdref06_Int]? = some Tryz.f116 := Tryz.func116
theorem B.surdref06_Int : Tryz.f116.body = some (Tryz.f116.body.getD .skip) := by kernel_rfl
theorem N.surdref06_Int : Tryz.f116.ntmps = 16 := Tryz.ntmps116

def C.dyadic_two : VC :=
  .seq (.region false [⟨some 2, .box (.t 0), none⟩,
   ⟨some 3, .box (.t 1), none⟩,
   ⟨some 4, .alloc [.bool false, .slice none 0 0, .int .i64 0], none⟩,
   ⟨some 5, .alloc [.bool false, .slice none 0 0, .int .i64 0], none⟩,
   ⟨some 6, .mov (.c (iv 0)), none⟩]) (.seq (.region false [⟨some 11, .load (some 3) (.t 2), none⟩,
   ⟨some 12, .call F.dyadic_read [.t 11], none⟩,
   ⟨some 10, .mov (.t 12), none⟩,
   ⟨some 13, .ext (.t 10) 0, none⟩,
   ⟨some 14, .ext (.t 10) 1, none⟩,
   ⟨some 7, .alloc [.bool false, .slice none 0 0, .int .i64 0], none⟩,
   ⟨none, .store 3 (.t 7) (.t 13), none⟩,
   ⟨some 8, .mov (.t 14), none⟩]) (.seq (.seq (.region false [⟨some 15, .mov (.t 8), none⟩,
   ⟨some 16, .bin .neq false (.t 15) (.c (iv 0)), none⟩]) (.cond (.t 16) (.seq (.region true [⟨some 17, .load (some 3) (.t 7), none⟩,
   ⟨some 18, .load (some 3) (.t 7), none⟩,
   ⟨some 19, .mov (.t 8), none⟩,
   ⟨none, .storeA 3 (.t 4) (.t 17) [7], none⟩,
   ⟨none, .store 3 (.t 5) (.t 18), none⟩,
   ⟨some 6, .mov (.t 19), none⟩]) .ret) .skip)) (.seq (.region false [⟨some 21, .load (some 3) (.t 3), none⟩,
   ⟨some 22, .call F.dyadic_read [.t 21], none⟩,
   ⟨some 20, .mov (.t 22), none⟩,
   ⟨some 23, .ext (.t 20) 0, none⟩,
   ⟨some 24, .ext (.t 20) 1, none⟩,
   ⟨some 9, .alloc [.bool false, .slice none 0 0, .int .i64 0], none⟩,
   ⟨none, .store 3 (.t 9) (.t 23), none⟩,
   ⟨some 8, .mov (.t 24), none⟩]) (.seq (.region true [⟨some 25, .load (some 3) (.t 7), none⟩,
   ⟨some 26, .load (some 3) (.t 9), none⟩,
   ⟨some 27, .mov (.t 8), none⟩,
   ⟨none, .storeA 3 (.t 4) (.t 25) [9], none⟩,
   ⟨none, .store 3 (.t 5) (.t 26), none⟩,
   ⟨some 6, .mov (.t 27), none⟩]) .ret))))
def R.dyadic_two : List VRes := [.cell 4 (some 3), .cell 5 (some 3), .tmp 6]
theorem K.dyadic_two : resCode Tryz.prog Tryz.f118.ntmps (Tryz.f118.body.getD .skip) = C.dyadic_two := by kernel_rfl
theorem Q.dyadic_two : resResults Tryz.prog Tryz.f118.results.toList = some R.dyadic_two := by kernel_rfl
theorem E.dyadic_two : Tryz.prog.funcs[F.dyadic_two]? = some Tryz.f118 := Tryz.func118
theorem B.dyadic_two : Tryz.f118.body = some (Tryz.f118.body.getD .skip) := by kernel_rfl
theorem N.dyadic_two : Tryz.f118.ntmps = 28 := Tryz.ntmps118

def C.dyadic_compare : VC :=
  .seq (.region false [⟨some 2, .box (.t 0), none⟩,
   ⟨some 3, .box (.t 1), none⟩,
   ⟨some 4, .mov (.c (iv 0)), none⟩]) (.seq (.region true [⟨some 9, .fa 0 (.t 2), none⟩,
   ⟨some 10, .load (some 2) (.t 9), none⟩,
   ⟨some 11, .call F.dyadic_part_sign [.t 10], none⟩,
   ⟨some 12, .fa 0 (.t 3), none⟩,
   ⟨some 13, .load (some 2) (.t 12), none⟩,
   ⟨some 14, .call F.dyadic_part_sign [.t 13], none⟩,
   ⟨some 5, .mov (.t 11), none⟩,
   ⟨some 6, .mov (.t 14), none⟩]) (.seq (.block 0 (.seq (.region false [⟨some 16, .mov (.t 5), none⟩,
   ⟨some 17, .mov (.t 6), none⟩,
   ⟨some 18, .bin .lss false (.t 16) (.t 17), none⟩,
   ⟨some 15, .mov (.t 18), none⟩]) (.cond (.t 15) (.seq (.region false [⟨some 4, .mov (.c (iv (-1))), none⟩]) .ret) (.seq (.region false [⟨some 20, .mov (.t 5), none⟩,
   ⟨some 21, .mov (.t 6), none⟩,
   ⟨some 22, .bin .gtr false (.t 20) (.t 21), none⟩,
   ⟨some 19, .mov (.t 22), none⟩]) (.cond (.t 19) (.seq (.region false [⟨some 4, .mov (.c (iv 1)), none⟩]) .ret) (.seq (.region false [⟨some 24, .mov (.t 5), none⟩,
   ⟨some 25, .bin .eql false (.t 24) (.c (iv 0)), none⟩,
   ⟨some 23, .mov (.t 25), none⟩]) (.cond (.t 23) (.seq (.region false [⟨some 4, .mov (.c (iv 0)), none⟩]) .ret) .skip))))))) (.seq (.seq (.region true [⟨some 26, .load (some 3) (.t 2), none⟩,
   ⟨some 27, .call F.dyadic_number_top [.t 26], none⟩,
   ⟨some 28, .load (some 3) (.t 3), none⟩,
   ⟨some 29, .call F.dyadic_number_top [.t 28], none⟩,
   ⟨some 30, .bin .neq false (.t 27) (.t 29), none⟩]) (.cond (.t 30) (.seq (.seq (.region true [⟨some 31, .load (some 3) (.t 2), none⟩,
   ⟨some 32, .call F.dyadic_number_top [.t 31], none⟩,
   ⟨some 33, .load (some 3) (.t 3), none⟩,
   ⟨some 34, .call F.dyadic_number_top [.t 33], none⟩,
   ⟨some 35, .bin .lss false (.t 32) (.t 34), none⟩]) (.cond (.t 35) (.seq (.region false [⟨some 36, .mov (.t 5), none⟩,
   ⟨some 37, .un .neg (.t 36), none⟩,
   ⟨some 4, .mov (.t 37), none⟩]) .ret) .skip)) (.seq (.region false [⟨some 38, .mov (.t 5), none⟩,
   ⟨some 4, .mov (.t 38), none⟩]) .ret)) .skip)) (.seq (.region true [⟨some 39, .fa 0 (.t 2), none⟩,
   ⟨some 40, .fa 0 (.t 39), none⟩,
   ⟨some 41, .fa 1 (.t 40), none⟩,
   ⟨some 42, .load none (.t 41), none⟩,
   ⟨some 43, .fa 0 (.t 3), none⟩,
   ⟨some 44, .fa 0 (.t 43), none⟩,
   ⟨some 45, .fa 1 (.t 44), none⟩,
   ⟨some 46, .load none (.t 45), none⟩,
   ⟨some 7, .mov (.t 42), none⟩,
   ⟨some 8, .mov (.t 46), none⟩]) (.seq (.seq (.region false [⟨some 47, .fa 2 (.t 2), none⟩,
   ⟨some 48, .load none (.t 47), none⟩,
   ⟨some 49, .fa 2 (.t 3), none⟩,
   ⟨some 50, .load none (.t 49), none⟩,
   ⟨some 51, .bin .gtr false (.t 48) (.t 50), none⟩]) (.cond (.t 51) (.region false [⟨some 52, .mov (.t 7), none⟩,
   ⟨some 53, .fa 2 (.t 2), none⟩,
   ⟨some 54, .load none (.t 53), none⟩,
   ⟨some 55, .fa 2 (.t 3), none⟩,
   ⟨some 56, .load none (.t 55), none⟩,
   ⟨some 57, .bin .sub false (.t 54) (.t 56), none⟩,
   ⟨some 58, .call F.dyadic_left [.t 52, .t 57], none⟩,
   ⟨some 7, .mov (.t 58), none⟩]) (.region false [⟨some 59, .mov (.t 8), none⟩,
   ⟨some 60, .fa 2 (.t 3), none⟩,
   ⟨some 61, .load none (.t 60), none⟩,
   ⟨some 62, .fa 2 (.t 2), none⟩,
   ⟨some 63, .load none (.t 62), none⟩,
   ⟨some 64, .bin .sub false (.t 61) (.t 63), none⟩,
   ⟨some 65, .call F.dyadic_left [.t 59, .t 64], none⟩,
   ⟨some 8, .mov (.t 65), none⟩]))) (.seq (.region false [⟨some 66, .mov (.t 5), none⟩,
   ⟨some 67, .mov (.t 7), none⟩,
   ⟨some 68, .mov (.t 8), none⟩,
   ⟨some 69, .call F.nat_Compare [.t 67, .t 68], none⟩,
   ⟨some 70, .bin .mul false (.t 66) (.t 69), none⟩,
   ⟨some 4, .mov (.t 70), none⟩]) .ret))))))
def R.dyadic_compare : List VRes := [.tmp 4]
theorem K.dyadic_compare : resCode Tryz.prog Tryz.f119.ntmps (Tryz.f119.body.getD .skip) = C.dyadic_compare := by kernel_rfl
theorem Q.dyadic_compare : resResults Tryz.prog Tryz.f119.results.toList = some R.dyadic_compare := by kernel_rfl
theorem E.dyadic_compare : Tryz.prog.funcs[F.dyadic_compare]? = some Tryz.f119 := Tryz.func119
theorem B.dyadic_compare : Tryz.f119.body = some (Tryz.f119.body.getD .skip) := by kernel_rfl
theorem N.dyadic_compare : Tryz.f119.ntmps = 71 := Tryz.ntmps119

def C.whole_Sign : VC :=
  .seq (.region false [⟨some 1, .box (.t 0), none⟩,
   ⟨some 2, .mov (.c (iv 0)), none⟩]) (.seq (.block 0 (.seq (.region false [⟨some 4, .fa 1 (.t 1), none⟩,
   ⟨some 5, .load none (.t 4), none⟩,
   ⟨some 6, .call F.nat_Length [.t 5], none⟩,
   ⟨some 7, .bin .eql false (.t 6) (.c (iv 0)), none⟩,
   ⟨some 3, .mov (.t 7), none⟩]) (.cond (.t 3) (.seq (.region false [⟨some 2, .mov (.c (iv 0)), none⟩]) .ret) (.seq (.region false [⟨some 9, .fa 0 (.t 1), none⟩,
   ⟨some 10, .load none (.t 9), none⟩,
   ⟨some 8, .mov (.t 10), none⟩]) (.cond (.t 8) (.seq (.region false [⟨some 2, .mov (.c (iv (-1))), none⟩]) .ret) .skip))))) (.seq (.region false [⟨some 2, .mov (.c (iv 1)), none⟩]) .ret))
def R.whole_Sign : List VRes := [.tmp 2]
theorem K.whole_Sign : resCode Tryz.prog Tryz.f120.ntmps (Tryz.f120.body.getD .skip) = C.whole_Sign := by kernel_rfl
theorem Q.whole_Sign : resResults Tryz.prog Tryz.f120.results.toList = some R.whole_Sign := by kernel_rfl
theorem E.whole_Sign : Tryz.prog.funcs[F.whole_Sign]? = some Tryz.f120 := Tryz.func120
theorem B.whole_Sign : Tryz.f120.body = some (Tryz.f120.body.getD .skip) := by kernel_rfl
theorem N.whole_Sign : Tryz.f120.ntmps = 11 := Tryz.ntmps120

def C.surdref01_Cmp : VC :=
  .seq (.region false [⟨some 4, .mov (.c (iv 0)), none⟩]) (.seq (.seq (.region false [⟨some 6, .mov (.t 0), none⟩,
   ⟨some 7, .len (.t 6), none⟩,
   ⟨some 8, .mov (.t 1), none⟩,
   ⟨some 9, .len (.t 8), none⟩,
   ⟨some 10, .bin .neq false (.t 7) (.t 9), none⟩]) (.cond (.t 10) (.seq (.seq (.region false [⟨some 11, .mov (.t 0), none⟩,
   ⟨some 12, .len (.t 11), none⟩,
   ⟨some 13, .mov (.t 1), none⟩,
   ⟨some 14, .len (.t 13), none⟩,
   ⟨some 15, .bin .lss false (.t 12) (.t 14), none⟩]) (.cond (.t 15) (.seq (.region false [⟨some 4, .mov (.c (iv (-1))), none⟩]) .ret) .skip)) (.seq (.region false [⟨some 4, .mov (.c (iv 1)), none⟩]) .ret)) .skip)) (.seq (.seq (.region false [⟨some 16, .mov (.t 0), none⟩,
   ⟨some 17, .len (.t 16), none⟩,
   ⟨some 18, .bin .sub false (.t 17) (.c (iv 1)), none⟩,
   ⟨some 5, .mov (.t 18), none⟩]) (.block 0 (.loop (.seq (.seq (.region false [⟨some 19, .mov (.t 5), none⟩,
   ⟨some 20, .bin .geq false (.t 19) (.c (iv 0)), none⟩]) (.cond (.t 20) .skip (.exit 0))) (.seq (.block 1 (.seq (.seq (.region true [⟨some 23, .mov (.t 0), none⟩,
   ⟨some 24, .mov (.t 5), none⟩,
   ⟨some 25, .ixa 1 (.t 23) (.t 24), none⟩,
   ⟨some 26, .load none (.t 25), none⟩,
   ⟨some 27, .mov (.t 1), none⟩,
   ⟨some 28, .mov (.t 5), none⟩,
   ⟨some 29, .ixa 1 (.t 27) (.t 28), none⟩,
   ⟨some 30, .load none (.t 29), none⟩,
   ⟨some 31, .bin .lss false (.t 26) (.t 30), none⟩]) (.cond (.t 31) (.seq (.region false [⟨some 4, .mov (.c (iv (-1))), none⟩]) .ret) .skip)) (.seq (.region true [⟨some 32, .mov (.t 0), none⟩,
   ⟨some 33, .mov (.t 5), none⟩,
   ⟨some 34, .ixa 1 (.t 32) (.t 33), none⟩,
   ⟨some 35, .load none (.t 34), none⟩,
   ⟨some 36, .mov (.t 1), none⟩,
   ⟨some 37, .mov (.t 5), none⟩,
   ⟨some 38, .ixa 1 (.t 36) (.t 37), none⟩,
   ⟨some 39, .load none (.t 38), none⟩,
   ⟨some 40, .bin .gtr false (.t 35) (.t 39), none⟩]) (.cond (.t 40) (.seq (.region false [⟨some 4, .mov (.c (iv 1)), none⟩]) .ret) .skip)))) (.region false [⟨some 21, .mov (.t 5), none⟩,
   ⟨some 22, .bin .sub false (.t 21) (.c (iv 1)), none⟩,
   ⟨some 5, .mov (.t 22), none⟩])))))) (.seq (.region false [⟨some 4, .mov (.c (iv 0)), none⟩]) .ret)))
def R.surdref01_Cmp : List VRes := [.tmp 4]
theorem K.surdref01_Cmp : resCode Tryz.prog Tryz.f121.ntmps (Tryz.f121.body.getD .skip) = C.surdref01_Cmp := by kernel_rfl
theorem Q.surdref01_Cmp : resResults Tryz.prog Tryz.f121.results.toList = some R.surdref01_Cmp := by kernel_rfl
theorem E.surdref01_Cmp : Tryz.prog.funcs[F.surdref01_Cmp]? = some Tryz.f121 := Tryz.func121
theorem B.surdref01_Cmp : Tryz.f121.body = some (Tryz.f121.body.getD .skip) := by kernel_rfl
theorem N.surdref01_Cmp : Tryz.f121.ntmps = 41 := Tryz.ntmps121

def C.dyadic_sum : VC :=
  .seq (.region false [⟨some 2, .box (.t 0), none⟩,
   ⟨some 3, .box (.t 1), none⟩,
   ⟨some 4, .alloc [.bool false, .slice none 0 0, .int .i64 0], none⟩,
   ⟨some 5, .mov (.c (iv 0)), none⟩]) (.seq (.seq (.region false [⟨some 10, .fa 0 (.t 2), none⟩,
   ⟨some 11, .load (some 2) (.t 10), none⟩,
   ⟨some 12, .call F.dyadic_part_sign [.t 11], none⟩,
   ⟨some 13, .bin .eql false (.t 12) (.c (iv 0)), none⟩]) (.cond (.t 13) (.region false [⟨some 14, .load (some 3) (.t 3), none⟩,
   ⟨some 15, .load (some 3) (.t 2), none⟩,
   ⟨none, .store 3 (.t 2) (.t 14), none⟩,
   ⟨none, .store 3 (.t 3) (.t 15), none⟩]) .skip)) (.seq (.seq (.region false [⟨some 16, .fa 0 (.t 3), none⟩,
   ⟨some 17, .load (some 2) (.t 16), none⟩,
   ⟨some 18, .call F.dyadic_part_sign [.t 17], none⟩,
   ⟨some 19, .bin .eql false (.t 18) (.c (iv 0)), none⟩]) (.cond (.t 19) (.seq (.region false [⟨some 20, .fa 0 (.t 2), none⟩,
   ⟨some 21, .fa 0 (.t 20), none⟩,
   ⟨some 22, .load (some 2) (.t 21), none⟩,
   ⟨some 23, .fa 2 (.t 2), none⟩,
   ⟨some 24, .load none (.t 23), none⟩,
   ⟨some 25, .call F.dyadic_told [.t 22, .t 24], none⟩,
   ⟨some 26, .ext (.t 25) 0, none⟩,
   ⟨some 27, .ext (.t 25) 1, none⟩,
   ⟨none, .store 3 (.t 4) (.t 26), none⟩,
   ⟨some 5, .mov (.t 27), none⟩]) .ret) .skip)) (.seq (.seq (.region false [⟨some 28, .fa 2 (.t 2), none⟩,
   ⟨some 29, .load none (.t 28), none⟩,
   ⟨some 30, .fa 2 (.t 3), none⟩,
   ⟨some 31, .load none (.t 30), none⟩,
   ⟨some 32, .bin .lss false (.t 29) (.t 31), none⟩]) (.cond (.t 32) (.region false [⟨some 33, .load (some 3) (.t 3), none⟩,
   ⟨some 34, .load (some 3) (.t 2), none⟩,
   ⟨none, .store 3 (.t 2) (.t 33), none⟩,
   ⟨none, .store 3 (.t 3) (.t 34), none⟩]) .skip)) (.seq (.region false [⟨some 35, .fa 2 (.t 2), none⟩,
   ⟨some 36, .load none (.t 35), none⟩,
   ⟨some 37, .fa 2 (.t 3), none⟩,
   ⟨some 38, .load none (.t 37), none⟩,
   ⟨some 39, .bin .sub false (.t 36) (.t 38), none⟩,
   ⟨some 6, .mov (.t 39), none⟩]) (.seq (.seq (.region true [⟨some 40, .mov (.t 6), none⟩,
   ⟨some 41, .bin .gtr false (.t 40) (.c (iv 0)), none⟩,
   ⟨some 42, .mov (.t 41), none⟩,
   ⟨some 43, .load (some 3) (.t 2), some (42, true)⟩,
   ⟨some 44, .call F.dyadic_number_top [.t 43], some (42, true)⟩,
   ⟨some 45, .load (some 3) (.t 3), some (42, true)⟩,
   ⟨some 46, .call F.dyadic_number_top [.t 45], some (42, true)⟩,
   ⟨some 47, .bin .add false (.t 46) (.c (iv 1)), some (42, true)⟩,
   ⟨some 48, .mm true (.t 44) (.t 47), some (42, true)⟩,
   ⟨some 49, .fa 2 (.t 3), some (42, true)⟩,
   ⟨some 50, .load none (.t 49), some (42, true)⟩,
   ⟨some 51, .bin .sub false (.t 48) (.t 50), some (42, true)⟩,
   ⟨some 52, .bin .gtr false (.t 51) (.c (iv 67108866)), some (42, true)⟩,
   ⟨some 53, .pick (.t 42) (.t 52) (.c (bv false)), none⟩]) (.cond (.t 53) (.seq (.region false [⟨some 54, .build [.bool false, .slice none 0 0, .int .i64 0] [], none⟩,
   ⟨none, .store 3 (.t 4) (.t 54), none⟩,
   ⟨some 5, .mov (.c (iv 3)), none⟩]) .ret) .skip)) (.seq (.region true [⟨some 56, .fa 0 (.t 2), none⟩,
   ⟨some 57, .fa 0 (.t 56), none⟩,
   ⟨some 58, .fa 0 (.t 57), none⟩,
   ⟨some 59, .load none (.t 58), none⟩,
   ⟨some 60, .fa 0 (.t 2), none⟩,
   ⟨some 61, .fa 0 (.t 60), none⟩,
   ⟨some 62, .fa 1 (.t 61), none⟩,
   ⟨some 63, .load none (.t 62), none⟩,
   ⟨some 64, .mov (.t 6), none⟩,
   ⟨some 65, .call F.dyadic_left [.t 63, .t 64], none⟩,
   ⟨some 66, .call F.whole_Make [.t 59, .t 65], none⟩,
   ⟨some 55, .mov (.t 66), none⟩,
   ⟨some 67, .ext (.t 55) 0, none⟩,
   ⟨some 68, .ext (.t 55) 1, none⟩,
   ⟨some 7, .mov (.c .any), none⟩,
   ⟨some 7, .boxA 2 (.t 67), none⟩,
   ⟨some 8, .mov (.t 68), none⟩]) (.seq (.seq (.region false [⟨some 69, .mov (.t 8), none⟩,
   ⟨some 70, .bin .neq false (.t 69) (.c (iv 0)), none⟩]) (.cond (.t 70) (.seq (.region false [⟨some 71, .load (some 3) (.t 2), none⟩,
   ⟨some 72, .load (some 3) (.t 3), none⟩,
   ⟨some 73, .call F.dyadic_long [.t 71, .t 72], none⟩,
   ⟨some 74, .ext (.t 73) 0, none⟩,
   ⟨some 75, .ext (.t 73) 1, none⟩,
   ⟨none, .store 3 (.t 4) (.t 74), none⟩,
   ⟨some 5, .mov (.t 75), none⟩]) .ret) .skip)) (.seq (.region false [⟨some 77, .load (some 2) (.t 7), none⟩,
   ⟨some 78, .fa 0 (.t 3), none⟩,
   ⟨some 79, .fa 0 (.t 78), none⟩,
   ⟨some 80, .load (some 2) (.t 79), none⟩,
   ⟨some 81, .call F.whole_Add [.t 77, .t 80], none⟩,
   ⟨some 76, .mov (.t 81), none⟩,
   ⟨some 82, .ext (.t 76) 0, none⟩,
   ⟨some 83, .ext (.t 76) 1, none⟩,
   ⟨some 9, .alloc [.bool false, .slice none 0 0], none⟩,
   ⟨none, .store 2 (.t 9) (.t 82), none⟩,
   ⟨some 8, .mov (.t 83), none⟩]) (.seq (.seq (.region false [⟨some 84, .mov (.t 8), none⟩,
   ⟨some 85, .bin .neq false (.t 84) (.c (iv 0)), none⟩]) (.cond (.t 85) (.seq (.region false [⟨some 86, .load (some 3) (.t 2), none⟩,
   ⟨some 87, .load (some 3) (.t 3), none⟩,
   ⟨some 88, .call F.dyadic_long [.t 86, .t 87], none⟩,
   ⟨some 89, .ext (.t 88) 0, none⟩,
   ⟨some 90, .ext (.t 88) 1, none⟩,
   ⟨none, .store 3 (.t 4) (.t 89), none⟩,
   ⟨some 5, .mov (.t 90), none⟩]) .ret) .skip)) (.seq (.region false [⟨some 91, .load (some 2) (.t 9), none⟩,
   ⟨some 92, .fa 2 (.t 3), none⟩,
   ⟨some 93, .load none (.t 92), none⟩,
   ⟨some 94, .call F.dyadic_told [.t 91, .t 93], none⟩,
   ⟨some 95, .ext (.t 94) 0, none⟩,
   ⟨some 96, .ext (.t 94) 1, none⟩,
   ⟨none, .store 3 (.t 4) (.t 95), none⟩,
   ⟨some 5, .mov (.t 96), none⟩]) .ret))))))))))
def R.dyadic_sum : List VRes := [.cell 4 (some 3), .tmp 5]
theorem K.dyadic_sum : resCode Tryz.prog Tryz.f122.ntmps (Tryz.f122.body.getD .skip) = C.dyadic_sum := by kernel_rfl
theorem Q.dyadic_sum : resResults Tryz.prog Tryz.f122.results.toList = some R.dyadic_sum := by kernel_rfl
theorem E.dyadic_sum : Tryz.prog.funcs[F.dyadic_sum]? = some Tryz.f122 := Tryz.func122
theorem B.dyadic_sum : Tryz.f122.body = some (Tryz.f122.body.getD .skip) := by kernel_rfl
theorem N.dyadic_sum : Tryz.f122.ntmps = 97 := Tryz.ntmps122

def C.dyadic_part_sign : VC :=
  .seq (.region false [⟨some 1, .box (.t 0), none⟩,
   ⟨some 2, .mov (.c (iv 0)), none⟩]) (.seq (.region false [⟨some 3, .fa 0 (.t 1), none⟩,
   ⟨some 4, .load (some 2) (.t 3), none⟩,
   ⟨some 5, .call F.whole_Sign [.t 4], none⟩,
   ⟨some 2, .mov (.t 5), none⟩]) .ret)
def R.dyadic_part_sign : List VRes := [.tmp 2]
theorem K.dyadic_part_sign : resCode Tryz.prog Tryz.f123.ntmps (Tryz.f123.body.getD .skip) = C.dyadic_part_sign := by kernel_rfl
theorem Q.dyadic_part_sign : resResults Tryz.prog Tryz.f123.results.toList = some R.dyadic_part_sign := by kernel_rfl
theorem E.dyadic_part_sign : Tryz.prog.funcs[F.dyadic_part_sign]? = some Tryz.f123 := Tryz.func123
theorem B.dyadic_part_sign : Tryz.f123.body = some (Tryz.f123.body.getD .skip) := by kernel_rfl
theorem N.dyadic_part_sign : Tryz.f123.ntmps = 6 := Tryz.ntmps123

def C.dyadic_read : VC :=
  .seq (.region false [⟨some 1, .box (.t 0), none⟩,
   ⟨some 2, .alloc [.bool false, .slice none 0 0, .int .i64 0], none⟩,
   ⟨some 3, .mov (.c (iv 0)), none⟩]) (.seq (.seq (.region false [⟨some 4, .fa 2 (.t 1), none⟩,
   ⟨some 5, .load none (.t 4), none⟩,
   ⟨some 6, .call F.dyadic_within [.t 5], none⟩,
   ⟨some 7, .un .not (.t 6), none⟩]) (.cond (.t 7) (.seq (.region false [⟨some 8, .build [.bool false, .slice none 0 0, .int .i64 0] [], none⟩,
   ⟨none, .store 3 (.t 2) (.t 8), none⟩,
   ⟨some 3, .mov (.c (iv 80)), none⟩]) .ret) .skip)) (.seq (.region false [⟨some 9, .fa 0 (.t 1), none⟩,
   ⟨some 10, .load (some 2) (.t 9), none⟩,
   ⟨some 11, .fa 2 (.t 1), none⟩,
   ⟨some 12, .load none (.t 11), none⟩,
   ⟨some 13, .call F.dyadic_odd [.t 10, .t 12], none⟩,
   ⟨none, .store 3 (.t 2) (.t 13), none⟩,
   ⟨some 3, .mov (.c (iv 0)), none⟩]) .ret))
def R.dyadic_read : List VRes := [.cell 2 (some 3), .tmp 3]
theorem K.dyadic_read : resCode Tryz.prog Tryz.f124.ntmps (Tryz.f124.body.getD .skip) = C.dyadic_read := by kernel_rfl
theorem Q.dyadic_read : resResults Tryz.prog Tryz.f124.results.toList = some R.dyadic_read := by kernel_rfl
theorem E.dyadic_read : Tryz.prog.funcs[F.dyadic_read]? = some Tryz.f124 := Tryz.func124
theorem B.dyadic_read : Tryz.f124.body = some (Tryz.f124.body.getD .skip) := by kernel_rfl
theorem N.dyadic_read : Tryz.f124.ntmps = 14 := Tryz.ntmps124

def C.dyadic_within : VC :=
  .seq (.region false [⟨some 2, .mov (.c (bv false)), none⟩]) (.seq (.region false [⟨some 3, .mov (.t 0), none⟩,
   ⟨some 4, .bin .geq false (.t 3) (.c (iv (-1099511627776))), none⟩,
   ⟨some 5, .mov (.t 4), none⟩,
   ⟨some 6, .mov (.t 0), some (5, true)⟩,
   ⟨some 7, .bin .leq false (.t 6) (.c (iv 1099511627776)), some (5, true)⟩,
   ⟨some 8, .pick (.t 5) (.t 7) (.c (bv false)), none⟩,
   ⟨some 2, .mov (.t 8), none⟩]) .ret)
def R.dyadic_within : List VRes := [.tmp 2]
theorem K.dyadic_within : resCode Tryz.prog Tryz.f125.ntmps (Tryz.f125.body.getD .skip) = C.dyadic_within := by kernel_rfl
theorem Q.dyadic_within : resResults Tryz.prog Tryz.f125.results.toList = some R.dyadic_within := by kernel_rfl
theorem E.dyadic_within : Tryz.prog.funcs[F.dyadic_within]? = some Tryz.f125 := Tryz.func125
theorem B.dyadic_within : Tryz.f125.body = some (Tryz.f125.body.getD .skip) := by kernel_rfl
theorem N.dyadic_within : Tryz.f125.ntmps = 9 := Tryz.ntmps125

def C.dyadic_direction : VC :=
  .seq (.region false [⟨some 2, .mov (.c (bv false)), none⟩]) (.seq (.region false [⟨some 3, .mov (.t 0), none⟩,
   ⟨some 4, .bin .eql false (.t 3) (.c (iv 0)), none⟩,
   ⟨some 5, .mov (.t 4), none⟩,
   ⟨some 6, .mov (.t 0), some (5, false)⟩,
   ⟨some 7, .bin .eql false (.t 6) (.c (iv 1)), some (5, false)⟩,
   ⟨some 8, .pick (.t 5) (.c (bv true)) (.t 7), none⟩,
   ⟨some 9, .mov (.t 8), none⟩,
   ⟨some 10, .mov (.t 0), some (9, false)⟩,
   ⟨some 11, .bin .eql false (.t 10) (.c (iv 2)), some (9, false)⟩,
   ⟨some 12, .pick (.t 9) (.c (bv true)) (.t 11), none⟩,
   ⟨some 2, .mov (.t 12), none⟩]) .ret)
def R.dyadic_direction : List VRes := [.tmp 2]
theorem K.dyadic_direction : resCode Tryz.prog Tryz.f126.ntmps (Tryz.f126.body.getD .skip) = C.dyadic_direction := by kernel_rfl
theorem Q.dyadic_direction : resResults Tryz.prog Tryz.f126.results.toList = some R.dyadic_direction := by kernel_rfl
theorem E.dyadic_direction : Tryz.prog.funcs[F.dyadic_direction]? = some Tryz.f126 := Tryz.func126
theorem B.dyadic_direction : Tryz.f126.body = some (Tryz.f126.body.getD .skip) := by kernel_rfl
theorem N.dyadic_direction : Tryz.f126.ntmps = 13 := Tryz.ntmps126

def C.dyadic_rounded : VC :=
  .seq (.region false [⟨some 3, .box (.t 0), none⟩,
   ⟨some 6, .alloc [.bool false, .slice none 0 0, .int .i64 0], none⟩,
   ⟨some 7, .mov (.c (iv 0)), none⟩]) (.seq (.seq (.region false [⟨some 8, .fa 0 (.t 3), none⟩,
   ⟨some 9, .load (some 2) (.t 8), none⟩,
   ⟨some 10, .call F.dyadic_part_sign [.t 9], none⟩,
   ⟨some 11, .bin .eql false (.t 10) (.c (iv 0)), none⟩,
   ⟨some 12, .mov (.t 11), none⟩,
   ⟨some 13, .fa 2 (.t 3), some (12, false)⟩,
   ⟨some 14, .load none (.t 13), some (12, false)⟩,
   ⟨some 15, .mov (.t 1), some (12, false)⟩,
   ⟨some 16, .bin .geq false (.t 14) (.t 15), some (12, false)⟩,
   ⟨some 17, .pick (.t 12) (.c (bv true)) (.t 16), none⟩]) (.cond (.t 17) (.seq (.region false [⟨some 18, .fa 0 (.t 3), none⟩,
   ⟨some 19, .fa 0 (.t 18), none⟩,
   ⟨some 20, .load (some 2) (.t 19), none⟩,
   ⟨some 21, .fa 2 (.t 3), none⟩,
   ⟨some 22, .load none (.t 21), none⟩,
   ⟨some 23, .call F.dyadic_told [.t 20, .t 22], none⟩,
   ⟨some 24, .ext (.t 23) 0, none⟩,
   ⟨some 25, .ext (.t 23) 1, none⟩,
   ⟨none, .store 3 (.t 6) (.t 24), none⟩,
   ⟨some 7, .mov (.t 25), none⟩]) .ret) .skip)) (.seq (.region false [⟨some 26, .load (some 3) (.t 3), none⟩,
   ⟨some 27, .mov (.t 1), none⟩,
   ⟨some 28, .mov (.t 2), none⟩,
   ⟨some 29, .call F.dyadic_steps [.t 26, .t 27, .t 28], none⟩,
   ⟨some 30, .mov (.t 1), none⟩,
   ⟨some 31, .call F.dyadic_told [.t 29, .t 30], none⟩,
   ⟨some 32, .ext (.t 31) 0, none⟩,
   ⟨some 33, .ext (.t 31) 1, none⟩,
   ⟨none, .store 3 (.t 6) (.t 32), none⟩,
   ⟨some 7, .mov (.t 33), none⟩]) .ret))
def R.dyadic_rounded : List VRes := [.cell 6 (some 3), .tmp 7]
theorem K.dyadic_rounded : resCode Tryz.prog Tryz.f127.ntmps (Tryz.f127.body.getD .skip) = C.dyadic_rounded := by kernel_rfl
theorem Q.dyadic_rounded : resResults Tryz.prog Tryz.f127.results.toList = some R.dyadic_rounded := by kernel_rfl
theorem E.dyadic_rounded : Tryz.prog.funcs[F.dyadic_rounded]? = some Tryz.f127 := Tryz.func127
theorem B.dyadic_rounded : Tryz.f127.body = some (Tryz.f127.body.getD .skip) := by kernel_rfl
theorem N.dyadic_rounded : Tryz.f127.ntmps = 34 := Tryz.ntmps127

def C.surdref01_norm : VC :=
  .seq (.region false [⟨some 2, .mov (.c nil1), none⟩]) (.seq (.region false [⟨some 4, .mov (.t 0), none⟩,
   ⟨some 5, .len (.t 4), none⟩,
   ⟨some 3, .mov (.t 5), none⟩]) (.seq (.block 0 (.loop (.seq (.seq (.region false [⟨some 6, .mov (.t 3), none⟩,
   ⟨some 7, .bin .gtr false (.t 6) (.c (iv 0)), none⟩,
   ⟨some 8, .mov (.t 7), none⟩,
   ⟨some 9, .mov (.t 0), some (8, true)⟩,
   ⟨some 10, .mov (.t 3), some (8, true)⟩,
   ⟨some 11, .bin .sub false (.t 10) (.c (iv 1)), some (8, true)⟩,
   ⟨some 12, .ixa 1 (.t 9) (.t 11), some (8, true)⟩,
   ⟨some 13, .load none (.t 12), some (8, true)⟩,
   ⟨some 14, .bin .eql false (.t 13) (.c (nv 0)), some (8, true)⟩,
   ⟨some 15, .pick (.t 8) (.t 14) (.c (bv false)), none⟩]) (.cond (.t 15) .skip (.exit 0))) (.block 1 (.region false [⟨some 16, .mov (.t 3), none⟩,
   ⟨some 17, .bin .sub false (.t 16) (.c (iv 1)), none⟩,
   ⟨some 3, .mov (.t 17), none⟩]))))) (.seq (.region false [⟨some 18, .mov (.t 0), none⟩,
   ⟨some 19, .mov (.t 3), none⟩,
   ⟨some 20, .mov (.t 3), none⟩,
   ⟨some 21, .slc 1 (.t 18) none (some (.t 19)) (some (.t 20)), none⟩,
   ⟨some 2, .mov (.t 21), none⟩]) .ret)))
def R.surdref01_norm : List VRes := [.tmp 2]
theorem K.surdref01_norm : resCode Tryz.prog Tryz.f128.ntmps (Tryz.f128.body.getD .skip) = C.surdref01_norm := by kernel_rfl
theorem Q.surdref01_norm : resResults Tryz.prog Tryz.f128.results.toList = some R.surdref01_norm := by kernel_rfl
theorem E.surdref01_norm : Tryz.prog.funcs[F.surdref01_norm]? = some Tryz.f128 := Tryz.func128
theorem B.surdref01_norm : Tryz.f128.body = some (Tryz.f128.body.getD .skip) := by kernel_rfl
theorem N.surdref01_norm : Tryz.f128.ntmps = 22 := Tryz.ntmps128

def C.surdref01_Div : VC :=
  .seq (.region false [⟨some 4, .mov (.c nil1), none⟩,
   ⟨some 5, .mov (.c nil1), none⟩]) (.seq (.region false [⟨some 6, .mov (.c nil1), none⟩]) (.seq (.region false [⟨some 12, .mov (.t 0), none⟩,
   ⟨some 13, .len (.t 12), none⟩,
   ⟨some 14, .mk [.int .u64 0] 8 (.t 13) (.t 13), none⟩,
   ⟨some 7, .mov (.t 14), none⟩]) (.seq (.seq (.region false [⟨some 15, .mov (.t 0), none⟩,
   ⟨some 16, .len (.t 15), none⟩,
   ⟨some 17, .bin .sub false (.t 16) (.c (iv 1)), none⟩,
   ⟨some 8, .mov (.t 17), none⟩]) (.block 0 (.loop (.seq (.seq (.region false [⟨some 18, .mov (.t 8), none⟩,
   ⟨some 19, .bin .geq false (.t 18) (.c (iv 0)), none⟩]) (.cond (.t 19) .skip (.exit 0))) (.seq (.block 1 (.seq (.region true [⟨some 22, .mov (.t 6), none⟩,
   ⟨some 23, .call F.surdref01_Shl [.t 22, .c (iv 32)], none⟩,
   ⟨some 24, .mov (.t 0), none⟩,
   ⟨some 25, .mov (.t 8), none⟩,
   ⟨some 26, .ixa 1 (.t 24) (.t 25), none⟩,
   ⟨some 27, .load none (.t 26), none⟩,
   ⟨some 28, .bsl false 1 1 [.int .u64 0] [(0, (1, .t 27))], none⟩,
   ⟨some 29, .call F.surdref01_norm [.t 28], none⟩,
   ⟨some 30, .call F.surdref01_Add [.t 23, .t 29], none⟩,
   ⟨some 6, .mov (.t 30), none⟩]) (.seq (.region false [⟨some 9, .mov (.c (nv 0)), none⟩]) (.seq (.seq (.region false [⟨some 31, .mov (.t 6), none⟩,
   ⟨some 32, .mov (.t 1), none⟩,
   ⟨some 33, .call F.surdref01_Cmp [.t 31, .t 32], none⟩,
   ⟨some 34, .bin .geq false (.t 33) (.c (iv 0)), none⟩]) (.cond (.t 34) (.seq (.region false [⟨some 10, .mov (.c (iv 31)), none⟩]) (.block 2 (.loop (.seq (.seq (.region false [⟨some 35, .mov (.t 10), none⟩,
   ⟨some 36, .bin .geq false (.t 35) (.c (iv 0)), none⟩]) (.cond (.t 36) .skip (.exit 2))) (.seq (.block 3 (.seq (.region false [⟨some 39, .mov (.t 1), none⟩,
   ⟨some 40, .mov (.t 10), none⟩,
   ⟨some 41, .call F.surdref01_Shl [.t 39, .t 40], none⟩,
   ⟨some 11, .mov (.t 41), none⟩]) (.seq (.region false [⟨some 42, .mov (.t 6), none⟩,
   ⟨some 43, .mov (.t 11), none⟩,
   ⟨some 44, .call F.surdref01_Cmp [.t 42, .t 43], none⟩,
   ⟨some 45, .bin .geq false (.t 44) (.c (iv 0)), none⟩]) (.cond (.t 45) (.seq (.region false [⟨some 46, .mov (.t 6), none⟩,
   ⟨some 47, .mov (.t 11), none⟩,
   ⟨some 48, .call F.surdref01_Sub [.t 46, .t 47], none⟩,
   ⟨some 6, .mov (.t 48), none⟩]) (.region false [⟨some 49, .mov (.t 9), none⟩,
   ⟨some 50, .mov (.t 10), none⟩,
   ⟨some 51, .bin .shl false (.c (nv 1)) (.t 50), none⟩,
   ⟨some 52, .bin .add false (.t 49) (.t 51), none⟩,
   ⟨some 9, .mov (.t 52), none⟩])) .skip)))) (.region false [⟨some 37, .mov (.t 10), none⟩,
   ⟨some 38, .bin .sub false (.t 37) (.c (iv 1)), none⟩,
   ⟨some 10, .mov (.t 38), none⟩])))))) .skip)) (.region false [⟨some 53, .mov (.t 7), none⟩,
   ⟨some 54, .mov (.t 8), none⟩,
   ⟨some 55, .mov (.t 9), none⟩,
   ⟨some 56, .ixa 1 (.t 53) (.t 54), none⟩,
   ⟨none, .store 1 (.t 56) (.t 55), none⟩]))))) (.region false [⟨some 20, .mov (.t 8), none⟩,
   ⟨some 21, .bin .sub false (.t 20) (.c (iv 1)), none⟩,
   ⟨some 8, .mov (.t 21), none⟩])))))) (.seq (.region false [⟨some 57, .mov (.t 7), none⟩,
   ⟨some 58, .call F.surdref01_norm [.t 57], none⟩,
   ⟨some 59, .mov (.t 6), none⟩,
   ⟨some 4, .mov (.t 58), none⟩,
   ⟨some 5, .mov (.t 59), none⟩]) .ret))))
def R.surdref01_Div : List VRes := [.tmp 4, .tmp 5]
theorem K.surdref01_Div : resCode Tryz.prog Tryz.f129.ntmps (Tryz.f129.body.getD .skip) = C.surdref01_Div := by kernel_rfl
theorem Q.surdref01_Div : resResults Tryz.prog Tryz.f129.results.toList = some R.surdref01_Div := by kernel_rfl
theorem E.surdref01_Div : Tryz.prog.funcs[F.surdref01_Div]? = some Tryz.f129 := Tryz.func129
theorem B.surdref01_Div : Tryz.f129.body = some (Tryz.f129.body.getD .skip) := by kernel_rfl
theorem N.surdref01_Div : Tryz.f129.ntmps = 60 := Tryz.ntmps129

def C.surdref06_Sub : VC :=
  .seq (.region false [⟨some 2, .box (.t 0), none⟩,
   ⟨some 3, .box (.t 1), none⟩,
   ⟨some 4, .alloc [.bool false, .slice none 0 0], none⟩]) (.seq (.region true [⟨some 5, .load (some 2) (.t 2), none⟩,
   ⟨some 6, .load (some 2) (.t 3), none⟩,
   ⟨some 7, .call F.surdref06_Neg [.t 6], none⟩,
   ⟨some 8, .call F.surdref06_Add [.t 5, .t 7], none⟩,
   ⟨none, .store 2 (.t 4) (.t 8), none⟩]) .ret)
def R.surdref06_Sub : List VRes := [.cell 4 (some 2)]
theorem K.surdref06_Sub : resCode Tryz.prog Tryz.f130.ntmps (Tryz.f130.body.getD .skip) = C.surdref06_Sub := by kernel_rfl
theorem Q.surdref06_Sub : resResults Tryz.prog Tryz.f130.results.toList = some R.surdref06_Sub := by kernel_rfl
theorem E.surdref06_Sub : Tryz.prog.funcs[F.surdref06_Sub]? = some Tryz.f130 := Tryz.func130
theorem B.surdref06_Sub : Tryz.f130.body = some (Tryz.f130.body.getD .skip) := by kernel_rfl
theorem N.surdref06_Sub : Tryz.f130.ntmps = 9 := Tryz.ntmps130

def C.surdref01_Num_Bit : VC :=
  .seq (.region false [⟨some 4, .mov (.c (iv 0)), none⟩]) (.seq (.seq (.region false [⟨some 5, .mov (.t 1), none⟩,
   ⟨some 6, .bin .lss false (.t 5) (.c (iv 0)), none⟩,
   ⟨some 7, .mov (.t 6), none⟩,
   ⟨some 8, .mov (.t 1), some (7, false)⟩,
   ⟨some 9, .bin .quo false (.t 8) (.c (iv 32)), some (7, false)⟩,
   ⟨some 10, .mov (.t 0), some (7, false)⟩,
   ⟨some 11, .len (.t 10), some (7, false)⟩,
   ⟨some 12, .bin .geq false (.t 9) (.t 11), some (7, false)⟩,
   ⟨some 13, .pick (.t 7) (.c (bv true)) (.t 12), none⟩]) (.cond (.t 13) (.seq (.region false [⟨some 4, .mov (.c (iv 0)), none⟩]) .ret) .skip)) (.seq (.region false [⟨some 14, .mov (.t 0), none⟩,
   ⟨some 15, .mov (.t 1), none⟩,
   ⟨some 16, .bin .quo false (.t 15) (.c (iv 32)), none⟩,
   ⟨some 17, .ixa 1 (.t 14) (.t 16), none⟩,
   ⟨some 18, .load none (.t 17), none⟩,
   ⟨some 19, .mov (.t 1), none⟩,
   ⟨some 20, .bin .rem false (.t 19) (.c (iv 32)), none⟩,
   ⟨some 21, .bin .shr false (.t 18) (.t 20), none⟩,
   ⟨some 22, .bin .and false (.t 21) (.c (nv 1)), none⟩,
   ⟨some 23, .conv .i64 (.t 22), none⟩,
   ⟨some 4, .mov (.t 23), none⟩]) .ret))
def R.surdref01_Num_Bit : List VRes := [.tmp 4]
theorem K.surdref01_Num_Bit : resCode Tryz.prog Tryz.f131.ntmps (Tryz.f131.body.getD .skip) = C.surdref01_Num_Bit := by kernel_rfl
theorem Q.surdref01_Num_Bit : resResults Tryz.prog Tryz.f131.results.toList = some R.surdref01_Num_Bit := by kernel_rfl
theorem E.surdref01_Num_Bit : Tryz.prog.funcs[F.surdref01_Num_Bit]? = some Tryz.f131 := Tryz.func131
theorem B.surdref01_Num_Bit : Tryz.f131.body = some (Tryz.f131.body.getD .skip) := by kernel_rfl
theorem N.surdref01_Num_Bit : Tryz.f131.ntmps = 24 := Tryz.ntmps131

def C.dyadic_Add : VC :=
  .seq (.region false [⟨some 2, .box (.t 0), none⟩,
   ⟨some 3, .box (.t 1), none⟩,
   ⟨some 4, .alloc [.bool false, .slice none 0 0, .int .i64 0], none⟩,
   ⟨some 5, .mov (.c (iv 0)), none⟩]) (.seq (.region false [⟨some 10, .load (some 3) (.t 2), none⟩,
   ⟨some 11, .load (some 3) (.t 3), none⟩,
   ⟨some 12, .call F.dyadic_two [.t 10, .t 11], none⟩,
   ⟨some 9, .mov (.t 12), none⟩,
   ⟨some 13, .ext (.t 9) 0, none⟩,
   ⟨some 14, .ext (.t 9) 1, none⟩,
   ⟨some 15, .ext (.t 9) 2, none⟩,
   ⟨some 6, .alloc [.bool false, .slice none 0 0, .int .i64 0], none⟩,
   ⟨some 7, .alloc [.bool false, .slice none 0 0, .int .i64 0], none⟩,
   ⟨none, .store 3 (.t 6) (.t 13), none⟩,
   ⟨none, .store 3 (.t 7) (.t 14), none⟩,
   ⟨some 8, .mov (.t 15), none⟩]) (.seq (.seq (.region false [⟨some 16, .mov (.t 8), none⟩,
   ⟨some 17, .bin .neq false (.t 16) (.c (iv 0)), none⟩]) (.cond (.t 17) (.seq (.region false [⟨some 18, .build [.bool false, .slice none 0 0, .int .i64 0] [], none⟩,
   ⟨some 19, .mov (.t 8), none⟩,
   ⟨none, .store 3 (.t 4) (.t 18), none⟩,
   ⟨some 5, .mov (.t 19), none⟩]) .ret) .skip)) (.seq (.region false [⟨some 20, .load (some 3) (.t 6), none⟩,
   ⟨some 21, .load (some 3) (.t 7), none⟩,
   ⟨some 22, .call F.dyadic_sum [.t 20, .t 21], none⟩,
   ⟨some 23, .ext (.t 22) 0, none⟩,
   ⟨some 24, .ext (.t 22) 1, none⟩,
   ⟨none, .store 3 (.t 4) (.t 23), none⟩,
   ⟨some 5, .mov (.t 24), none⟩]) .ret)))
def R.dyadic_Add : List VRes := [.cell 4 (some 3), .tmp 5]
theorem K.dyadic_Add : resCode Tryz.prog Tryz.f132.ntmps (Tryz.f132.body.getD .skip) = C.dyadic_Add := by kernel_rfl
theorem Q.dyadic_Add : resResults Tryz.prog Tryz.f132.results.toList = some R.dyadic_Add := by kernel_rfl
theorem E.dyadic_Add : Tryz.prog.funcs[F.dyadic_Add]? = some Tryz.f132 := Tryz.func132
theorem B.dyadic_Add : Tryz.f132.body = some (Tryz.f132.body.getD .skip) := by kernel_rfl
theorem N.dyadic_Add : Tryz.f132.ntmps = 25 := Tryz.ntmps132

def C.span_outward : VC :=
  .seq (.region false [⟨some 3, .box (.t 0), none⟩,
   ⟨some 4, .box (.t 1), none⟩,
   ⟨some 6, .alloc [.bool false, .slice none 0 0, .int .i64 0, .bool false, .slice none 0 0, .int .i64 0], none⟩,
   ⟨some 7, .mov (.c (iv 0)), none⟩]) (.seq (.region false [⟨some 13, .load (some 3) (.t 3), none⟩,
   ⟨some 14, .mov (.t 2), none⟩,
   ⟨some 15, .call F.dyadic_Round [.t 13, .t 14, .c (iv 0)], none⟩,
   ⟨some 12, .mov (.t 15), none⟩,
   ⟨some 16, .ext (.t 12) 0, none⟩,
   ⟨some 17, .ext (.t 12) 1, none⟩,
   ⟨some 8, .alloc [.bool false, .slice none 0 0, .int .i64 0], none⟩,
   ⟨none, .store 3 (.t 8) (.t 16), none⟩,
   ⟨some 9, .mov (.t 17), none⟩]) (.seq (.region false [⟨some 19, .load (some 3) (.t 4), none⟩,
   ⟨some 20, .mov (.t 2), none⟩,
   ⟨some 21, .call F.dyadic_Round [.t 19, .t 20, .c (iv 1)], none⟩,
   ⟨some 18, .mov (.t 21), none⟩,
   ⟨some 22, .ext (.t 18) 0, none⟩,
   ⟨some 23, .ext (.t 18) 1, none⟩,
   ⟨some 10, .alloc [.bool false, .slice none 0 0, .int .i64 0], none⟩,
   ⟨none, .store 3 (.t 10) (.t 22), none⟩,
   ⟨some 11, .mov (.t 23), none⟩]) (.seq (.region false [⟨some 24, .load (some 3) (.t 8), none⟩,
   ⟨some 25, .mov (.t 9), none⟩,
   ⟨some 26, .load (some 3) (.t 10), none⟩,
   ⟨some 27, .mov (.t 11), none⟩,
   ⟨some 28, .call F.span_ends [.t 24, .t 25, .t 26, .t 27], none⟩,
   ⟨some 29, .ext (.t 28) 0, none⟩,
   ⟨some 30, .ext (.t 28) 1, none⟩,
   ⟨none, .store 6 (.t 6) (.t 29), none⟩,
   ⟨some 7, .mov (.t 30), none⟩]) .ret)))
def R.span_outward : List VRes := [.cell 6 (some 6), .tmp 7]
theorem K.span_outward : resCode Tryz.prog Tryz.f133.ntmps (Tryz.f133.body.getD .skip) = C.span_outward := by kernel_rfl
theorem Q.span_outward : resResults Tryz.prog Tryz.f133.results.toList = some R.span_outward := by kernel_rfl
theorem E.span_outward : Tryz.prog.funcs[F.span_outward]? = some Tryz.f133 := Tryz.func133
theorem B.span_outward : Tryz.f133.body = some (Tryz.f133.body.getD .skip) := by kernel_rfl
theorem N.span_outward : Tryz.f133.ntmps = 31 := Tryz.ntmps133

def C.whole_Mul : VC :=
  .seq (.region false [⟨some 2, .box (.t 0), none⟩,
   ⟨some 3, .box (.t 1), none⟩,
   ⟨some 4, .alloc [.bool false, .slice none 0 0], none⟩,
   ⟨some 5, .mov (.c (iv 0)), none⟩]) (.seq (.region false [⟨some 9, .fa 1 (.t 2), none⟩,
   ⟨some 10, .load none (.t 9), none⟩,
   ⟨some 11, .fa 1 (.t 3), none⟩,
   ⟨some 12, .load none (.t 11), none⟩,
   ⟨some 13, .call F.mul_Mul [.t 10, .t 12], none⟩,
   ⟨some 8, .mov (.t 13), none⟩,
   ⟨some 14, .ext (.t 8) 0, none⟩,
   ⟨some 15, .ext (.t 8) 1, none⟩,
   ⟨some 6, .mov (.t 14), none⟩,
   ⟨some 7, .mov (.t 15), none⟩]) (.seq (.region false [⟨some 16, .fa 0 (.t 2), none⟩,
   ⟨some 17, .load none (.t 16), none⟩,
   ⟨some 18, .fa 0 (.t 3), none⟩,
   ⟨some 19, .load none (.t 18), none⟩,
   ⟨some 20, .bin .neq true (.t 17) (.t 19), none⟩,
   ⟨some 21, .mov (.t 6), none⟩,
   ⟨some 22, .mov (.t 7), none⟩,
   ⟨some 23, .call F.whole_result [.t 20, .t 21, .t 22], none⟩,
   ⟨some 24, .ext (.t 23) 0, none⟩,
   ⟨some 25, .ext (.t 23) 1, none⟩,
   ⟨none, .store 2 (.t 4) (.t 24), none⟩,
   ⟨some 5, .mov (.t 25), none⟩]) .ret))
def R.whole_Mul : List VRes := [.cell 4 (some 2), .tmp 5]
theorem K.whole_Mul : resCode Tryz.prog Tryz.f134.ntmps (Tryz.f134.body.getD .skip) = C.whole_Mul := by kernel_rfl
theorem Q.whole_Mul : resResults Tryz.prog Tryz.f134.results.toList = some R.whole_Mul := by kernel_rfl
theorem E.whole_Mul : Tryz.prog.funcs[F.whole_Mul]? = some Tryz.f134 := Tryz.func134
theorem B.whole_Mul : Tryz.f134.body = some (Tryz.f134.body.getD .skip) := by kernel_rfl
theorem N.whole_Mul : Tryz.f134.ntmps = 26 := Tryz.ntmps134

def C.dyadic_told : VC :=
  .seq (.region false [⟨some 2, .box (.t 0), none⟩,
   ⟨some 4, .alloc [.bool false, .slice none 0 0, .int .i64 0], none⟩,
   ⟨some 5, .mov (.c (iv 0)), none⟩]) (.seq (.region false [⟨some 7, .load (some 2) (.t 2), none⟩,
   ⟨some 8, .mov (.t 1), none⟩,
   ⟨some 9, .call F.dyadic_odd [.t 7, .t 8], none⟩,
   ⟨some 6, .alloc [.bool false, .slice none 0 0, .int .i64 0], none⟩,
   ⟨none, .store 3 (.t 6) (.t 9), none⟩]) (.seq (.block 0 (.seq (.region false [⟨some 11, .fa 0 (.t 6), none⟩,
   ⟨some 12, .load (some 2) (.t 11), none⟩,
   ⟨some 13, .call F.dyadic_part_sign [.t 12], none⟩,
   ⟨some 14, .bin .eql false (.t 13) (.c (iv 0)), none⟩,
   ⟨some 10, .mov (.t 14), none⟩]) (.cond (.t 10) (.seq (.region false [⟨some 15, .build [.bool false, .slice none 0 0, .int .i64 0] [], none⟩,
   ⟨none, .store 3 (.t 4) (.t 15), none⟩,
   ⟨some 5, .mov (.c (iv 0)), none⟩]) .ret) (.seq (.region false [⟨some 17, .fa 0 (.t 6), none⟩,
   ⟨some 18, .load (some 2) (.t 17), none⟩,
   ⟨some 19, .call F.dyadic_part_length [.t 18], none⟩,
   ⟨some 20, .bin .gtr false (.t 19) (.c (iv 67108864)), none⟩,
   ⟨some 16, .mov (.t 20), none⟩]) (.cond (.t 16) (.seq (.region false [⟨some 21, .build [.bool false, .slice none 0 0, .int .i64 0] [], none⟩,
   ⟨none, .store 3 (.t 4) (.t 21), none⟩,
   ⟨some 5, .mov (.c (iv 3)), none⟩]) .ret) (.seq (.region false [⟨some 23, .fa 2 (.t 6), none⟩,
   ⟨some 24, .load none (.t 23), none⟩,
   ⟨some 25, .call F.dyadic_within [.t 24], none⟩,
   ⟨some 26, .un .not (.t 25), none⟩,
   ⟨some 22, .mov (.t 26), none⟩]) (.cond (.t 22) (.seq (.region false [⟨some 27, .build [.bool false, .slice none 0 0, .int .i64 0] [], none⟩,
   ⟨none, .store 3 (.t 4) (.t 27), none⟩,
   ⟨some 5, .mov (.c (iv 80)), none⟩]) .ret) .skip))))))) (.seq (.region false [⟨some 28, .fa 0 (.t 6), none⟩,
   ⟨some 29, .fa 0 (.t 28), none⟩,
   ⟨some 30, .load (some 2) (.t 29), none⟩,
   ⟨some 31, .fa 2 (.t 6), none⟩,
   ⟨some 32, .load none (.t 31), none⟩,
   ⟨some 33, .build [.bool false, .slice none 0 0, .int .i64 0] [(0, (2, .t 30)), (2, (1, .t 32))], none⟩,
   ⟨none, .store 3 (.t 4) (.t 33), none⟩,
   ⟨some 5, .mov (.c (iv 0)), none⟩]) .ret)))
def R.dyadic_told : List VRes := [.cell 4 (some 3), .tmp 5]
theorem K.dyadic_told : resCode Tryz.prog Tryz.f135.ntmps (Tryz.f135.body.getD .skip) = C.dyadic_told := by kernel_rfl
theorem Q.dyadic_told : resResults Tryz.prog Tryz.f135.results.toList = some R.dyadic_told := by kernel_rfl
theorem E.dyadic_told : Tryz.prog.funcs[F.dyadic_told]? = some Tryz.f135 := Tryz.func135
theorem B.dyadic_told : Tryz.f135.body = some (Tryz.f135.body.getD .skip) := by kernel_rfl
theorem N.dyadic_told : Tryz.f135.ntmps = 34 := Tryz.ntmps135

def C.surdref01_Add : VC :=
  .seq (.region false [⟨some 4, .mov (.c nil1), none⟩]) (.seq (.region false [⟨some 10, .mov (.t 0), none⟩,
   ⟨some 11, .len (.t 10), none⟩,
   ⟨some 5, .mov (.t 11), none⟩]) (.seq (.seq (.region false [⟨some 12, .mov (.t 1), none⟩,
   ⟨some 13, .len (.t 12), none⟩,
   ⟨some 14, .mov (.t 5), none⟩,
   ⟨some 15, .bin .gtr false (.t 13) (.t 14), none⟩]) (.cond (.t 15) (.region false [⟨some 16, .mov (.t 1), none⟩,
   ⟨some 17, .len (.t 16), none⟩,
   ⟨some 5, .mov (.t 17), none⟩]) .skip)) (.seq (.region false [⟨some 18, .mov (.t 5), none⟩,
   ⟨some 19, .bin .add false (.t 18) (.c (iv 1)), none⟩,
   ⟨some 20, .mk [.int .u64 0] 8 (.t 19) (.t 19), none⟩,
   ⟨some 6, .mov (.t 20), none⟩]) (.seq (.region false [⟨some 7, .mov (.c (nv 0)), none⟩]) (.seq (.seq (.region false [⟨some 8, .mov (.c (iv 0)), none⟩]) (.block 0 (.loop (.seq (.seq (.region false [⟨some 21, .mov (.t 8), none⟩,
   ⟨some 22, .mov (.t 5), none⟩,
   ⟨some 23, .bin .leq false (.t 21) (.t 22), none⟩]) (.cond (.t 23) .skip (.exit 0))) (.seq (.block 1 (.seq (.region false [⟨some 26, .mov (.t 0), none⟩,
   ⟨some 27, .mov (.t 8), none⟩,
   ⟨some 28, .call F.surdref01_Num_at [.t 26, .t 27], none⟩,
   ⟨some 29, .mov (.t 1), none⟩,
   ⟨some 30, .mov (.t 8), none⟩,
   ⟨some 31, .call F.surdref01_Num_at [.t 29, .t 30], none⟩,
   ⟨some 32, .bin .add false (.t 28) (.t 31), none⟩,
   ⟨some 33, .mov (.t 7), none⟩,
   ⟨some 34, .bin .add false (.t 32) (.t 33), none⟩,
   ⟨some 9, .mov (.t 34), none⟩]) (.seq (.region false [⟨some 35, .mov (.t 6), none⟩,
   ⟨some 36, .mov (.t 8), none⟩,
   ⟨some 37, .mov (.t 9), none⟩,
   ⟨some 38, .bin .rem false (.t 37) (.c (nv 4294967296)), none⟩,
   ⟨some 39, .ixa 1 (.t 35) (.t 36), none⟩,
   ⟨none, .store 1 (.t 39) (.t 38), none⟩]) (.region false [⟨some 40, .mov (.t 9), none⟩,
   ⟨some 41, .bin .quo false (.t 40) (.c (nv 4294967296)), none⟩,
   ⟨some 7, .mov (.t 41), none⟩])))) (.region false [⟨some 24, .mov (.t 8), none⟩,
   ⟨some 25, .bin .add false (.t 24) (.c (iv 1)), none⟩,
   ⟨some 8, .mov (.t 25), none⟩])))))) (.seq (.region false [⟨some 42, .mov (.t 6), none⟩,
   ⟨some 43, .call F.surdref01_norm [.t 42], none⟩,
   ⟨some 4, .mov (.t 43), none⟩]) .ret))))))
def R.surdref01_Add : List VRes := [.tmp 4]
theorem K.surdref01_Add : resCode Tryz.prog Tryz.f138.ntmps (Tryz.f138.body.getD .skip) = C.surdref01_Add := by kernel_rfl
theorem Q.surdref01_Add : resResults Tryz.prog Tryz.f138.results.toList = some R.surdref01_Add := by kernel_rfl
theorem E.surdref01_Add : Tryz.prog.funcs[F.surdref01_Add]? = some Tryz.f138 := Tryz.func138
theorem B.surdref01_Add : Tryz.f138.body = some (Tryz.f138.body.getD .skip) := by kernel_rfl
theorem N.surdref01_Add : Tryz.f138.ntmps = 44 := Tryz.ntmps138

def C.surdref01_Sub : VC :=
  .seq (.region false [⟨some 4, .mov (.c nil1), none⟩]) (.seq (.region false [⟨some 9, .mov (.t 0), none⟩,
   ⟨some 10, .len (.t 9), none⟩,
   ⟨some 11, .mk [.int .u64 0] 8 (.t 10) (.t 10), none⟩,
   ⟨some 5, .mov (.t 11), none⟩]) (.seq (.region false [⟨some 6, .mov (.c (nv 0)), none⟩]) (.seq (.seq (.region false [⟨some 12, .mov (.t 0), none⟩,
   ⟨some 13, .len (.t 12), none⟩,
   ⟨some 14, .mov (.c (iv 0)), none⟩]) (.block 0 (.loop (.seq (.region false [⟨some 15, .bin .lss false (.t 14) (.t 13), none⟩]) (.seq (.cond (.t 15) .skip (.exit 0)) (.seq (.block 1 (.seq (.region false [⟨some 16, .mov (.t 14), none⟩,
   ⟨some 7, .mov (.t 16), none⟩]) (.seq (.region true [⟨some 17, .mov (.t 0), none⟩,
   ⟨some 18, .mov (.t 7), none⟩,
   ⟨some 19, .ixa 1 (.t 17) (.t 18), none⟩,
   ⟨some 20, .load none (.t 19), none⟩,
   ⟨some 21, .bin .add false (.t 20) (.c (nv 4294967296)), none⟩,
   ⟨some 22, .mov (.t 1), none⟩,
   ⟨some 23, .mov (.t 7), none⟩,
   ⟨some 24, .call F.surdref01_Num_at [.t 22, .t 23], none⟩,
   ⟨some 25, .bin .sub false (.t 21) (.t 24), none⟩,
   ⟨some 26, .mov (.t 6), none⟩,
   ⟨some 27, .bin .sub false (.t 25) (.t 26), none⟩,
   ⟨some 8, .mov (.t 27), none⟩]) (.seq (.region false [⟨some 28, .mov (.t 5), none⟩,
   ⟨some 29, .mov (.t 7), none⟩,
   ⟨some 30, .mov (.t 8), none⟩,
   ⟨some 31, .bin .rem false (.t 30) (.c (nv 4294967296)), none⟩,
   ⟨some 32, .ixa 1 (.t 28) (.t 29), none⟩,
   ⟨none, .store 1 (.t 32) (.t 31), none⟩]) (.region false [⟨some 33, .mov (.t 8), none⟩,
   ⟨some 34, .bin .quo false (.t 33) (.c (nv 4294967296)), none⟩,
   ⟨some 35, .bin .sub false (.c (nv 1)) (.t 34), none⟩,
   ⟨some 6, .mov (.t 35), none⟩]))))) (.region false [⟨some 36, .bin .add false (.t 14) (.c (iv 1)), none⟩,
   ⟨some 14, .mov (.t 36), none⟩]))))))) (.seq (.region false [⟨some 37, .mov (.t 5), none⟩,
   ⟨some 38, .call F.surdref01_norm [.t 37], none⟩,
   ⟨some 4, .mov (.t 38), none⟩]) .ret))))
def R.surdref01_Sub : List VRes := [.tmp 4]
theorem K.surdref01_Sub : resCode Tryz.prog Tryz.f139.ntmps (Tryz.f139.body.getD .skip) = C.surdref01_Sub := by kernel_rfl
theorem Q.surdref01_Sub : resResults Tryz.prog Tryz.f139.results.toList = some R.surdref01_Sub := by kernel_rfl
theorem E.surdref01_Sub : Tryz.prog.funcs[F.surdref01_Sub]? = some Tryz.f139 := Tryz.func139
theorem B.surdref01_Sub : Tryz.f139.body = some (Tryz.f139.body.getD .skip) := by kernel_rfl
theorem N.surdref01_Sub : Tryz.f139.ntmps = 39 := Tryz.ntmps139

def C.surdref01_Mul : VC :=
  .seq (.region false [⟨some 4, .mov (.c nil1), none⟩]) (.seq (.region false [⟨some 12, .mov (.t 0), none⟩,
   ⟨some 13, .len (.t 12), none⟩,
   ⟨some 14, .mov (.t 1), none⟩,
   ⟨some 15, .len (.t 14), none⟩,
   ⟨some 16, .bin .add false (.t 13) (.t 15), none⟩,
   ⟨some 17, .bin .add false (.t 16) (.c (iv 1)), none⟩,
   ⟨some 18, .mk [.int .u64 0] 8 (.t 17) (.t 17), none⟩,
   ⟨some 5, .mov (.t 18), none⟩]) (.seq (.seq (.region false [⟨some 19, .mov (.t 0), none⟩,
   ⟨some 20, .len (.t 19), none⟩,
   ⟨some 21, .mov (.c (iv 0)), none⟩]) (.block 0 (.loop (.seq (.region false [⟨some 22, .bin .lss false (.t 21) (.t 20), none⟩]) (.seq (.cond (.t 22) .skip (.exit 0)) (.seq (.block 1 (.seq (.region false [⟨some 23, .mov (.t 21), none⟩,
   ⟨some 24, .ixa 1 (.t 19) (.t 21), none⟩,
   ⟨some 25, .load none (.t 24), none⟩,
   ⟨some 6, .mov (.t 23), none⟩,
   ⟨some 7, .mov (.t 25), none⟩]) (.seq (.region false [⟨some 8, .mov (.c (nv 0)), none⟩]) (.seq (.seq (.region false [⟨some 26, .mov (.t 1), none⟩,
   ⟨some 27, .len (.t 26), none⟩,
   ⟨some 28, .mov (.c (iv 0)), none⟩]) (.block 2 (.loop (.seq (.region false [⟨some 29, .bin .lss false (.t 28) (.t 27), none⟩]) (.seq (.cond (.t 29) .skip (.exit 2)) (.seq (.block 3 (.seq (.region false [⟨some 30, .mov (.t 28), none⟩,
   ⟨some 31, .ixa 1 (.t 26) (.t 28), none⟩,
   ⟨some 32, .load none (.t 31), none⟩,
   ⟨some 9, .mov (.t 30), none⟩,
   ⟨some 10, .mov (.t 32), none⟩]) (.seq (.region false [⟨some 33, .mov (.t 7), none⟩,
   ⟨some 34, .mov (.t 10), none⟩,
   ⟨some 35, .bin .mul false (.t 33) (.t 34), none⟩,
   ⟨some 36, .mov (.t 5), none⟩,
   ⟨some 37, .mov (.t 6), none⟩,
   ⟨some 38, .mov (.t 9), none⟩,
   ⟨some 39, .bin .add false (.t 37) (.t 38), none⟩,
   ⟨some 40, .ixa 1 (.t 36) (.t 39), none⟩,
   ⟨some 41, .load none (.t 40), none⟩,
   ⟨some 42, .bin .add false (.t 35) (.t 41), none⟩,
   ⟨some 43, .mov (.t 8), none⟩,
   ⟨some 44, .bin .add false (.t 42) (.t 43), none⟩,
   ⟨some 11, .mov (.t 44), none⟩]) (.seq (.region false [⟨some 45, .mov (.t 5), none⟩,
   ⟨some 46, .mov (.t 6), none⟩,
   ⟨some 47, .mov (.t 9), none⟩,
   ⟨some 48, .bin .add false (.t 46) (.t 47), none⟩,
   ⟨some 49, .mov (.t 11), none⟩,
   ⟨some 50, .bin .rem false (.t 49) (.c (nv 4294967296)), none⟩,
   ⟨some 51, .ixa 1 (.t 45) (.t 48), none⟩,
   ⟨none, .store 1 (.t 51) (.t 50), none⟩]) (.region false [⟨some 52, .mov (.t 11), none⟩,
   ⟨some 53, .bin .quo false (.t 52) (.c (nv 4294967296)), none⟩,
   ⟨some 8, .mov (.t 53), none⟩]))))) (.region false [⟨some 54, .bin .add false (.t 28) (.c (iv 1)), none⟩,
   ⟨some 28, .mov (.t 54), none⟩]))))))) (.region false [⟨some 55, .mov (.t 5), none⟩,
   ⟨some 56, .mov (.t 6), none⟩,
   ⟨some 57, .mov (.t 1), none⟩,
   ⟨some 58, .len (.t 57), none⟩,
   ⟨some 59, .bin .add false (.t 56) (.t 58), none⟩,
   ⟨some 60, .mov (.t 8), none⟩,
   ⟨some 61, .ixa 1 (.t 55) (.t 59), none⟩,
   ⟨none, .store 1 (.t 61) (.t 60), none⟩]))))) (.region false [⟨some 62, .bin .add false (.t 21) (.c (iv 1)), none⟩,
   ⟨some 21, .mov (.t 62), none⟩]))))))) (.seq (.region false [⟨some 63, .mov (.t 5), none⟩,
   ⟨some 64, .call F.surdref01_norm [.t 63], none⟩,
   ⟨some 4, .mov (.t 64), none⟩]) .ret)))
def R.surdref01_Mul : List VRes := [.tmp 4]
theorem K.surdref01_Mul : resCode Tryz.prog Tryz.f140.ntmps (Tryz.f140.body.getD .skip) = C.surdref01_Mul := by kernel_rfl
theorem Q.surdref01_Mul : resResults Tryz.prog Tryz.f140.results.toList = some R.surdref01_Mul := by kernel_rfl
theorem E.surdref01_Mul : Tryz.prog.funcs[F.surdref01_Mul]? = some Tryz.f140 := Tryz.func140
theorem B.surdref01_Mul : Tryz.f140.body = some (Tryz.f140.body.getD .skip) := by kernel_rfl
theorem N.surdref01_Mul : Tryz.f140.ntmps = 65 := Tryz.ntmps140

def C.dyadic_Scale : VC :=
  .seq (.region false [⟨some 2, .box (.t 0), none⟩,
   ⟨some 4, .alloc [.bool false, .slice none 0 0, .int .i64 0], none⟩,
   ⟨some 5, .mov (.c (iv 0)), none⟩]) (.seq (.region false [⟨some 9, .load (some 3) (.t 2), none⟩,
   ⟨some 10, .call F.dyadic_read [.t 9], none⟩,
   ⟨some 8, .mov (.t 10), none⟩,
   ⟨some 11, .ext (.t 8) 0, none⟩,
   ⟨some 12, .ext (.t 8) 1, none⟩,
   ⟨some 6, .alloc [.bool false, .slice none 0 0, .int .i64 0], none⟩,
   ⟨none, .store 3 (.t 6) (.t 11), none⟩,
   ⟨some 7, .mov (.t 12), none⟩]) (.seq (.seq (.region false [⟨some 13, .mov (.t 7), none⟩,
   ⟨some 14, .bin .neq false (.t 13) (.c (iv 0)), none⟩]) (.cond (.t 14) (.seq (.region false [⟨some 15, .build [.bool false, .slice none 0 0, .int .i64 0] [], none⟩,
   ⟨some 16, .mov (.t 7), none⟩,
   ⟨none, .store 3 (.t 4) (.t 15), none⟩,
   ⟨some 5, .mov (.t 16), none⟩]) .ret) .skip)) (.seq (.seq (.region false [⟨some 17, .mov (.t 1), none⟩,
   ⟨some 18, .call F.dyadic_within [.t 17], none⟩,
   ⟨some 19, .un .not (.t 18), none⟩]) (.cond (.t 19) (.seq (.region false [⟨some 20, .build [.bool false, .slice none 0 0, .int .i64 0] [], none⟩,
   ⟨none, .store 3 (.t 4) (.t 20), none⟩,
   ⟨some 5, .mov (.c (iv 1)), none⟩]) .ret) .skip)) (.seq (.region false [⟨some 21, .fa 0 (.t 6), none⟩,
   ⟨some 22, .fa 0 (.t 21), none⟩,
   ⟨some 23, .load (some 2) (.t 22), none⟩,
   ⟨some 24, .fa 2 (.t 6), none⟩,
   ⟨some 25, .load none (.t 24), none⟩,
   ⟨some 26, .mov (.t 1), none⟩,
   ⟨some 27, .bin .add false (.t 25) (.t 26), none⟩,
   ⟨some 28, .call F.dyadic_told [.t 23, .t 27], none⟩,
   ⟨some 29, .ext (.t 28) 0, none⟩,
   ⟨some 30, .ext (.t 28) 1, none⟩,
   ⟨none, .store 3 (.t 4) (.t 29), none⟩,
   ⟨some 5, .mov (.t 30), none⟩]) .ret))))
def R.dyadic_Scale : List VRes := [.cell 4 (some 3), .tmp 5]
theorem K.dyadic_Scale : resCode Tryz.prog Tryz.f141.ntmps (Tryz.f141.body.getD .skip) = C.dyadic_Scale := by kernel_rfl
theorem Q.dyadic_Scale : resResults Tryz.prog Tryz.f141.results.toList = some R.dyadic_Scale := by kernel_rfl
theorem E.dyadic_Scale : Tryz.prog.funcs[F.dyadic_Scale]? = some Tryz.f141 := Tryz.func141
theorem B.dyadic_Scale : Tryz.f141.body = some (Tryz.f141.body.getD .skip) := by kernel_rfl
theorem N.dyadic_Scale : Tryz.f141.ntmps = 31 := Tryz.ntmps141

def C.surdref01_Num_at : VC :=
  .seq (.region false [⟨some 4, .mov (.c (nv 0)), none⟩]) (.seq (.seq (.region false [⟨some 5, .mov (.t 1), none⟩,
   ⟨some 6, .mov (.t 0), none⟩,
   ⟨some 7, .len (.t 6), none⟩,
   ⟨some 8, .bin .lss false (.t 5) (.t 7), none⟩]) (.cond (.t 8) (.seq (.region false [⟨some 9, .mov (.t 0), none⟩,
   ⟨some 10, .mov (.t 1), none⟩,
   ⟨some 11, .ixa 1 (.t 9) (.t 10), none⟩,
   ⟨some 12, .load none (.t 11), none⟩,
   ⟨some 4, .mov (.t 12), none⟩]) .ret) .skip)) (.seq (.region false [⟨some 4, .mov (.c (nv 0)), none⟩]) .ret))
def R.surdref01_Num_at : List VRes := [.tmp 4]
theorem K.surdref01_Num_at : resCode Tryz.prog Tryz.f142.ntmps (Tryz.f142.body.getD .skip) = C.surdref01_Num_at := by kernel_rfl
theorem Q.surdref01_Num_at : resResults Tryz.prog Tryz.f142.results.toList = some R.surdref01_Num_at := by kernel_rfl
theorem E.surdref01_Num_at : Tryz.prog.funcs[F.surdref01_Num_at]? = some Tryz.f142 := Tryz.func142
theorem B.surdref01_Num_at : Tryz.f142.body = some (Tryz.f142.body.getD .skip) := by kernel_rfl
theorem N.surdref01_Num_at : Tryz.f142.ntmps = 13 := Tryz.ntmps142

def C.surdref01_Num_Is : VC :=
  .seq (.region false [⟨some 4, .mov (.c (bv false)), none⟩]) (.seq (.region false [⟨some 7, .mov (.t 0), none⟩,
   ⟨some 8, .call F.surdref01_Num_Limbs [.t 7], none⟩,
   ⟨some 5, .mov (.t 8), none⟩]) (.seq (.seq (.region false [⟨some 9, .mov (.t 5), none⟩,
   ⟨some 10, .len (.t 9), none⟩,
   ⟨some 11, .mov (.t 1), none⟩,
   ⟨some 12, .len (.t 11), none⟩,
   ⟨some 13, .bin .neq false (.t 10) (.t 12), none⟩]) (.cond (.t 13) (.seq (.region false [⟨some 4, .mov (.c (bv false)), none⟩]) .ret) .skip)) (.seq (.seq (.region false [⟨some 14, .mov (.t 5), none⟩,
   ⟨some 15, .len (.t 14), none⟩,
   ⟨some 16, .mov (.c (iv 0)), none⟩]) (.block 0 (.loop (.seq (.region false [⟨some 17, .bin .lss false (.t 16) (.t 15), none⟩]) (.seq (.cond (.t 17) .skip (.exit 0)) (.seq (.block 1 (.seq (.region false [⟨some 18, .mov (.t 16), none⟩,
   ⟨some 6, .mov (.t 18), none⟩]) (.seq (.region true [⟨some 19, .mov (.t 5), none⟩,
   ⟨some 20, .mov (.t 6), none⟩,
   ⟨some 21, .ixa 1 (.t 19) (.t 20), none⟩,
   ⟨some 22, .load none (.t 21), none⟩,
   ⟨some 23, .mov (.t 1), none⟩,
   ⟨some 24, .mov (.t 6), none⟩,
   ⟨some 25, .ixa 1 (.t 23) (.t 24), none⟩,
   ⟨some 26, .load none (.t 25), none⟩,
   ⟨some 27, .bin .neq false (.t 22) (.t 26), none⟩]) (.cond (.t 27) (.seq (.region false [⟨some 4, .mov (.c (bv false)), none⟩]) .ret) .skip)))) (.region false [⟨some 28, .bin .add false (.t 16) (.c (iv 1)), none⟩,
   ⟨some 16, .mov (.t 28), none⟩]))))))) (.seq (.region false [⟨some 4, .mov (.c (bv true)), none⟩]) .ret))))
def R.surdref01_Num_Is : List VRes := [.tmp 4]
theorem K.surdref01_Num_Is : resCode Tryz.prog Tryz.f143.ntmps (Tryz.f143.body.getD .skip) = C.surdref01_Num_Is := by kernel_rfl
theorem Q.surdref01_Num_Is : resResults Tryz.prog Tryz.f143.results.toList = some R.surdref01_Num_Is := by kernel_rfl
theorem E.surdref01_Num_Is : Tryz.prog.funcs[F.surdref01_Num_Is]? = some Tryz.f143 := Tryz.func143
theorem B.surdref01_Num_Is : Tryz.f143.body = some (Tryz.f143.body.getD .skip) := by kernel_rfl
theorem N.surdref01_Num_Is : Tryz.f143.ntmps = 29 := Tryz.ntmps143

def C.dyadic_number_top : VC :=
  .seq (.region false [⟨some 1, .box (.t 0), none⟩,
   ⟨some 2, .mov (.c (iv 0)), none⟩]) (.seq (.region true [⟨some 3, .fa 2 (.t 1), none⟩,
   ⟨some 4, .load none (.t 3), none⟩,
   ⟨some 5, .fa 0 (.t 1), none⟩,
   ⟨some 6, .load (some 2) (.t 5), none⟩,
   ⟨some 7, .call F.dyadic_part_length [.t 6], none⟩,
   ⟨some 8, .bin .add false (.t 4) (.t 7), none⟩,
   ⟨some 9, .bin .sub false (.t 8) (.c (iv 1)), none⟩,
   ⟨some 2, .mov (.t 9), none⟩]) .ret)
def R.dyadic_number_top : List VRes := [.tmp 2]
theorem K.dyadic_number_top : resCode Tryz.prog Tryz.f144.ntmps (Tryz.f144.body.getD .skip) = C.dyadic_number_top := by kernel_rfl
theorem Q.dyadic_number_top : resResults Tryz.prog Tryz.f144.results.toList = some R.dyadic_number_top := by kernel_rfl
theorem E.dyadic_number_top : Tryz.prog.funcs[F.dyadic_number_top]? = some Tryz.f144 := Tryz.func144
theorem B.dyadic_number_top : Tryz.f144.body = some (Tryz.f144.body.getD .skip) := by kernel_rfl
theorem N.dyadic_number_top : Tryz.f144.ntmps = 10 := Tryz.ntmps144

def C.dyadic_left : VC :=
  .seq (.region false [⟨some 4, .mov (.c nil1), none⟩]) (.seq (.region false [⟨some 13, .mov (.t 0), none⟩,
   ⟨some 14, .mov (.t 1), none⟩,
   ⟨some 15, .call F.nat_Left [.t 13, .t 14], none⟩,
   ⟨some 12, .mov (.t 15), none⟩,
   ⟨some 16, .ext (.t 12) 0, none⟩,
   ⟨some 17, .ext (.t 12) 1, none⟩,
   ⟨some 5, .mov (.t 16), none⟩,
   ⟨some 6, .mov (.t 17), none⟩]) (.seq (.seq (.region false [⟨some 18, .mov (.t 6), none⟩,
   ⟨some 19, .bin .eql false (.t 18) (.c (iv 0)), none⟩]) (.cond (.t 19) (.seq (.region false [⟨some 20, .mov (.t 5), none⟩,
   ⟨some 4, .mov (.t 20), none⟩]) .ret) .skip)) (.seq (.region false [⟨some 21, .mov (.t 1), none⟩,
   ⟨some 22, .bin .quo false (.t 21) (.c (iv 64)), none⟩,
   ⟨some 23, .mov (.t 1), none⟩,
   ⟨some 24, .bin .rem false (.t 23) (.c (iv 64)), none⟩,
   ⟨some 25, .conv .u64 (.t 24), none⟩,
   ⟨some 7, .mov (.t 22), none⟩,
   ⟨some 8, .mov (.t 25), none⟩]) (.seq (.region false [⟨some 26, .mov (.t 0), none⟩,
   ⟨some 27, .len (.t 26), none⟩,
   ⟨some 28, .mov (.t 7), none⟩,
   ⟨some 29, .bin .add false (.t 27) (.t 28), none⟩,
   ⟨some 30, .bin .add false (.t 29) (.c (iv 1)), none⟩,
   ⟨some 31, .mk [.int .u64 0] 8 (.t 30) (.t 30), none⟩,
   ⟨some 9, .mov (.t 31), none⟩]) (.seq (.seq (.region false [⟨some 32, .mov (.t 0), none⟩,
   ⟨some 33, .len (.t 32), none⟩,
   ⟨some 34, .mov (.c (iv 0)), none⟩]) (.block 0 (.loop (.seq (.region false [⟨some 35, .bin .lss false (.t 34) (.t 33), none⟩]) (.seq (.cond (.t 35) .skip (.exit 0)) (.seq (.block 1 (.seq (.region false [⟨some 36, .mov (.t 34), none⟩,
   ⟨some 37, .ixa 1 (.t 32) (.t 34), none⟩,
   ⟨some 38, .load none (.t 37), none⟩,
   ⟨some 10, .mov (.t 36), none⟩,
   ⟨some 11, .mov (.t 38), none⟩]) (.seq (.region false [⟨some 39, .mov (.t 9), none⟩,
   ⟨some 40, .mov (.t 10), none⟩,
   ⟨some 41, .mov (.t 7), none⟩,
   ⟨some 42, .bin .add false (.t 40) (.t 41), none⟩,
   ⟨some 43, .ixa 1 (.t 39) (.t 42), none⟩,
   ⟨some 44, .load none (.t 43), none⟩,
   ⟨some 45, .mov (.t 11), none⟩,
   ⟨some 46, .mov (.t 8), none⟩,
   ⟨some 47, .bin .shl false (.t 45) (.t 46), none⟩,
   ⟨some 48, .bin .or false (.t 44) (.t 47), none⟩,
   ⟨some 49, .ixa 1 (.t 39) (.t 42), none⟩,
   ⟨none, .store 1 (.t 49) (.t 48), none⟩]) (.seq (.region false [⟨some 50, .mov (.t 8), none⟩,
   ⟨some 51, .bin .gtr false (.t 50) (.c (nv 0)), none⟩]) (.cond (.t 51) (.region false [⟨some 52, .mov (.t 9), none⟩,
   ⟨some 53, .mov (.t 10), none⟩,
   ⟨some 54, .mov (.t 7), none⟩,
   ⟨some 55, .bin .add false (.t 53) (.t 54), none⟩,
   ⟨some 56, .bin .add false (.t 55) (.c (iv 1)), none⟩,
   ⟨some 57, .mov (.t 11), none⟩,
   ⟨some 58, .mov (.t 8), none⟩,
   ⟨some 59, .bin .sub false (.c (nv 64)) (.t 58), none⟩,
   ⟨some 60, .bin .shr false (.t 57) (.t 59), none⟩,
   ⟨some 61, .ixa 1 (.t 52) (.t 56), none⟩,
   ⟨none, .store 1 (.t 61) (.t 60), none⟩]) .skip))))) (.region false [⟨some 62, .bin .add false (.t 34) (.c (iv 1)), none⟩,
   ⟨some 34, .mov (.t 62), none⟩]))))))) (.seq (.region false [⟨some 63, .mov (.t 9), none⟩,
   ⟨some 64, .call F.nat_Norm [.t 63], none⟩,
   ⟨some 4, .mov (.t 64), none⟩]) .ret))))))
def R.dyadic_left : List VRes := [.tmp 4]
theorem K.dyadic_left : resCode Tryz.prog Tryz.f145.ntmps (Tryz.f145.body.getD .skip) = C.dyadic_left := by kernel_rfl
theorem Q.dyadic_left : resResults Tryz.prog Tryz.f145.results.toList = some R.dyadic_left := by kernel_rfl
theorem E.dyadic_left : Tryz.prog.funcs[F.dyadic_left]? = some Tryz.f145 := Tryz.func145
theorem B.dyadic_left : Tryz.f145.body = some (Tryz.f145.body.getD .skip) := by kernel_rfl
theorem N.dyadic_left : Tryz.f145.ntmps = 65 := Tryz.ntmps145

def C.nat_Compare : VC :=
  .seq (.region false [⟨some 4, .mov (.c (iv 0)), none⟩]) (.seq (.region false [⟨some 6, .mov (.t 0), none⟩,
   ⟨some 7, .call F.nat_trim [.t 6], none⟩,
   ⟨some 8, .mov (.t 1), none⟩,
   ⟨some 9, .call F.nat_trim [.t 8], none⟩,
   ⟨some 0, .mov (.t 7), none⟩,
   ⟨some 1, .mov (.t 9), none⟩]) (.seq (.seq (.region false [⟨some 10, .mov (.t 0), none⟩,
   ⟨some 11, .len (.t 10), none⟩,
   ⟨some 12, .mov (.t 1), none⟩,
   ⟨some 13, .len (.t 12), none⟩,
   ⟨some 14, .bin .neq false (.t 11) (.t 13), none⟩]) (.cond (.t 14) (.seq (.seq (.region false [⟨some 15, .mov (.t 0), none⟩,
   ⟨some 16, .len (.t 15), none⟩,
   ⟨some 17, .mov (.t 1), none⟩,
   ⟨some 18, .len (.t 17), none⟩,
   ⟨some 19, .bin .lss false (.t 16) (.t 18), none⟩]) (.cond (.t 19) (.seq (.region false [⟨some 4, .mov (.c (iv (-1))), none⟩]) .ret) .skip)) (.seq (.region false [⟨some 4, .mov (.c (iv 1)), none⟩]) .ret)) .skip)) (.seq (.seq (.region false [⟨some 20, .mov (.t 0), none⟩,
   ⟨some 21, .len (.t 20), none⟩,
   ⟨some 22, .bin .sub false (.t 21) (.c (iv 1)), none⟩,
   ⟨some 5, .mov (.t 22), none⟩]) (.block 0 (.loop (.seq (.seq (.region false [⟨some 23, .mov (.t 5), none⟩,
   ⟨some 24, .bin .geq false (.t 23) (.c (iv 0)), none⟩]) (.cond (.t 24) .skip (.exit 0))) (.seq (.block 1 (.seq (.seq (.region true [⟨some 27, .mov (.t 0), none⟩,
   ⟨some 28, .mov (.t 5), none⟩,
   ⟨some 29, .ixa 1 (.t 27) (.t 28), none⟩,
   ⟨some 30, .load none (.t 29), none⟩,
   ⟨some 31, .mov (.t 1), none⟩,
   ⟨some 32, .mov (.t 5), none⟩,
   ⟨some 33, .ixa 1 (.t 31) (.t 32), none⟩,
   ⟨some 34, .load none (.t 33), none⟩,
   ⟨some 35, .bin .lss false (.t 30) (.t 34), none⟩]) (.cond (.t 35) (.seq (.region false [⟨some 4, .mov (.c (iv (-1))), none⟩]) .ret) .skip)) (.seq (.region true [⟨some 36, .mov (.t 0), none⟩,
   ⟨some 37, .mov (.t 5), none⟩,
   ⟨some 38, .ixa 1 (.t 36) (.t 37), none⟩,
   ⟨some 39, .load none (.t 38), none⟩,
   ⟨some 40, .mov (.t 1), none⟩,
   ⟨some 41, .mov (.t 5), none⟩,
   ⟨some 42, .ixa 1 (.t 40) (.t 41), none⟩,
   ⟨some 43, .load none (.t 42), none⟩,
   ⟨some 44, .bin .gtr false (.t 39) (.t 43), none⟩]) (.cond (.t 44) (.seq (.region false [⟨some 4, .mov (.c (iv 1)), none⟩]) .ret) .skip)))) (.region false [⟨some 25, .mov (.t 5), none⟩,
   ⟨some 26, .bin .sub false (.t 25) (.c (iv 1)), none⟩,
   ⟨some 5, .mov (.t 26), none⟩])))))) (.seq (.region false [⟨some 4, .mov (.c (iv 0)), none⟩]) .ret))))
def R.nat_Compare : List VRes := [.tmp 4]
theorem K.nat_Compare : resCode Tryz.prog Tryz.f146.ntmps (Tryz.f146.body.getD .skip) = C.nat_Compare := by kernel_rfl
theorem Q.nat_Compare : resResults Tryz.prog Tryz.f146.results.toList = some R.nat_Compare := by kernel_rfl
theorem E.nat_Compare : Tryz.prog.funcs[F.nat_Compare]? = some Tryz.f146 := Tryz.func146
theorem B.nat_Compare : Tryz.f146.body = some (Tryz.f146.body.getD .skip) := by kernel_rfl
theorem N.nat_Compare : Tryz.f146.ntmps = 45 := Tryz.ntmps146

def C.nat_Length : VC :=
  .seq (.region false [⟨some 2, .mov (.c (iv 0)), none⟩]) (.seq (.region false [⟨some 3, .mov (.t 0), none⟩,
   ⟨some 4, .call F.nat_trim [.t 3], none⟩,
   ⟨some 0, .mov (.t 4), none⟩]) (.seq (.seq (.region false [⟨some 5, .mov (.t 0), none⟩,
   ⟨some 6, .len (.t 5), none⟩,
   ⟨some 7, .bin .eql false (.t 6) (.c (iv 0)), none⟩]) (.cond (.t 7) (.seq (.region false [⟨some 2, .mov (.c (iv 0)), none⟩]) .ret) .skip)) (.seq (.region false [⟨some 8, .mov (.t 0), none⟩,
   ⟨some 9, .len (.t 8), none⟩,
   ⟨some 10, .bin .sub false (.t 9) (.c (iv 1)), none⟩,
   ⟨some 11, .bin .mul false (.c (iv 64)) (.t 10), none⟩,
   ⟨some 12, .mov (.t 0), none⟩,
   ⟨some 13, .mov (.t 0), none⟩,
   ⟨some 14, .len (.t 13), none⟩,
   ⟨some 15, .bin .sub false (.t 14) (.c (iv 1)), none⟩,
   ⟨some 16, .ixa 1 (.t 12) (.t 15), none⟩,
   ⟨some 17, .load none (.t 16), none⟩,
   ⟨some 18, .call F.bits_Len64 [.t 17], none⟩,
   ⟨some 19, .bin .add false (.t 11) (.t 18), none⟩,
   ⟨some 2, .mov (.t 19), none⟩]) .ret)))
def R.nat_Length : List VRes := [.tmp 2]
theorem K.nat_Length : resCode Tryz.prog Tryz.f147.ntmps (Tryz.f147.body.getD .skip) = C.nat_Length := by kernel_rfl
theorem Q.nat_Length : resResults Tryz.prog Tryz.f147.results.toList = some R.nat_Length := by kernel_rfl
theorem E.nat_Length : Tryz.prog.funcs[F.nat_Length]? = some Tryz.f147 := Tryz.func147
theorem B.nat_Length : Tryz.f147.body = some (Tryz.f147.body.getD .skip) := by kernel_rfl
theorem N.nat_Length : Tryz.f147.ntmps = 20 := Tryz.ntmps147

def C.whole_Make : VC :=
  .seq (.region false [⟨some 4, .alloc [.bool false, .slice none 0 0], none⟩,
   ⟨some 5, .mov (.c (iv 0)), none⟩]) (.seq (.region false [⟨some 6, .mov (.t 0), none⟩,
   ⟨some 7, .mov (.t 1), none⟩,
   ⟨some 8, .build [.bool false, .slice none 0 0] [(0, (1, .t 6)), (1, (1, .t 7))], none⟩,
   ⟨some 9, .call F.whole_fits [.t 8], none⟩,
   ⟨some 10, .ext (.t 9) 0, none⟩,
   ⟨some 11, .ext (.t 9) 1, none⟩,
   ⟨none, .store 2 (.t 4) (.t 10), none⟩,
   ⟨some 5, .mov (.t 11), none⟩]) .ret)
def R.whole_Make : List VRes := [.cell 4 (some 2), .tmp 5]
theorem K.whole_Make : resCode Tryz.prog Tryz.f148.ntmps (Tryz.f148.body.getD .skip) = C.whole_Make := by kernel_rfl
theorem Q.whole_Make : resResults Tryz.prog Tryz.f148.results.toList = some R.whole_Make := by kernel_rfl
theorem E.whole_Make : Tryz.prog.funcs[F.whole_Make]? = some Tryz.f148 := Tryz.func148
theorem B.whole_Make : Tryz.f148.body = some (Tryz.f148.body.getD .skip) := by kernel_rfl
theorem N.whole_Make : Tryz.f148.ntmps = 12 := Tryz.ntmps148

def C.dyadic_long : VC :=
  .seq (.region false [⟨some 2, .box (.t 0), none⟩,
   ⟨some 3, .box (.t 1), none⟩,
   ⟨some 4, .alloc [.bool false, .slice none 0 0, .int .i64 0], none⟩,
   ⟨some 5, .mov (.c (iv 0)), none⟩]) (.seq (.region true [⟨some 9, .fa 0 (.t 2), none⟩,
   ⟨some 10, .fa 0 (.t 9), none⟩,
   ⟨some 11, .fa 1 (.t 10), none⟩,
   ⟨some 12, .load none (.t 11), none⟩,
   ⟨some 13, .fa 2 (.t 2), none⟩,
   ⟨some 14, .load none (.t 13), none⟩,
   ⟨some 15, .fa 2 (.t 3), none⟩,
   ⟨some 16, .load none (.t 15), none⟩,
   ⟨some 17, .bin .sub false (.t 14) (.t 16), none⟩,
   ⟨some 18, .call F.dyadic_left [.t 12, .t 17], none⟩,
   ⟨some 19, .fa 0 (.t 3), none⟩,
   ⟨some 20, .fa 0 (.t 19), none⟩,
   ⟨some 21, .fa 1 (.t 20), none⟩,
   ⟨some 22, .load none (.t 21), none⟩,
   ⟨some 6, .mov (.t 18), none⟩,
   ⟨some 7, .mov (.t 22), none⟩]) (.seq (.region false [⟨some 23, .fa 0 (.t 2), none⟩,
   ⟨some 24, .fa 0 (.t 23), none⟩,
   ⟨some 25, .fa 0 (.t 24), none⟩,
   ⟨some 26, .load none (.t 25), none⟩,
   ⟨some 8, .mov (.t 26), none⟩]) (.seq (.seq (.region false [⟨some 27, .fa 0 (.t 2), none⟩,
   ⟨some 28, .fa 0 (.t 27), none⟩,
   ⟨some 29, .fa 0 (.t 28), none⟩,
   ⟨some 30, .load none (.t 29), none⟩,
   ⟨some 31, .fa 0 (.t 3), none⟩,
   ⟨some 32, .fa 0 (.t 31), none⟩,
   ⟨some 33, .fa 0 (.t 32), none⟩,
   ⟨some 34, .load none (.t 33), none⟩,
   ⟨some 35, .bin .neq true (.t 30) (.t 34), none⟩]) (.cond (.t 35) (.seq (.seq (.region false [⟨some 36, .mov (.t 6), none⟩,
   ⟨some 37, .mov (.t 7), none⟩,
   ⟨some 38, .call F.nat_Compare [.t 36, .t 37], none⟩,
   ⟨some 39, .bin .lss false (.t 38) (.c (iv 0)), none⟩]) (.cond (.t 39) (.region false [⟨some 40, .mov (.t 7), none⟩,
   ⟨some 41, .mov (.t 6), none⟩,
   ⟨some 42, .mov (.t 8), none⟩,
   ⟨some 43, .un .not (.t 42), none⟩,
   ⟨some 6, .mov (.t 40), none⟩,
   ⟨some 7, .mov (.t 41), none⟩,
   ⟨some 8, .mov (.t 43), none⟩]) .skip)) (.seq (.region true [⟨some 44, .mov (.t 8), none⟩,
   ⟨some 45, .mov (.t 6), none⟩,
   ⟨some 46, .mov (.t 7), none⟩,
   ⟨some 47, .call F.dyadic_minus [.t 45, .t 46], none⟩,
   ⟨some 48, .build [.bool false, .slice none 0 0] [(0, (1, .t 44)), (1, (1, .t 47))], none⟩,
   ⟨some 49, .fa 2 (.t 3), none⟩,
   ⟨some 50, .load none (.t 49), none⟩,
   ⟨some 51, .call F.dyadic_told [.t 48, .t 50], none⟩,
   ⟨some 52, .ext (.t 51) 0, none⟩,
   ⟨some 53, .ext (.t 51) 1, none⟩,
   ⟨none, .store 3 (.t 4) (.t 52), none⟩,
   ⟨some 5, .mov (.t 53), none⟩]) .ret)) .skip)) (.seq (.region true [⟨some 54, .mov (.t 8), none⟩,
   ⟨some 55, .mov (.t 6), none⟩,
   ⟨some 56, .mov (.t 7), none⟩,
   ⟨some 57, .call F.dyadic_plus [.t 55, .t 56], none⟩,
   ⟨some 58, .build [.bool false, .slice none 0 0] [(0, (1, .t 54)), (1, (1, .t 57))], none⟩,
   ⟨some 59, .fa 2 (.t 3), none⟩,
   ⟨some 60, .load none (.t 59), none⟩,
   ⟨some 61, .call F.dyadic_told [.t 58, .t 60], none⟩,
   ⟨some 62, .ext (.t 61) 0, none⟩,
   ⟨some 63, .ext (.t 61) 1, none⟩,
   ⟨none, .store 3 (.t 4) (.t 62), none⟩,
   ⟨some 5, .mov (.t 63), none⟩]) .ret))))
def R.dyadic_long : List VRes := [.cell 4 (some 3), .tmp 5]
theorem K.dyadic_long : resCode Tryz.prog Tryz.f149.ntmps (Tryz.f149.body.getD .skip) = C.dyadic_long := by kernel_rfl
theorem Q.dyadic_long : resResults Tryz.prog Tryz.f149.results.toList = some R.dyadic_long := by kernel_rfl
theorem E.dyadic_long : Tryz.prog.funcs[F.dyadic_long]? = some Tryz.f149 := Tryz.func149
theorem B.dyadic_long : Tryz.f149.body = some (Tryz.f149.body.getD .skip) := by kernel_rfl
theorem N.dyadic_long : Tryz.f149.ntmps = 64 := Tryz.ntmps149

def C.whole_Add : VC :=
  .seq (.region false [⟨some 2, .box (.t 0), none⟩,
   ⟨some 3, .box (.t 1), none⟩,
   ⟨some 4, .alloc [.bool false, .slice none 0 0], none⟩,
   ⟨some 5, .mov (.c (iv 0)), none⟩]) (.seq (.region true [⟨some 10, .load (some 2) (.t 2), none⟩,
   ⟨some 11, .call F.whole_norm [.t 10], none⟩,
   ⟨some 12, .load (some 2) (.t 3), none⟩,
   ⟨some 13, .call F.whole_norm [.t 12], none⟩,
   ⟨none, .store 2 (.t 2) (.t 11), none⟩,
   ⟨none, .store 2 (.t 3) (.t 13), none⟩]) (.seq (.seq (.region false [⟨some 14, .fa 0 (.t 2), none⟩,
   ⟨some 15, .load none (.t 14), none⟩,
   ⟨some 16, .fa 0 (.t 3), none⟩,
   ⟨some 17, .load none (.t 16), none⟩,
   ⟨some 18, .bin .eql true (.t 15) (.t 17), none⟩]) (.cond (.t 18) (.seq (.region false [⟨some 20, .fa 1 (.t 2), none⟩,
   ⟨some 21, .load none (.t 20), none⟩,
   ⟨some 22, .fa 1 (.t 3), none⟩,
   ⟨some 23, .load none (.t 22), none⟩,
   ⟨some 24, .call F.nat_Add [.t 21, .t 23], none⟩,
   ⟨some 19, .mov (.t 24), none⟩,
   ⟨some 25, .ext (.t 19) 0, none⟩,
   ⟨some 26, .ext (.t 19) 1, none⟩,
   ⟨some 6, .mov (.t 25), none⟩,
   ⟨some 7, .mov (.t 26), none⟩]) (.seq (.region false [⟨some 27, .fa 0 (.t 2), none⟩,
   ⟨some 28, .load none (.t 27), none⟩,
   ⟨some 29, .mov (.t 6), none⟩,
   ⟨some 30, .mov (.t 7), none⟩,
   ⟨some 31, .call F.whole_result [.t 28, .t 29, .t 30], none⟩,
   ⟨some 32, .ext (.t 31) 0, none⟩,
   ⟨some 33, .ext (.t 31) 1, none⟩,
   ⟨none, .store 2 (.t 4) (.t 32), none⟩,
   ⟨some 5, .mov (.t 33), none⟩]) .ret)) .skip)) (.seq (.seq (.region false [⟨some 34, .fa 1 (.t 2), none⟩,
   ⟨some 35, .load none (.t 34), none⟩,
   ⟨some 36, .fa 1 (.t 3), none⟩,
   ⟨some 37, .load none (.t 36), none⟩,
   ⟨some 38, .call F.nat_Compare [.t 35, .t 37], none⟩,
   ⟨some 39, .bin .lss false (.t 38) (.c (iv 0)), none⟩]) (.cond (.t 39) (.region false [⟨some 40, .load (some 2) (.t 3), none⟩,
   ⟨some 41, .load (some 2) (.t 2), none⟩,
   ⟨none, .store 2 (.t 2) (.t 40), none⟩,
   ⟨none, .store 2 (.t 3) (.t 41), none⟩]) .skip)) (.seq (.region false [⟨some 43, .fa 1 (.t 2), none⟩,
   ⟨some 44, .load none (.t 43), none⟩,
   ⟨some 45, .fa 1 (.t 3), none⟩,
   ⟨some 46, .load none (.t 45), none⟩,
   ⟨some 47, .call F.nat_Sub [.t 44, .t 46], none⟩,
   ⟨some 42, .mov (.t 47), none⟩,
   ⟨some 48, .ext (.t 42) 0, none⟩,
   ⟨some 49, .ext (.t 42) 1, none⟩,
   ⟨some 8, .mov (.t 48), none⟩,
   ⟨some 9, .mov (.t 49), none⟩]) (.seq (.region false [⟨some 50, .fa 0 (.t 2), none⟩,
   ⟨some 51, .load none (.t 50), none⟩,
   ⟨some 52, .mov (.t 8), none⟩,
   ⟨some 53, .mov (.t 9), none⟩,
   ⟨some 54, .call F.whole_result [.t 51, .t 52, .t 53], none⟩,
   ⟨some 55, .ext (.t 54) 0, none⟩,
   ⟨some 56, .ext (.t 54) 1, none⟩,
   ⟨none, .store 2 (.t 4) (.t 55), none⟩,
   ⟨some 5, .mov (.t 56), none⟩]) .ret)))))
def R.whole_Add : List VRes := [.cell 4 (some 2), .tmp 5]
theorem K.whole_Add : resCode Tryz.prog Tryz.f150.ntmps (Tryz.f150.body.getD .skip) = C.whole_Add := by kernel_rfl
theorem Q.whole_Add : resResults Tryz.prog Tryz.f150.results.toList = some R.whole_Add := by kernel_rfl
theorem E.whole_Add : Tryz.prog.funcs[F.whole_Add]? = some Tryz.f150 := Tryz.func150
theorem B.whole_Add : Tryz.f150.body = some (Tryz.f150.body.getD .skip) := by kernel_rfl
theorem N.whole_Add : Tryz.f150.ntmps = 57 := Tryz.ntmps150

def C.dyadic_odd : VC :=
  .seq (.region false [⟨some 2, .box (.t 0), none⟩,
   ⟨some 4, .alloc [.bool false, .slice none 0 0, .int .i64 0], none⟩]) (.seq (.seq (.region false [⟨some 6, .load (some 2) (.t 2), none⟩,
   ⟨some 7, .call F.whole_Sign [.t 6], none⟩,
   ⟨some 8, .bin .eql false (.t 7) (.c (iv 0)), none⟩]) (.cond (.t 8) (.seq (.region false [⟨some 9, .build [.bool false, .slice none 0 0, .int .i64 0] [], none⟩,
   ⟨none, .store 3 (.t 4) (.t 9), none⟩]) .ret) .skip)) (.seq (.region false [⟨some 10, .fa 1 (.t 2), none⟩,
   ⟨some 11, .load none (.t 10), none⟩,
   ⟨some 12, .call F.nat_Norm [.t 11], none⟩,
   ⟨some 13, .fa 1 (.t 2), none⟩,
   ⟨none, .store 1 (.t 13) (.t 12), none⟩]) (.seq (.region false [⟨some 14, .fa 1 (.t 2), none⟩,
   ⟨some 15, .load none (.t 14), none⟩,
   ⟨some 16, .call F.nat_Tail [.t 15], none⟩,
   ⟨some 5, .mov (.t 16), none⟩]) (.seq (.seq (.region false [⟨some 17, .mov (.t 5), none⟩,
   ⟨some 18, .bin .gtr false (.t 17) (.c (iv 0)), none⟩]) (.cond (.t 18) (.region false [⟨some 19, .fa 1 (.t 2), none⟩,
   ⟨some 20, .load none (.t 19), none⟩,
   ⟨some 21, .mov (.t 5), none⟩,
   ⟨some 22, .call F.dyadic_shifted [.t 20, .t 21], none⟩,
   ⟨some 23, .fa 1 (.t 2), none⟩,
   ⟨none, .store 1 (.t 23) (.t 22), none⟩]) .skip)) (.seq (.region false [⟨some 24, .load (some 2) (.t 2), none⟩,
   ⟨some 25, .build [.bool false, .slice none 0 0] [(0, (2, .t 24))], none⟩,
   ⟨some 26, .mov (.t 1), none⟩,
   ⟨some 27, .mov (.t 5), none⟩,
   ⟨some 28, .bin .add false (.t 26) (.t 27), none⟩,
   ⟨some 29, .build [.bool false, .slice none 0 0, .int .i64 0] [(0, (2, .t 25)), (2, (1, .t 28))], none⟩,
   ⟨none, .store 3 (.t 4) (.t 29), none⟩]) .ret)))))
def R.dyadic_odd : List VRes := [.cell 4 (some 3)]
theorem K.dyadic_odd : resCode Tryz.prog Tryz.f151.ntmps (Tryz.f151.body.getD .skip) = C.dyadic_odd := by kernel_rfl
theorem Q.dyadic_odd : resResults Tryz.prog Tryz.f151.results.toList = some R.dyadic_odd := by kernel_rfl
theorem E.dyadic_odd : Tryz.prog.funcs[F.dyadic_odd]? = some Tryz.f151 := Tryz.func151
theorem B.dyadic_odd : Tryz.f151.body = some (Tryz.f151.body.getD .skip) := by kernel_rfl
theorem N.dyadic_odd : Tryz.f151.ntmps = 30 := Tryz.ntmps151

def C.dyadic_steps : VC :=
  .seq (.region false [⟨some 3, .box (.t 0), none⟩,
   ⟨some 6, .alloc [.bool false, .slice none 0 0], none⟩]) (.seq (.seq (.region false [⟨some 10, .fa 0 (.t 3), none⟩,
   ⟨some 11, .load (some 2) (.t 10), none⟩,
   ⟨some 12, .call F.dyadic_part_sign [.t 11], none⟩,
   ⟨some 13, .bin .eql false (.t 12) (.c (iv 0)), none⟩,
   ⟨some 14, .mov (.t 13), none⟩,
   ⟨some 15, .fa 2 (.t 3), some (14, false)⟩,
   ⟨some 16, .load none (.t 15), some (14, false)⟩,
   ⟨some 17, .mov (.t 1), some (14, false)⟩,
   ⟨some 18, .bin .geq false (.t 16) (.t 17), some (14, false)⟩,
   ⟨some 19, .pick (.t 14) (.c (bv true)) (.t 18), none⟩]) (.cond (.t 19) (.seq (.region true [⟨some 20, .fa 0 (.t 3), none⟩,
   ⟨some 21, .fa 0 (.t 20), none⟩,
   ⟨some 22, .fa 0 (.t 21), none⟩,
   ⟨some 23, .load none (.t 22), none⟩,
   ⟨some 24, .fa 0 (.t 3), none⟩,
   ⟨some 25, .fa 0 (.t 24), none⟩,
   ⟨some 26, .fa 1 (.t 25), none⟩,
   ⟨some 27, .load none (.t 26), none⟩,
   ⟨some 28, .fa 2 (.t 3), none⟩,
   ⟨some 29, .load none (.t 28), none⟩,
   ⟨some 30, .mov (.t 1), none⟩,
   ⟨some 31, .bin .sub false (.t 29) (.t 30), none⟩,
   ⟨some 32, .mm true (.t 31) (.c (iv 0)), none⟩,
   ⟨some 33, .call F.dyadic_left [.t 27, .t 32], none⟩,
   ⟨some 34, .build [.bool false, .slice none 0 0] [(0, (1, .t 23)), (1, (1, .t 33))], none⟩,
   ⟨none, .store 2 (.t 6) (.t 34), none⟩]) .ret) .skip)) (.seq (.region false [⟨some 35, .mov (.t 1), none⟩,
   ⟨some 36, .fa 2 (.t 3), none⟩,
   ⟨some 37, .load none (.t 36), none⟩,
   ⟨some 38, .bin .sub false (.t 35) (.t 37), none⟩,
   ⟨some 7, .mov (.t 38), none⟩]) (.seq (.region false [⟨some 8, .mov (.c nil1), none⟩]) (.seq (.seq (.region false [⟨some 39, .mov (.t 7), none⟩,
   ⟨some 40, .fa 0 (.t 3), none⟩,
   ⟨some 41, .load (some 2) (.t 40), none⟩,
   ⟨some 42, .call F.dyadic_part_length [.t 41], none⟩,
   ⟨some 43, .bin .lss false (.t 39) (.t 42), none⟩]) (.cond (.t 43) (.region false [⟨some 44, .fa 0 (.t 3), none⟩,
   ⟨some 45, .fa 0 (.t 44), none⟩,
   ⟨some 46, .fa 1 (.t 45), none⟩,
   ⟨some 47, .load none (.t 46), none⟩,
   ⟨some 48, .mov (.t 7), none⟩,
   ⟨some 49, .call F.dyadic_shifted [.t 47, .t 48], none⟩,
   ⟨some 8, .mov (.t 49), none⟩]) .skip)) (.seq (.region false [⟨some 9, .mov (.c (bv false)), none⟩]) (.seq (.seq (.region false [⟨some 50, .mov (.t 2), none⟩]) (.block 0 (.seq (.region false [⟨some 57, .bin .eql false (.t 50) (.c (iv 2)), none⟩,
   ⟨some 56, .mov (.t 57), none⟩]) (.cond (.t 56) (.seq (.seq (.region false [⟨some 58, .fa 0 (.t 3), none⟩,
   ⟨some 59, .fa 0 (.t 58), none⟩,
   ⟨some 60, .fa 1 (.t 59), none⟩,
   ⟨some 61, .load none (.t 60), none⟩,
   ⟨some 62, .mov (.t 7), none⟩,
   ⟨some 63, .bin .sub false (.t 62) (.c (iv 1)), none⟩,
   ⟨some 64, .call F.nat_Bit [.t 61, .t 63], none⟩,
   ⟨some 65, .bin .eql false (.t 64) (.c (iv 1)), none⟩,
   ⟨some 66, .mov (.t 65), none⟩,
   ⟨some 67, .fa 0 (.t 3), some (66, true)⟩,
   ⟨some 68, .fa 0 (.t 67), some (66, true)⟩,
   ⟨some 69, .fa 1 (.t 68), some (66, true)⟩,
   ⟨some 70, .load none (.t 69), some (66, true)⟩,
   ⟨some 71, .call F.nat_Tail [.t 70], some (66, true)⟩,
   ⟨some 72, .mov (.t 7), some (66, true)⟩,
   ⟨some 73, .bin .sub false (.t 72) (.c (iv 1)), some (66, true)⟩,
   ⟨some 74, .bin .lss false (.t 71) (.t 73), some (66, true)⟩,
   ⟨some 75, .mov (.t 74), some (66, true)⟩,
   ⟨some 76, .mov (.t 8), some (75, false)⟩,
   ⟨some 77, .call F.nat_Bit [.t 76, .c (iv 0)], some (75, false)⟩,
   ⟨some 78, .bin .eql false (.t 77) (.c (iv 1)), some (75, false)⟩,
   ⟨some 79, .pick (.t 75) (.c (bv true)) (.t 78), some (66, true)⟩,
   ⟨some 80, .pick (.t 66) (.t 79) (.c (bv false)), none⟩,
   ⟨some 81, .un .not (.t 80), none⟩]) (.cond (.t 81) (.exit 0) .skip)) (.region false [⟨some 9, .mov (.c (bv true)), none⟩])) (.seq (.region false [⟨some 83, .bin .eql false (.t 50) (.c (iv 0)), none⟩,
   ⟨some 82, .mov (.t 83), none⟩]) (.cond (.t 82) (.region false [⟨some 84, .fa 0 (.t 3), none⟩,
   ⟨some 85, .fa 0 (.t 84), none⟩,
   ⟨some 86, .fa 0 (.t 85), none⟩,
   ⟨some 87, .load none (.t 86), none⟩,
   ⟨some 9, .mov (.t 87), none⟩]) (.region false [⟨some 51, .fa 0 (.t 3), none⟩,
   ⟨some 52, .fa 0 (.t 51), none⟩,
   ⟨some 53, .fa 0 (.t 52), none⟩,
   ⟨some 54, .load none (.t 53), none⟩,
   ⟨some 55, .un .not (.t 54), none⟩,
   ⟨some 9, .mov (.t 55), none⟩]))))))) (.seq (.seq (.region false [⟨some 88, .mov (.t 9), none⟩]) (.cond (.t 88) (.region false [⟨some 89, .mov (.t 8), none⟩,
   ⟨some 90, .call F.nat_From [.c (nv 1)], none⟩,
   ⟨some 91, .call F.dyadic_plus [.t 89, .t 90], none⟩,
   ⟨some 8, .mov (.t 91), none⟩]) .skip)) (.seq (.region false [⟨some 92, .fa 0 (.t 3), none⟩,
   ⟨some 93, .fa 0 (.t 92), none⟩,
   ⟨some 94, .fa 0 (.t 93), none⟩,
   ⟨some 95, .load none (.t 94), none⟩,
   ⟨some 96, .mov (.t 8), none⟩,
   ⟨some 97, .build [.bool false, .slice none 0 0] [(0, (1, .t 95)), (1, (1, .t 96))], none⟩,
   ⟨none, .store 2 (.t 6) (.t 97), none⟩]) .ret))))))))
def R.dyadic_steps : List VRes := [.cell 6 (some 2)]
theorem K.dyadic_steps : resCode Tryz.prog Tryz.f152.ntmps (Tryz.f152.body.getD .skip) = C.dyadic_steps := by kernel_rfl
theorem Q.dyadic_steps : resResults Tryz.prog Tryz.f152.results.toList = some R.dyadic_steps := by kernel_rfl
theorem E.dyadic_steps : Tryz.prog.funcs[F.dyadic_steps]? = some Tryz.f152 := Tryz.func152
theorem B.dyadic_steps : Tryz.f152.body = some (Tryz.f152.body.getD .skip) := by kernel_rfl
theorem N.dyadic_steps : Tryz.f152.ntmps = 98 := Tryz.ntmps152

def C.mul_Mul : VC :=
  .seq (.region false [⟨some 4, .mov (.c nil1), none⟩,
   ⟨some 5, .mov (.c (iv 0)), none⟩]) (.seq (.region false [⟨some 6, .mov (.t 0), none⟩,
   ⟨some 7, .mov (.t 1), none⟩,
   ⟨some 8, .call F.mul_product [.t 6, .t 7, .c (.lit (.func (.func F.mul_Mul_1) #[] #[]))], none⟩,
   ⟨some 9, .ext (.t 8) 0, none⟩,
   ⟨some 10, .ext (.t 8) 1, none⟩,
   ⟨some 4, .mov (.t 9), none⟩,
   ⟨some 5, .mov (.t 10), none⟩]) .ret)
def R.mul_Mul : List VRes := [.tmp 4, .tmp 5]
theorem K.mul_Mul : resCode Tryz.prog Tryz.f153.ntmps (Tryz.f153.body.getD .skip) = C.mul_Mul := by kernel_rfl
theorem Q.mul_Mul : resResults Tryz.prog Tryz.f153.results.toList = some R.mul_Mul := by kernel_rfl
theorem E.mul_Mul : Tryz.prog.funcs[F.mul_Mul]? = some Tryz.f153 := Tryz.func153
theorem B.mul_Mul : Tryz.f153.body = some (Tryz.f153.body.getD .skip) := by kernel_rfl
theorem N.mul_Mul : Tryz.f153.ntmps = 11 := Tryz.ntmps153

def C.whole_result : VC :=
  .seq (.region false [⟨some 6, .alloc [.bool false, .slice none 0 0], none⟩,
   ⟨some 7, .mov (.c (iv 0)), none⟩]) (.seq (.seq (.region false [⟨some 8, .mov (.t 2), none⟩,
   ⟨some 9, .bin .neq false (.t 8) (.c (iv 0)), none⟩]) (.cond (.t 9) (.seq (.region false [⟨some 10, .build [.bool false, .slice none 0 0] [], none⟩,
   ⟨some 11, .mov (.t 2), none⟩,
   ⟨none, .store 2 (.t 6) (.t 10), none⟩,
   ⟨some 7, .mov (.t 11), none⟩]) .ret) .skip)) (.seq (.region false [⟨some 12, .mov (.t 0), none⟩,
   ⟨some 13, .mov (.t 1), none⟩,
   ⟨some 14, .build [.bool false, .slice none 0 0] [(0, (1, .t 12)), (1, (1, .t 13))], none⟩,
   ⟨some 15, .call F.whole_fits [.t 14], none⟩,
   ⟨some 16, .ext (.t 15) 0, none⟩,
   ⟨some 17, .ext (.t 15) 1, none⟩,
   ⟨none, .store 2 (.t 6) (.t 16), none⟩,
   ⟨some 7, .mov (.t 17), none⟩]) .ret))
def R.whole_result : List VRes := [.cell 6 (some 2), .tmp 7]
theorem K.whole_result : resCode Tryz.prog Tryz.f154.ntmps (Tryz.f154.body.getD .skip) = C.whole_result := by kernel_rfl
theorem Q.whole_result : resResults Tryz.prog Tryz.f154.results.toList = some R.whole_result := by kernel_rfl
theorem E.whole_result : Tryz.prog.funcs[F.whole_result]? = some Tryz.f154 := Tryz.func154
theorem B.whole_result : Tryz.f154.body = some (Tryz.f154.body.getD .skip) := by kernel_rfl
theorem N.whole_result : Tryz.f154.ntmps = 18 := Tryz.ntmps154

def C.dyadic_part_length : VC :=
  .seq (.region false [⟨some 1, .box (.t 0), none⟩,
   ⟨some 2, .mov (.c (iv 0)), none⟩]) (.seq (.region false [⟨some 3, .fa 0 (.t 1), none⟩,
   ⟨some 4, .fa 1 (.t 3), none⟩,
   ⟨some 5, .load none (.t 4), none⟩,
   ⟨some 6, .call F.nat_Length [.t 5], none⟩,
   ⟨some 2, .mov (.t 6), none⟩]) .ret)
def R.dyadic_part_length : List VRes := [.tmp 2]
theorem K.dyadic_part_length : resCode Tryz.prog Tryz.f155.ntmps (Tryz.f155.body.getD .skip) = C.dyadic_part_length := by kernel_rfl
theorem Q.dyadic_part_length : resResults Tryz.prog Tryz.f155.results.toList = some R.dyadic_part_length := by kernel_rfl
theorem E.dyadic_part_length : Tryz.prog.funcs[F.dyadic_part_length]? = some Tryz.f155 := Tryz.func155
theorem B.dyadic_part_length : Tryz.f155.body = some (Tryz.f155.body.getD .skip) := by kernel_rfl
theorem N.dyadic_part_length : Tryz.f155.ntmps = 7 := Tryz.ntmps155

def C.surdref01_Num_Limbs : VC :=
  .seq (.region false [⟨some 2, .mov (.c nil1), none⟩]) (.seq (.region false [⟨some 3, .mov (.c nil1), none⟩]) (.seq (.seq (.region false [⟨some 4, .mov (.c (iv 0)), none⟩]) (.block 0 (.loop (.seq (.seq (.region false [⟨some 6, .mov (.t 4), none⟩,
   ⟨some 7, .mov (.t 0), none⟩,
   ⟨some 8, .len (.t 7), none⟩,
   ⟨some 9, .bin .lss false (.t 6) (.t 8), none⟩]) (.cond (.t 9) .skip (.exit 0))) (.seq (.block 1 (.seq (.region false [⟨some 12, .mov (.t 0), none⟩,
   ⟨some 13, .mov (.t 4), none⟩,
   ⟨some 14, .ixa 1 (.t 12) (.t 13), none⟩,
   ⟨some 15, .load none (.t 14), none⟩,
   ⟨some 5, .mov (.t 15), none⟩]) (.seq (.seq (.region false [⟨some 16, .mov (.t 4), none⟩,
   ⟨some 17, .bin .add false (.t 16) (.c (iv 1)), none⟩,
   ⟨some 18, .mov (.t 0), none⟩,
   ⟨some 19, .len (.t 18), none⟩,
   ⟨some 20, .bin .lss false (.t 17) (.t 19), none⟩]) (.cond (.t 20) (.region false [⟨some 21, .mov (.t 5), none⟩,
   ⟨some 22, .mov (.t 0), none⟩,
   ⟨some 23, .mov (.t 4), none⟩,
   ⟨some 24, .bin .add false (.t 23) (.c (iv 1)), none⟩,
   ⟨some 25, .ixa 1 (.t 22) (.t 24), none⟩,
   ⟨some 26, .load none (.t 25), none⟩,
   ⟨some 27, .bin .mul false (.t 26) (.c (nv 4294967296)), none⟩,
   ⟨some 28, .bin .add false (.t 21) (.t 27), none⟩,
   ⟨some 5, .mov (.t 28), none⟩]) .skip)) (.region false [⟨some 29, .mov (.t 3), none⟩,
   ⟨some 30, .mov (.t 5), none⟩,
   ⟨some 31, .bsl true 1 1 [.int .u64 0] [(0, (1, .t 30))], none⟩,
   ⟨some 32, .app 1 8 [.int .u64 0] (.t 29) (.t 31), none⟩,
   ⟨some 3, .mov (.t 32), none⟩])))) (.region false [⟨some 10, .mov (.t 4), none⟩,
   ⟨some 11, .bin .add false (.t 10) (.c (iv 2)), none⟩,
   ⟨some 4, .mov (.t 11), none⟩])))))) (.seq (.region false [⟨some 33, .mov (.t 3), none⟩,
   ⟨some 2, .mov (.t 33), none⟩]) .ret)))
def R.surdref01_Num_Limbs : List VRes := [.tmp 2]
theorem K.surdref01_Num_Limbs : resCode Tryz.prog Tryz.f159.ntmps (Tryz.f159.body.getD .skip) = C.surdref01_Num_Limbs := by kernel_rfl
theorem Q.surdref01_Num_Limbs : resResults Tryz.prog Tryz.f159.results.toList = some R.surdref01_Num_Limbs := by kernel_rfl
theorem E.surdref01_Num_Limbs : Tryz.prog.funcs[F.surdref01_Num_Limbs]? = some Tryz.f159 := Tryz.func159
theorem B.surdref01_Num_Limbs : Tryz.f159.body = some (Tryz.f159.body.getD .skip) := by kernel_rfl
theorem N.surdref01_Num_Limbs : Tryz.f159.ntmps = 34 := Tryz.ntmps159

def C.nat_Left : VC :=
  .seq (.region false [⟨some 4, .mov (.c nil1), none⟩,
   ⟨some 5, .mov (.c (iv 0)), none⟩]) (.seq (.seq (.region false [⟨some 11, .mov (.t 1), none⟩,
   ⟨some 12, .bin .lss false (.t 11) (.c (iv 0)), none⟩,
   ⟨some 13, .mov (.t 12), none⟩,
   ⟨some 14, .mov (.t 1), some (13, false)⟩,
   ⟨some 15, .bin .gtr false (.t 14) (.c (iv 1099511627776)), some (13, false)⟩,
   ⟨some 16, .pick (.t 13) (.c (bv true)) (.t 15), none⟩]) (.cond (.t 16) (.seq (.region false [⟨some 4, .mov (.c nil1), none⟩,
   ⟨some 5, .mov (.c (iv 1)), none⟩]) .ret) .skip)) (.seq (.region false [⟨some 17, .mov (.t 0), none⟩,
   ⟨some 18, .call F.nat_trim [.t 17], none⟩,
   ⟨some 0, .mov (.t 18), none⟩]) (.seq (.seq (.region false [⟨some 19, .mov (.t 0), none⟩,
   ⟨some 20, .len (.t 19), none⟩,
   ⟨some 21, .bin .eql false (.t 20) (.c (iv 0)), none⟩]) (.cond (.t 21) (.seq (.region false [⟨some 4, .mov (.c nil1), none⟩,
   ⟨some 5, .mov (.c (iv 0)), none⟩]) .ret) .skip)) (.seq (.seq (.region false [⟨some 22, .mov (.t 0), none⟩,
   ⟨some 23, .call F.nat_Length [.t 22], none⟩,
   ⟨some 24, .mov (.t 1), none⟩,
   ⟨some 25, .bin .add false (.t 23) (.t 24), none⟩,
   ⟨some 26, .bin .gtr false (.t 25) (.c (iv 67108864)), none⟩]) (.cond (.t 26) (.seq (.region false [⟨some 4, .mov (.c nil1), none⟩,
   ⟨some 5, .mov (.c (iv 3)), none⟩]) .ret) .skip)) (.seq (.region false [⟨some 27, .mov (.t 1), none⟩,
   ⟨some 28, .bin .quo false (.t 27) (.c (iv 64)), none⟩,
   ⟨some 29, .mov (.t 1), none⟩,
   ⟨some 30, .bin .rem false (.t 29) (.c (iv 64)), none⟩,
   ⟨some 31, .conv .u64 (.t 30), none⟩,
   ⟨some 6, .mov (.t 28), none⟩,
   ⟨some 7, .mov (.t 31), none⟩]) (.seq (.region false [⟨some 32, .mov (.t 6), none⟩,
   ⟨some 33, .mov (.t 0), none⟩,
   ⟨some 34, .len (.t 33), none⟩,
   ⟨some 35, .bin .add false (.t 32) (.t 34), none⟩,
   ⟨some 36, .bin .add false (.t 35) (.c (iv 1)), none⟩,
   ⟨some 37, .mk [.int .u64 0] 8 (.t 36) (.t 36), none⟩,
   ⟨some 8, .mov (.t 37), none⟩]) (.seq (.seq (.region false [⟨some 38, .mov (.t 0), none⟩,
   ⟨some 39, .len (.t 38), none⟩,
   ⟨some 40, .mov (.c (iv 0)), none⟩]) (.block 0 (.loop (.seq (.region false [⟨some 41, .bin .lss false (.t 40) (.t 39), none⟩]) (.seq (.cond (.t 41) .skip (.exit 0)) (.seq (.block 1 (.seq (.region false [⟨some 42, .mov (.t 40), none⟩,
   ⟨some 43, .ixa 1 (.t 38) (.t 40), none⟩,
   ⟨some 44, .load none (.t 43), none⟩,
   ⟨some 9, .mov (.t 42), none⟩,
   ⟨some 10, .mov (.t 44), none⟩]) (.seq (.region false [⟨some 45, .mov (.t 8), none⟩,
   ⟨some 46, .mov (.t 6), none⟩,
   ⟨some 47, .mov (.t 9), none⟩,
   ⟨some 48, .bin .add false (.t 46) (.t 47), none⟩,
   ⟨some 49, .ixa 1 (.t 45) (.t 48), none⟩,
   ⟨some 50, .load none (.t 49), none⟩,
   ⟨some 51, .mov (.t 10), none⟩,
   ⟨some 52, .mov (.t 7), none⟩,
   ⟨some 53, .bin .shl false (.t 51) (.t 52), none⟩,
   ⟨some 54, .bin .or false (.t 50) (.t 53), none⟩,
   ⟨some 55, .ixa 1 (.t 45) (.t 48), none⟩,
   ⟨none, .store 1 (.t 55) (.t 54), none⟩]) (.region false [⟨some 56, .mov (.t 8), none⟩,
   ⟨some 57, .mov (.t 6), none⟩,
   ⟨some 58, .mov (.t 9), none⟩,
   ⟨some 59, .bin .add false (.t 57) (.t 58), none⟩,
   ⟨some 60, .bin .add false (.t 59) (.c (iv 1)), none⟩,
   ⟨some 61, .ixa 1 (.t 56) (.t 60), none⟩,
   ⟨some 62, .load none (.t 61), none⟩,
   ⟨some 63, .mov (.t 10), none⟩,
   ⟨some 64, .bin .shr false (.t 63) (.c (nv 1)), none⟩,
   ⟨some 65, .mov (.t 7), none⟩,
   ⟨some 66, .bin .sub false (.c (nv 63)) (.t 65), none⟩,
   ⟨some 67, .bin .shr false (.t 64) (.t 66), none⟩,
   ⟨some 68, .bin .or false (.t 62) (.t 67), none⟩,
   ⟨some 69, .ixa 1 (.t 56) (.t 60), none⟩,
   ⟨none, .store 1 (.t 69) (.t 68), none⟩])))) (.region false [⟨some 70, .bin .add false (.t 40) (.c (iv 1)), none⟩,
   ⟨some 40, .mov (.t 70), none⟩]))))))) (.seq (.region false [⟨some 71, .mov (.t 8), none⟩,
   ⟨some 72, .call F.nat_trim [.t 71], none⟩,
   ⟨some 4, .mov (.t 72), none⟩,
   ⟨some 5, .mov (.c (iv 0)), none⟩]) .ret))))))))
def R.nat_Left : List VRes := [.tmp 4, .tmp 5]
theorem K.nat_Left : resCode Tryz.prog Tryz.f160.ntmps (Tryz.f160.body.getD .skip) = C.nat_Left := by kernel_rfl
theorem Q.nat_Left : resResults Tryz.prog Tryz.f160.results.toList = some R.nat_Left := by kernel_rfl
theorem E.nat_Left : Tryz.prog.funcs[F.nat_Left]? = some Tryz.f160 := Tryz.func160
theorem B.nat_Left : Tryz.f160.body = some (Tryz.f160.body.getD .skip) := by kernel_rfl
theorem N.nat_Left : Tryz.f160.ntmps = 73 := Tryz.ntmps160

def C.nat_Norm : VC :=
  .seq (.region false [⟨some 2, .mov (.c nil1), none⟩]) (.seq (.region false [⟨some 3, .mov (.t 0), none⟩,
   ⟨some 4, .call F.nat_trim [.t 3], none⟩,
   ⟨some 5, .app 1 8 [.int .u64 0] (.c nil1) (.t 4), none⟩,
   ⟨some 2, .mov (.t 5), none⟩]) .ret)
def R.nat_Norm : List VRes := [.tmp 2]
theorem K.nat_Norm : resCode Tryz.prog Tryz.f161.ntmps (Tryz.f161.body.getD .skip) = C.nat_Norm := by kernel_rfl
theorem Q.nat_Norm : resResults Tryz.prog Tryz.f161.results.toList = some R.nat_Norm := by kernel_rfl
theorem E.nat_Norm : Tryz.prog.funcs[F.nat_Norm]? = some Tryz.f161 := Tryz.func161
theorem B.nat_Norm : Tryz.f161.body = some (Tryz.f161.body.getD .skip) := by kernel_rfl
theorem N.nat_Norm : Tryz.f161.ntmps = 6 := Tryz.ntmps161

def C.nat_trim : VC :=
  .seq (.region false [⟨some 2, .mov (.c nil1), none⟩]) (.seq (.block 0 (.loop (.seq (.seq (.region false [⟨some 3, .mov (.t 0), none⟩,
   ⟨some 4, .len (.t 3), none⟩,
   ⟨some 5, .bin .gtr false (.t 4) (.c (iv 0)), none⟩,
   ⟨some 6, .mov (.t 5), none⟩,
   ⟨some 7, .mov (.t 0), some (6, true)⟩,
   ⟨some 8, .mov (.t 0), some (6, true)⟩,
   ⟨some 9, .len (.t 8), some (6, true)⟩,
   ⟨some 10, .bin .sub false (.t 9) (.c (iv 1)), some (6, true)⟩,
   ⟨some 11, .ixa 1 (.t 7) (.t 10), some (6, true)⟩,
   ⟨some 12, .load none (.t 11), some (6, true)⟩,
   ⟨some 13, .bin .eql false (.t 12) (.c (nv 0)), some (6, true)⟩,
   ⟨some 14, .pick (.t 6) (.t 13) (.c (bv false)), none⟩]) (.cond (.t 14) .skip (.exit 0))) (.block 1 (.region false [⟨some 15, .mov (.t 0), none⟩,
   ⟨some 16, .mov (.t 0), none⟩,
   ⟨some 17, .len (.t 16), none⟩,
   ⟨some 18, .bin .sub false (.t 17) (.c (iv 1)), none⟩,
   ⟨some 19, .slc 1 (.t 15) none (some (.t 18)) none, none⟩,
   ⟨some 0, .mov (.t 19), none⟩]))))) (.seq (.region false [⟨some 20, .mov (.t 0), none⟩,
   ⟨some 2, .mov (.t 20), none⟩]) .ret))
def R.nat_trim : List VRes := [.tmp 2]
theorem K.nat_trim : resCode Tryz.prog Tryz.f162.ntmps (Tryz.f162.body.getD .skip) = C.nat_trim := by kernel_rfl
theorem Q.nat_trim : resResults Tryz.prog Tryz.f162.results.toList = some R.nat_trim := by kernel_rfl
theorem E.nat_trim : Tryz.prog.funcs[F.nat_trim]? = some Tryz.f162 := Tryz.func162
theorem B.nat_trim : Tryz.f162.body = some (Tryz.f162.body.getD .skip) := by kernel_rfl
theorem N.nat_trim : Tryz.f162.ntmps = 21 := Tryz.ntmps162

def C.bits_Len64 : VC :=
  .seq (.region false [⟨some 2, .mov (.c (iv 0)), none⟩]) (.seq (.seq (.region false [⟨some 3, .mov (.t 0), none⟩,
   ⟨some 4, .bin .geq false (.t 3) (.c (nv 4294967296)), none⟩]) (.cond (.t 4) (.seq (.region false [⟨some 5, .mov (.t 0), none⟩,
   ⟨some 6, .bin .shr false (.t 5) (.c (nv 32)), none⟩,
   ⟨some 0, .mov (.t 6), none⟩]) (.region false [⟨some 2, .mov (.c (iv 32)), none⟩])) .skip)) (.seq (.seq (.region false [⟨some 7, .mov (.t 0), none⟩,
   ⟨some 8, .bin .geq false (.t 7) (.c (nv 65536)), none⟩]) (.cond (.t 8) (.seq (.region false [⟨some 9, .mov (.t 0), none⟩,
   ⟨some 10, .bin .shr false (.t 9) (.c (nv 16)), none⟩,
   ⟨some 0, .mov (.t 10), none⟩]) (.region false [⟨some 11, .mov (.t 2), none⟩,
   ⟨some 12, .bin .add false (.t 11) (.c (iv 16)), none⟩,
   ⟨some 2, .mov (.t 12), none⟩])) .skip)) (.seq (.seq (.region false [⟨some 13, .mov (.t 0), none⟩,
   ⟨some 14, .bin .geq false (.t 13) (.c (nv 256)), none⟩]) (.cond (.t 14) (.seq (.region false [⟨some 15, .mov (.t 0), none⟩,
   ⟨some 16, .bin .shr false (.t 15) (.c (nv 8)), none⟩,
   ⟨some 0, .mov (.t 16), none⟩]) (.region false [⟨some 17, .mov (.t 2), none⟩,
   ⟨some 18, .bin .add false (.t 17) (.c (iv 8)), none⟩,
   ⟨some 2, .mov (.t 18), none⟩])) .skip)) (.seq (.region false [⟨some 19, .mov (.t 2), none⟩,
   ⟨some 20, .mov (.t 0), none⟩,
   ⟨some 21, .conv .u8 (.t 20), none⟩,
   ⟨some 22, .six (.c (.lit (.string ⟨#[0, 1, 2, 2, 3, 3, 3, 3, 4, 4, 4, 4, 4, 4, 4, 4, 5, 5, 5, 5, 5, 5, 5, 5, 5, 5, 5, 5, 5, 5, 5, 5, 6, 6, 6, 6, 6, 6, 6, 6, 6, 6, 6, 6, 6, 6, 6, 6, 6, 6, 6, 6, 6, 6, 6, 6, 6, 6, 6, 6, 6, 6, 6, 6, 7, 7, 7, 7, 7, 7, 7, 7, 7, 7, 7, 7, 7, 7, 7, 7, 7, 7, 7, 7, 7, 7, 7, 7, 7, 7, 7, 7, 7, 7, 7, 7, 7, 7, 7, 7, 7, 7, 7, 7, 7, 7, 7, 7, 7, 7, 7, 7, 7, 7, 7, 7, 7, 7, 7, 7, 7, 7, 7, 7, 7, 7, 7, 7, 8, 8, 8, 8, 8, 8, 8, 8, 8, 8, 8, 8, 8, 8, 8, 8, 8, 8, 8, 8, 8, 8, 8, 8, 8, 8, 8, 8, 8, 8, 8, 8, 8, 8, 8, 8, 8, 8, 8, 8, 8, 8, 8, 8, 8, 8, 8, 8, 8, 8, 8, 8, 8, 8, 8, 8, 8, 8, 8, 8, 8, 8, 8, 8, 8, 8, 8, 8, 8, 8, 8, 8, 8, 8, 8, 8, 8, 8, 8, 8, 8, 8, 8, 8, 8, 8, 8, 8, 8, 8, 8, 8, 8, 8, 8, 8, 8, 8, 8, 8, 8, 8, 8, 8, 8, 8, 8, 8, 8, 8, 8, 8, 8, 8, 8, 8, 8, 8, 8, 8, 8, 8, 8, 8, 8, 8, 8, 8]⟩))) (.t 21), none⟩,
   ⟨some 23, .conv .i64 (.t 22), none⟩,
   ⟨some 24, .bin .add false (.t 19) (.t 23), none⟩,
   ⟨some 2, .mov (.t 24), none⟩]) .ret))))
def R.bits_Len64 : List VRes := [.tmp 2]
theorem K.bits_Len64 : resCode Tryz.prog Tryz.f163.ntmps (Tryz.f163.body.getD .skip) = C.bits_Len64 := by kernel_rfl
theorem Q.bits_Len64 : resResults Tryz.prog Tryz.f163.results.toList = some R.bits_Len64 := by kernel_rfl
theorem E.bits_Len64 : Tryz.prog.funcs[F.bits_Len64]? = some Tryz.f163 := Tryz.func163
theorem B.bits_Len64 : Tryz.f163.body = some (Tryz.f163.body.getD .skip) := by kernel_rfl
theorem N.bits_Len64 : Tryz.f163.ntmps = 25 := Tryz.ntmps163

def C.whole_fits : VC :=
  .seq (.region false [⟨some 1, .box (.t 0), none⟩,
   ⟨some 2, .alloc [.bool false, .slice none 0 0], none⟩,
   ⟨some 3, .mov (.c (iv 0)), none⟩]) (.seq (.seq (.region false [⟨some 4, .fa 1 (.t 1), none⟩,
   ⟨some 5, .load none (.t 4), none⟩,
   ⟨some 6, .call F.nat_Length [.t 5], none⟩,
   ⟨some 7, .bin .gtr false (.t 6) (.c (iv 67108864)), none⟩]) (.cond (.t 7) (.seq (.region false [⟨some 8, .build [.bool false, .slice none 0 0] [], none⟩,
   ⟨none, .store 2 (.t 2) (.t 8), none⟩,
   ⟨some 3, .mov (.c (iv 3)), none⟩]) .ret) .skip)) (.seq (.region false [⟨some 9, .load (some 2) (.t 1), none⟩,
   ⟨some 10, .call F.whole_norm [.t 9], none⟩,
   ⟨none, .store 2 (.t 2) (.t 10), none⟩,
   ⟨some 3, .mov (.c (iv 0)), none⟩]) .ret))
def R.whole_fits : List VRes := [.cell 2 (some 2), .tmp 3]
theorem K.whole_fits : resCode Tryz.prog Tryz.f164.ntmps (Tryz.f164.body.getD .skip) = C.whole_fits := by kernel_rfl
theorem Q.whole_fits : resResults Tryz.prog Tryz.f164.results.toList = some R.whole_fits := by kernel_rfl
theorem E.whole_fits : Tryz.prog.funcs[F.whole_fits]? = some Tryz.f164 := Tryz.func164
theorem B.whole_fits : Tryz.f164.body = some (Tryz.f164.body.getD .skip) := by kernel_rfl
theorem N.whole_fits : Tryz.f164.ntmps = 11 := Tryz.ntmps164

def C.dyadic_minus : VC :=
  .seq (.region false [⟨some 4, .mov (.c nil1), none⟩]) (.seq (.region false [⟨some 11, .mov (.t 0), none⟩,
   ⟨some 12, .len (.t 11), none⟩,
   ⟨some 13, .mk [.int .u64 0] 8 (.t 12) (.t 12), none⟩,
   ⟨some 5, .mov (.t 13), none⟩]) (.seq (.region false [⟨some 6, .mov (.c (nv 0)), none⟩]) (.seq (.seq (.region false [⟨some 14, .mov (.t 5), none⟩,
   ⟨some 15, .len (.t 14), none⟩,
   ⟨some 16, .mov (.c (iv 0)), none⟩]) (.block 0 (.loop (.seq (.region false [⟨some 17, .bin .lss false (.t 16) (.t 15), none⟩]) (.seq (.cond (.t 17) .skip (.exit 0)) (.seq (.block 1 (.seq (.region false [⟨some 18, .mov (.t 16), none⟩,
   ⟨some 7, .mov (.t 18), none⟩]) (.seq (.region false [⟨some 19, .mov (.t 0), none⟩,
   ⟨some 20, .mov (.t 7), none⟩,
   ⟨some 21, .call F.dyadic_limb [.t 19, .t 20], none⟩,
   ⟨some 22, .mov (.t 1), none⟩,
   ⟨some 23, .mov (.t 7), none⟩,
   ⟨some 24, .call F.dyadic_limb [.t 22, .t 23], none⟩,
   ⟨some 8, .mov (.t 21), none⟩,
   ⟨some 9, .mov (.t 24), none⟩]) (.seq (.region false [⟨some 25, .mov (.t 8), none⟩,
   ⟨some 26, .mov (.t 9), none⟩,
   ⟨some 27, .bin .sub false (.t 25) (.t 26), none⟩,
   ⟨some 28, .mov (.t 6), none⟩,
   ⟨some 29, .bin .sub false (.t 27) (.t 28), none⟩,
   ⟨some 10, .mov (.t 29), none⟩]) (.seq (.seq (.region false [⟨some 30, .mov (.t 8), none⟩,
   ⟨some 31, .mov (.t 9), none⟩,
   ⟨some 32, .bin .lss false (.t 30) (.t 31), none⟩,
   ⟨some 33, .mov (.t 32), none⟩,
   ⟨some 34, .mov (.t 8), some (33, false)⟩,
   ⟨some 35, .mov (.t 9), some (33, false)⟩,
   ⟨some 36, .bin .eql false (.t 34) (.t 35), some (33, false)⟩,
   ⟨some 37, .mov (.t 36), some (33, false)⟩,
   ⟨some 38, .mov (.t 6), some (37, true)⟩,
   ⟨some 39, .bin .eql false (.t 38) (.c (nv 1)), some (37, true)⟩,
   ⟨some 40, .pick (.t 37) (.t 39) (.c (bv false)), some (33, false)⟩,
   ⟨some 41, .pick (.t 33) (.c (bv true)) (.t 40), none⟩]) (.cond (.t 41) (.region false [⟨some 6, .mov (.c (nv 1)), none⟩]) (.region false [⟨some 6, .mov (.c (nv 0)), none⟩]))) (.region false [⟨some 42, .mov (.t 5), none⟩,
   ⟨some 43, .mov (.t 7), none⟩,
   ⟨some 44, .mov (.t 10), none⟩,
   ⟨some 45, .ixa 1 (.t 42) (.t 43), none⟩,
   ⟨none, .store 1 (.t 45) (.t 44), none⟩])))))) (.region false [⟨some 46, .bin .add false (.t 16) (.c (iv 1)), none⟩,
   ⟨some 16, .mov (.t 46), none⟩]))))))) (.seq (.region false [⟨some 47, .mov (.t 5), none⟩,
   ⟨some 48, .call F.nat_Norm [.t 47], none⟩,
   ⟨some 4, .mov (.t 48), none⟩]) .ret))))
def R.dyadic_minus : List VRes := [.tmp 4]
theorem K.dyadic_minus : resCode Tryz.prog Tryz.f165.ntmps (Tryz.f165.body.getD .skip) = C.dyadic_minus := by kernel_rfl
theorem Q.dyadic_minus : resResults Tryz.prog Tryz.f165.results.toList = some R.dyadic_minus := by kernel_rfl
theorem E.dyadic_minus : Tryz.prog.funcs[F.dyadic_minus]? = some Tryz.f165 := Tryz.func165
theorem B.dyadic_minus : Tryz.f165.body = some (Tryz.f165.body.getD .skip) := by kernel_rfl
theorem N.dyadic_minus : Tryz.f165.ntmps = 49 := Tryz.ntmps165

def C.dyadic_plus : VC :=
  .seq (.region false [⟨some 4, .mov (.c nil1), none⟩]) (.seq (.region false [⟨some 12, .mov (.t 0), none⟩,
   ⟨some 13, .len (.t 12), none⟩,
   ⟨some 14, .mov (.t 1), none⟩,
   ⟨some 15, .len (.t 14), none⟩,
   ⟨some 16, .mm true (.t 13) (.t 15), none⟩,
   ⟨some 17, .bin .add false (.t 16) (.c (iv 1)), none⟩,
   ⟨some 18, .mk [.int .u64 0] 8 (.t 17) (.t 17), none⟩,
   ⟨some 5, .mov (.t 18), none⟩]) (.seq (.region false [⟨some 6, .mov (.c (nv 0)), none⟩]) (.seq (.seq (.region false [⟨some 19, .mov (.t 5), none⟩,
   ⟨some 20, .len (.t 19), none⟩,
   ⟨some 21, .mov (.c (iv 0)), none⟩]) (.block 0 (.loop (.seq (.region false [⟨some 22, .bin .lss false (.t 21) (.t 20), none⟩]) (.seq (.cond (.t 22) .skip (.exit 0)) (.seq (.block 1 (.seq (.region false [⟨some 23, .mov (.t 21), none⟩,
   ⟨some 7, .mov (.t 23), none⟩]) (.seq (.region false [⟨some 24, .mov (.t 0), none⟩,
   ⟨some 25, .mov (.t 7), none⟩,
   ⟨some 26, .call F.dyadic_limb [.t 24, .t 25], none⟩,
   ⟨some 27, .mov (.t 1), none⟩,
   ⟨some 28, .mov (.t 7), none⟩,
   ⟨some 29, .call F.dyadic_limb [.t 27, .t 28], none⟩,
   ⟨some 8, .mov (.t 26), none⟩,
   ⟨some 9, .mov (.t 29), none⟩]) (.seq (.region false [⟨some 30, .mov (.t 8), none⟩,
   ⟨some 31, .mov (.t 9), none⟩,
   ⟨some 32, .bin .add false (.t 30) (.t 31), none⟩,
   ⟨some 10, .mov (.t 32), none⟩]) (.seq (.region false [⟨some 33, .mov (.t 10), none⟩,
   ⟨some 34, .mov (.t 6), none⟩,
   ⟨some 35, .bin .add false (.t 33) (.t 34), none⟩,
   ⟨some 11, .mov (.t 35), none⟩]) (.seq (.region false [⟨some 6, .mov (.c (nv 0)), none⟩]) (.seq (.seq (.region false [⟨some 36, .mov (.t 10), none⟩,
   ⟨some 37, .mov (.t 8), none⟩,
   ⟨some 38, .bin .lss false (.t 36) (.t 37), none⟩,
   ⟨some 39, .mov (.t 38), none⟩,
   ⟨some 40, .mov (.t 11), some (39, false)⟩,
   ⟨some 41, .mov (.t 10), some (39, false)⟩,
   ⟨some 42, .bin .lss false (.t 40) (.t 41), some (39, false)⟩,
   ⟨some 43, .pick (.t 39) (.c (bv true)) (.t 42), none⟩]) (.cond (.t 43) (.region false [⟨some 6, .mov (.c (nv 1)), none⟩]) .skip)) (.region false [⟨some 44, .mov (.t 5), none⟩,
   ⟨some 45, .mov (.t 7), none⟩,
   ⟨some 46, .mov (.t 11), none⟩,
   ⟨some 47, .ixa 1 (.t 44) (.t 45), none⟩,
   ⟨none, .store 1 (.t 47) (.t 46), none⟩])))))))) (.region false [⟨some 48, .bin .add false (.t 21) (.c (iv 1)), none⟩,
   ⟨some 21, .mov (.t 48), none⟩]))))))) (.seq (.region false [⟨some 49, .mov (.t 5), none⟩,
   ⟨some 50, .call F.nat_Norm [.t 49], none⟩,
   ⟨some 4, .mov (.t 50), none⟩]) .ret))))
def R.dyadic_plus : List VRes := [.tmp 4]
theorem K.dyadic_plus : resCode Tryz.prog Tryz.f166.ntmps (Tryz.f166.body.getD .skip) = C.dyadic_plus := by kernel_rfl
theorem Q.dyadic_plus : resResults Tryz.prog Tryz.f166.results.toList = some R.dyadic_plus := by kernel_rfl
theorem E.dyadic_plus : Tryz.prog.funcs[F.dyadic_plus]? = some Tryz.f166 := Tryz.func166
theorem B.dyadic_plus : Tryz.f166.body = some (Tryz.f166.body.getD .skip) := by kernel_rfl
theorem N.dyadic_plus : Tryz.f166.ntmps = 51 := Tryz.ntmps166

def C.whole_norm : VC :=
  .seq (.region false [⟨some 1, .box (.t 0), none⟩,
   ⟨some 2, .alloc [.bool false, .slice none 0 0], none⟩]) (.seq (.region false [⟨some 4, .fa 1 (.t 1), none⟩,
   ⟨some 5, .load none (.t 4), none⟩,
   ⟨some 6, .call F.nat_Norm [.t 5], none⟩,
   ⟨some 3, .mov (.t 6), none⟩]) (.seq (.region false [⟨some 7, .fa 0 (.t 1), none⟩,
   ⟨some 8, .load none (.t 7), none⟩,
   ⟨some 9, .mov (.t 8), none⟩,
   ⟨some 10, .mov (.t 3), some (9, true)⟩,
   ⟨some 11, .len (.t 10), some (9, true)⟩,
   ⟨some 12, .bin .gtr false (.t 11) (.c (iv 0)), some (9, true)⟩,
   ⟨some 13, .pick (.t 9) (.t 12) (.c (bv false)), none⟩,
   ⟨some 14, .mov (.t 3), none⟩,
   ⟨some 15, .build [.bool false, .slice none 0 0] [(0, (1, .t 13)), (1, (1, .t 14))], none⟩,
   ⟨none, .store 2 (.t 2) (.t 15), none⟩]) .ret))
def R.whole_norm : List VRes := [.cell 2 (some 2)]
theorem K.whole_norm : resCode Tryz.prog Tryz.f167.ntmps (Tryz.f167.body.getD .skip) = C.whole_norm := by kernel_rfl
theorem Q.whole_norm : resResults Tryz.prog Tryz.f167.results.toList = some R.whole_norm := by kernel_rfl
theorem E.whole_norm : Tryz.prog.funcs[F.whole_norm]? = some Tryz.f167 := Tryz.func167
theorem B.whole_norm : Tryz.f167.body = some (Tryz.f167.body.getD .skip) := by kernel_rfl
theorem N.whole_norm : Tryz.f167.ntmps = 16 := Tryz.ntmps167

def C.nat_Add : VC :=
  .seq (.region false [⟨some 4, .mov (.c nil1), none⟩,
   ⟨some 5, .mov (.c (iv 0)), none⟩]) (.seq (.region false [⟨some 10, .mov (.t 0), none⟩,
   ⟨some 11, .call F.nat_trim [.t 10], none⟩,
   ⟨some 12, .mov (.t 1), none⟩,
   ⟨some 13, .call F.nat_trim [.t 12], none⟩,
   ⟨some 0, .mov (.t 11), none⟩,
   ⟨some 1, .mov (.t 13), none⟩]) (.seq (.seq (.region false [⟨some 14, .mov (.t 0), none⟩,
   ⟨some 15, .len (.t 14), none⟩,
   ⟨some 16, .mov (.t 1), none⟩,
   ⟨some 17, .len (.t 16), none⟩,
   ⟨some 18, .bin .lss false (.t 15) (.t 17), none⟩]) (.cond (.t 18) (.region false [⟨some 19, .mov (.t 1), none⟩,
   ⟨some 20, .mov (.t 0), none⟩,
   ⟨some 0, .mov (.t 19), none⟩,
   ⟨some 1, .mov (.t 20), none⟩]) .skip)) (.seq (.region false [⟨some 21, .mov (.t 0), none⟩,
   ⟨some 22, .len (.t 21), none⟩,
   ⟨some 23, .bin .add false (.t 22) (.c (iv 1)), none⟩,
   ⟨some 24, .mk [.int .u64 0] 8 (.t 23) (.t 23), none⟩,
   ⟨some 6, .mov (.t 24), none⟩]) (.seq (.region false [⟨some 7, .mov (.c (nv 0)), none⟩]) (.seq (.seq (.region false [⟨some 25, .mov (.t 0), none⟩,
   ⟨some 26, .len (.t 25), none⟩,
   ⟨some 27, .mov (.c (iv 0)), none⟩]) (.block 0 (.loop (.seq (.region false [⟨some 28, .bin .lss false (.t 27) (.t 26), none⟩]) (.seq (.cond (.t 28) .skip (.exit 0)) (.seq (.block 1 (.seq (.region false [⟨some 29, .mov (.t 27), none⟩,
   ⟨some 8, .mov (.t 29), none⟩]) (.seq (.region false [⟨some 9, .mov (.c (nv 0)), none⟩]) (.seq (.seq (.region false [⟨some 30, .mov (.t 8), none⟩,
   ⟨some 31, .mov (.t 1), none⟩,
   ⟨some 32, .len (.t 31), none⟩,
   ⟨some 33, .bin .lss false (.t 30) (.t 32), none⟩]) (.cond (.t 33) (.region false [⟨some 34, .mov (.t 1), none⟩,
   ⟨some 35, .mov (.t 8), none⟩,
   ⟨some 36, .ixa 1 (.t 34) (.t 35), none⟩,
   ⟨some 37, .load none (.t 36), none⟩,
   ⟨some 9, .mov (.t 37), none⟩]) .skip)) (.region false [⟨some 39, .mov (.t 6), none⟩,
   ⟨some 40, .mov (.t 8), none⟩,
   ⟨some 41, .mov (.t 0), none⟩,
   ⟨some 42, .mov (.t 8), none⟩,
   ⟨some 43, .ixa 1 (.t 41) (.t 42), none⟩,
   ⟨some 44, .load none (.t 43), none⟩,
   ⟨some 45, .mov (.t 9), none⟩,
   ⟨some 46, .mov (.t 7), none⟩,
   ⟨some 47, .ext64 false (.t 44) (.t 45) (.t 46), none⟩,
   ⟨some 38, .mov (.t 47), none⟩,
   ⟨some 48, .ext (.t 38) 0, none⟩,
   ⟨some 49, .ext (.t 38) 1, none⟩,
   ⟨some 50, .ixa 1 (.t 39) (.t 40), none⟩,
   ⟨none, .store 1 (.t 50) (.t 48), none⟩,
   ⟨some 7, .mov (.t 49), none⟩]))))) (.region false [⟨some 51, .bin .add false (.t 27) (.c (iv 1)), none⟩,
   ⟨some 27, .mov (.t 51), none⟩]))))))) (.seq (.region false [⟨some 52, .mov (.t 6), none⟩,
   ⟨some 53, .mov (.t 0), none⟩,
   ⟨some 54, .len (.t 53), none⟩,
   ⟨some 55, .mov (.t 7), none⟩,
   ⟨some 56, .ixa 1 (.t 52) (.t 54), none⟩,
   ⟨none, .store 1 (.t 56) (.t 55), none⟩]) (.seq (.region false [⟨some 57, .mov (.t 6), none⟩,
   ⟨some 58, .call F.nat_told [.t 57], none⟩,
   ⟨some 59, .ext (.t 58) 0, none⟩,
   ⟨some 60, .ext (.t 58) 1, none⟩,
   ⟨some 4, .mov (.t 59), none⟩,
   ⟨some 5, .mov (.t 60), none⟩]) .ret)))))))
def R.nat_Add : List VRes := [.tmp 4, .tmp 5]
theorem K.nat_Add : resCode Tryz.prog Tryz.f168.ntmps (Tryz.f168.body.getD .skip) = C.nat_Add := by kernel_rfl
theorem Q.nat_Add : resResults Tryz.prog Tryz.f168.results.toList = some R.nat_Add := by kernel_rfl
theorem E.nat_Add : Tryz.prog.funcs[F.nat_Add]? = some Tryz.f168 := Tryz.func168
theorem B.nat_Add : Tryz.f168.body = some (Tryz.f168.body.getD .skip) := by kernel_rfl
theorem N.nat_Add : Tryz.f168.ntmps = 61 := Tryz.ntmps168

def C.nat_Sub : VC :=
  .seq (.region false [⟨some 4, .mov (.c nil1), none⟩,
   ⟨some 5, .mov (.c (iv 0)), none⟩]) (.seq (.seq (.region false [⟨some 10, .mov (.t 0), none⟩,
   ⟨some 11, .mov (.t 1), none⟩,
   ⟨some 12, .call F.nat_Compare [.t 10, .t 11], none⟩,
   ⟨some 13, .bin .lss false (.t 12) (.c (iv 0)), none⟩]) (.cond (.t 13) (.seq (.region false [⟨some 4, .mov (.c nil1), none⟩,
   ⟨some 5, .mov (.c (iv 10)), none⟩]) .ret) .skip)) (.seq (.region false [⟨some 14, .mov (.t 0), none⟩,
   ⟨some 15, .call F.nat_trim [.t 14], none⟩,
   ⟨some 16, .mov (.t 1), none⟩,
   ⟨some 17, .call F.nat_trim [.t 16], none⟩,
   ⟨some 0, .mov (.t 15), none⟩,
   ⟨some 1, .mov (.t 17), none⟩]) (.seq (.region false [⟨some 18, .mov (.t 0), none⟩,
   ⟨some 19, .len (.t 18), none⟩,
   ⟨some 20, .mk [.int .u64 0] 8 (.t 19) (.t 19), none⟩,
   ⟨some 6, .mov (.t 20), none⟩]) (.seq (.region false [⟨some 7, .mov (.c (nv 0)), none⟩]) (.seq (.seq (.region false [⟨some 21, .mov (.t 0), none⟩,
   ⟨some 22, .len (.t 21), none⟩,
   ⟨some 23, .mov (.c (iv 0)), none⟩]) (.block 0 (.loop (.seq (.region false [⟨some 24, .bin .lss false (.t 23) (.t 22), none⟩]) (.seq (.cond (.t 24) .skip (.exit 0)) (.seq (.block 1 (.seq (.region false [⟨some 25, .mov (.t 23), none⟩,
   ⟨some 8, .mov (.t 25), none⟩]) (.seq (.region false [⟨some 9, .mov (.c (nv 0)), none⟩]) (.seq (.seq (.region false [⟨some 26, .mov (.t 8), none⟩,
   ⟨some 27, .mov (.t 1), none⟩,
   ⟨some 28, .len (.t 27), none⟩,
   ⟨some 29, .bin .lss false (.t 26) (.t 28), none⟩]) (.cond (.t 29) (.region false [⟨some 30, .mov (.t 1), none⟩,
   ⟨some 31, .mov (.t 8), none⟩,
   ⟨some 32, .ixa 1 (.t 30) (.t 31), none⟩,
   ⟨some 33, .load none (.t 32), none⟩,
   ⟨some 9, .mov (.t 33), none⟩]) .skip)) (.region false [⟨some 35, .mov (.t 6), none⟩,
   ⟨some 36, .mov (.t 8), none⟩,
   ⟨some 37, .mov (.t 0), none⟩,
   ⟨some 38, .mov (.t 8), none⟩,
   ⟨some 39, .ixa 1 (.t 37) (.t 38), none⟩,
   ⟨some 40, .load none (.t 39), none⟩,
   ⟨some 41, .mov (.t 9), none⟩,
   ⟨some 42, .mov (.t 7), none⟩,
   ⟨some 43, .ext64 true (.t 40) (.t 41) (.t 42), none⟩,
   ⟨some 34, .mov (.t 43), none⟩,
   ⟨some 44, .ext (.t 34) 0, none⟩,
   ⟨some 45, .ext (.t 34) 1, none⟩,
   ⟨some 46, .ixa 1 (.t 35) (.t 36), none⟩,
   ⟨none, .store 1 (.t 46) (.t 44), none⟩,
   ⟨some 7, .mov (.t 45), none⟩]))))) (.region false [⟨some 47, .bin .add false (.t 23) (.c (iv 1)), none⟩,
   ⟨some 23, .mov (.t 47), none⟩]))))))) (.seq (.region false [⟨some 48, .mov (.t 6), none⟩,
   ⟨some 49, .call F.nat_told [.t 48], none⟩,
   ⟨some 50, .ext (.t 49) 0, none⟩,
   ⟨some 51, .ext (.t 49) 1, none⟩,
   ⟨some 4, .mov (.t 50), none⟩,
   ⟨some 5, .mov (.t 51), none⟩]) .ret))))))
def R.nat_Sub : List VRes := [.tmp 4, .tmp 5]
theorem K.nat_Sub : resCode Tryz.prog Tryz.f169.ntmps (Tryz.f169.body.getD .skip) = C.nat_Sub := by kernel_rfl
theorem Q.nat_Sub : resResults Tryz.prog Tryz.f169.results.toList = some R.nat_Sub := by kernel_rfl
theorem E.nat_Sub : Tryz.prog.funcs[F.nat_Sub]? = some Tryz.f169 := Tryz.func169
theorem B.nat_Sub : Tryz.f169.body = some (Tryz.f169.body.getD .skip) := by kernel_rfl
theorem N.nat_Sub : Tryz.f169.ntmps = 52 := Tryz.ntmps169

def C.nat_Tail : VC :=
  .seq (.region false [⟨some 2, .mov (.c (iv 0)), none⟩]) (.seq (.seq (.region false [⟨some 5, .mov (.t 0), none⟩,
   ⟨some 6, .len (.t 5), none⟩,
   ⟨some 7, .mov (.c (iv 0)), none⟩]) (.block 0 (.loop (.seq (.region false [⟨some 8, .bin .lss false (.t 7) (.t 6), none⟩]) (.seq (.cond (.t 8) .skip (.exit 0)) (.seq (.block 1 (.seq (.region false [⟨some 9, .mov (.t 7), none⟩,
   ⟨some 10, .ixa 1 (.t 5) (.t 7), none⟩,
   ⟨some 11, .load none (.t 10), none⟩,
   ⟨some 3, .mov (.t 9), none⟩,
   ⟨some 4, .mov (.t 11), none⟩]) (.seq (.region false [⟨some 12, .mov (.t 4), none⟩,
   ⟨some 13, .bin .neq false (.t 12) (.c (nv 0)), none⟩]) (.cond (.t 13) (.seq (.region false [⟨some 14, .mov (.t 3), none⟩,
   ⟨some 15, .bin .mul false (.c (iv 64)) (.t 14), none⟩,
   ⟨some 16, .mov (.t 4), none⟩,
   ⟨some 17, .call F.bits_TrailingZeros64 [.t 16], none⟩,
   ⟨some 18, .bin .add false (.t 15) (.t 17), none⟩,
   ⟨some 2, .mov (.t 18), none⟩]) .ret) .skip)))) (.region false [⟨some 19, .bin .add false (.t 7) (.c (iv 1)), none⟩,
   ⟨some 7, .mov (.t 19), none⟩]))))))) (.seq (.region false [⟨some 2, .mov (.c (iv 0)), none⟩]) .ret))
def R.nat_Tail : List VRes := [.tmp 2]
theorem K.nat_Tail : resCode Tryz.prog Tryz.f170.ntmps (Tryz.f170.body.getD .skip) = C.nat_Tail := by kernel_rfl
theorem Q.nat_Tail : resResults Tryz.prog Tryz.f170.results.toList = some R.nat_Tail := by kernel_rfl
theorem E.nat_Tail : Tryz.prog.funcs[F.nat_Tail]? = some Tryz.f170 := Tryz.func170
theorem B.nat_Tail : Tryz.f170.body = some (Tryz.f170.body.getD .skip) := by kernel_rfl
theorem N.nat_Tail : Tryz.f170.ntmps = 20 := Tryz.ntmps170

def C.dyadic_shifted : VC :=
  .seq (.region false [⟨some 4, .mov (.c nil1), none⟩]) (.seq (.region false [⟨some 12, .mov (.t 0), none⟩,
   ⟨some 13, .mov (.t 1), none⟩,
   ⟨some 14, .call F.nat_Right [.t 12, .t 13], none⟩,
   ⟨some 11, .mov (.t 14), none⟩,
   ⟨some 15, .ext (.t 11) 0, none⟩,
   ⟨some 16, .ext (.t 11) 1, none⟩,
   ⟨some 5, .mov (.t 15), none⟩,
   ⟨some 6, .mov (.t 16), none⟩]) (.seq (.seq (.region false [⟨some 17, .mov (.t 6), none⟩,
   ⟨some 18, .bin .eql false (.t 17) (.c (iv 0)), none⟩]) (.cond (.t 18) (.seq (.region false [⟨some 19, .mov (.t 5), none⟩,
   ⟨some 4, .mov (.t 19), none⟩]) .ret) .skip)) (.seq (.region false [⟨some 20, .mov (.t 1), none⟩,
   ⟨some 21, .bin .quo false (.t 20) (.c (iv 64)), none⟩,
   ⟨some 22, .mov (.t 1), none⟩,
   ⟨some 23, .bin .rem false (.t 22) (.c (iv 64)), none⟩,
   ⟨some 24, .conv .u64 (.t 23), none⟩,
   ⟨some 7, .mov (.t 21), none⟩,
   ⟨some 8, .mov (.t 24), none⟩]) (.seq (.region false [⟨some 25, .mov (.t 0), none⟩,
   ⟨some 26, .len (.t 25), none⟩,
   ⟨some 27, .mov (.t 7), none⟩,
   ⟨some 28, .bin .sub false (.t 26) (.t 27), none⟩,
   ⟨some 29, .mk [.int .u64 0] 8 (.t 28) (.t 28), none⟩,
   ⟨some 9, .mov (.t 29), none⟩]) (.seq (.seq (.region false [⟨some 30, .mov (.t 9), none⟩,
   ⟨some 31, .len (.t 30), none⟩,
   ⟨some 32, .mov (.c (iv 0)), none⟩]) (.block 0 (.loop (.seq (.region false [⟨some 33, .bin .lss false (.t 32) (.t 31), none⟩]) (.seq (.cond (.t 33) .skip (.exit 0)) (.seq (.block 1 (.seq (.region false [⟨some 34, .mov (.t 32), none⟩,
   ⟨some 10, .mov (.t 34), none⟩]) (.seq (.region false [⟨some 35, .mov (.t 9), none⟩,
   ⟨some 36, .mov (.t 10), none⟩,
   ⟨some 37, .mov (.t 0), none⟩,
   ⟨some 38, .mov (.t 10), none⟩,
   ⟨some 39, .mov (.t 7), none⟩,
   ⟨some 40, .bin .add false (.t 38) (.t 39), none⟩,
   ⟨some 41, .ixa 1 (.t 37) (.t 40), none⟩,
   ⟨some 42, .load none (.t 41), none⟩,
   ⟨some 43, .mov (.t 8), none⟩,
   ⟨some 44, .bin .shr false (.t 42) (.t 43), none⟩,
   ⟨some 45, .ixa 1 (.t 35) (.t 36), none⟩,
   ⟨none, .store 1 (.t 45) (.t 44), none⟩]) (.seq (.region false [⟨some 46, .mov (.t 8), none⟩,
   ⟨some 47, .bin .gtr false (.t 46) (.c (nv 0)), none⟩,
   ⟨some 48, .mov (.t 47), none⟩,
   ⟨some 49, .mov (.t 10), some (48, true)⟩,
   ⟨some 50, .mov (.t 7), some (48, true)⟩,
   ⟨some 51, .bin .add false (.t 49) (.t 50), some (48, true)⟩,
   ⟨some 52, .bin .add false (.t 51) (.c (iv 1)), some (48, true)⟩,
   ⟨some 53, .mov (.t 0), some (48, true)⟩,
   ⟨some 54, .len (.t 53), some (48, true)⟩,
   ⟨some 55, .bin .lss false (.t 52) (.t 54), some (48, true)⟩,
   ⟨some 56, .pick (.t 48) (.t 55) (.c (bv false)), none⟩]) (.cond (.t 56) (.region true [⟨some 57, .mov (.t 9), none⟩,
   ⟨some 58, .mov (.t 10), none⟩,
   ⟨some 59, .ixa 1 (.t 57) (.t 58), none⟩,
   ⟨some 60, .load none (.t 59), none⟩,
   ⟨some 61, .mov (.t 0), none⟩,
   ⟨some 62, .mov (.t 10), none⟩,
   ⟨some 63, .mov (.t 7), none⟩,
   ⟨some 64, .bin .add false (.t 62) (.t 63), none⟩,
   ⟨some 65, .bin .add false (.t 64) (.c (iv 1)), none⟩,
   ⟨some 66, .ixa 1 (.t 61) (.t 65), none⟩,
   ⟨some 67, .load none (.t 66), none⟩,
   ⟨some 68, .mov (.t 8), none⟩,
   ⟨some 69, .bin .sub false (.c (nv 64)) (.t 68), none⟩,
   ⟨some 70, .bin .shl false (.t 67) (.t 69), none⟩,
   ⟨some 71, .bin .or false (.t 60) (.t 70), none⟩,
   ⟨some 72, .ixa 1 (.t 57) (.t 58), none⟩,
   ⟨none, .store 1 (.t 72) (.t 71), none⟩]) .skip))))) (.region false [⟨some 73, .bin .add false (.t 32) (.c (iv 1)), none⟩,
   ⟨some 32, .mov (.t 73), none⟩]))))))) (.seq (.region false [⟨some 74, .mov (.t 9), none⟩,
   ⟨some 75, .call F.nat_Norm [.t 74], none⟩,
   ⟨some 4, .mov (.t 75), none⟩]) .ret))))))
def R.dyadic_shifted : List VRes := [.tmp 4]
theorem K.dyadic_shifted : resCode Tryz.prog Tryz.f171.ntmps (Tryz.f171.body.getD .skip) = C.dyadic_shifted := by kernel_rfl
theorem Q.dyadic_shifted : resResults Tryz.prog Tryz.f171.results.toList = some R.dyadic_shifted := by kernel_rfl
theorem E.dyadic_shifted : Tryz.prog.funcs[F.dyadic_shifted]? = some Tryz.f171 := Tryz.func171
theorem B.dyadic_shifted : Tryz.f171.body = some (Tryz.f171.body.getD .skip) := by kernel_rfl
theorem N.dyadic_shifted : Tryz.f171.ntmps = 76 := Tryz.ntmps171

def C.nat_Bit : VC :=
  .seq (.region false [⟨some 4, .mov (.c (iv 0)), none⟩]) (.seq (.seq (.region false [⟨some 5, .mov (.t 1), none⟩,
   ⟨some 6, .bin .lss false (.t 5) (.c (iv 0)), none⟩,
   ⟨some 7, .mov (.t 6), none⟩,
   ⟨some 8, .mov (.t 1), some (7, false)⟩,
   ⟨some 9, .bin .quo false (.t 8) (.c (iv 64)), some (7, false)⟩,
   ⟨some 10, .mov (.t 0), some (7, false)⟩,
   ⟨some 11, .len (.t 10), some (7, false)⟩,
   ⟨some 12, .bin .geq false (.t 9) (.t 11), some (7, false)⟩,
   ⟨some 13, .pick (.t 7) (.c (bv true)) (.t 12), none⟩]) (.cond (.t 13) (.seq (.region false [⟨some 4, .mov (.c (iv 0)), none⟩]) .ret) .skip)) (.seq (.region false [⟨some 14, .mov (.t 0), none⟩,
   ⟨some 15, .mov (.t 1), none⟩,
   ⟨some 16, .bin .quo false (.t 15) (.c (iv 64)), none⟩,
   ⟨some 17, .ixa 1 (.t 14) (.t 16), none⟩,
   ⟨some 18, .load none (.t 17), none⟩,
   ⟨some 19, .mov (.t 1), none⟩,
   ⟨some 20, .bin .rem false (.t 19) (.c (iv 64)), none⟩,
   ⟨some 21, .conv .u64 (.t 20), none⟩,
   ⟨some 22, .bin .shr false (.t 18) (.t 21), none⟩,
   ⟨some 23, .bin .and false (.t 22) (.c (nv 1)), none⟩,
   ⟨some 24, .conv .i64 (.t 23), none⟩,
   ⟨some 4, .mov (.t 24), none⟩]) .ret))
def R.nat_Bit : List VRes := [.tmp 4]
theorem K.nat_Bit : resCode Tryz.prog Tryz.f172.ntmps (Tryz.f172.body.getD .skip) = C.nat_Bit := by kernel_rfl
theorem Q.nat_Bit : resResults Tryz.prog Tryz.f172.results.toList = some R.nat_Bit := by kernel_rfl
theorem E.nat_Bit : Tryz.prog.funcs[F.nat_Bit]? = some Tryz.f172 := Tryz.func172
theorem B.nat_Bit : Tryz.f172.body = some (Tryz.f172.body.getD .skip) := by kernel_rfl
theorem N.nat_Bit : Tryz.f172.ntmps = 25 := Tryz.ntmps172

def C.nat_From : VC :=
  .seq (.region false [⟨some 2, .mov (.c nil1), none⟩]) (.seq (.seq (.region false [⟨some 3, .mov (.t 0), none⟩,
   ⟨some 4, .bin .eql false (.t 3) (.c (nv 0)), none⟩]) (.cond (.t 4) (.seq (.region false [⟨some 2, .mov (.c nil1), none⟩]) .ret) .skip)) (.seq (.region false [⟨some 5, .mov (.t 0), none⟩,
   ⟨some 6, .bsl true 1 1 [.int .u64 0] [(0, (1, .t 5))], none⟩,
   ⟨some 2, .mov (.t 6), none⟩]) .ret))
def R.nat_From : List VRes := [.tmp 2]
theorem K.nat_From : resCode Tryz.prog Tryz.f173.ntmps (Tryz.f173.body.getD .skip) = C.nat_From := by kernel_rfl
theorem Q.nat_From : resResults Tryz.prog Tryz.f173.results.toList = some R.nat_From := by kernel_rfl
theorem E.nat_From : Tryz.prog.funcs[F.nat_From]? = some Tryz.f173 := Tryz.func173
theorem B.nat_From : Tryz.f173.body = some (Tryz.f173.body.getD .skip) := by kernel_rfl
theorem N.nat_From : Tryz.f173.ntmps = 7 := Tryz.ntmps173

def C.mul_product : VC :=
  .seq (.region false [⟨some 6, .mov (.c nil1), none⟩,
   ⟨some 7, .mov (.c (iv 0)), none⟩]) (.seq (.region false [⟨some 8, .mov (.t 0), none⟩,
   ⟨some 9, .call F.nat_Norm [.t 8], none⟩,
   ⟨some 10, .mov (.t 1), none⟩,
   ⟨some 11, .call F.nat_Norm [.t 10], none⟩,
   ⟨some 0, .mov (.t 9), none⟩,
   ⟨some 1, .mov (.t 11), none⟩]) (.seq (.seq (.region false [⟨some 12, .mov (.t 0), none⟩,
   ⟨some 13, .mov (.t 1), none⟩,
   ⟨some 14, .call F.mul_great [.t 12, .t 13], none⟩]) (.cond (.t 14) (.seq (.region false [⟨some 6, .mov (.c nil1), none⟩,
   ⟨some 7, .mov (.c (iv 3)), none⟩]) .ret) .skip)) (.seq (.region false [⟨some 15, .mov (.t 2), none⟩,
   ⟨some 16, .mov (.t 0), none⟩,
   ⟨some 17, .mov (.t 1), none⟩,
   ⟨some 18, .callv (.t 15) [.t 16, .t 17], none⟩,
   ⟨some 19, .call F.mul_fits [.t 18], none⟩,
   ⟨some 20, .ext (.t 19) 0, none⟩,
   ⟨some 21, .ext (.t 19) 1, none⟩,
   ⟨some 6, .mov (.t 20), none⟩,
   ⟨some 7, .mov (.t 21), none⟩]) .ret)))
def R.mul_product : List VRes := [.tmp 6, .tmp 7]
theorem K.mul_product : resCode Tryz.prog Tryz.f174.ntmps (Tryz.f174.body.getD .skip) = C.mul_product := by kernel_rfl
theorem Q.mul_product : resResults Tryz.prog Tryz.f174.results.toList = some R.mul_product := by kernel_rfl
theorem E.mul_product : Tryz.prog.funcs[F.mul_product]? = some Tryz.f174 := Tryz.func174
theorem B.mul_product : Tryz.f174.body = some (Tryz.f174.body.getD .skip) := by kernel_rfl
theorem N.mul_product : Tryz.f174.ntmps = 22 := Tryz.ntmps174

def C.mul_Mul_1 : VC :=
  .seq (.region false [⟨some 4, .mov (.c nil1), none⟩]) (.seq (.region false [⟨some 5, .mov (.t 0), none⟩,
   ⟨some 6, .mov (.t 1), none⟩,
   ⟨some 7, .call F.mul_halved [.t 5, .t 6, .c (iv 40)], none⟩,
   ⟨some 4, .mov (.t 7), none⟩]) .ret)
def R.mul_Mul_1 : List VRes := [.tmp 4]
theorem K.mul_Mul_1 : resCode Tryz.prog Tryz.f175.ntmps (Tryz.f175.body.getD .skip) = C.mul_Mul_1 := by kernel_rfl
theorem Q.mul_Mul_1 : resResults Tryz.prog Tryz.f175.results.toList = some R.mul_Mul_1 := by kernel_rfl
theorem E.mul_Mul_1 : Tryz.prog.funcs[F.mul_Mul_1]? = some Tryz.f175 := Tryz.func175
theorem B.mul_Mul_1 : Tryz.f175.body = some (Tryz.f175.body.getD .skip) := by kernel_rfl
theorem N.mul_Mul_1 : Tryz.f175.ntmps = 8 := Tryz.ntmps175

def C.mul_halved : VC :=
  .seq (.region false [⟨some 6, .mov (.c nil1), none⟩]) (.seq (.seq (.region false [⟨some 17, .mov (.t 0), none⟩,
   ⟨some 18, .len (.t 17), none⟩,
   ⟨some 19, .mov (.t 1), none⟩,
   ⟨some 20, .len (.t 19), none⟩,
   ⟨some 21, .bin .lss false (.t 18) (.t 20), none⟩]) (.cond (.t 21) (.region false [⟨some 22, .mov (.t 1), none⟩,
   ⟨some 23, .mov (.t 0), none⟩,
   ⟨some 0, .mov (.t 22), none⟩,
   ⟨some 1, .mov (.t 23), none⟩]) .skip)) (.seq (.seq (.region false [⟨some 24, .mov (.t 1), none⟩,
   ⟨some 25, .len (.t 24), none⟩,
   ⟨some 26, .mov (.t 2), none⟩,
   ⟨some 27, .bin .lss false (.t 25) (.t 26), none⟩]) (.cond (.t 27) (.seq (.region false [⟨some 28, .mov (.t 0), none⟩,
   ⟨some 29, .mov (.t 1), none⟩,
   ⟨some 30, .call F.mul_school [.t 28, .t 29], none⟩,
   ⟨some 6, .mov (.t 30), none⟩]) .ret) .skip)) (.seq (.region false [⟨some 31, .mov (.t 0), none⟩,
   ⟨some 32, .len (.t 31), none⟩,
   ⟨some 33, .bin .add false (.t 32) (.c (iv 1)), none⟩,
   ⟨some 34, .bin .quo false (.t 33) (.c (iv 2)), none⟩,
   ⟨some 7, .mov (.t 34), none⟩]) (.seq (.seq (.region false [⟨some 35, .mov (.t 1), none⟩,
   ⟨some 36, .len (.t 35), none⟩,
   ⟨some 37, .mov (.t 7), none⟩,
   ⟨some 38, .bin .leq false (.t 36) (.t 37), none⟩]) (.cond (.t 38) (.seq (.region false [⟨some 39, .mov (.t 0), none⟩,
   ⟨some 40, .len (.t 39), none⟩,
   ⟨some 41, .mov (.t 1), none⟩,
   ⟨some 42, .len (.t 41), none⟩,
   ⟨some 43, .bin .add false (.t 40) (.t 42), none⟩,
   ⟨some 44, .bin .add false (.t 43) (.c (iv 1)), none⟩,
   ⟨some 45, .mk [.int .u64 0] 8 (.t 44) (.t 44), none⟩,
   ⟨some 8, .mov (.t 45), none⟩]) (.seq (.region false [⟨some 46, .mov (.t 8), none⟩,
   ⟨some 47, .mov (.t 0), none⟩,
   ⟨some 48, .mov (.t 7), none⟩,
   ⟨some 49, .call F.mul_part [.t 47, .c (iv 0), .t 48], none⟩,
   ⟨some 50, .mov (.t 1), none⟩,
   ⟨some 51, .mov (.t 2), none⟩,
   ⟨some 52, .call F.mul_halved [.t 49, .t 50, .t 51], none⟩,
   ⟨some 53, .call F.mul_addAt [.t 46, .t 52, .c (iv 0)], none⟩]) (.seq (.region false [⟨some 54, .mov (.t 8), none⟩,
   ⟨some 55, .mov (.t 0), none⟩,
   ⟨some 56, .mov (.t 7), none⟩,
   ⟨some 57, .mov (.t 0), none⟩,
   ⟨some 58, .len (.t 57), none⟩,
   ⟨some 59, .call F.mul_part [.t 55, .t 56, .t 58], none⟩,
   ⟨some 60, .mov (.t 1), none⟩,
   ⟨some 61, .mov (.t 2), none⟩,
   ⟨some 62, .call F.mul_halved [.t 59, .t 60, .t 61], none⟩,
   ⟨some 63, .mov (.t 7), none⟩,
   ⟨some 64, .call F.mul_addAt [.t 54, .t 62, .t 63], none⟩]) (.seq (.region false [⟨some 65, .mov (.t 8), none⟩,
   ⟨some 6, .mov (.t 65), none⟩]) .ret)))) .skip)) (.seq (.region false [⟨some 66, .mov (.t 0), none⟩,
   ⟨some 67, .mov (.t 7), none⟩,
   ⟨some 68, .call F.mul_part [.t 66, .c (iv 0), .t 67], none⟩,
   ⟨some 69, .mov (.t 0), none⟩,
   ⟨some 70, .mov (.t 7), none⟩,
   ⟨some 71, .mov (.t 0), none⟩,
   ⟨some 72, .len (.t 71), none⟩,
   ⟨some 73, .call F.mul_part [.t 69, .t 70, .t 72], none⟩,
   ⟨some 74, .mov (.t 1), none⟩,
   ⟨some 75, .mov (.t 7), none⟩,
   ⟨some 76, .call F.mul_part [.t 74, .c (iv 0), .t 75], none⟩,
   ⟨some 77, .mov (.t 1), none⟩,
   ⟨some 78, .mov (.t 7), none⟩,
   ⟨some 79, .mov (.t 1), none⟩,
   ⟨some 80, .len (.t 79), none⟩,
   ⟨some 81, .call F.mul_part [.t 77, .t 78, .t 80], none⟩,
   ⟨some 9, .mov (.t 68), none⟩,
   ⟨some 10, .mov (.t 73), none⟩,
   ⟨some 11, .mov (.t 76), none⟩,
   ⟨some 12, .mov (.t 81), none⟩]) (.seq (.region false [⟨some 82, .mov (.t 9), none⟩,
   ⟨some 83, .mov (.t 11), none⟩,
   ⟨some 84, .mov (.t 2), none⟩,
   ⟨some 85, .call F.mul_halved [.t 82, .t 83, .t 84], none⟩,
   ⟨some 86, .mov (.t 10), none⟩,
   ⟨some 87, .mov (.t 12), none⟩,
   ⟨some 88, .mov (.t 2), none⟩,
   ⟨some 89, .call F.mul_halved [.t 86, .t 87, .t 88], none⟩,
   ⟨some 13, .mov (.t 85), none⟩,
   ⟨some 14, .mov (.t 89), none⟩]) (.seq (.region false [⟨some 90, .mov (.t 9), none⟩,
   ⟨some 91, .mov (.t 10), none⟩,
   ⟨some 92, .call F.mul_sum [.t 90, .t 91], none⟩,
   ⟨some 93, .call F.nat_Norm [.t 92], none⟩,
   ⟨some 94, .mov (.t 11), none⟩,
   ⟨some 95, .mov (.t 12), none⟩,
   ⟨some 96, .call F.mul_sum [.t 94, .t 95], none⟩,
   ⟨some 97, .call F.nat_Norm [.t 96], none⟩,
   ⟨some 98, .mov (.t 2), none⟩,
   ⟨some 99, .call F.mul_halved [.t 93, .t 97, .t 98], none⟩,
   ⟨some 100, .mov (.t 13), none⟩,
   ⟨some 101, .call F.mul_less [.t 99, .t 100], none⟩,
   ⟨some 102, .mov (.t 14), none⟩,
   ⟨some 103, .call F.mul_less [.t 101, .t 102], none⟩,
   ⟨some 15, .mov (.t 103), none⟩]) (.seq (.region false [⟨some 104, .mov (.t 0), none⟩,
   ⟨some 105, .len (.t 104), none⟩,
   ⟨some 106, .mov (.t 1), none⟩,
   ⟨some 107, .len (.t 106), none⟩,
   ⟨some 108, .bin .add false (.t 105) (.t 107), none⟩,
   ⟨some 109, .bin .add false (.t 108) (.c (iv 1)), none⟩,
   ⟨some 110, .mk [.int .u64 0] 8 (.t 109) (.t 109), none⟩,
   ⟨some 16, .mov (.t 110), none⟩]) (.seq (.region false [⟨some 111, .mov (.t 16), none⟩,
   ⟨some 112, .mov (.t 13), none⟩,
   ⟨some 113, .call F.mul_addAt [.t 111, .t 112, .c (iv 0)], none⟩]) (.seq (.region false [⟨some 114, .mov (.t 16), none⟩,
   ⟨some 115, .mov (.t 15), none⟩,
   ⟨some 116, .mov (.t 7), none⟩,
   ⟨some 117, .call F.mul_addAt [.t 114, .t 115, .t 116], none⟩]) (.seq (.region false [⟨some 118, .mov (.t 16), none⟩,
   ⟨some 119, .mov (.t 14), none⟩,
   ⟨some 120, .mov (.t 7), none⟩,
   ⟨some 121, .bin .mul false (.c (iv 2)) (.t 120), none⟩,
   ⟨some 122, .call F.mul_addAt [.t 118, .t 119, .t 121], none⟩]) (.seq (.region false [⟨some 123, .mov (.t 16), none⟩,
   ⟨some 6, .mov (.t 123), none⟩]) .ret))))))))))))
def R.mul_halved : List VRes := [.tmp 6]
theorem K.mul_halved : resCode Tryz.prog Tryz.f176.ntmps (Tryz.f176.body.getD .skip) = C.mul_halved := by kernel_rfl
theorem Q.mul_halved : resResults Tryz.prog Tryz.f176.results.toList = some R.mul_halved := by kernel_rfl
theorem E.mul_halved : Tryz.prog.funcs[F.mul_halved]? = some Tryz.f176 := Tryz.func176
theorem B.mul_halved : Tryz.f176.body = some (Tryz.f176.body.getD .skip) := by kernel_rfl
theorem N.mul_halved : Tryz.f176.ntmps = 124 := Tryz.ntmps176

def C.dyadic_limb : VC :=
  .seq (.region false [⟨some 4, .mov (.c (nv 0)), none⟩]) (.seq (.seq (.region false [⟨some 5, .mov (.t 1), none⟩,
   ⟨some 6, .mov (.t 0), none⟩,
   ⟨some 7, .len (.t 6), none⟩,
   ⟨some 8, .bin .lss false (.t 5) (.t 7), none⟩]) (.cond (.t 8) (.seq (.region false [⟨some 9, .mov (.t 0), none⟩,
   ⟨some 10, .mov (.t 1), none⟩,
   ⟨some 11, .ixa 1 (.t 9) (.t 10), none⟩,
   ⟨some 12, .load none (.t 11), none⟩,
   ⟨some 4, .mov (.t 12), none⟩]) .ret) .skip)) (.seq (.region false [⟨some 4, .mov (.c (nv 0)), none⟩]) .ret))
def R.dyadic_limb : List VRes := [.tmp 4]
theorem K.dyadic_limb : resCode Tryz.prog Tryz.f178.ntmps (Tryz.f178.body.getD .skip) = C.dyadic_limb := by kernel_rfl
theorem Q.dyadic_limb : resResults Tryz.prog Tryz.f178.results.toList = some R.dyadic_limb := by kernel_rfl
theorem E.dyadic_limb : Tryz.prog.funcs[F.dyadic_limb]? = some Tryz.f178 := Tryz.func178
theorem B.dyadic_limb : Tryz.f178.body = some (Tryz.f178.body.getD .skip) := by kernel_rfl
theorem N.dyadic_limb : Tryz.f178.ntmps = 13 := Tryz.ntmps178

def C.nat_told : VC :=
  .seq (.region false [⟨some 2, .mov (.c nil1), none⟩,
   ⟨some 3, .mov (.c (iv 0)), none⟩]) (.seq (.region false [⟨some 4, .mov (.t 0), none⟩,
   ⟨some 5, .call F.nat_trim [.t 4], none⟩,
   ⟨some 0, .mov (.t 5), none⟩]) (.seq (.seq (.region false [⟨some 6, .mov (.t 0), none⟩,
   ⟨some 7, .call F.nat_Length [.t 6], none⟩,
   ⟨some 8, .bin .gtr false (.t 7) (.c (iv 67108864)), none⟩]) (.cond (.t 8) (.seq (.region false [⟨some 2, .mov (.c nil1), none⟩,
   ⟨some 3, .mov (.c (iv 3)), none⟩]) .ret) .skip)) (.seq (.region false [⟨some 9, .mov (.t 0), none⟩,
   ⟨some 2, .mov (.t 9), none⟩,
   ⟨some 3, .mov (.c (iv 0)), none⟩]) .ret)))
def R.nat_told : List VRes := [.tmp 2, .tmp 3]
theorem K.nat_told : resCode Tryz.prog Tryz.f180.ntmps (Tryz.f180.body.getD .skip) = C.nat_told := by kernel_rfl
theorem Q.nat_told : resResults Tryz.prog Tryz.f180.results.toList = some R.nat_told := by kernel_rfl
theorem E.nat_told : Tryz.prog.funcs[F.nat_told]? = some Tryz.f180 := Tryz.func180
theorem B.nat_told : Tryz.f180.body = some (Tryz.f180.body.getD .skip) := by kernel_rfl
theorem N.nat_told : Tryz.f180.ntmps = 10 := Tryz.ntmps180

def C.bits_TrailingZeros64 : VC :=
  .seq (.region false [⟨some 2, .mov (.c (iv 0)), none⟩]) (.seq (.seq (.region false [⟨some 3, .mov (.t 0), none⟩,
   ⟨some 4, .bin .eql false (.t 3) (.c (nv 0)), none⟩]) (.cond (.t 4) (.seq (.region false [⟨some 2, .mov (.c (iv 64)), none⟩]) .ret) .skip)) (.seq (.region false [⟨some 5, .mov (.t 0), none⟩,
   ⟨some 6, .mov (.t 0), none⟩,
   ⟨some 7, .un .neg (.t 6), none⟩,
   ⟨some 8, .bin .and false (.t 5) (.t 7), none⟩,
   ⟨some 9, .bin .mul false (.t 8) (.c (nv 285870213051353865)), none⟩,
   ⟨some 10, .bin .shr false (.t 9) (.c (nv 58)), none⟩,
   ⟨some 11, .axa 64 1 (.c (.gptr 0 0)) (.t 10), none⟩,
   ⟨some 12, .load none (.t 11), none⟩,
   ⟨some 13, .conv .i64 (.t 12), none⟩,
   ⟨some 2, .mov (.t 13), none⟩]) .ret))
def R.bits_TrailingZeros64 : List VRes := [.tmp 2]
theorem K.bits_TrailingZeros64 : resCode Tryz.prog Tryz.f182.ntmps (Tryz.f182.body.getD .skip) = C.bits_TrailingZeros64 := by kernel_rfl
theorem Q.bits_TrailingZeros64 : resResults Tryz.prog Tryz.f182.results.toList = some R.bits_TrailingZeros64 := by kernel_rfl
theorem E.bits_TrailingZeros64 : Tryz.prog.funcs[F.bits_TrailingZeros64]? = some Tryz.f182 := Tryz.func182
theorem B.bits_TrailingZeros64 : Tryz.f182.body = some (Tryz.f182.body.getD .skip) := by kernel_rfl
theorem N.bits_TrailingZeros64 : Tryz.f182.ntmps = 14 := Tryz.ntmps182

def C.nat_Right : VC :=
  .seq (.region false [⟨some 4, .mov (.c nil1), none⟩,
   ⟨some 5, .mov (.c (iv 0)), none⟩]) (.seq (.seq (.region false [⟨some 10, .mov (.t 1), none⟩,
   ⟨some 11, .bin .lss false (.t 10) (.c (iv 0)), none⟩,
   ⟨some 12, .mov (.t 11), none⟩,
   ⟨some 13, .mov (.t 1), some (12, false)⟩,
   ⟨some 14, .bin .gtr false (.t 13) (.c (iv 1099511627776)), some (12, false)⟩,
   ⟨some 15, .pick (.t 12) (.c (bv true)) (.t 14), none⟩]) (.cond (.t 15) (.seq (.region false [⟨some 4, .mov (.c nil1), none⟩,
   ⟨some 5, .mov (.c (iv 1)), none⟩]) .ret) .skip)) (.seq (.region false [⟨some 16, .mov (.t 0), none⟩,
   ⟨some 17, .call F.nat_trim [.t 16], none⟩,
   ⟨some 0, .mov (.t 17), none⟩]) (.seq (.region false [⟨some 18, .mov (.t 1), none⟩,
   ⟨some 19, .bin .quo false (.t 18) (.c (iv 64)), none⟩,
   ⟨some 20, .mov (.t 1), none⟩,
   ⟨some 21, .bin .rem false (.t 20) (.c (iv 64)), none⟩,
   ⟨some 22, .conv .u64 (.t 21), none⟩,
   ⟨some 6, .mov (.t 19), none⟩,
   ⟨some 7, .mov (.t 22), none⟩]) (.seq (.seq (.region false [⟨some 23, .mov (.t 6), none⟩,
   ⟨some 24, .mov (.t 0), none⟩,
   ⟨some 25, .len (.t 24), none⟩,
   ⟨some 26, .bin .geq false (.t 23) (.t 25), none⟩]) (.cond (.t 26) (.seq (.region false [⟨some 4, .mov (.c nil1), none⟩,
   ⟨some 5, .mov (.c (iv 0)), none⟩]) .ret) .skip)) (.seq (.region false [⟨some 27, .mov (.t 0), none⟩,
   ⟨some 28, .len (.t 27), none⟩,
   ⟨some 29, .mov (.t 6), none⟩,
   ⟨some 30, .bin .sub false (.t 28) (.t 29), none⟩,
   ⟨some 31, .mk [.int .u64 0] 8 (.t 30) (.t 30), none⟩,
   ⟨some 8, .mov (.t 31), none⟩]) (.seq (.seq (.region false [⟨some 32, .mov (.t 8), none⟩,
   ⟨some 33, .len (.t 32), none⟩,
   ⟨some 34, .mov (.c (iv 0)), none⟩]) (.block 0 (.loop (.seq (.region false [⟨some 35, .bin .lss false (.t 34) (.t 33), none⟩]) (.seq (.cond (.t 35) .skip (.exit 0)) (.seq (.block 1 (.seq (.region false [⟨some 36, .mov (.t 34), none⟩,
   ⟨some 9, .mov (.t 36), none⟩]) (.seq (.region false [⟨some 37, .mov (.t 8), none⟩,
   ⟨some 38, .mov (.t 9), none⟩,
   ⟨some 39, .mov (.t 0), none⟩,
   ⟨some 40, .mov (.t 6), none⟩,
   ⟨some 41, .mov (.t 9), none⟩,
   ⟨some 42, .bin .add false (.t 40) (.t 41), none⟩,
   ⟨some 43, .ixa 1 (.t 39) (.t 42), none⟩,
   ⟨some 44, .load none (.t 43), none⟩,
   ⟨some 45, .mov (.t 7), none⟩,
   ⟨some 46, .bin .shr false (.t 44) (.t 45), none⟩,
   ⟨some 47, .ixa 1 (.t 37) (.t 38), none⟩,
   ⟨none, .store 1 (.t 47) (.t 46), none⟩]) (.seq (.region false [⟨some 48, .mov (.t 6), none⟩,
   ⟨some 49, .mov (.t 9), none⟩,
   ⟨some 50, .bin .add false (.t 48) (.t 49), none⟩,
   ⟨some 51, .bin .add false (.t 50) (.c (iv 1)), none⟩,
   ⟨some 52, .mov (.t 0), none⟩,
   ⟨some 53, .len (.t 52), none⟩,
   ⟨some 54, .bin .lss false (.t 51) (.t 53), none⟩]) (.cond (.t 54) (.region true [⟨some 55, .mov (.t 8), none⟩,
   ⟨some 56, .mov (.t 9), none⟩,
   ⟨some 57, .ixa 1 (.t 55) (.t 56), none⟩,
   ⟨some 58, .load none (.t 57), none⟩,
   ⟨some 59, .mov (.t 0), none⟩,
   ⟨some 60, .mov (.t 6), none⟩,
   ⟨some 61, .mov (.t 9), none⟩,
   ⟨some 62, .bin .add false (.t 60) (.t 61), none⟩,
   ⟨some 63, .bin .add false (.t 62) (.c (iv 1)), none⟩,
   ⟨some 64, .ixa 1 (.t 59) (.t 63), none⟩,
   ⟨some 65, .load none (.t 64), none⟩,
   ⟨some 66, .bin .shl false (.t 65) (.c (nv 1)), none⟩,
   ⟨some 67, .mov (.t 7), none⟩,
   ⟨some 68, .bin .sub false (.c (nv 63)) (.t 67), none⟩,
   ⟨some 69, .bin .shl false (.t 66) (.t 68), none⟩,
   ⟨some 70, .bin .or false (.t 58) (.t 69), none⟩,
   ⟨some 71, .ixa 1 (.t 55) (.t 56), none⟩,
   ⟨none, .store 1 (.t 71) (.t 70), none⟩]) .skip))))) (.region false [⟨some 72, .bin .add false (.t 34) (.c (iv 1)), none⟩,
   ⟨some 34, .mov (.t 72), none⟩]))))))) (.seq (.region false [⟨some 73, .mov (.t 8), none⟩,
   ⟨some 74, .call F.nat_told [.t 73], none⟩,
   ⟨some 75, .ext (.t 74) 0, none⟩,
   ⟨some 76, .ext (.t 74) 1, none⟩,
   ⟨some 4, .mov (.t 75), none⟩,
   ⟨some 5, .mov (.t 76), none⟩]) .ret)))))))
def R.nat_Right : List VRes := [.tmp 4, .tmp 5]
theorem K.nat_Right : resCode Tryz.prog Tryz.f183.ntmps (Tryz.f183.body.getD .skip) = C.nat_Right := by kernel_rfl
theorem Q.nat_Right : resResults Tryz.prog Tryz.f183.results.toList = some R.nat_Right := by kernel_rfl
theorem E.nat_Right : Tryz.prog.funcs[F.nat_Right]? = some Tryz.f183 := Tryz.func183
theorem B.nat_Right : Tryz.f183.body = some (Tryz.f183.body.getD .skip) := by kernel_rfl
theorem N.nat_Right : Tryz.f183.ntmps = 77 := Tryz.ntmps183

def C.mul_great : VC :=
  .seq (.region false [⟨some 4, .mov (.c (bv false)), none⟩]) (.seq (.region false [⟨some 7, .mov (.t 0), none⟩,
   ⟨some 8, .call F.nat_Length [.t 7], none⟩,
   ⟨some 9, .mov (.t 1), none⟩,
   ⟨some 10, .call F.nat_Length [.t 9], none⟩,
   ⟨some 5, .mov (.t 8), none⟩,
   ⟨some 6, .mov (.t 10), none⟩]) (.seq (.region false [⟨some 11, .mov (.t 5), none⟩,
   ⟨some 12, .bin .gtr false (.t 11) (.c (iv 0)), none⟩,
   ⟨some 13, .mov (.t 12), none⟩,
   ⟨some 14, .mov (.t 6), some (13, true)⟩,
   ⟨some 15, .bin .gtr false (.t 14) (.c (iv 0)), some (13, true)⟩,
   ⟨some 16, .pick (.t 13) (.t 15) (.c (bv false)), none⟩,
   ⟨some 17, .mov (.t 16), none⟩,
   ⟨some 18, .mov (.t 5), some (17, true)⟩,
   ⟨some 19, .mov (.t 6), some (17, true)⟩,
   ⟨some 20, .bin .add false (.t 18) (.t 19), some (17, true)⟩,
   ⟨some 21, .bin .sub false (.t 20) (.c (iv 1)), some (17, true)⟩,
   ⟨some 22, .bin .gtr false (.t 21) (.c (iv 67108864)), some (17, true)⟩,
   ⟨some 23, .pick (.t 17) (.t 22) (.c (bv false)), none⟩,
   ⟨some 4, .mov (.t 23), none⟩]) .ret))
def R.mul_great : List VRes := [.tmp 4]
theorem K.mul_great : resCode Tryz.prog Tryz.f184.ntmps (Tryz.f184.body.getD .skip) = C.mul_great := by kernel_rfl
theorem Q.mul_great : resResults Tryz.prog Tryz.f184.results.toList = some R.mul_great := by kernel_rfl
theorem E.mul_great : Tryz.prog.funcs[F.mul_great]? = some Tryz.f184 := Tryz.func184
theorem B.mul_great : Tryz.f184.body = some (Tryz.f184.body.getD .skip) := by kernel_rfl
theorem N.mul_great : Tryz.f184.ntmps = 24 := Tryz.ntmps184

def C.mul_fits : VC :=
  .seq (.region false [⟨some 2, .mov (.c nil1), none⟩,
   ⟨some 3, .mov (.c (iv 0)), none⟩]) (.seq (.region false [⟨some 4, .mov (.t 0), none⟩,
   ⟨some 5, .call F.nat_Norm [.t 4], none⟩,
   ⟨some 0, .mov (.t 5), none⟩]) (.seq (.seq (.region false [⟨some 6, .mov (.t 0), none⟩,
   ⟨some 7, .call F.nat_Length [.t 6], none⟩,
   ⟨some 8, .bin .gtr false (.t 7) (.c (iv 67108864)), none⟩]) (.cond (.t 8) (.seq (.region false [⟨some 2, .mov (.c nil1), none⟩,
   ⟨some 3, .mov (.c (iv 3)), none⟩]) .ret) .skip)) (.seq (.region false [⟨some 9, .mov (.t 0), none⟩,
   ⟨some 2, .mov (.t 9), none⟩,
   ⟨some 3, .mov (.c (iv 0)), none⟩]) .ret)))
def R.mul_fits : List VRes := [.tmp 2, .tmp 3]
theorem K.mul_fits : resCode Tryz.prog Tryz.f185.ntmps (Tryz.f185.body.getD .skip) = C.mul_fits := by kernel_rfl
theorem Q.mul_fits : resResults Tryz.prog Tryz.f185.results.toList = some R.mul_fits := by kernel_rfl
theorem E.mul_fits : Tryz.prog.funcs[F.mul_fits]? = some Tryz.f185 := Tryz.func185
theorem B.mul_fits : Tryz.f185.body = some (Tryz.f185.body.getD .skip) := by kernel_rfl
theorem N.mul_fits : Tryz.f185.ntmps = 10 := Tryz.ntmps185

def C.mul_school : VC :=
  .seq (.region false [⟨some 4, .mov (.c nil1), none⟩]) (.seq (.region false [⟨some 14, .mov (.t 0), none⟩,
   ⟨some 15, .len (.t 14), none⟩,
   ⟨some 16, .mov (.t 1), none⟩,
   ⟨some 17, .len (.t 16), none⟩,
   ⟨some 18, .bin .add false (.t 15) (.t 17), none⟩,
   ⟨some 19, .mk [.int .u64 0] 8 (.t 18) (.t 18), none⟩,
   ⟨some 5, .mov (.t 19), none⟩]) (.seq (.seq (.region false [⟨some 20, .mov (.t 0), none⟩,
   ⟨some 21, .len (.t 20), none⟩,
   ⟨some 22, .mov (.c (iv 0)), none⟩]) (.block 0 (.loop (.seq (.region false [⟨some 23, .bin .lss false (.t 22) (.t 21), none⟩]) (.seq (.cond (.t 23) .skip (.exit 0)) (.seq (.block 1 (.seq (.region false [⟨some 24, .mov (.t 22), none⟩,
   ⟨some 25, .ixa 1 (.t 20) (.t 22), none⟩,
   ⟨some 26, .load none (.t 25), none⟩,
   ⟨some 6, .mov (.t 24), none⟩,
   ⟨some 7, .mov (.t 26), none⟩]) (.seq (.region false [⟨some 8, .mov (.c (nv 0)), none⟩]) (.seq (.seq (.region false [⟨some 27, .mov (.t 1), none⟩,
   ⟨some 28, .len (.t 27), none⟩,
   ⟨some 29, .mov (.c (iv 0)), none⟩]) (.block 2 (.loop (.seq (.region false [⟨some 30, .bin .lss false (.t 29) (.t 28), none⟩]) (.seq (.cond (.t 30) .skip (.exit 2)) (.seq (.block 3 (.seq (.region false [⟨some 31, .mov (.t 29), none⟩,
   ⟨some 32, .ixa 1 (.t 27) (.t 29), none⟩,
   ⟨some 33, .load none (.t 32), none⟩,
   ⟨some 9, .mov (.t 31), none⟩,
   ⟨some 10, .mov (.t 33), none⟩]) (.seq (.region false [⟨some 35, .mov (.t 7), none⟩,
   ⟨some 36, .mov (.t 10), none⟩,
   ⟨some 37, .call F.bits_Mul64 [.t 35, .t 36], none⟩,
   ⟨some 34, .mov (.t 37), none⟩,
   ⟨some 38, .ext (.t 34) 0, none⟩,
   ⟨some 39, .ext (.t 34) 1, none⟩,
   ⟨some 11, .mov (.t 38), none⟩,
   ⟨some 12, .mov (.t 39), none⟩]) (.seq (.region false [⟨some 13, .mov (.c (nv 0)), none⟩]) (.seq (.region false [⟨some 41, .mov (.t 12), none⟩,
   ⟨some 42, .mov (.t 8), none⟩,
   ⟨some 43, .ext64 false (.t 41) (.t 42) (.c (nv 0)), none⟩,
   ⟨some 40, .mov (.t 43), none⟩,
   ⟨some 44, .ext (.t 40) 0, none⟩,
   ⟨some 45, .ext (.t 40) 1, none⟩,
   ⟨some 12, .mov (.t 44), none⟩,
   ⟨some 13, .mov (.t 45), none⟩]) (.seq (.region false [⟨some 46, .mov (.t 11), none⟩,
   ⟨some 47, .mov (.t 13), none⟩,
   ⟨some 48, .bin .add false (.t 46) (.t 47), none⟩,
   ⟨some 11, .mov (.t 48), none⟩]) (.seq (.region false [⟨some 50, .mov (.t 5), none⟩,
   ⟨some 51, .mov (.t 6), none⟩,
   ⟨some 52, .mov (.t 9), none⟩,
   ⟨some 53, .bin .add false (.t 51) (.t 52), none⟩,
   ⟨some 54, .mov (.t 5), none⟩,
   ⟨some 55, .mov (.t 6), none⟩,
   ⟨some 56, .mov (.t 9), none⟩,
   ⟨some 57, .bin .add false (.t 55) (.t 56), none⟩,
   ⟨some 58, .ixa 1 (.t 54) (.t 57), none⟩,
   ⟨some 59, .load none (.t 58), none⟩,
   ⟨some 60, .mov (.t 12), none⟩,
   ⟨some 61, .ext64 false (.t 59) (.t 60) (.c (nv 0)), none⟩,
   ⟨some 49, .mov (.t 61), none⟩,
   ⟨some 62, .ext (.t 49) 0, none⟩,
   ⟨some 63, .ext (.t 49) 1, none⟩,
   ⟨some 64, .ixa 1 (.t 50) (.t 53), none⟩,
   ⟨none, .store 1 (.t 64) (.t 62), none⟩,
   ⟨some 13, .mov (.t 63), none⟩]) (.region false [⟨some 65, .mov (.t 11), none⟩,
   ⟨some 66, .mov (.t 13), none⟩,
   ⟨some 67, .bin .add false (.t 65) (.t 66), none⟩,
   ⟨some 8, .mov (.t 67), none⟩])))))))) (.region false [⟨some 68, .bin .add false (.t 29) (.c (iv 1)), none⟩,
   ⟨some 29, .mov (.t 68), none⟩]))))))) (.region false [⟨some 69, .mov (.t 5), none⟩,
   ⟨some 70, .mov (.t 6), none⟩,
   ⟨some 71, .mov (.t 1), none⟩,
   ⟨some 72, .len (.t 71), none⟩,
   ⟨some 73, .bin .add false (.t 70) (.t 72), none⟩,
   ⟨some 74, .mov (.t 8), none⟩,
   ⟨some 75, .ixa 1 (.t 69) (.t 73), none⟩,
   ⟨none, .store 1 (.t 75) (.t 74), none⟩]))))) (.region false [⟨some 76, .bin .add false (.t 22) (.c (iv 1)), none⟩,
   ⟨some 22, .mov (.t 76), none⟩]))))))) (.seq (.region false [⟨some 77, .mov (.t 5), none⟩,
   ⟨some 4, .mov (.t 77), none⟩]) .ret)))
def R.mul_school : List VRes := [.tmp 4]
theorem K.mul_school : resCode Tryz.prog Tryz.f186.ntmps (Tryz.f186.body.getD .skip) = C.mul_school := by kernel_rfl
theorem Q.mul_school : resResults Tryz.prog Tryz.f186.results.toList = some R.mul_school := by kernel_rfl
theorem E.mul_school : Tryz.prog.funcs[F.mul_school]? = some Tryz.f186 := Tryz.func186
theorem B.mul_school : Tryz.f186.body = some (Tryz.f186.body.getD .skip) := by kernel_rfl
theorem N.mul_school : Tryz.f186.ntmps = 78 := Tryz.ntmps186

def C.mul_addAt : VC :=
  .seq (.region false [⟨some 6, .mov (.c (nv 0)), none⟩]) (.seq (.region false [⟨some 9, .mov (.t 2), none⟩,
   ⟨some 7, .mov (.t 9), none⟩]) (.block 0 (.loop (.seq (.seq (.region false [⟨some 10, .mov (.t 7), none⟩,
   ⟨some 11, .mov (.t 0), none⟩,
   ⟨some 12, .len (.t 11), none⟩,
   ⟨some 13, .bin .lss false (.t 10) (.t 12), none⟩,
   ⟨some 14, .mov (.t 13), none⟩,
   ⟨some 15, .mov (.t 7), some (14, true)⟩,
   ⟨some 16, .mov (.t 2), some (14, true)⟩,
   ⟨some 17, .bin .sub false (.t 15) (.t 16), some (14, true)⟩,
   ⟨some 18, .mov (.t 1), some (14, true)⟩,
   ⟨some 19, .len (.t 18), some (14, true)⟩,
   ⟨some 20, .bin .lss false (.t 17) (.t 19), some (14, true)⟩,
   ⟨some 21, .mov (.t 20), some (14, true)⟩,
   ⟨some 22, .mov (.t 6), some (21, false)⟩,
   ⟨some 23, .bin .gtr false (.t 22) (.c (nv 0)), some (21, false)⟩,
   ⟨some 24, .pick (.t 21) (.c (bv true)) (.t 23), some (14, true)⟩,
   ⟨some 25, .pick (.t 14) (.t 24) (.c (bv false)), none⟩]) (.cond (.t 25) .skip (.exit 0))) (.seq (.block 1 (.seq (.region false [⟨some 8, .mov (.c (nv 0)), none⟩]) (.seq (.seq (.region false [⟨some 28, .mov (.t 7), none⟩,
   ⟨some 29, .mov (.t 2), none⟩,
   ⟨some 30, .bin .sub false (.t 28) (.t 29), none⟩,
   ⟨some 31, .mov (.t 1), none⟩,
   ⟨some 32, .len (.t 31), none⟩,
   ⟨some 33, .bin .lss false (.t 30) (.t 32), none⟩]) (.cond (.t 33) (.region false [⟨some 34, .mov (.t 1), none⟩,
   ⟨some 35, .mov (.t 7), none⟩,
   ⟨some 36, .mov (.t 2), none⟩,
   ⟨some 37, .bin .sub false (.t 35) (.t 36), none⟩,
   ⟨some 38, .ixa 1 (.t 34) (.t 37), none⟩,
   ⟨some 39, .load none (.t 38), none⟩,
   ⟨some 8, .mov (.t 39), none⟩]) .skip)) (.region false [⟨some 41, .mov (.t 0), none⟩,
   ⟨some 42, .mov (.t 7), none⟩,
   ⟨some 43, .mov (.t 0), none⟩,
   ⟨some 44, .mov (.t 7), none⟩,
   ⟨some 45, .ixa 1 (.t 43) (.t 44), none⟩,
   ⟨some 46, .load none (.t 45), none⟩,
   ⟨some 47, .mov (.t 8), none⟩,
   ⟨some 48, .mov (.t 6), none⟩,
   ⟨some 49, .ext64 false (.t 46) (.t 47) (.t 48), none⟩,
   ⟨some 40, .mov (.t 49), none⟩,
   ⟨some 50, .ext (.t 40) 0, none⟩,
   ⟨some 51, .ext (.t 40) 1, none⟩,
   ⟨some 52, .ixa 1 (.t 41) (.t 42), none⟩,
   ⟨none, .store 1 (.t 52) (.t 50), none⟩,
   ⟨some 6, .mov (.t 51), none⟩])))) (.region false [⟨some 26, .mov (.t 7), none⟩,
   ⟨some 27, .bin .add false (.t 26) (.c (iv 1)), none⟩,
   ⟨some 7, .mov (.t 27), none⟩]))))))
def R.mul_addAt : List VRes := []
theorem K.mul_addAt : resCode Tryz.prog Tryz.f187.ntmps (Tryz.f187.body.getD .skip) = C.mul_addAt := by kernel_rfl
theorem Q.mul_addAt : resResults Tryz.prog Tryz.f187.results.toList = some R.mul_addAt := by kernel_rfl
theorem E.mul_addAt : Tryz.prog.funcs[F.mul_addAt]? = some Tryz.f187 := Tryz.func187
theorem B.mul_addAt : Tryz.f187.body = some (Tryz.f187.body.getD .skip) := by kernel_rfl
theorem N.mul_addAt : Tryz.f187.ntmps = 53 := Tryz.ntmps187

def C.mul_part : VC :=
  .seq (.region false [⟨some 6, .mov (.c nil1), none⟩]) (.seq (.region false [⟨some 7, .mov (.t 1), none⟩,
   ⟨some 8, .mov (.t 0), none⟩,
   ⟨some 9, .len (.t 8), none⟩,
   ⟨some 10, .mm false (.t 7) (.t 9), none⟩,
   ⟨some 11, .mov (.t 2), none⟩,
   ⟨some 12, .mov (.t 0), none⟩,
   ⟨some 13, .len (.t 12), none⟩,
   ⟨some 14, .mm false (.t 11) (.t 13), none⟩,
   ⟨some 1, .mov (.t 10), none⟩,
   ⟨some 2, .mov (.t 14), none⟩]) (.seq (.block 0 (.loop (.seq (.seq (.region false [⟨some 15, .mov (.t 2), none⟩,
   ⟨some 16, .mov (.t 1), none⟩,
   ⟨some 17, .bin .gtr false (.t 15) (.t 16), none⟩,
   ⟨some 18, .mov (.t 17), none⟩,
   ⟨some 19, .mov (.t 0), some (18, true)⟩,
   ⟨some 20, .mov (.t 2), some (18, true)⟩,
   ⟨some 21, .bin .sub false (.t 20) (.c (iv 1)), some (18, true)⟩,
   ⟨some 22, .ixa 1 (.t 19) (.t 21), some (18, true)⟩,
   ⟨some 23, .load none (.t 22), some (18, true)⟩,
   ⟨some 24, .bin .eql false (.t 23) (.c (nv 0)), some (18, true)⟩,
   ⟨some 25, .pick (.t 18) (.t 24) (.c (bv false)), none⟩]) (.cond (.t 25) .skip (.exit 0))) (.block 1 (.region false [⟨some 26, .mov (.t 2), none⟩,
   ⟨some 27, .bin .sub false (.t 26) (.c (iv 1)), none⟩,
   ⟨some 2, .mov (.t 27), none⟩]))))) (.seq (.region false [⟨some 28, .mov (.t 0), none⟩,
   ⟨some 29, .mov (.t 1), none⟩,
   ⟨some 30, .mov (.t 2), none⟩,
   ⟨some 31, .slc 1 (.t 28) (some (.t 29)) (some (.t 30)) none, none⟩,
   ⟨some 6, .mov (.t 31), none⟩]) .ret)))
def R.mul_part : List VRes := [.tmp 6]
theorem K.mul_part : resCode Tryz.prog Tryz.f188.ntmps (Tryz.f188.body.getD .skip) = C.mul_part := by kernel_rfl
theorem Q.mul_part : resResults Tryz.prog Tryz.f188.results.toList = some R.mul_part := by kernel_rfl
theorem E.mul_part : Tryz.prog.funcs[F.mul_part]? = some Tryz.f188 := Tryz.func188
theorem B.mul_part : Tryz.f188.body = some (Tryz.f188.body.getD .skip) := by kernel_rfl
theorem N.mul_part : Tryz.f188.ntmps = 32 := Tryz.ntmps188

def C.mul_less : VC :=
  .seq (.region false [⟨some 4, .mov (.c nil1), none⟩]) (.seq (.region false [⟨some 9, .mov (.t 0), none⟩,
   ⟨some 10, .len (.t 9), none⟩,
   ⟨some 11, .mk [.int .u64 0] 8 (.t 10) (.t 10), none⟩,
   ⟨some 5, .mov (.t 11), none⟩]) (.seq (.region false [⟨some 12, .mov (.t 5), none⟩,
   ⟨some 13, .mov (.t 0), none⟩,
   ⟨some 14, .cpy 1 (.t 12) (.t 13), none⟩]) (.seq (.region false [⟨some 6, .mov (.c (nv 0)), none⟩]) (.seq (.seq (.region false [⟨some 15, .mov (.t 5), none⟩,
   ⟨some 16, .len (.t 15), none⟩,
   ⟨some 17, .mov (.c (iv 0)), none⟩]) (.block 0 (.loop (.seq (.region false [⟨some 18, .bin .lss false (.t 17) (.t 16), none⟩]) (.seq (.cond (.t 18) .skip (.exit 0)) (.seq (.block 1 (.seq (.region false [⟨some 19, .mov (.t 17), none⟩,
   ⟨some 7, .mov (.t 19), none⟩]) (.seq (.region false [⟨some 8, .mov (.c (nv 0)), none⟩]) (.seq (.seq (.region false [⟨some 20, .mov (.t 7), none⟩,
   ⟨some 21, .mov (.t 1), none⟩,
   ⟨some 22, .len (.t 21), none⟩,
   ⟨some 23, .bin .lss false (.t 20) (.t 22), none⟩]) (.cond (.t 23) (.region false [⟨some 24, .mov (.t 1), none⟩,
   ⟨some 25, .mov (.t 7), none⟩,
   ⟨some 26, .ixa 1 (.t 24) (.t 25), none⟩,
   ⟨some 27, .load none (.t 26), none⟩,
   ⟨some 8, .mov (.t 27), none⟩]) .skip)) (.region false [⟨some 29, .mov (.t 5), none⟩,
   ⟨some 30, .mov (.t 7), none⟩,
   ⟨some 31, .mov (.t 5), none⟩,
   ⟨some 32, .mov (.t 7), none⟩,
   ⟨some 33, .ixa 1 (.t 31) (.t 32), none⟩,
   ⟨some 34, .load none (.t 33), none⟩,
   ⟨some 35, .mov (.t 8), none⟩,
   ⟨some 36, .mov (.t 6), none⟩,
   ⟨some 37, .ext64 true (.t 34) (.t 35) (.t 36), none⟩,
   ⟨some 28, .mov (.t 37), none⟩,
   ⟨some 38, .ext (.t 28) 0, none⟩,
   ⟨some 39, .ext (.t 28) 1, none⟩,
   ⟨some 40, .ixa 1 (.t 29) (.t 30), none⟩,
   ⟨none, .store 1 (.t 40) (.t 38), none⟩,
   ⟨some 6, .mov (.t 39), none⟩]))))) (.region false [⟨some 41, .bin .add false (.t 17) (.c (iv 1)), none⟩,
   ⟨some 17, .mov (.t 41), none⟩]))))))) (.seq (.region false [⟨some 42, .mov (.t 5), none⟩,
   ⟨some 4, .mov (.t 42), none⟩]) .ret)))))
def R.mul_less : List VRes := [.tmp 4]
theorem K.mul_less : resCode Tryz.prog Tryz.f189.ntmps (Tryz.f189.body.getD .skip) = C.mul_less := by kernel_rfl
theorem Q.mul_less : resResults Tryz.prog Tryz.f189.results.toList = some R.mul_less := by kernel_rfl
theorem E.mul_less : Tryz.prog.funcs[F.mul_less]? = some Tryz.f189 := Tryz.func189
theorem B.mul_less : Tryz.f189.body = some (Tryz.f189.body.getD .skip) := by kernel_rfl
theorem N.mul_less : Tryz.f189.ntmps = 43 := Tryz.ntmps189

def C.mul_sum : VC :=
  .seq (.region false [⟨some 4, .mov (.c nil1), none⟩]) (.seq (.region false [⟨some 6, .mov (.t 0), none⟩,
   ⟨some 7, .len (.t 6), none⟩,
   ⟨some 8, .mov (.t 1), none⟩,
   ⟨some 9, .len (.t 8), none⟩,
   ⟨some 10, .mm true (.t 7) (.t 9), none⟩,
   ⟨some 11, .bin .add false (.t 10) (.c (iv 1)), none⟩,
   ⟨some 12, .mk [.int .u64 0] 8 (.t 11) (.t 11), none⟩,
   ⟨some 5, .mov (.t 12), none⟩]) (.seq (.region false [⟨some 13, .mov (.t 5), none⟩,
   ⟨some 14, .mov (.t 0), none⟩,
   ⟨some 15, .cpy 1 (.t 13) (.t 14), none⟩]) (.seq (.region false [⟨some 16, .mov (.t 5), none⟩,
   ⟨some 17, .mov (.t 1), none⟩,
   ⟨some 18, .call F.mul_addAt [.t 16, .t 17, .c (iv 0)], none⟩]) (.seq (.region false [⟨some 19, .mov (.t 5), none⟩,
   ⟨some 4, .mov (.t 19), none⟩]) .ret))))
def R.mul_sum : List VRes := [.tmp 4]
theorem K.mul_sum : resCode Tryz.prog Tryz.f190.ntmps (Tryz.f190.body.getD .skip) = C.mul_sum := by kernel_rfl
theorem Q.mul_sum : resResults Tryz.prog Tryz.f190.results.toList = some R.mul_sum := by kernel_rfl
theorem E.mul_sum : Tryz.prog.funcs[F.mul_sum]? = some Tryz.f190 := Tryz.func190
theorem B.mul_sum : Tryz.f190.body = some (Tryz.f190.body.getD .skip) := by kernel_rfl
theorem N.mul_sum : Tryz.f190.ntmps = 20 := Tryz.ntmps190

def C.bits_Mul64 : VC :=
  .seq (.region false [⟨some 4, .mov (.c (nv 0)), none⟩,
   ⟨some 5, .mov (.c (nv 0)), none⟩]) (.seq (.region false [⟨some 14, .mov (.t 0), none⟩,
   ⟨some 15, .bin .and false (.t 14) (.c (nv 4294967295)), none⟩,
   ⟨some 6, .mov (.t 15), none⟩]) (.seq (.region false [⟨some 16, .mov (.t 0), none⟩,
   ⟨some 17, .bin .shr false (.t 16) (.c (nv 32)), none⟩,
   ⟨some 7, .mov (.t 17), none⟩]) (.seq (.region false [⟨some 18, .mov (.t 1), none⟩,
   ⟨some 19, .bin .and false (.t 18) (.c (nv 4294967295)), none⟩,
   ⟨some 8, .mov (.t 19), none⟩]) (.seq (.region false [⟨some 20, .mov (.t 1), none⟩,
   ⟨some 21, .bin .shr false (.t 20) (.c (nv 32)), none⟩,
   ⟨some 9, .mov (.t 21), none⟩]) (.seq (.region false [⟨some 22, .mov (.t 6), none⟩,
   ⟨some 23, .mov (.t 8), none⟩,
   ⟨some 24, .bin .mul false (.t 22) (.t 23), none⟩,
   ⟨some 10, .mov (.t 24), none⟩]) (.seq (.region false [⟨some 25, .mov (.t 7), none⟩,
   ⟨some 26, .mov (.t 8), none⟩,
   ⟨some 27, .bin .mul false (.t 25) (.t 26), none⟩,
   ⟨some 28, .mov (.t 10), none⟩,
   ⟨some 29, .bin .shr false (.t 28) (.c (nv 32)), none⟩,
   ⟨some 30, .bin .add false (.t 27) (.t 29), none⟩,
   ⟨some 11, .mov (.t 30), none⟩]) (.seq (.region false [⟨some 31, .mov (.t 11), none⟩,
   ⟨some 32, .bin .and false (.t 31) (.c (nv 4294967295)), none⟩,
   ⟨some 12, .mov (.t 32), none⟩]) (.seq (.region false [⟨some 33, .mov (.t 11), none⟩,
   ⟨some 34, .bin .shr false (.t 33) (.c (nv 32)), none⟩,
   ⟨some 13, .mov (.t 34), none⟩]) (.seq (.region false [⟨some 35, .mov (.t 12), none⟩,
   ⟨some 36, .mov (.t 6), none⟩,
   ⟨some 37, .mov (.t 9), none⟩,
   ⟨some 38, .bin .mul false (.t 36) (.t 37), none⟩,
   ⟨some 39, .bin .add false (.t 35) (.t 38), none⟩,
   ⟨some 12, .mov (.t 39), none⟩]) (.seq (.region false [⟨some 40, .mov (.t 7), none⟩,
   ⟨some 41, .mov (.t 9), none⟩,
   ⟨some 42, .bin .mul false (.t 40) (.t 41), none⟩,
   ⟨some 43, .mov (.t 13), none⟩,
   ⟨some 44, .bin .add false (.t 42) (.t 43), none⟩,
   ⟨some 45, .mov (.t 12), none⟩,
   ⟨some 46, .bin .shr false (.t 45) (.c (nv 32)), none⟩,
   ⟨some 47, .bin .add false (.t 44) (.t 46), none⟩,
   ⟨some 4, .mov (.t 47), none⟩]) (.seq (.region false [⟨some 48, .mov (.t 0), none⟩,
   ⟨some 49, .mov (.t 1), none⟩,
   ⟨some 50, .bin .mul false (.t 48) (.t 49), none⟩,
   ⟨some 5, .mov (.t 50), none⟩]) .ret)))))))))))
def R.bits_Mul64 : List VRes := [.tmp 4, .tmp 5]
theorem K.bits_Mul64 : resCode Tryz.prog Tryz.f192.ntmps (Tryz.f192.body.getD .skip) = C.bits_Mul64 := by kernel_rfl
theorem Q.bits_Mul64 : resResults Tryz.prog Tryz.f192.results.toList = some R.bits_Mul64 := by kernel_rfl
theorem E.bits_Mul64 : Tryz.prog.funcs[F.bits_Mul64]? = some Tryz.f192 := Tryz.func192
theorem B.bits_Mul64 : Tryz.f192.body = some (Tryz.f192.body.getD .skip) := by kernel_rfl
theorem N.bits_Mul64 : Tryz.f192.ntmps = 51 := Tryz.ntmps192

end Go.Proofs.YtplofcianjnkmaaGreatDoor
set_option linter.unusedSimpArgs false
set_option linter.unusedVariables false
set_option maxRecDepth 100000
set_option maxHeartbeats 4000000
namespace Go.Proofs.YtplofcianjnkmaaGreatDoor
open Go.VM
theorem hm : Tryz.prog.follows .mixedOrders = true := Tryz.checked.mixed
theorem two64 : 2 ≤ 18446744073709551616 := by decide

theorem getD_snoc (m : List Nat) (x : Nat) : (m ++ [x]).getD m.length 0 = x := by simp
theorem take_snoc' (m : List Nat) (x : Nat) : (m ++ [x]).take m.length = m := by simp

theorem trim_spec (t : Tok) (l : List Nat) (c : Nat) (hl : Lim 18446744073709551616 l) (hn : l.length ≤ 4398046511104) : VSpec Tryz.prog F.nat_trim c [nats t l] (fun r _ => r = nats t (digs 18446744073709551616 (val 18446744073709551616 l))) := by
  rw [← trim_digs two64 hl]
  refine spec_mk hm E.nat_trim B.nat_trim K.nat_trim Q.nat_trim (by rw [N.nat_trim]; simp) ?_
  unfold C.nat_trim R.nat_trim
  refine v_reg ?_
  simp only [vm, ite_true, ite_false, eq_self, reduceIte, Nat.reduceEqDiff, Option.map]
  refine vwp_seq (vwp_block (vwp_loop (fun n S => ∃ l', S.ρ 0 = nats t l' ∧ trimL l' = trimL l ∧ l'.length = n ∧ n ≤ l.length ∧ S.σ = noBlk ∧ S.c = c) l.length ⟨l, rfl, rfl, rfl, Nat.le_refl _, rfl, rfl⟩ ?_))
  rintro n ⟨ρ, σ, k⟩ ⟨l', h0, h1, h2, h3, rfl, rfl⟩
  dsimp only at h0
  refine vwp_seq (v_reg ?_)
  rcases snoc_cases l' with rfl | ⟨m, x, rfl⟩
  · have e : ¬ (0 : Int) < ([] : List Nat).length := by simp
    simp only [vm, ite_true, ite_false, eq_self, reduceIte, Nat.reduceEqDiff, Option.map, h0, e]
    refine v_cond ?_
    simp only [vm, ite_true, ite_false, eq_self, reduceIte, Nat.reduceEqDiff, Option.map]
    refine vwp_exit ?_
    simp only [vm, ite_true, ite_false, eq_self, reduceIte, Nat.reduceEqDiff, Option.map]
    refine v_reg ?_
    simp only [vm, ite_true, ite_false, eq_self, reduceIte, Nat.reduceEqDiff, Option.map, h0]
    refine vwp_ret ?_
    simp only [vm, ite_true, ite_false, eq_self, reduceIte, Nat.reduceEqDiff, Option.map]
    exact ⟨Nat.le_refl _, by rw [← h1]; rfl⟩
  · have e : (0 : Int) < (m ++ [x]).length := by simp
    have e1 : ((m ++ [x]).length - 1 : Int).toNat = m.length := by simp
    have e2 : (m ++ [x]).length = m.length + 1 := by simp
    simp only [vm, ite_true, ite_false, eq_self, reduceIte, Nat.reduceEqDiff, Option.map, h0, e, e1, getD_snoc]
    refine ⟨⟨by omega, by omega⟩, ⟨by omega, by omega⟩, by omega, v_cond ?_⟩
    simp only [vm, ite_true, ite_false, eq_self, reduceIte, Nat.reduceEqDiff, Option.map]
    refine ⟨fun g => vwp_skip ?_, fun g => vwp_exit ?_⟩
    · simp only [vm, ite_true, ite_false, eq_self, reduceIte, Nat.reduceEqDiff, Option.map]
      refine vwp_block (v_last ?_)
      simp only [vm, ite_true, ite_false, eq_self, reduceIte, Nat.reduceEqDiff, Option.map, h0, e1, take_snoc']
      refine ⟨by omega, by omega, m.length, by omega, m, rfl, ?_, rfl, by omega⟩
      rw [← h1, g, trimL_zero]
    · simp only [vm, ite_true, ite_false, eq_self, reduceIte, Nat.reduceEqDiff, Option.map]
      refine v_reg ?_
      simp only [vm, ite_true, ite_false, eq_self, reduceIte, Nat.reduceEqDiff, Option.map, h0]
      refine vwp_ret ?_
      simp only [vm, ite_true, ite_false, eq_self, reduceIte, Nat.reduceEqDiff, Option.map]
      exact ⟨Nat.le_refl _, by rw [← h1, trimL_pos _ _ g]⟩

def Tk (c c' : Nat) (t : Tok) : Prop := t = .nil ∨ ∃ i, t = .id i ∧ c ≤ i ∧ i < c'
theorem Tk.mono {c c' d d' : Nat} {t : Tok} (h : Tk c c' t) (h1 : d ≤ c) (h2 : c' ≤ d') : Tk d d' t := by
  rcases h with rfl | ⟨i, rfl, h3, h4⟩
  · exact .inl rfl
  · exact .inr ⟨i, rfl, by omega, by omega⟩
def NatR (c c' n : Nat) (v : V) : Prop := ∃ t, v = nats t (digs 18446744073709551616 n) ∧ Tk c c' t

theorem norm_spec (t : Tok) (l : List Nat) (c : Nat) (hl : Lim 18446744073709551616 l) (hn : l.length ≤ 4398046511104) : VSpec Tryz.prog F.nat_Norm c [nats t l] (fun r c' => NatR c c' (val 18446744073709551616 l) r) := by
  refine spec_mk hm E.nat_Norm B.nat_Norm K.nat_Norm Q.nat_Norm (by rw [N.nat_Norm]; simp) ?_
  unfold C.nat_Norm R.nat_Norm
  refine v_reg ?_
  simp only [vm, ite_true, ite_false, eq_self, reduceIte, Nat.reduceEqDiff, Option.map]
  refine v_reg ?_
  simp only [vm, ite_true, ite_false, eq_self, reduceIte, Nat.reduceEqDiff, Option.map]
  refine s_call (trim_spec t l c hl hn) (by simp only [vm, ite_true, ite_false, eq_self, reduceIte, Nat.reduceEqDiff, Option.map, List.map]) ?_
  rintro v c' hc rfl
  have hlen := digs_len_le two64 hl
  refine s_app0 (t := t) (l := digs 18446744073709551616 (val 18446744073709551616 l)) (by simp only [vm, ite_true, ite_false, eq_self, reduceIte, Nat.reduceEqDiff, Option.map]) (by simp only [vm, ite_true, ite_false, eq_self, reduceIte, Nat.reduceEqDiff, Option.map]) (by omega) (fun e => ?_) (fun e => ?_)
  · simp only [vm, ite_true, ite_false, eq_self, reduceIte, Nat.reduceEqDiff, Option.map]
    refine vwp_ret ?_
    simp only [vm, ite_true, ite_false, eq_self, reduceIte, Nat.reduceEqDiff, Option.map]
    exact ⟨hc, .nil, by rw [e]; rfl, .inl rfl⟩
  · simp only [vm, ite_true, ite_false, eq_self, reduceIte, Nat.reduceEqDiff, Option.map]
    refine v_freeze 2 (l := digs 18446744073709551616 (val 18446744073709551616 l)) rfl (by simp only [vm, ite_true, ite_false, eq_self, reduceIte, Nat.reduceEqDiff, Option.map]) hc (by omega) ?_
    refine vwp_ret ?_
    simp only [vm, ite_true, ite_false, eq_self, reduceIte, Nat.reduceEqDiff, Option.map, List.drop_zero, List.take_length]
    exact ⟨by omega, .id c', rfl, .inr ⟨c', rfl, hc, by omega⟩⟩

theorem from_spec (n c : Nat) (hn : n < 18446744073709551616) : VSpec Tryz.prog F.nat_From c [nv n] (fun r c' => NatR c c' n r) := by
  refine spec_mk hm E.nat_From B.nat_From K.nat_From Q.nat_From (by rw [N.nat_From]; simp) ?_
  unfold C.nat_From R.nat_From
  refine v_reg ?_
  simp only [vm, ite_true, ite_false, eq_self, reduceIte, Nat.reduceEqDiff, Option.map]
  refine vwp_seq (v_reg ?_)
  simp only [vm, ite_true, ite_false, eq_self, reduceIte, Nat.reduceEqDiff, Option.map]
  refine v_cond ?_
  simp only [vm, ite_true, ite_false, eq_self, reduceIte, Nat.reduceEqDiff, Option.map]
  refine ⟨fun g => v_reg ?_, fun g => vwp_skip ?_⟩
  · simp only [vm, ite_true, ite_false, eq_self, reduceIte, Nat.reduceEqDiff, Option.map]
    refine vwp_ret ?_
    simp only [vm, ite_true, ite_false, eq_self, reduceIte, Nat.reduceEqDiff, Option.map]
    exact ⟨Nat.le_refl _, .nil, by subst g; rfl, .inl rfl⟩
  · simp only [vm, ite_true, ite_false, eq_self, reduceIte, Nat.reduceEqDiff, Option.map]
    refine v_reg ?_
    simp only [vm, ite_true, ite_false, eq_self, reduceIte, Nat.reduceEqDiff, Option.map]
    refine s_bsl1 (n := n) (by simp only [vm, ite_true, ite_false, eq_self, reduceIte, Nat.reduceEqDiff, Option.map]) ?_
    simp only [vm, ite_true, ite_false, eq_self, reduceIte, Nat.reduceEqDiff, Option.map]
    refine vwp_ret ?_
    simp only [vm, ite_true, ite_false, eq_self, reduceIte, Nat.reduceEqDiff, Option.map]
    refine ⟨by omega, .id c, ?_, .inr ⟨c, rfl, by omega, by omega⟩⟩
    rw [digs_pos two64 (by omega), Nat.mod_eq_of_lt hn, Nat.div_eq_of_lt hn]; rfl
end Go.Proofs.YtplofcianjnkmaaGreatDoor
set_option linter.unusedSimpArgs false
set_option linter.unusedVariables false
set_option maxRecDepth 100000
set_option maxHeartbeats 8000000
namespace Go.Proofs.YtplofcianjnkmaaGreatDoor
open Go.VM

theorem rows_inj : ∀ {ds : List (Option (Nat × Nat))}, (rowIds ds).Nodup → ∀ {i j t n m : Nat}, ds[i]? = some (some (t, n)) → ds[j]? = some (some (t, m)) → i = j
  | [], _, i, j, t, n, m, h, _ => by simp at h
  | d :: ds, hn, i, j, t, n, m, h, h' => by
    have mem : ∀ {k q : Nat}, ds[k]? = some (some (t, q)) → t ∈ rowIds ds := fun h => List.mem_filterMap.2 ⟨_, List.mem_of_getElem? h, rfl⟩
    have tl : (rowIds ds).Nodup := by
      cases d with
      | none => exact hn
      | some q => exact (List.nodup_cons.1 hn).2
    have hd : ∀ q, d = some (t, q) → t ∉ rowIds ds := by
      rintro q rfl
      exact (List.nodup_cons.1 hn).1
    cases i with
    | zero =>
      cases j with
      | zero => rfl
      | succ j =>
        simp only [List.getElem?_cons_zero, Option.some.injEq] at h
        simp only [List.getElem?_cons_succ] at h'
        exact absurd (mem h') (hd _ h)
    | succ i =>
      cases j with
      | zero =>
        simp only [List.getElem?_cons_zero, Option.some.injEq] at h'
        simp only [List.getElem?_cons_succ] at h
        exact absurd (mem h) (hd _ h')
      | succ j =>
        simp only [List.getElem?_cons_succ] at h h'
        exact congrArg Nat.succ (rows_inj tl h h')

structure RowS (σ : Nat → Option Blk) (tL : Nat) (ds : List (Option (Nat × Nat))) : Prop where
  hd : σ tL = some ⟨ds.map rowOf, true⟩
  row : ∀ (i t n : Nat), ds[i]? = some (some (t, n)) → t ≠ tL ∧ n ≤ 4398046511200 ∧ ∃ cells, σ t = some ⟨cells, true⟩ ∧ n ≤ cells.length
  inj : ∀ (i j t n m : Nat), ds[i]? = some (some (t, n)) → ds[j]? = some (some (t, m)) → i = j
def Holds (σ : Nat → Option Blk) (d : Option (Nat × Nat)) (f : Nat → Nat) : Prop := ∀ t n, d = some (t, n) → ∃ cells, σ t = some ⟨cells, true⟩ ∧ ∀ k, k < n → cells[k]? = some (nv (f k))
theorem Holds.none {σ : Nat → Option Blk} {f : Nat → Nat} : Holds σ none f := fun t n h => by cases h
theorem Holds.congr {σ : Nat → Option Blk} {d : Option (Nat × Nat)} {f g : Nat → Nat} (h : Holds σ d f) (e : ∀ t n, d = some (t, n) → ∀ k, k < n → f k = g k) : Holds σ d g := fun t n hd => by
  obtain ⟨cells, h1, h2⟩ := h t n hd
  exact ⟨cells, h1, fun k hk => by rw [h2 k hk, e t n hd k hk]⟩
theorem Holds.put {σ : Nat → Option Blk} {d : Option (Nat × Nat)} {f : Nat → Nat} (h : Holds σ d f) {t : Nat} {b : Option Blk} (ht : ∀ n, d ≠ some (t, n)) : Holds (supd σ t b) d f := fun u n hd => by
  obtain ⟨cells, h1, h2⟩ := h u n hd
  refine ⟨cells, ?_, h2⟩
  rw [supd_app, if_neg (fun e => ht n (by rw [← e]; exact hd))]
  exact h1
theorem RowS.put {σ : Nat → Option Blk} {tL : Nat} {ds : List (Option (Nat × Nat))} (h : RowS σ tL ds) {t : Nat} {cells : List V} (ht : t ≠ tL) (hn : ∀ (i n : Nat), ds[i]? = some (some (t, n)) → n ≤ cells.length) : RowS (supd σ t (some ⟨cells, true⟩)) tL ds := by
  refine ⟨?_, fun i u n hi => ?_, h.inj⟩
  · rw [supd_app, if_neg (Ne.symm ht)]; exact h.hd
  · obtain ⟨h1, h2, cs, h3, h4⟩ := h.row i u n hi
    refine ⟨h1, h2, ?_⟩
    by_cases e : u = t
    · subst e
      exact ⟨cells, supd_same _ _ _, hn i n hi⟩
    · exact ⟨cs, by rw [supd_app, if_neg e]; exact h3, h4⟩
theorem RowS.len {σ : Nat → Option Blk} {tL : Nat} {ds : List (Option (Nat × Nat))} (h : RowS σ tL ds) {i : Nat} {d : Option (Nat × Nat)} (hi : ds[i]? = some d) : (ds.map rowOf)[i]? = some (rowOf d) := by
  rw [List.getElem?_map, hi]; rfl

theorem d_cells {cs : List V} {b : Bool} {i : Nat} : dload (some ⟨cs, b⟩) none i = cs[i]? := rfl
theorem t_celln {σ : Nat → Option Blk} {cs : List V} {t i x : Nat} : dstore (some ⟨cs, true⟩) σ t 1 i (nv x) = if i < cs.length then some (supd σ t (some ⟨cs.set i (nv x), true⟩)) else none := by
  have h0 : dstore (some ⟨cs, true⟩) σ t 1 i (nv x) = if true = true ∧ [nv x].length = 1 ∧ i + 1 ≤ cs.length then some (supd σ t (some ⟨putCells cs i [nv x], true⟩)) else none := rfl
  rw [h0]
  by_cases h : i < cs.length
  · rw [if_pos h, if_pos ⟨rfl, rfl, by omega⟩]; rfl
  · rw [if_neg h, if_neg (by omega)]
theorem t_cellb {σ : Nat → Option Blk} {cs : List V} {t i u o m sz : Nat} {cp : Option Nat} : dstore (some ⟨cs, true⟩) σ t 1 i (.buf u o m cp sz) = if i < cs.length then some (supd σ t (some ⟨cs.set i (.buf u o m cp sz), true⟩)) else none := by
  have h0 : dstore (some ⟨cs, true⟩) σ t 1 i (.buf u o m cp sz) = if true = true ∧ [V.buf u o m cp sz].length = 1 ∧ i + 1 ≤ cs.length then some (supd σ t (some ⟨putCells cs i [.buf u o m cp sz], true⟩)) else none := rfl
  rw [h0]
  by_cases h : i < cs.length
  · rw [if_pos h, if_pos ⟨rfl, rfl, by omega⟩]; rfl
  · rw [if_neg h, if_neg (by omega)]

theorem own_mk {P : Program} (hmx : P.follows .mixedOrders = true) {f : FuncId} {fn : Func} {code : Code} {vc : VC} {rs : List VRes} (hf : P.funcs[f]? = some fn) (hb : fn.body = some code) (hvc : resCode P fn.ntmps code = vc) (hrs : resResults P fn.results.toList = some rs)
    (hn : 1 ≤ fn.ntmps) (h : ∀ (cg tL : Nat) (σg : Nat → Option Blk) (bs : List (Option (Nat × Nat))), RowS σg tL bs → bs.length ≤ 1000000 → (∀ (i t n : Nat), bs[i]? = some (some (t, n)) → n ≤ 4398046511104) → (∀ t k, σg t = some k → t < cg) →
      VWP P 0 vc (retQ rs fun r c' => r = .lit (.bool true)) ⟨Go.VM.start [.buf tL 0 bs.length none 1], σg, cg⟩) : OwnSpec P f := by
  intro cg tL σg bs h1 h2 h3 h4
  by_cases hd : ∀ t k, σg t = some k → t < cg
  · obtain ⟨e, S', he, hq⟩ := h cg tL σg bs ⟨h1, fun i t n hi => by
      obtain ⟨q1, q2, q3⟩ := h3 t n (List.mem_of_getElem? hi)
      exact ⟨q1, by omega, q3⟩, fun i j t n m => rows_inj h4⟩ h2 (fun i t n hi => (h3 t n (List.mem_of_getElem? hi)).2.1) hd
    have key : ∀ r, vresult S' rs = some r → (e = .ret ∨ e = .normal) → r = .lit (.bool true) → ∃ σ' c', VCallsG P f 0 cg noBlk σg [.buf tL 0 bs.length none 1] (.lit (.bool true)) σ' c' := fun r hr he' e1 => by
      subst e1
      exact ⟨noBlk, S'.c, vcallsG_of_exec hmx hf hb hvc hrs (by simpa using hn) he he' hr (fun t k h => by cases h) (fun t h => absurd rfl h)⟩
    cases e with
    | normal => rw [retQ_normal] at hq; obtain ⟨r, hr, h1⟩ := hq; exact key r hr (.inr rfl) h1
    | ret => rw [retQ_ret] at hq; obtain ⟨r, hr, h1⟩ := hq; exact key r hr (.inl rfl) h1
    | exit id => unfold retQ at hq; exact hq.elim
  · refine ⟨noBlk, 0, fun w Φ μ μg giv vs hmm => absurd (fun t k hk => ?_) hd⟩
    rcases hmm.dom t k hk with ⟨_, h⟩ | ⟨h, _⟩
    · exact h
    · exact absurd h (Nat.not_lt_zero _)

theorem v_once {P : Program} {c0 : Nat} {b : VC} {S : VS} {Q : VEx → VS → Prop} (h : VWP P c0 b (fun e S' => match e with | .normal => False | e => Q e S') S) : VWP P c0 (.loop b) Q S := by
  refine vwp_loop (fun _ S' => S' = S) 0 rfl ?_
  rintro n S' rfl
  refine vwp_mono h ?_
  intro e S2 h2
  cases e with
  | normal => exact h2.elim
  | exit j => exact h2
  | ret => exact h2

section
variable {P : Program} {dr : Bool} {c0 : Nat} {ρ : Nat → V} {σ : Nat → Option Blk} {c i : Nat} {r : List VO} {K : VS → Prop}
theorem s_bsl5 {x0 x1 x2 x3 x4 : X} {n0 n1 n2 n3 n4 : Nat} (h0 : x0.ev ρ = nv n0) (h1 : x1.ev ρ = nv n1) (h2 : x2.ev ρ = nv n2) (h3 : x3.ev ρ = nv n3) (h4 : x4.ev ρ = nv n4) (hk : wps P dr c0 r ⟨upd ρ i (nats (.id c) [n0, n1, n2, n3, n4]), σ, c + 1⟩ K) :
    wps P dr c0 (⟨some i, .bsl true 1 5 [.int .u64 0] [(0, (1, x0)), (1, (1, x1)), (2, (1, x2)), (3, (1, x3)), (4, (1, x4))], none⟩ :: r) ⟨ρ, σ, c⟩ K := by
  refine s_eff rfl (by intros; exact fun h => by cases h) (by intros; exact fun h => by cases h) ⟨_, _, _, none, .bsl (cs := [nv n0, nv n1, nv n2, nv n3, nv n4]) ?_, hk⟩
  simp only [partsOf, List.map, h0, h1, h2, h3, h4]
  rfl
theorem s_appmvG {x y : X} {t n : Nat} {cap : Option Nat} {cs : List V} {ys : List Nat} {u : Tok} (hx : x.ev ρ = .buf t 0 n cap 1) (ht : σ t = some ⟨cs, true⟩) (h0 : c0 ≤ t) (hy : y.ev ρ = nats u ys) (hn : n ≤ cs.length) (hb : n + ys.length ≤ 8796093022208)
    (hk : wps P dr c0 r ⟨upd (kill (some (.inl t)) ρ) i (.buf t 0 (n + ys.length) none 1), supd (killσ t σ) t (some ⟨(cs.take n).map (killV t) ++ ys.map nv, true⟩), c⟩ K) : wps P dr c0 (⟨some i, .app 1 8 [.int .u64 0] x y, none⟩ :: r) ⟨ρ, σ, c⟩ K := by
  have hc : vcells 1 σ (y.ev ρ) = some (ys.map nv) := by rw [hy]; cases u <;> rfl
  refine s_eff rfl (by intros; exact fun h => by cases h) (by intros; exact fun h => by cases h) ⟨_, _, _, some (.inl t), .appMove (k := ys.length) hx ht h0 hc (by simp) (by omega) (by omega) (by omega), ?_⟩
  have e : ((cs.take (n * 1)) ++ ys.map nv).map (killV t) = (cs.take n).map (killV t) ++ ys.map nv := by
    rw [Nat.mul_one, List.map_append]
    have : (ys.map nv).map (killV t) = ys.map nv := by rw [List.map_map]; rfl
    rw [this]
  rw [e]
  exact hk
end
theorem killed_at (t : Nat) (ρ : Nat → V) (j : Nat) : kill (some (.inl t)) ρ j = killV t (ρ j) := rfl
theorem killed_lit (t : Nat) (v : Value) : killV t (.lit v) = .lit v := rfl
theorem killed_buf {t u o n sz : Nat} {cp : Option Nat} (h : u ≠ t) : killV t (.buf u o n cp sz) = .buf u o n cp sz := by simp [killV, h]
theorem killσ_at {t : Nat} {σ : Nat → Option Blk} {u : Nat} {cs : List V} {b : Bool} (h : σ u = some ⟨cs, b⟩) : killσ t σ u = some ⟨cs.map (killV t), b⟩ := by simp [killσ, h]

def rowLen : Option (Nat × Nat) → Nat
  | none => 0
  | some q => q.2

theorem Holds.kill {σ : Nat → Option Blk} {d : Option (Nat × Nat)} {f : Nat → Nat} (h : Holds σ d f) (t : Nat) : Holds (killσ t σ) d f := fun u n hd => by
  obtain ⟨cells, h1, h2⟩ := h u n hd
  exact ⟨_, killσ_at h1, fun k hk => by rw [List.getElem?_map, h2 k hk]; rfl⟩

theorem set_get {ds : List (Option (Nat × Nat))} {i j : Nat} {d x : Option (Nat × Nat)} (h : (ds.set i x)[j]? = some d) : (j = i ∧ d = x) ∨ (j ≠ i ∧ ds[j]? = some d) := by
  rw [List.getElem?_set] at h
  split at h
  · rename_i e
    split at h
    · exact .inl ⟨e.symm, by cases h; rfl⟩
    · cases h
  · rename_i e; exact .inr ⟨fun q => e q.symm, h⟩

theorem RowS.grow {σ : Nat → Option Blk} {tL : Nat} {ds : List (Option (Nat × Nat))} (h : RowS σ tL ds) {i t m : Nat} (hi : ds[i]? = some (some (t, m))) {cs ys : List V} (hn : (m + 5 ≤ cs.length)) (hm2 : m + 5 ≤ 4398046511200) :
    RowS (supd (supd (killσ t σ) t (some ⟨cs, true⟩)) tL (some ⟨((ds.map rowOf).map (killV t)).set i (.buf t 0 (m + 5) none 1), true⟩)) tL (ds.set i (some (t, m + 5))) := by
  have hne := (h.row i t m hi).1
  have hil : i < ds.length := (List.getElem?_eq_some_iff.1 hi).1
  refine ⟨?_, fun j u n hj => ?_, fun j k u n n' hj hk => ?_⟩
  · rw [supd_same]
    refine congrArg some (congrArg (fun l => (⟨l, true⟩ : Blk)) ?_)
    refine List.ext_getElem? fun j => ?_
    rw [List.map_set, List.getElem?_set, List.getElem?_set]
    simp only [List.length_map]
    by_cases e : i = j
    · subst e; rw [if_pos rfl, if_pos rfl]; rfl
    · rw [if_neg e, if_neg e, List.getElem?_map, List.getElem?_map]
      cases hj : ds[j]? with
      | none => rfl
      | some d =>
        cases d with
        | none => rfl
        | some q =>
          obtain ⟨u, n⟩ := q
          have : u ≠ t := by rintro rfl; exact e (h.inj i j u m n hi hj)
          simp only [Option.map, rowOf, killed_buf this]
  · rcases set_get hj with ⟨rfl, e⟩ | ⟨e, hj2⟩
    · cases e
      exact ⟨hne, hm2, cs, by rw [supd_ne _ _ _ _ hne, supd_same], hn⟩
    · obtain ⟨q1, q2, cells, q3, q4⟩ := h.row j u n hj2
      have : u ≠ t := by rintro rfl; exact e (h.inj j i u n m hj2 hi)
      exact ⟨q1, q2, _, by rw [supd_ne _ _ _ _ q1, supd_ne _ _ _ _ this]; exact killσ_at q3, by simpa using q4⟩
  · rcases set_get hj with ⟨rfl, e⟩ | ⟨e, hj2⟩ <;> rcases set_get hk with ⟨rfl, e'⟩ | ⟨e', hk2⟩
    · rfl
    · cases e; exact absurd (h.inj _ _ _ _ _ hk2 hi) e'
    · cases e'; exact absurd (h.inj _ _ _ _ _ hj2 hi) e
    · exact h.inj _ _ _ _ _ hj2 hk2
theorem RowS.fresh {σ : Nat → Option Blk} {tL : Nat} {ds : List (Option (Nat × Nat))} (h : RowS σ tL ds) {i t : Nat} (hi : ds[i]? = some none) {cs : List V} (hn : (5 ≤ cs.length)) (hd : ∀ u k, σ u = some k → u < t) :
    RowS (supd (supd σ t (some ⟨cs, true⟩)) tL (some ⟨(ds.map rowOf).set i (.buf t 0 5 none 1), true⟩)) tL (ds.set i (some (t, 5))) := by
  have hne : t ≠ tL := fun e => by have := hd tL _ h.hd; omega
  have hil : i < ds.length := (List.getElem?_eq_some_iff.1 hi).1
  have hnew : ∀ (j u n : Nat), ds[j]? = some (some (u, n)) → u ≠ t := fun j u n hj e => by
    obtain ⟨_, _, cells, q, _⟩ := h.row j u n hj
    have := hd u _ q
    omega
  refine ⟨?_, fun j u n hj => ?_, fun j k u n n' hj hk => ?_⟩
  · rw [supd_same]
    refine congrArg some (congrArg (fun l => (⟨l, true⟩ : Blk)) ?_)
    rw [List.map_set]; rfl
  · rcases set_get hj with ⟨rfl, e⟩ | ⟨e, hj2⟩
    · cases e
      exact ⟨hne, by omega, cs, by rw [supd_ne _ _ _ _ hne, supd_same], hn⟩
    · obtain ⟨q1, q2, cells, q3, q4⟩ := h.row j u n hj2
      exact ⟨q1, q2, cells, by rw [supd_ne _ _ _ _ q1, supd_ne _ _ _ _ (hnew j u n hj2)]; exact q3, q4⟩
  · rcases set_get hj with ⟨rfl, e⟩ | ⟨e, hj2⟩ <;> rcases set_get hk with ⟨rfl, e'⟩ | ⟨e', hk2⟩
    · rfl
    · cases e; exact absurd rfl (hnew _ _ _ hk2)
    · cases e'; exact absurd rfl (hnew _ _ _ hj2)
    · exact h.inj _ _ _ _ _ hj2 hk2

def f1 (j : Nat) : Nat → Nat := fun _ => j % 251 + 1
def f2 (j m : Nat) : Nat → Nat := fun k => if k < m then j % 251 + 1 else 300 + 5 * j + (k - m)
def Dom (σ : Nat → Option Blk) (c : Nat) : Prop := ∀ t k, σ t = some k → t < c
theorem Dom.put {σ : Nat → Option Blk} {c : Nat} (h : Dom σ c) {t : Nat} {b : Option Blk} (ht : t < c) : Dom (supd σ t b) c := fun u k hk => by
  rw [supd_app] at hk
  split at hk
  · rename_i e; rw [e]; exact ht
  · exact h u k hk

theorem own_spec : OwnSpec Tryz.prog F.surdref01_Own := by
  refine own_mk hm E.surdref01_Own B.surdref01_Own K.surdref01_Own Q.surdref01_Own (by rw [N.surdref01_Own]; decide) ?_
  unfold C.surdref01_Own R.surdref01_Own
  intro cg tL σg bs hR hlen hsz hcg
  refine xR ?_
  refine v_loop (fun S => S.ρ 0 = .buf tL 0 bs.length none 1 ∧ RowS S.σ tL bs ∧ (∀ (j : Nat) d, bs[j]? = some d → Holds S.σ d (f1 j)) ∧ Dom S.σ S.c) ?_ ?_
  · refine vwp_loop (fun k S => ∃ i, k = bs.length - i ∧ i ≤ bs.length ∧ S.ρ 0 = .buf tL 0 bs.length none 1 ∧ S.ρ 13 = .buf tL 0 bs.length none 1 ∧ S.ρ 14 = iv (bs.length : Int) ∧ S.ρ 15 = iv (i : Int) ∧ RowS S.σ tL bs ∧ (∀ (j : Nat) d, j < i → bs[j]? = some d → Holds S.σ d (f1 j)) ∧ Dom S.σ S.c) bs.length ?_ ?_
    · exact ⟨0, rfl, Nat.zero_le _, rfl, rfl, rfl, rfl, hR, fun j d h => absurd h (Nat.not_lt_zero _), hcg⟩
    rintro k ⟨ρ2, σ, c2⟩ ⟨i, hk, hin, h0, h13, h14, h15, hR, hH, hc⟩
    dsimp only at h0 h13 h14 h15 hR hH hc
    by_cases g : (i : Int) < bs.length
    · have hil : i < bs.length := by omega
      have hdi := List.getElem?_eq_getElem hil
      have hdr := hR.len hdi
      have hL := hR.hd
      cases hd : bs[i] with
      | none =>
        rw [hd] at hdi hdr
        simp only [rowOf] at hdr
        have z0 : ¬ (0 : Int) < 0 := by decide
        have e1 : (i : Int) + 1 = ((i + 1 : Nat) : Int) := by omega
        refine xRF (jn h0 (jn h13 (jn h14 (jn h15 (jn g (jn hL (jn @d_cells (jn hdr @l_nil)))))))) ?_
        refine v_once ?_
        refine xRF (jn z0 (jn h0 (jn h13 (jn h14 (jn h15 e1))))) ?_
        have a1 : ∀ (j : Nat) d, j < i + 1 → bs[j]? = some d → Holds σ d (f1 j) := fun j d hj hjd => by
          by_cases e : j = i
          · subst e; rw [hdi] at hjd; cases hjd; exact Holds.none
          · exact hH j d (by omega) hjd
        refine ⟨bs.length - (i + 1), by omega, i + 1, ?_⟩
        (repeat' apply And.intro) <;> first | rfl | omega | assumption | exact a1
      | some q =>
        obtain ⟨t, m⟩ := q
        rw [hd] at hdi hdr
        simp only [rowOf] at hdr
        have e1 : (i : Int) + 1 = ((i + 1 : Nat) : Int) := by omega
        have hm2 := hsz i t m hdi
        refine xRF (jn h0 (jn h13 (jn h14 (jn h15 (jn g (jn hL (jn @d_cells hdr))))))) ?_
        refine vwp_mono (Q := fun e S => e = .exit 2 ∧ S.ρ 0 = .buf tL 0 bs.length none 1 ∧ S.ρ 13 = .buf tL 0 bs.length none 1 ∧ S.ρ 14 = iv (bs.length : Int) ∧ S.ρ 15 = iv (i : Int) ∧ RowS S.σ tL bs ∧ (∀ (j : Nat) d, j < i + 1 → bs[j]? = some d → Holds S.σ d (f1 j)) ∧ Dom S.σ S.c) ?_ ?_
        · refine vwp_loop (fun k2 S => ∃ q, k2 = m - q ∧ q ≤ m ∧ S.ρ 0 = .buf tL 0 bs.length none 1 ∧ S.ρ 13 = .buf tL 0 bs.length none 1 ∧ S.ρ 14 = iv (bs.length : Int) ∧ S.ρ 15 = iv (i : Int) ∧ S.ρ 3 = iv (i : Int) ∧ S.ρ 4 = .buf t 0 m none 1 ∧ S.ρ 21 = iv (m : Int) ∧ S.ρ 22 = iv (q : Int) ∧ RowS S.σ tL bs ∧ (∀ (j : Nat) d, j < i → bs[j]? = some d → Holds S.σ d (f1 j)) ∧ Dom S.σ S.c ∧ Holds S.σ (some (t, q)) (f1 i)) m ?_ ?_
          · refine ⟨0, rfl, Nat.zero_le _, ?_⟩
            refine xSF (jn h0 (jn h13 (jn h14 h15))) ?_
            obtain ⟨_, _, cells, q3, q4⟩ := hR.row i t m hdi
            have a1 : Holds σ (some (t, 0)) (f1 i) := fun u n h => by cases h; exact ⟨cells, q3, fun k hk => absurd hk (Nat.not_lt_zero _)⟩
            (repeat' apply And.intro) <;> first | rfl | omega | assumption | exact hR | exact hH | exact hc | exact a1
          rintro k2 ⟨ρ3, σ3, c3⟩ ⟨q, hk2, hq, h0, h13, h14, h15, h3, h4, h21, h22, hR3, hH3, hc3, hq3⟩
          dsimp only at h0 h13 h14 h15 h3 h4 h21 h22 hR3 hH3 hc3 hq3
          by_cases g2 : (q : Int) < m
          · obtain ⟨htL, _, cells, q3, q4⟩ := hR3.row i t m hdi
            obtain ⟨cells', q3', q5⟩ := hq3 t q rfl
            obtain rfl : cells' = cells := by rw [q3] at q3'; cases q3'; rfl
            have hql : q < cells'.length := by omega
            have e2 : ((i : Int) % 251 + 1).toNat = i % 251 + 1 := by omega
            have e3 : (q : Int) + 1 = ((q + 1 : Nat) : Int) := by omega
            refine xRF (jn h0 (jn h13 (jn h14 (jn h15 (jn h3 (jn h4 (jn h21 (jn h22 (jn g2 (jn e2 (jn q3 (jn @t_celln (jn hql e3))))))))))))) ?_
            have a1 := hR3.put (cells := cells'.set q (nv (i % 251 + 1))) htL (fun j n hj => by rw [List.length_set]; have := hR3.inj i j t m n hdi hj; subst this; rw [hdi] at hj; cases hj; exact q4)
            have a2 : ∀ (j : Nat) d, j < i → bs[j]? = some d → Holds (supd σ3 t (some ⟨cells'.set q (nv (i % 251 + 1)), true⟩)) d (f1 j) := fun j d hj hjd => (hH3 j d hj hjd).put (fun n e => by subst e; have := hR3.inj i j t m n hdi hjd; omega)
            have a3 := hc3.put (b := some ⟨cells'.set q (nv (i % 251 + 1)), true⟩) (hc3 _ _ q3)
            have a4 : Holds (supd σ3 t (some ⟨cells'.set q (nv (i % 251 + 1)), true⟩)) (some (t, q + 1)) (f1 i) := fun u n h => by
              cases h
              refine ⟨_, supd_same _ _ _, fun k hk => ?_⟩
              rw [List.getElem?_set]
              by_cases e : q = k
              · subst e; rw [if_pos rfl, if_pos hql]; rfl
              · rw [if_neg e]; exact q5 k (by omega)
            refine ⟨m - (q + 1), by omega, q + 1, ?_⟩
            (repeat' apply And.intro) <;> first | rfl | omega | assumption | exact a4
          · have hqm : q = m := by omega
            refine xRF (jn h0 (jn h13 (jn h14 (jn h15 (jn h3 (jn h4 (jn h21 (jn h22 g2)))))))) ?_
            refine ⟨fun j d hj hjd => ?_, hc3⟩
            by_cases e : j = i
            · subst e; rw [hdi] at hjd; cases hjd; rw [← hqm]; exact hq3
            · exact hH3 j d (by omega) hjd
        · rintro _ ⟨ρ3, σ3, c3⟩ ⟨rfl, h0, h13, h14, h15, hR3, hH3, hc3⟩
          dsimp only at h0 h13 h14 h15 hR3 hH3 hc3
          refine xRF (jn h0 (jn h13 (jn h14 (jn h15 e1)))) ?_
          refine ⟨bs.length - (i + 1), by omega, i + 1, ?_⟩
          (repeat' apply And.intro) <;> first | rfl | omega | assumption | exact hc3
    · refine xRF (jn h0 (jn h13 (jn h14 (jn h15 g)))) ?_
      exact ⟨fun j d hj => hH j d (by have := (List.getElem?_eq_some_iff.1 hj).1; omega) hj, hc⟩
  rintro ⟨ρ2, σ2, c2⟩ ⟨h0, hR2, hH2, hc2⟩
  dsimp only at h0 hR2 hH2 hc2
  refine xRF h0 ?_
  refine v_loop (fun S => S.ρ 0 = .buf tL 0 bs.length none 1 ∧ ∃ ds, ds.length = bs.length ∧ RowS S.σ tL ds ∧ (∀ (j : Nat), j < bs.length → ∃ t, ds[j]? = some (some (t, rowLen (bs.getD j none) + 5)) ∧ Holds S.σ (some (t, rowLen (bs.getD j none) + 5)) (f2 j (rowLen (bs.getD j none)))) ∧ Dom S.σ S.c) ?_ ?_
  · refine vwp_loop (fun k S => ∃ i, k = bs.length - i ∧ i ≤ bs.length ∧ S.ρ 0 = .buf tL 0 bs.length none 1 ∧ S.ρ 34 = .buf tL 0 bs.length none 1 ∧ S.ρ 35 = iv (bs.length : Int) ∧ S.ρ 36 = iv (i : Int) ∧ ∃ ds, ds.length = bs.length ∧ RowS S.σ tL ds ∧
      (∀ (j : Nat), j < i → ∃ t, ds[j]? = some (some (t, rowLen (bs.getD j none) + 5)) ∧ Holds S.σ (some (t, rowLen (bs.getD j none) + 5)) (f2 j (rowLen (bs.getD j none)))) ∧
      (∀ (j : Nat) d, i ≤ j → bs[j]? = some d → ds[j]? = some d ∧ Holds S.σ d (f1 j)) ∧ Dom S.σ S.c) bs.length ?_ ?_
    · exact ⟨0, rfl, Nat.zero_le _, h0, rfl, rfl, rfl, bs, rfl, hR2, fun j h => absurd h (Nat.not_lt_zero _), fun j d _ h => ⟨h, hH2 j d h⟩, hc2⟩
    rintro k ⟨ρ3, σ, c3⟩ ⟨i, hk, hin, h0, h34, h35, h36, ds, hdl, hR, hA, hB, hc⟩
    dsimp only at h0 h34 h35 h36 hR hA hB hc
    by_cases g : (i : Int) < bs.length
    · have hil : i < bs.length := by omega
      have hbi := List.getElem?_eq_getElem hil
      obtain ⟨hdi, hHi⟩ := hB i _ (Nat.le_refl _) hbi
      have hdr := hR.len hdi
      have hL := hR.hd
      have e1 : (i : Int) + 1 = ((i + 1 : Nat) : Int) := by omega
      have e2 : (300 + 5 * (i : Int)).toNat = 300 + 5 * i := by omega
      have m1 : (300 + 5 * i + 1) % 18446744073709551616 = 300 + 5 * i + 1 := Nat.mod_eq_of_lt (by omega)
      have m2 : (300 + 5 * i + 2) % 18446744073709551616 = 300 + 5 * i + 2 := Nat.mod_eq_of_lt (by omega)
      have m3 : (300 + 5 * i + 3) % 18446744073709551616 = 300 + 5 * i + 3 := Nat.mod_eq_of_lt (by omega)
      have m4 : (300 + 5 * i + 4) % 18446744073709551616 = 300 + 5 * i + 4 := Nat.mod_eq_of_lt (by omega)
      obtain ⟨ys, hys⟩ : ∃ ys, ys = [300 + 5 * i, 300 + 5 * i + 1, 300 + 5 * i + 2, 300 + 5 * i + 3, 300 + 5 * i + 4] := ⟨_, rfl⟩
      have hyl : ys.length = 5 := by rw [hys]; rfl
      have hyk : ∀ k, k < 5 → (ys.map nv)[k]? = some (nv (300 + 5 * i + k)) := fun k hk => by
        rw [hys]
        match k, hk with
        | 0, _ => rfl
        | 1, _ => rfl
        | 2, _ => rfl
        | 3, _ => rfl
        | 4, _ => rfl
      cases hd : bs[i] with
      | none =>
        rw [hd] at hdi hdr hbi hHi
        simp only [rowOf] at hdr
        have hrl : rowLen (bs.getD i none) = 0 := by rw [List.getD_eq_getElem?_getD, hbi]; rfl
        refine xRF (jn h0 (jn h34 (jn h35 (jn h36 (jn g (jn hL (jn @d_cells (jn hdr (jn e2 (jn m1 (jn m2 (jn m3 m4)))))))))))) ?_
        refine s_bsl5 (n0 := 300 + 5 * i) (n1 := 300 + 5 * i + 1) (n2 := 300 + 5 * i + 2) (n3 := 300 + 5 * i + 3) (n4 := 300 + 5 * i + 4) yS yS yS yS yS ?_
        rw [← hys]
        refine s_app0 (t := .id c3) (l := ys) yS yS (by omega) (fun e => by rw [e] at hyl; cases hyl) (fun _ => ?_)
        have htL : tL ≠ c3 + 1 := fun e => by have := hc tL _ hL; omega
        have hil2 : i < (ds.map rowOf).length := by rw [List.length_map, hdl]; exact hil
        refine xRF (jn h0 (jn h34 (jn h35 (jn h36 (jn hL (jn htL (jn @t_cellb (jn hil2 (jn hyl e1))))))))) ?_
        have a1 := hR.fresh (t := c3 + 1) (cs := ys.map nv) hdi (by simp [hyl]) (fun u k hk => by have := hc u k hk; omega)
        have a3 : ∀ (j u n n' : Nat) (f : Nat → Nat), ds[j]? = some (some (u, n)) → Holds σ (some (u, n')) f → Holds (supd (supd σ (c3 + 1) (nblk ys)) tL (some ⟨(ds.map rowOf).set i (.buf (c3 + 1) 0 5 none 1), true⟩)) (some (u, n')) f := fun j u n n' f h hf => by
          obtain ⟨q1, _, cells, q3, _⟩ := hR.row j u n h
          have q4 : u ≠ c3 + 1 := fun e => by have := hc u _ q3; omega
          exact (hf.put (fun x e => q4 (by cases e; rfl))).put (fun x e => q1 (by cases e; rfl))
        have a4 : Holds (supd (supd σ (c3 + 1) (nblk ys)) tL (some ⟨(ds.map rowOf).set i (.buf (c3 + 1) 0 5 none 1), true⟩)) (some (c3 + 1, 0 + 5)) (f2 i 0) := fun u n e => by
          cases e
          refine ⟨_, by rw [supd_ne _ _ _ _ (Ne.symm htL), supd_same], fun k hk => ?_⟩
          rw [hyk k (by omega)]
          rfl
        refine ⟨bs.length - (i + 1), by omega, i + 1, rfl, by omega, rfl, ds.set i (some (c3 + 1, 5)), by rw [List.length_set, hdl], a1, fun j hj => ?_, fun j d hj hjd => ?_, ?_⟩
        · by_cases e : j = i
          · subst e
            rw [hrl]
            exact ⟨c3 + 1, by rw [List.getElem?_set_self (by omega)], a4⟩
          · obtain ⟨u, q1, q2⟩ := hA j (by omega)
            exact ⟨u, by rw [List.getElem?_set_ne (Ne.symm e)]; exact q1, a3 j u _ _ _ q1 q2⟩
        · obtain ⟨q1, q2⟩ := hB j d (by omega) hjd
          refine ⟨by rw [List.getElem?_set_ne (by omega)]; exact q1, ?_⟩
          cases d with
          | none => exact Holds.none
          | some q => obtain ⟨u, n⟩ := q; exact a3 j u n n _ q1 q2
        · have hc' : Dom σ (c3 + 1 + 1) := fun u k hk => by have := hc u k hk; omega
          exact (hc'.put (by omega)).put (by have := hc tL _ hL; omega)
      | some q =>
        obtain ⟨t, m⟩ := q
        rw [hd] at hdi hdr hbi hHi
        simp only [rowOf] at hdr
        have hrl : rowLen (bs.getD i none) = m := by rw [List.getD_eq_getElem?_getD, hbi]; rfl
        have hm2 := hsz i t m hbi
        obtain ⟨htL, _, cells, q3, q4⟩ := hR.row i t m hdi
        refine xRF (jn h0 (jn h34 (jn h35 (jn h36 (jn g (jn hL (jn @d_cells (jn hdr (jn e2 (jn m1 (jn m2 (jn m3 m4)))))))))))) ?_
        refine s_bsl5 (n0 := 300 + 5 * i) (n1 := 300 + 5 * i + 1) (n2 := 300 + 5 * i + 2) (n3 := 300 + 5 * i + 3) (n4 := 300 + 5 * i + 4) yS yS yS yS yS ?_
        rw [← hys]
        refine s_appmvG (t := t) (n := m) (cap := none) (cs := cells) (u := .id c3) (ys := ys) yS q3 (Nat.zero_le _) yS q4 (by omega) ?_
        have hil2 : i < ((ds.map rowOf).map (killV t)).length := by rw [List.length_map, List.length_map, hdl]; exact hil
        have hL2 : killσ t σ tL = some ⟨(ds.map rowOf).map (killV t), true⟩ := killσ_at hL
        have hkb : killV t (.buf tL 0 bs.length none 1) = .buf tL 0 bs.length none 1 := killed_buf (Ne.symm htL)
        (repeat (first | refine v_reg ?_ | refine v_last ?_ | refine vwp_seq ?_ | refine vwp_block ?_ | refine vwp_skip ?_ | refine vwp_exit ?_ | refine vwp_ret ?_ | refine v_cond ?_ | simp only [vm, ite_true, ite_false, eq_self, reduceIte, Nat.reduceEqDiff, Option.map, h0, h34, h35, h36, hL2, htL, Ne.symm htL, t_cellb, hil2, hyl, e1, killed_at, killed_lit, hkb] | refine And.intro (by omega) ?_))
        obtain ⟨cs2, hcs2⟩ : ∃ x, x = List.map (killV t) (List.take m cells) ++ List.map nv ys := ⟨_, rfl⟩
        have hcl : m + 5 ≤ cs2.length := by rw [hcs2]; simp [hyl]; omega
        rw [← hcs2]
        have a1 := hR.grow hdi (cs := cs2) (ys := []) hcl (by omega)
        have a3 : ∀ (j u n n' : Nat) (f : Nat → Nat), j ≠ i → ds[j]? = some (some (u, n)) → Holds σ (some (u, n')) f → Holds (supd (supd (killσ t σ) t (some ⟨cs2, true⟩)) tL (some ⟨((ds.map rowOf).map (killV t)).set i (.buf t 0 (m + 5) none 1), true⟩)) (some (u, n')) f := fun j u n n' f hj h hf => by
          obtain ⟨q1, _, cells, q3, _⟩ := hR.row j u n h
          have q4 : u ≠ t := fun e => by subst e; exact hj (hR.inj _ _ _ _ _ h hdi)
          exact ((hf.kill t).put (fun x e => q4 (by cases e; rfl))).put (fun x e => q1 (by cases e; rfl))
        have a4 : Holds (supd (supd (killσ t σ) t (some ⟨cs2, true⟩)) tL (some ⟨((ds.map rowOf).map (killV t)).set i (.buf t 0 (m + 5) none 1), true⟩)) (some (t, m + 5)) (f2 i m) := fun u n e => by
          cases e
          refine ⟨_, by rw [supd_ne _ _ _ _ htL, supd_same], fun k hk => ?_⟩
          obtain ⟨cells', g3, g4⟩ := hHi t m rfl
          obtain rfl : cells' = cells := by rw [q3] at g3; cases g3; rfl
          rw [hcs2]
          by_cases g5 : k < m
          · rw [List.getElem?_append_left (by simp; omega), List.getElem?_map, List.getElem?_take, if_pos g5, g4 k g5]
            unfold f1 f2
            rw [if_pos g5]; rfl
          · rw [List.getElem?_append_right (by simp; omega)]
            have e5 : ((cells'.take m).map (killV t)).length = m := by simp; omega
            rw [e5, hyk (k - m) (by omega)]
            unfold f2
            rw [if_neg g5]
        refine ⟨bs.length - (i + 1), by omega, i + 1, rfl, by omega, rfl, ds.set i (some (t, m + 5)), by rw [List.length_set, hdl], a1, fun j hj => ?_, fun j d hj hjd => ?_, ?_⟩
        · by_cases e : j = i
          · subst e
            rw [hrl]
            exact ⟨t, by rw [List.getElem?_set_self (by omega)], a4⟩
          · obtain ⟨u, q1, q2⟩ := hA j (by omega)
            exact ⟨u, by rw [List.getElem?_set_ne (Ne.symm e)]; exact q1, a3 j u _ _ _ e q1 q2⟩
        · obtain ⟨q1, q2⟩ := hB j d (by omega) hjd
          refine ⟨by rw [List.getElem?_set_ne (by omega)]; exact q1, ?_⟩
          cases d with
          | none => exact Holds.none
          | some q => obtain ⟨u, n⟩ := q; exact a3 j u n n _ (by omega) q1 q2
        · have hc' : Dom (killσ t σ) (c3 + 1) := fun u k hk => by
            obtain ⟨k', hk', _⟩ := Option.map_eq_some_iff.1 hk
            have := hc u k' hk'
            omega
          exact (hc'.put (by have := hc t _ q3; omega)).put (by have := hc tL _ hL; omega)
    · have hin2 : i = bs.length := by omega
      subst hin2
      refine xRF (jn h0 (jn h34 (jn h35 (jn h36 g)))) ?_
      exact ⟨ds, hdl, hR, hA, hc⟩
  rintro ⟨ρ3, σ3, c3⟩ ⟨h0, ds, hdl, hR3, hH3, hc3⟩
  dsimp only at h0 hR3 hH3 hc3
  refine xRF h0 ?_
  refine v_loop (fun S => True) ?_ ?_
  · refine vwp_loop (fun k S => ∃ i, k = bs.length - i ∧ i ≤ bs.length ∧ S.ρ 62 = .buf tL 0 bs.length none 1 ∧ S.ρ 63 = iv (bs.length : Int) ∧ S.ρ 64 = iv (i : Int) ∧ S.σ = σ3) bs.length ?_ ?_
    · exact ⟨0, rfl, Nat.zero_le _, rfl, rfl, rfl, rfl⟩
    rintro k ⟨ρ4, σ, c4⟩ ⟨i, hk, hin, h62, h63, h64, hσ⟩
    dsimp only at h62 h63 h64 hσ
    subst hσ
    by_cases g : (i : Int) < bs.length
    · obtain ⟨t, hdi, hHi⟩ := hH3 i (by omega)
      obtain ⟨m, hm0⟩ : ∃ m, m = rowLen (bs.getD i none) := ⟨_, rfl⟩
      rw [← hm0] at hdi hHi
      obtain ⟨M5, hM5⟩ : ∃ x, x = m + 5 := ⟨_, rfl⟩
      rw [← hM5] at hdi hHi
      have hdr := hR3.len hdi
      simp only [rowOf] at hdr
      have hL := hR3.hd
      obtain ⟨htL, hmb, _⟩ := hR3.row i t M5 hdi
      obtain ⟨cells, q3, q4⟩ := hHi t M5 rfl
      have e1 : (i : Int) + 1 = ((i + 1 : Nat) : Int) := by omega
      refine xRF (jn h62 (jn h63 (jn h64 (jn g (jn hL (jn @d_cells hdr)))))) ?_
      refine vwp_mono (Q := fun e S => e = .exit 8 ∧ S.ρ 62 = .buf tL 0 bs.length none 1 ∧ S.ρ 63 = iv (bs.length : Int) ∧ S.ρ 64 = iv (i : Int) ∧ S.σ = σ) ?_ ?_
      · refine vwp_loop (fun k2 S => ∃ q, k2 = M5 - q ∧ q ≤ M5 ∧ S.ρ 62 = .buf tL 0 bs.length none 1 ∧ S.ρ 63 = iv (bs.length : Int) ∧ S.ρ 64 = iv (i : Int) ∧ S.ρ 9 = iv (i : Int) ∧ S.ρ 10 = .buf t 0 M5 none 1 ∧ S.ρ 69 = .buf t 0 M5 none 1 ∧ S.ρ 70 = iv (M5 : Int) ∧ S.ρ 71 = iv (q : Int) ∧ S.σ = σ) M5 ?_ ?_
        · refine ⟨0, rfl, Nat.zero_le _, ?_⟩
          refine xSF (jn h62 (jn h63 h64)) ?_
          (repeat' apply And.intro) <;> first | rfl | omega | assumption | exact True.intro
        rintro k2 ⟨ρ5, σ5, c5⟩ ⟨q, hk2, hq, h62, h63, h64, h9, h10, h69, h70, h71, hσ⟩
        dsimp only at h62 h63 h64 h9 h10 h69 h70 h71 hσ
        subst hσ
        have e3 : (q : Int) + 1 = ((q + 1 : Nat) : Int) := by omega
        by_cases g2 : (q : Int) < M5
        · have hv := q4 q (by omega)
          unfold f2 at hv
          by_cases g3 : (q : Int) < (M5 : Int) - 5
          · have g4 : ¬ ((M5 : Int) - 5 ≤ q) := by omega
            rw [if_pos (by omega)] at hv
            have e2 : ((i : Int) % 251 + 1).toNat = i % 251 + 1 := by omega
            refine xRF (jn h62 (jn h63 (jn h64 (jn h9 (jn h10 (jn h69 (jn h70 (jn h71 (jn g2 (jn g3 (jn g4 (jn e2 (jn q3 (jn @d_cells (jn hv e3))))))))))))))) ?_
            exact ⟨M5 - (q + 1), by omega, q + 1, rfl, by omega, rfl⟩
          · have g4 : (M5 : Int) - 5 ≤ q := by omega
            rw [if_neg (by omega)] at hv
            have e2 : (300 + 5 * (i : Int) + q - M5 + 5).toNat = 300 + 5 * i + (q - m) := by omega
            refine xRF (jn h62 (jn h63 (jn h64 (jn h9 (jn h10 (jn h69 (jn h70 (jn h71 (jn g2 (jn g3 (jn g4 (jn e2 (jn q3 (jn @d_cells (jn hv e3))))))))))))))) ?_
            exact ⟨M5 - (q + 1), by omega, q + 1, rfl, by omega, rfl⟩
        · (repeat (first | refine v_reg ?_ | refine v_last ?_ | refine vwp_seq ?_ | refine vwp_block ?_ | refine vwp_skip ?_ | refine vwp_exit ?_ | refine vwp_ret ?_ | refine v_cond ?_ | simp only [vm, ite_true, ite_false, eq_self, reduceIte, Nat.reduceEqDiff, Option.map, h62, h63, h64, h9, h10, h69, h70, h71, g2] | refine And.intro (by omega) ?_))
      · rintro _ ⟨ρ5, σ5, c5⟩ ⟨rfl, h62, h63, h64, hσ⟩
        dsimp only at h62 h63 h64 hσ
        subst hσ
        refine xRF (jn h62 (jn h63 (jn h64 e1))) ?_
        refine ⟨bs.length - (i + 1), by omega, i + 1, ?_⟩
        (repeat' apply And.intro) <;> first | rfl | omega | assumption | exact True.intro
    · (repeat (first | refine v_reg ?_ | refine v_last ?_ | refine vwp_seq ?_ | refine vwp_block ?_ | refine vwp_skip ?_ | refine vwp_exit ?_ | refine vwp_ret ?_ | refine v_cond ?_ | simp only [vm, ite_true, ite_false, eq_self, reduceIte, Nat.reduceEqDiff, Option.map, h62, h63, h64, g] | refine And.intro (by omega) ?_))
  rintro ⟨ρ4, σ4, c4⟩ _
  (repeat (first | refine v_reg ?_ | refine v_last ?_ | refine vwp_seq ?_ | refine vwp_block ?_ | refine vwp_skip ?_ | refine vwp_exit ?_ | refine vwp_ret ?_ | refine v_cond ?_ | simp only [vm, ite_true, ite_false, eq_self, reduceIte, Nat.reduceEqDiff, Option.map] | refine And.intro (by omega) ?_))
end Go.Proofs.YtplofcianjnkmaaGreatDoor
set_option linter.unusedSimpArgs false
set_option linter.unusedVariables false
set_option maxRecDepth 100000
set_option maxHeartbeats 4000000
namespace Go.Proofs.YtplofcianjnkmaaGreatDoor
open Go.VM

theorem len64_spec (x c : Nat) (hx : x < 18446744073709551616) : VSpec Tryz.prog F.bits_Len64 c [nv x] (fun r _ => r = iv (bl x)) := by
  refine spec_mk hm E.bits_Len64 B.bits_Len64 K.bits_Len64 Q.bits_Len64 (by rw [N.bits_Len64]; simp) ?_
  unfold C.bits_Len64 R.bits_Len64
  refine v_reg ?_
  simp only [vm, ite_true, ite_false, eq_self, reduceIte, Nat.reduceEqDiff, Option.map]
  refine v_cut (fun S => ∃ n y : Nat, S.ρ 0 = nv y ∧ S.ρ 2 = iv n ∧ y < 4294967296 ∧ bl x = n + bl y ∧ n ≤ 32 ∧ S.σ = noBlk ∧ S.c = c) ?_ ?_
  · refine v_reg ?_
    simp only [vm, ite_true, ite_false, eq_self, reduceIte, Nat.reduceEqDiff, Option.map]
    refine v_cond ?_
    simp only [vm, ite_true, ite_false, eq_self, reduceIte, Nat.reduceEqDiff, Option.map]
    refine ⟨fun g => v_reg ?_, fun g => vwp_skip ⟨rfl, 0, x, ?_⟩⟩
    · simp only [vm, ite_true, ite_false, eq_self, reduceIte, Nat.reduceEqDiff, Option.map]
      refine v_last ?_
      simp only [vm, ite_true, ite_false, eq_self, reduceIte, Nat.reduceEqDiff, Option.map]
      exact ⟨32, x / 4294967296, rfl, rfl, by omega, bl_shift (k := 32) g, by omega⟩
    · simp only [vm, ite_true, ite_false, eq_self, reduceIte, Nat.reduceEqDiff, Option.map]
      exact ⟨rfl, by omega, by omega⟩
  rintro ⟨ρ, σ, k⟩ ⟨n, y, h0, h2, hy, hb, hn, rfl, rfl⟩
  dsimp only at h0 h2
  refine v_cut (fun S => ∃ n y : Nat, S.ρ 0 = nv y ∧ S.ρ 2 = iv n ∧ y < 65536 ∧ bl x = n + bl y ∧ n ≤ 48 ∧ S.σ = noBlk ∧ S.c = k) ?_ ?_
  · refine v_reg ?_
    simp only [vm, ite_true, ite_false, eq_self, reduceIte, Nat.reduceEqDiff, Option.map, h0, h2]
    refine v_cond ?_
    simp only [vm, ite_true, ite_false, eq_self, reduceIte, Nat.reduceEqDiff, Option.map]
    refine ⟨fun g => v_reg ?_, fun g => vwp_skip ⟨rfl, n, y, ?_⟩⟩
    · simp only [vm, ite_true, ite_false, eq_self, reduceIte, Nat.reduceEqDiff, Option.map, h0, h2]
      refine v_last ?_
      simp only [vm, ite_true, ite_false, eq_self, reduceIte, Nat.reduceEqDiff, Option.map, h0, h2]
      refine ⟨by omega, n + 16, y / 65536, rfl, rfl, by omega, ?_, by omega⟩
      rw [hb, bl_shift (k := 16) g, Nat.add_assoc]
    · simp only [vm, ite_true, ite_false, eq_self, reduceIte, Nat.reduceEqDiff, Option.map, h0, h2]
      exact ⟨by omega, hb, by omega⟩
  rintro ⟨ρ, σ, k⟩ ⟨n, y, h0, h2, hy, hb, hn, rfl, rfl⟩
  dsimp only at h0 h2
  refine v_cut (fun S => ∃ n y : Nat, S.ρ 0 = nv y ∧ S.ρ 2 = iv n ∧ y < 256 ∧ bl x = n + bl y ∧ n ≤ 56 ∧ S.σ = noBlk ∧ S.c = k) ?_ ?_
  · refine v_reg ?_
    simp only [vm, ite_true, ite_false, eq_self, reduceIte, Nat.reduceEqDiff, Option.map, h0, h2]
    refine v_cond ?_
    simp only [vm, ite_true, ite_false, eq_self, reduceIte, Nat.reduceEqDiff, Option.map]
    refine ⟨fun g => v_reg ?_, fun g => vwp_skip ⟨rfl, n, y, ?_⟩⟩
    · simp only [vm, ite_true, ite_false, eq_self, reduceIte, Nat.reduceEqDiff, Option.map, h0, h2]
      refine v_last ?_
      simp only [vm, ite_true, ite_false, eq_self, reduceIte, Nat.reduceEqDiff, Option.map, h0, h2]
      refine ⟨by omega, n + 8, y / 256, rfl, rfl, by omega, ?_, by omega⟩
      rw [hb, bl_shift (k := 8) g, Nat.add_assoc]
    · simp only [vm, ite_true, ite_false, eq_self, reduceIte, Nat.reduceEqDiff, Option.map, h0, h2]
      exact ⟨by omega, hb, by omega⟩
  rintro ⟨ρ, σ, k⟩ ⟨n, y, h0, h2, hy, hb, hn, rfl, rfl⟩
  dsimp only at h0 h2
  have h8 : bl y ≤ 8 := bl_le hy
  refine v_reg ?_
  simp only [vm, ite_true, ite_false, eq_self, reduceIte, Nat.reduceEqDiff, Option.map, h0, h2, Nat.mod_eq_of_lt hy]
  rw [six_tab (blTab_at (by decide +kernel) hy)]
  simp only [vm, ite_true, ite_false, eq_self, reduceIte, Nat.reduceEqDiff, Option.map, h0, h2, c_8i (n := bl y) (by omega)]
  refine ⟨by omega, vwp_ret ?_⟩
  simp only [vm, ite_true, ite_false, eq_self, reduceIte, Nat.reduceEqDiff, Option.map]
  refine ⟨Nat.le_refl _, ?_⟩
  rw [hb]; rfl

theorem length_spec (t : Tok) (l : List Nat) (c : Nat) (hl : Lim 18446744073709551616 l) (hn : l.length ≤ 4398046511104) : VSpec Tryz.prog F.nat_Length c [nats t l] (fun r _ => r = iv (bl (val 18446744073709551616 l))) := by
  refine spec_mk hm E.nat_Length B.nat_Length K.nat_Length Q.nat_Length (by rw [N.nat_Length]; simp) ?_
  unfold C.nat_Length R.nat_Length
  refine v_reg ?_
  simp only [vm, ite_true, ite_false, eq_self, reduceIte, Nat.reduceEqDiff, Option.map]
  refine v_reg ?_
  simp only [vm, ite_true, ite_false, eq_self, reduceIte, Nat.reduceEqDiff, Option.map]
  refine s_call (trim_spec t l c hl hn) (by simp only [vm, ite_true, ite_false, eq_self, reduceIte, Nat.reduceEqDiff, Option.map, List.map]) ?_
  rintro v c' hc rfl
  have hlen := digs_len_le two64 hl
  simp only [vm, ite_true, ite_false, eq_self, reduceIte, Nat.reduceEqDiff, Option.map]
  refine vwp_seq (v_reg ?_)
  simp only [vm, ite_true, ite_false, eq_self, reduceIte, Nat.reduceEqDiff, Option.map]
  refine v_cond ?_
  simp only [vm, ite_true, ite_false, eq_self, reduceIte, Nat.reduceEqDiff, Option.map]
  refine ⟨fun g => v_reg ?_, fun g => vwp_skip ?_⟩
  · simp only [vm, ite_true, ite_false, eq_self, reduceIte, Nat.reduceEqDiff, Option.map]
    refine vwp_ret ?_
    simp only [vm, ite_true, ite_false, eq_self, reduceIte, Nat.reduceEqDiff, Option.map]
    have e : digs 18446744073709551616 (val 18446744073709551616 l) = [] := List.eq_nil_of_length_eq_zero (by omega)
    rw [(digs_eq_nil two64).1 e]
    exact ⟨hc, rfl⟩
  · simp only [vm, ite_true, ite_false, eq_self, reduceIte, Nat.reduceEqDiff, Option.map]
    obtain ⟨m, x, e⟩ := snoc_of_ne (l := digs 18446744073709551616 (val 18446744073709551616 l)) (fun e => g (by rw [e]; rfl))
    obtain ⟨h1, h2, h3⟩ := bl_digs64 e
    rw [e] at hlen ⊢
    have e1 : ((m ++ [x]).length - 1 : Int).toNat = m.length := by simp
    have e2 : (m ++ [x]).length = m.length + 1 := by simp
    refine v_reg ?_
    simp only [vm, ite_true, ite_false, eq_self, reduceIte, Nat.reduceEqDiff, Option.map, e1, getD_snoc]
    refine ⟨by omega, by omega, by omega, by omega, by omega, ?_⟩
    refine s_call (len64_spec x c' h2) (by simp only [vm, ite_true, ite_false, eq_self, reduceIte, Nat.reduceEqDiff, Option.map, List.map]) ?_
    rintro v c2 hc2 rfl
    have h8 : bl x ≤ 64 := bl_le h2
    simp only [vm, ite_true, ite_false, eq_self, reduceIte, Nat.reduceEqDiff, Option.map]
    refine ⟨by omega, vwp_ret ?_⟩
    simp only [vm, ite_true, ite_false, eq_self, reduceIte, Nat.reduceEqDiff, Option.map]
    refine ⟨by omega, ?_⟩
    congr 2
    omega
end Go.Proofs.YtplofcianjnkmaaGreatDoor
set_option linter.unusedSimpArgs false
set_option linter.unusedVariables false
set_option maxRecDepth 100000
set_option maxHeartbeats 4000000
namespace Go.Proofs.YtplofcianjnkmaaGreatDoor
open Go.VM

theorem mul64_spec (x y c : Nat) (hx : x < 18446744073709551616) (hy : y < 18446744073709551616) : VSpec Tryz.prog F.bits_Mul64 c [nv x, nv y] (fun r _ => r = .tup [nv (x * y / 18446744073709551616), nv (x * y % 18446744073709551616)]) := by
  refine spec_mk hm E.bits_Mul64 B.bits_Mul64 K.bits_Mul64 Q.bits_Mul64 (by rw [N.bits_Mul64]; simp) ?_
  unfold C.bits_Mul64 R.bits_Mul64
  obtain ⟨h1, h2, h3, h4⟩ := Go.Lib.mul64_hi x y hx hy
  have hb : x * y < 18446744073709551616 * 18446744073709551616 := Nat.mul_lt_mul'' hx hy
  have h5 : x / 4294967296 * (y / 4294967296) < 18446744073709551616 := by
    have := Go.Lib.half_mul_le (a := x / 4294967296) (b := y / 4294967296) (by omega) (by omega)
    omega
  have h6 : x / 4294967296 * (y % 4294967296) < 18446744073709551616 := by
    have := Go.Lib.half_mul_le (a := x / 4294967296) (b := y % 4294967296) (by omega) (by omega)
    omega
  have h7 : x % 4294967296 * (y / 4294967296) < 18446744073709551616 := by
    have := Go.Lib.half_mul_le (a := x % 4294967296) (b := y / 4294967296) (by omega) (by omega)
    omega
  refine v_reg ?_
  simp only [vm, ite_true, ite_false, eq_self, reduceIte, Nat.reduceEqDiff, Option.map]
  refine v_reg ?_
  simp only [vm, ite_true, ite_false, eq_self, reduceIte, Nat.reduceEqDiff, Option.map]
  refine v_reg ?_
  simp only [vm, ite_true, ite_false, eq_self, reduceIte, Nat.reduceEqDiff, Option.map]
  refine v_reg ?_
  simp only [vm, ite_true, ite_false, eq_self, reduceIte, Nat.reduceEqDiff, Option.map]
  refine v_reg ?_
  simp only [vm, ite_true, ite_false, eq_self, reduceIte, Nat.reduceEqDiff, Option.map]
  refine v_reg ?_
  simp only [vm, ite_true, ite_false, eq_self, reduceIte, Nat.reduceEqDiff, Option.map, Nat.mod_eq_of_lt h1]
  refine v_reg ?_
  simp only [vm, ite_true, ite_false, eq_self, reduceIte, Nat.reduceEqDiff, Option.map, Nat.mod_eq_of_lt h6, Nat.mod_eq_of_lt h2]
  refine v_reg ?_
  simp only [vm, ite_true, ite_false, eq_self, reduceIte, Nat.reduceEqDiff, Option.map]
  refine v_reg ?_
  simp only [vm, ite_true, ite_false, eq_self, reduceIte, Nat.reduceEqDiff, Option.map]
  refine v_reg ?_
  simp only [vm, ite_true, ite_false, eq_self, reduceIte, Nat.reduceEqDiff, Option.map, Nat.mod_eq_of_lt h7, Nat.mod_eq_of_lt h3]
  refine v_reg ?_
  simp only [vm, ite_true, ite_false, eq_self, reduceIte, Nat.reduceEqDiff, Option.map, Nat.mod_eq_of_lt h5]
  refine v_reg ?_
  simp only [vm, ite_true, ite_false, eq_self, reduceIte, Nat.reduceEqDiff, Option.map]
  refine vwp_ret ?_
  simp only [vm, ite_true, ite_false, eq_self, reduceIte, Nat.reduceEqDiff, Option.map]
  refine ⟨Nat.le_refl _, ?_⟩
  rw [Nat.mod_add_mod, h4, Nat.mod_eq_of_lt (by omega)]

theorem told_spec (t : Tok) (l : List Nat) (c : Nat) (hl : Lim 18446744073709551616 l) (hn : l.length ≤ 4398046511104) : VSpec Tryz.prog F.nat_told c [nats t l]
    (fun r _ => r = if bl (val 18446744073709551616 l) ≤ 67108864 then .tup [nats t (digs 18446744073709551616 (val 18446744073709551616 l)), iv 0] else .tup [nil1, iv 3]) := by
  refine spec_mk hm E.nat_told B.nat_told K.nat_told Q.nat_told (by rw [N.nat_told]; simp) ?_
  unfold C.nat_told R.nat_told
  have hlen := digs_len_le two64 hl
  refine v_reg ?_
  simp only [vm, ite_true, ite_false, eq_self, reduceIte, Nat.reduceEqDiff, Option.map]
  refine v_reg ?_
  simp only [vm, ite_true, ite_false, eq_self, reduceIte, Nat.reduceEqDiff, Option.map]
  refine s_call (trim_spec t l c hl hn) (by simp only [vm, ite_true, ite_false, eq_self, reduceIte, Nat.reduceEqDiff, Option.map, List.map]) ?_
  rintro v c' hc rfl
  simp only [vm, ite_true, ite_false, eq_self, reduceIte, Nat.reduceEqDiff, Option.map]
  refine vwp_seq (v_reg ?_)
  simp only [vm, ite_true, ite_false, eq_self, reduceIte, Nat.reduceEqDiff, Option.map]
  refine s_call (length_spec t (digs 18446744073709551616 (val 18446744073709551616 l)) c' (lim_digs two64 _) (by omega)) (by simp only [vm, ite_true, ite_false, eq_self, reduceIte, Nat.reduceEqDiff, Option.map, List.map]) ?_
  rintro v c2 hc2 rfl
  simp only [vm, ite_true, ite_false, eq_self, reduceIte, Nat.reduceEqDiff, Option.map, val_digs two64]
  refine v_cond ?_
  simp only [vm, ite_true, ite_false, eq_self, reduceIte, Nat.reduceEqDiff, Option.map]
  refine ⟨fun g => v_reg ?_, fun g => vwp_skip ?_⟩
  · simp only [vm, ite_true, ite_false, eq_self, reduceIte, Nat.reduceEqDiff, Option.map]
    refine vwp_ret ?_
    simp only [vm, ite_true, ite_false, eq_self, reduceIte, Nat.reduceEqDiff, Option.map]
    exact ⟨by omega, by rw [if_neg (by omega)]⟩
  · simp only [vm, ite_true, ite_false, eq_self, reduceIte, Nat.reduceEqDiff, Option.map]
    refine v_reg ?_
    simp only [vm, ite_true, ite_false, eq_self, reduceIte, Nat.reduceEqDiff, Option.map]
    refine vwp_ret ?_
    simp only [vm, ite_true, ite_false, eq_self, reduceIte, Nat.reduceEqDiff, Option.map]
    exact ⟨by omega, by rw [if_pos (by omega)]⟩

def cmpI (a b : Nat) : Int := if a < b then -1 else if a = b then 0 else 1

theorem compare_spec (t u : Tok) (a b : List Nat) (c : Nat) (ha : Lim 18446744073709551616 a) (hb : Lim 18446744073709551616 b) (hna : a.length ≤ 1099511627776) (hnb : b.length ≤ 1099511627776) : VSpec Tryz.prog F.nat_Compare c [nats t a, nats u b] (fun r _ => r = iv (cmpI (val 18446744073709551616 a) (val 18446744073709551616 b))) := by
  refine spec_mk hm E.nat_Compare B.nat_Compare K.nat_Compare Q.nat_Compare (by rw [N.nat_Compare]; simp) ?_
  unfold C.nat_Compare R.nat_Compare
  have hla := digs_len_le two64 ha
  have hlb := digs_len_le two64 hb
  have hda := lim_digs two64 (val 18446744073709551616 a)
  have hdb := lim_digs two64 (val 18446744073709551616 b)
  refine v_reg ?_
  simp only [vm, ite_true, ite_false, eq_self, reduceIte, Nat.reduceEqDiff, Option.map]
  refine v_reg ?_
  simp only [vm, ite_true, ite_false, eq_self, reduceIte, Nat.reduceEqDiff, Option.map]
  refine s_call (trim_spec t a c ha (by omega)) (by simp only [vm, ite_true, ite_false, eq_self, reduceIte, Nat.reduceEqDiff, Option.map, List.map]) ?_
  rintro v c' hc rfl
  simp only [vm, ite_true, ite_false, eq_self, reduceIte, Nat.reduceEqDiff, Option.map]
  refine s_call (trim_spec u b c' hb (by omega)) (by simp only [vm, ite_true, ite_false, eq_self, reduceIte, Nat.reduceEqDiff, Option.map, List.map]) ?_
  rintro v c2 hc2 rfl
  have va := val_digs two64 (val 18446744073709551616 a)
  have vb := val_digs two64 (val 18446744073709551616 b)
  have hlt := lt_of_len two64 (m := val 18446744073709551616 a) (n := val 18446744073709551616 b)
  have hgt := lt_of_len two64 (m := val 18446744073709551616 b) (n := val 18446744073709551616 a)
  generalize digs 18446744073709551616 (val 18446744073709551616 a) = x at *
  generalize digs 18446744073709551616 (val 18446744073709551616 b) = y at *
  generalize val 18446744073709551616 a = m at *
  generalize val 18446744073709551616 b = n at *
  simp only [vm, ite_true, ite_false, eq_self, reduceIte, Nat.reduceEqDiff, Option.map]
  refine vwp_seq (v_reg ?_)
  simp only [vm, ite_true, ite_false, eq_self, reduceIte, Nat.reduceEqDiff, Option.map]
  refine v_cond ?_
  simp only [vm, ite_true, ite_false, eq_self, reduceIte, Nat.reduceEqDiff, Option.map]
  refine ⟨fun g => vwp_seq (v_reg ?_), fun g => vwp_skip ?_⟩
  · simp only [vm, ite_true, ite_false, eq_self, reduceIte, Nat.reduceEqDiff, Option.map]
    refine v_cond ?_
    simp only [vm, ite_true, ite_false, eq_self, reduceIte, Nat.reduceEqDiff, Option.map]
    refine ⟨fun g2 => v_reg ?_, fun g2 => vwp_skip ?_⟩
    · simp only [vm, ite_true, ite_false, eq_self, reduceIte, Nat.reduceEqDiff, Option.map]
      refine vwp_ret ?_
      simp only [vm, ite_true, ite_false, eq_self, reduceIte, Nat.reduceEqDiff, Option.map]
      exact ⟨by omega, by rw [cmpI, if_pos (hlt (by omega))]⟩
    · simp only [vm, ite_true, ite_false, eq_self, reduceIte, Nat.reduceEqDiff, Option.map]
      refine v_reg ?_
      simp only [vm, ite_true, ite_false, eq_self, reduceIte, Nat.reduceEqDiff, Option.map]
      refine vwp_ret ?_
      simp only [vm, ite_true, ite_false, eq_self, reduceIte, Nat.reduceEqDiff, Option.map]
      have := hgt (by omega)
      exact ⟨by omega, by rw [cmpI, if_neg (by omega), if_neg (by omega)]⟩
  · simp only [vm, ite_true, ite_false, eq_self, reduceIte, Nat.reduceEqDiff, Option.map]
    have hxy : x.length = y.length := by omega
    refine vwp_seq (v_reg ?_)
    simp only [vm, ite_true, ite_false, eq_self, reduceIte, Nat.reduceEqDiff, Option.map]
    refine ⟨by omega, vwp_block (vwp_loop (fun k S => S.ρ 0 = nats t x ∧ S.ρ 1 = nats u y ∧ S.ρ 5 = iv ((k : Int) - 1) ∧ k ≤ x.length ∧ val 18446744073709551616 (x.drop k) = val 18446744073709551616 (y.drop k) ∧ S.σ = noBlk ∧ S.c = c2) x.length ⟨rfl, rfl, rfl, Nat.le_refl _, ?_, rfl, rfl⟩ ?_)⟩
    · rw [List.drop_of_length_le (Nat.le_refl _), hxy, List.drop_of_length_le (Nat.le_refl _)]
    rintro k ⟨ρ, σ, c3⟩ ⟨h0, h1, h5, hk, hv, hσ, hc3⟩
    dsimp only at h0 h1 h5 hσ hc3
    subst hσ hc3
    refine xGF (jn h0 (jn h1 h5)) ?_
    refine xG ?_
    refine ⟨fun g3 => ?_, fun g3 => ?_⟩
    · refine xG ?_
      obtain ⟨i, rfl⟩ : ∃ i, k = i + 1 := ⟨k - 1, by omega⟩
      have e1 : (((i + 1 : Nat) : Int) - 1).toNat = i := by omega
      refine xGF (jn h0 (jn h1 (jn h5 e1))) ?_
      refine ⟨by omega, by omega, by omega, by omega, ?_⟩
      refine xG ?_
      refine ⟨fun g4 => ?_, fun g4 => ?_⟩
      · refine xG ?_
        refine xG ?_
        have := val_lt_of_top two64 hda hdb (i := i) (by omega) (by omega) hxy hv g4
        exact ⟨by omega, by rw [cmpI, if_pos (by omega)]⟩
      · refine xG ?_
        refine xGF (jn h0 (jn h1 (jn h5 e1))) ?_
        refine ⟨by omega, by omega, by omega, by omega, ?_⟩
        refine xG ?_
        refine ⟨fun g5 => ?_, fun g5 => ?_⟩
        · refine xG ?_
          refine xG ?_
          have := val_lt_of_top two64 hdb hda (i := i) (by omega) (by omega) hxy.symm hv.symm g5
          exact ⟨by omega, by rw [cmpI, if_neg (by omega), if_neg (by omega)]⟩
        · refine xG ?_
          refine xGF (jn h0 (jn h1 h5)) ?_
          refine ⟨by omega, i, by omega, congrArg iv (by omega), by omega, ?_⟩
          rw [val_drop (l := x) (i := i) (by omega), val_drop (l := y) (i := i) (by omega), hv, show x.getD i 0 = y.getD i 0 by omega]
    · refine xG ?_
      refine xG ?_
      refine xG ?_
      have hk0 : k = 0 := by omega
      subst hk0
      rw [List.drop_zero, List.drop_zero] at hv
      exact ⟨by omega, by rw [cmpI, if_neg (by omega), if_pos (by omega)]⟩
end Go.Proofs.YtplofcianjnkmaaGreatDoor
set_option linter.unusedSimpArgs false
set_option linter.unusedVariables false
set_option maxRecDepth 100000
set_option maxHeartbeats 4000000
namespace Go.Proofs.YtplofcianjnkmaaGreatDoor
open Go.VM

def Told (c c' n : Nat) (v : V) : Prop := (bl n ≤ 67108864 ∧ ∃ t, v = .tup [nats t (digs 18446744073709551616 n), iv 0] ∧ Tk c c' t) ∨ (67108864 < bl n ∧ v = .tup [nil1, iv 3])

end Go.Proofs.YtplofcianjnkmaaGreatDoor
set_option linter.unusedSimpArgs false
set_option linter.unusedVariables false
set_option maxRecDepth 100000
set_option maxHeartbeats 4000000
namespace Go.Proofs.YtplofcianjnkmaaGreatDoor
open Go.VM

end Go.Proofs.YtplofcianjnkmaaGreatDoor
set_option linter.unusedSimpArgs false
set_option linter.unusedVariables false
set_option maxRecDepth 100000
set_option maxHeartbeats 4000000
namespace Go.Proofs.YtplofcianjnkmaaGreatDoor
open Go.VM

end Go.Proofs.YtplofcianjnkmaaGreatDoor
set_option linter.unusedSimpArgs false
set_option linter.unusedVariables false
set_option maxRecDepth 100000
set_option maxHeartbeats 4000000
namespace Go.Proofs.YtplofcianjnkmaaGreatDoor
open Go.VM

end Go.Proofs.YtplofcianjnkmaaGreatDoor
set_option linter.unusedSimpArgs false
set_option linter.unusedVariables false
set_option maxRecDepth 100000
set_option maxHeartbeats 4000000
namespace Go.Proofs.YtplofcianjnkmaaGreatDoor
open Go.VM

theorem left_spec (t : Tok) (a : List Nat) (n c : Nat) (ha : Lim 18446744073709551616 a) (hn : n ≤ 1099511627776) (hna : a.length ≤ 1099511627776) :
    VSpec Tryz.prog F.nat_Left c [nats t a, iv n] (fun r c' => Told c c' (val 18446744073709551616 a * 2 ^ n) r) := by
  refine spec_mk hm E.nat_Left B.nat_Left K.nat_Left Q.nat_Left (by rw [N.nat_Left]; simp) ?_
  unfold C.nat_Left R.nat_Left
  have hla := digs_len_le two64 ha
  have g1 : ¬ (n : Int) < 0 := by omega
  have g2 : ¬ (1099511627776 : Int) < n := by omega
  refine xRF (jn g1 g2) ?_
  refine s_call (trim_spec t a c ha (by omega)) yM ?_
  rintro v c2 hc2 rfl
  have hx := lim_digs two64 (val 18446744073709551616 a)
  have va := val_digs two64 (val 18446744073709551616 a)
  have hz := digs_eq_nil two64 (n := val 18446744073709551616 a)
  generalize digs 18446744073709551616 (val 18446744073709551616 a) = x at *
  by_cases hx0 : x = []
  · have g3 : (x.length : Int) = 0 := by rw [hx0]; rfl
    refine xRF (jn g1 (jn g2 g3)) ?_
    have := hz.1 hx0
    rw [this, Nat.zero_mul]
    exact .inl ⟨by decide, .nil, rfl, .inl rfl⟩
  have hpos : 0 < val 18446744073709551616 a := by
    rcases Nat.eq_zero_or_pos (val 18446744073709551616 a) with h | h
    · exact absurd (hz.2 h) hx0
    · exact h
  have hxl : 0 < x.length := List.length_pos_iff.2 hx0
  have g3 : ¬ (x.length : Int) = 0 := by omega
  refine xRF (jn g1 (jn g2 g3)) ?_
  refine s_call (length_spec t x c2 hx (by omega)) yM ?_
  rintro v c3 hc3 rfl
  rw [va]
  have hbl : bl (val 18446744073709551616 a) ≤ 64 * x.length := by
    refine bl_le ?_
    have := val_lt hx
    rw [va, pow64] at this
    exact this
  have hmul := bl_mul_pow (n := n) hpos
  by_cases g4 : (67108864 : Int) < (bl (val 18446744073709551616 a) : Int) + n
  · refine xRF g4 ?_
    exact .inr ⟨by omega, rfl⟩
  have hns : ((n : Int) % 64).toNat = n % 64 := by omega
  have hnw : (n : Int) / 64 = ((n / 64 : Nat) : Int) := by omega
  refine xRF (jn g4 (jn hns hnw)) ?_
  refine s_mk (n := n / 64 + x.length + 1) (m := n / 64 + x.length + 1) ySr ySr (Nat.le_refl _) (by omega) ?_
  have hs : n % 64 < 64 := Nat.mod_lt _ (by decide)
  have hpow : val 18446744073709551616 x * 2 ^ n = 18446744073709551616 ^ (n / 64) * (val 18446744073709551616 x * 2 ^ (n % 64)) := by
    rw [pow64, Nat.mul_left_comm, ← Nat.pow_add, show 64 * (n / 64) + n % 64 = n by omega]
  generalize n / 64 = wd at *
  generalize n % 64 = s at *
  refine xR ?_
  refine v_loop (fun S => ∃ w, w.length = wd + x.length + 1 ∧ Lim 18446744073709551616 w ∧ val 18446744073709551616 w = val 18446744073709551616 x * 2 ^ n ∧ S.ρ 8 = .buf c3 0 (wd + x.length + 1) (some (wd + x.length + 1)) 1 ∧ S.σ = supd noBlk c3 (nblk w) ∧ c3 + 1 ≤ S.c) ?_ ?_
  · refine vwp_loop (fun k S => ∃ i w top, k = x.length - i ∧ i ≤ x.length ∧ w.length = i ∧ Lim 18446744073709551616 w ∧ top < 2 ^ s ∧ val 18446744073709551616 (w ++ [top]) = val 18446744073709551616 (x.take i) * 2 ^ s ∧ S.ρ 38 = nats t x ∧ S.ρ 6 = iv wd ∧ S.ρ 7 = nv s ∧ S.ρ 39 = iv x.length ∧ S.ρ 40 = iv i ∧ S.ρ 8 = .buf c3 0 (wd + x.length + 1) (some (wd + x.length + 1)) 1 ∧ S.σ = supd noBlk c3 (nblk ((List.replicate wd 0 ++ w) ++ top :: List.replicate (x.length - i) 0)) ∧ c3 + 1 ≤ S.c) x.length ?_ ?_
    · refine ⟨0, [], 0, by omega, by omega, ?_⟩
      refine xS ?_
      have e0 : List.replicate (wd + x.length + 1) 0 = (List.replicate wd 0 ++ []) ++ 0 :: List.replicate (x.length - 0) 0 := by
        rw [List.append_nil, Nat.sub_zero, Nat.add_assoc, ← List.replicate_append_replicate, List.replicate_succ]
      (repeat' apply And.intro) <;> first | rfl | omega | assumption | exact Lim.nil | exact Nat.two_pow_pos s | (simp [val]; done) | (rw [e0])
    rintro k ⟨ρ2, σ, c4⟩ ⟨i, w, top, hk, hi, hw, hlw, ht, hinv, h38, h6, h7, h39, h40, h8, hσ, hc4⟩
    dsimp only at h38 h6 h7 h39 h40 h8 hσ hc4
    subst hσ
    by_cases g : (i : Int) < x.length
    · have hi' : i < x.length := by omega
      have hxi := hx.getD (i := i) (by decide)
      obtain ⟨p1, p2, p3⟩ := shl_parts hs hxi
      obtain ⟨o1, o2⟩ := or_top hs hxi ht
      have hlo := Nat.mod_lt (x.getD i 0 * 2 ^ s) (show 0 < 18446744073709551616 by decide)
      have e1 : ((wd : Int) + (i : Int)).toNat = wd + i := by omega
      have e2 : ((wd : Int) + (i : Int) + 1).toNat = wd + i + 1 := by omega
      have e3 : min s 64 = s := by omega
      have e4 : (63 + (18446744073709551616 - s % 18446744073709551616)) % 18446744073709551616 = 63 - s := by omega
      have e5 : min (63 - s) 64 = 63 - s := by omega
      have hps : 2 ^ s ≤ 18446744073709551616 := Nat.le_trans (Nat.pow_le_pow_right (by decide) (show s ≤ 64 by omega)) (by decide)
      have e6 : top % 18446744073709551616 = top := Nat.mod_eq_of_lt (by omega)
      have e7 : x.getD i 0 / 2 / 2 ^ (63 - s) % 18446744073709551616 = x.getD i 0 / 2 / 2 ^ (63 - s) := Nat.mod_eq_of_lt (by omega)
      have hl1 : (List.replicate wd 0 ++ w).length = wd + i := by simp; omega
      have hget1 : ((List.replicate wd 0 ++ w) ++ top :: List.replicate (x.length - i) 0).getD (wd + i) 0 = top := by
        rw [← hl1]; exact getD_at _ _ _
      have hlen1 : ((List.replicate wd 0 ++ w) ++ top :: List.replicate (x.length - i) 0).length = wd + x.length + 1 := by simp; omega
      have hset1 : ∀ v, ((List.replicate wd 0 ++ w) ++ top :: List.replicate (x.length - i) 0).set (wd + i) v = ((List.replicate wd 0 ++ w) ++ [v]) ++ 0 :: List.replicate (x.length - (i + 1)) 0 := fun v => by
        rw [← hl1, set_at, show x.length - i = x.length - (i + 1) + 1 by omega, List.replicate_succ]; simp
      have hl2 : ∀ v, ((List.replicate wd 0 ++ w) ++ [v]).length = wd + i + 1 := fun v => by simp; omega
      have hget2 : ∀ v, (((List.replicate wd 0 ++ w) ++ [v]) ++ 0 :: List.replicate (x.length - (i + 1)) 0).getD (wd + i + 1) 0 = 0 := fun v => by
        rw [← hl2 v]; exact getD_at _ _ _
      have hlen2 : ∀ v, (((List.replicate wd 0 ++ w) ++ [v]) ++ 0 :: List.replicate (x.length - (i + 1)) 0).length = wd + x.length + 1 := fun v => by simp; omega
      have hset2 : ∀ v u, (((List.replicate wd 0 ++ w) ++ [v]) ++ 0 :: List.replicate (x.length - (i + 1)) 0).set (wd + i + 1) u = (List.replicate wd 0 ++ (w ++ [v])) ++ u :: List.replicate (x.length - (i + 1)) 0 := fun v u => by
        rw [← hl2 v, set_at, List.append_assoc (List.replicate wd 0)]
      have key := shl_step (i := i) hw hinv p1
      rw [← Nat.mul_assoc, ← Nat.add_mul, ← val_take (l := x) (i := i) hi'] at key
      refine xRF (jn h38 (jn h6 (jn h7 (jn h39 (jn h40 (jn h8 (jn g (jn e1 (jn e2 (jn e3 (jn e4 (jn e5 (jn hget1 (jn hlen1 (jn hset1 (jn @u_or (jn e6 (jn @Nat.mod_mod (jn o1 (jn hget2 (jn hlen2 (jn hset2 (jn e7 (jn @Nat.zero_mod @Nat.zero_or)))))))))))))))))))))))) ?_
      refine ⟨x.length - (i + 1), by omega, i + 1, w ++ [top + x.getD i 0 * 2 ^ s % 18446744073709551616], x.getD i 0 / 2 / 2 ^ (63 - s), ?_⟩
      (repeat' apply And.intro) <;> first | rfl | omega | assumption | (simp [hw]; done) | exact lim_snoc hlw o2 | exact key
    · have hi' : i = x.length := by omega
      subst hi'
      refine xRF (jn h38 (jn h6 (jn h7 (jn h39 (jn h40 (jn h8 g)))))) ?_
      rw [List.take_length] at hinv
      have hps : 2 ^ s ≤ 18446744073709551616 := Nat.le_trans (Nat.pow_le_pow_right (by decide) (show s ≤ 64 by omega)) (by decide)
      refine ⟨(List.replicate wd 0 ++ w) ++ [top], ?_⟩
      have e0 : (List.replicate wd 0 ++ w) ++ top :: List.replicate (x.length - x.length) 0 = (List.replicate wd 0 ++ w) ++ [top] := by simp
      rw [e0]
      have hvv : val 18446744073709551616 ((List.replicate wd 0 ++ w) ++ [top]) = val 18446744073709551616 x * 2 ^ n := by
        rw [List.append_assoc, val_zeros, hinv, hpow]
      (repeat' apply And.intro) <;> first | rfl | omega | assumption | (simp [hw]; omega) | exact (Lim.append (Lim.append (Lim.replicate (by decide)) hlw) (.cons (by omega) .nil)) | exact hvv
  rintro ⟨ρ3, σ, c5⟩ ⟨w, hw, hlw, hvw, h8, hσ, hc5⟩
  dsimp only at h8 hσ hc5
  subst hσ
  refine v_freeze 8 (t := c3) (off := 0) (n := wd + x.length + 1) (cap := some (wd + x.length + 1)) (l := w) (ySF h8) yS (by omega) (by omega) ?_
  rw [List.drop_zero, show w.take (wd + x.length + 1) = w from List.take_of_length_le (by omega)]
  refine xR ?_
  refine s_call (trim_spec (.id c3) w c5 hlw (by omega)) yM ?_
  rintro v c6 hc6 rfl
  rw [hvw, va]
  refine xR ?_
  exact .inl ⟨by omega, .id c3, rfl, .inr ⟨c3, rfl, by omega, by omega⟩⟩
end Go.Proofs.YtplofcianjnkmaaGreatDoor
set_option linter.unusedSimpArgs false
set_option linter.unusedVariables false
set_option maxRecDepth 100000
set_option maxHeartbeats 4000000
namespace Go.Proofs.YtplofcianjnkmaaGreatDoor
open Go.VM

theorem addAt_spec (t : Nat) (u : Tok) (l y : List Nat) (k n c : Nat) (cap : Option Nat) (hl : Lim 18446744073709551616 l) (hy : Lim 18446744073709551616 y) (hn : l.length = n) (hnb : n ≤ 4398046511104) (hyb : y.length ≤ 4398046511104) (hkb : k ≤ 4398046511104) (hroom : val 18446744073709551616 l + 18446744073709551616 ^ k * val 18446744073709551616 y < 18446744073709551616 ^ n) :
    VSpecL Tryz.prog F.mul_addAt c (supd noBlk t (nblk l)) [.buf t 0 n cap 1, nats u y, iv k] (fun r σ' c' => r = .tup [] ∧ ∃ l', σ' t = nblk l' ∧ l'.length = n ∧ Lim 18446744073709551616 l' ∧ val 18446744073709551616 l' = val 18446744073709551616 l + 18446744073709551616 ^ k * val 18446744073709551616 y) := by
  refine specL_mk hm E.mul_addAt B.mul_addAt K.mul_addAt Q.mul_addAt (by rw [N.mul_addAt]; simp) ?_
  unfold C.mul_addAt R.mul_addAt
  refine xR ?_
  refine vwp_loop (fun m S => ∃ i w carry, m = n - i ∧ k ≤ i ∧ w.length = n ∧ Lim 18446744073709551616 w ∧ carry ≤ 1 ∧ val 18446744073709551616 w + 18446744073709551616 ^ i * carry = val 18446744073709551616 l + 18446744073709551616 ^ k * val 18446744073709551616 (y.take (i - k)) ∧ S.ρ 0 = .buf t 0 n cap 1 ∧ S.ρ 1 = nats u y ∧ S.ρ 2 = iv k ∧ S.ρ 6 = nv carry ∧ S.ρ 7 = iv i ∧ S.σ = supd noBlk t (nblk w) ∧ S.c = c) (n - k) ?_ ?_
  · refine ⟨k, l, 0, rfl, ?_⟩
    simp only [vm, ite_true, ite_false, eq_self, reduceIte, Nat.reduceEqDiff, Option.map, Nat.sub_self, List.take_zero]
    (repeat' apply And.intro) <;> first | rfl | omega | assumption | (simp [val]; done)
  rintro m ⟨ρ, σ, c3⟩ ⟨i, w, carry, hm', hki, hw, hlw, hca, hinv, h0, h1, h2, h6, h7, hσ, hc3⟩
  dsimp only at h0 h1 h2 h6 h7 hσ hc3
  subst hσ hc3
  have hfin : n ≤ i ∨ (y.length ≤ i - k ∧ carry = 0) → val 18446744073709551616 w = val 18446744073709551616 l + 18446744073709551616 ^ k * val 18446744073709551616 y := fun h => by
    rcases h with h | ⟨h, h'⟩
    · exact addAt_end (by decide) h hki hinv hroom
    · rw [List.take_of_length_le h, h', Nat.mul_zero, Nat.add_zero] at hinv
      exact hinv
  by_cases g1 : (i : Int) < n
  · have hw0 := hlw.getD (i := i) (by decide)
    have hy0 := hy.getD (i := i - k) (by decide)
    have hty := val_take' 18446744073709551616 y (i - k)
    have key := addAt_step (b := 18446744073709551616) (y := y.getD (i - k) 0) (by omega) hki hinv _ rfl
    rw [← hty, show i - k + 1 = i + 1 - k by omega] at key
    have eik : ((i : Int) - k).toNat = i - k := by omega
    have hc1 : (w.getD i 0 + y.getD (i - k) 0 + carry) / 18446744073709551616 ≤ 1 := by omega
    by_cases g2 : (i : Int) - k < y.length
    · refine xRF (jn h0 (jn h1 (jn h2 (jn h6 (jn h7 (jn g1 (jn g2 eik))))))) ?_
      refine ⟨n - (i + 1), by omega, i + 1, w.set i ((w.getD i 0 + y.getD (i - k) 0 + carry) % 18446744073709551616), (w.getD i 0 + y.getD (i - k) 0 + carry) / 18446744073709551616, ?_⟩
      (repeat' apply And.intro) <;> first | rfl | omega | assumption | (rw [List.length_set]; exact hw) | exact hlw.set (Nat.mod_lt _ (by decide)) | exact key
    · have hyz : y.getD (i - k) 0 = 0 := getD_ge (by omega)
      by_cases g3 : 0 < carry
      · refine xRF (jn h0 (jn h1 (jn h2 (jn h6 (jn h7 (jn g1 (jn g2 (jn g3 eik)))))))) ?_
        rw [hyz, Nat.add_zero] at key hc1
        refine ⟨n - (i + 1), by omega, i + 1, w.set i ((w.getD i 0 + carry) % 18446744073709551616), (w.getD i 0 + carry) / 18446744073709551616, ?_⟩
        (repeat' apply And.intro) <;> first | rfl | omega | assumption | (rw [List.length_set]; exact hw) | exact hlw.set (Nat.mod_lt _ (by decide)) | exact key
      · refine xRF (jn h0 (jn h1 (jn h2 (jn h6 (jn h7 (jn g1 (jn g2 (jn g3 eik)))))))) ?_
        exact ⟨w, rfl, hw, hlw, hfin (.inr ⟨by omega, by omega⟩)⟩
  · refine xRF (jn h0 (jn h1 (jn h2 (jn h6 (jn h7 g1))))) ?_
    exact ⟨w, rfl, hw, hlw, hfin (.inl (by omega))⟩
end Go.Proofs.YtplofcianjnkmaaGreatDoor
set_option linter.unusedSimpArgs false
set_option linter.unusedVariables false
set_option maxRecDepth 100000
set_option maxHeartbeats 4000000
namespace Go.Proofs.YtplofcianjnkmaaGreatDoor
open Go.VM

theorem sum_spec (t u : Tok) (a b : List Nat) (c : Nat) (ha : Lim 18446744073709551616 a) (hb : Lim 18446744073709551616 b) (hna : a.length ≤ 1099511627776) (hnb : b.length ≤ 1099511627776) :
    VSpec Tryz.prog F.mul_sum c [nats t a, nats u b] (fun r c' => ∃ l i, r = nats (.id i) l ∧ c ≤ i ∧ i < c' ∧ Lim 18446744073709551616 l ∧ l.length = max a.length b.length + 1 ∧ val 18446744073709551616 l = val 18446744073709551616 a + val 18446744073709551616 b) := by
  refine spec_mk hm E.mul_sum B.mul_sum K.mul_sum Q.mul_sum (by rw [N.mul_sum]; simp) ?_
  unfold C.mul_sum R.mul_sum
  have em : max (a.length : Int) (b.length : Int) = ((max a.length b.length : Nat) : Int) := by omega
  refine xRF em ?_
  refine s_mk (n := max a.length b.length + 1) (m := max a.length b.length + 1) (ySrF em) (ySrF em) (Nat.le_refl _) (by omega) ?_
  have h1 : a.length ≤ max a.length b.length := Nat.le_max_left _ _
  have h2 : b.length ≤ max a.length b.length := Nat.le_max_right _ _
  have h3 : max a.length b.length ≤ 1099511627776 := by omega
  generalize max a.length b.length = n at *
  refine xR ?_
  refine s_cpy (t := c) (n := n + 1) (cap := some (n + 1)) (l := List.replicate (n + 1) 0) (a := a) (u := t) yS yS yS (by omega) (by simp) ?_
  have e0 : a ++ (List.replicate (n + 1) 0).drop a.length = a ++ List.replicate (n + 1 - a.length) 0 := by simp
  rw [e0]
  have hl0 : Lim 18446744073709551616 (a ++ List.replicate (n + 1 - a.length) 0) := ha.append (Lim.replicate (by decide))
  have hv0 : val 18446744073709551616 (a ++ List.replicate (n + 1 - a.length) 0) = val 18446744073709551616 a := by rw [val_append, val_replicate]; simp
  have hn0 : (a ++ List.replicate (n + 1 - a.length) 0).length = n + 1 := by simp; omega
  generalize a ++ List.replicate (n + 1 - a.length) 0 = l0 at *
  have hroom : val 18446744073709551616 l0 + 18446744073709551616 ^ 0 * val 18446744073709551616 b < 18446744073709551616 ^ (n + 1) := by
    rw [hv0, Nat.pow_zero, Nat.one_mul, Nat.pow_succ]
    have p1 := Nat.lt_of_lt_of_le (val_lt ha) (Nat.pow_le_pow_right (show 0 < 18446744073709551616 by decide) h1)
    have p2 := Nat.lt_of_lt_of_le (val_lt hb) (Nat.pow_le_pow_right (show 0 < 18446744073709551616 by decide) h2)
    generalize 18446744073709551616 ^ n = q at *
    omega
  refine xR ?_
  refine s_call1 c (l := l0) yS (fun s hs => by refine xS ?_; rw [if_neg (by omega)]; rfl) (addAt_spec c u l0 b 0 (n + 1) (c + 1) (some (n + 1)) hl0 hb hn0 (by omega) (by omega) (by omega) hroom) yMr ?_
  rintro v σ' c2 hc2 ⟨rfl, l', hσ', hn', hlim, hval⟩
  rw [hσ']
  rw [Nat.pow_zero, Nat.one_mul, hv0] at hval
  refine xS ?_
  refine v_freeze 5 (t := c) (off := 0) (n := n + 1) (cap := some (n + 1)) (l := l') yS yS (by omega) (by omega) ?_
  rw [List.drop_zero, show l'.take (n + 1) = l' from List.take_of_length_le (by omega)]
  refine xR ?_
  exact ⟨l', c, rfl, by omega, by omega, hlim, hn', hval⟩

theorem less_spec (t u : Tok) (a b : List Nat) (c : Nat) (ha : Lim 18446744073709551616 a) (hb : Lim 18446744073709551616 b) (hna : a.length ≤ 1099511627776) (hnb : b.length ≤ 1099511627776) (hle : val 18446744073709551616 b ≤ val 18446744073709551616 a) :
    VSpec Tryz.prog F.mul_less c [nats t a, nats u b] (fun r c' => ∃ l i, r = nats (.id i) l ∧ c ≤ i ∧ i < c' ∧ Lim 18446744073709551616 l ∧ l.length = a.length ∧ val 18446744073709551616 l = val 18446744073709551616 a - val 18446744073709551616 b) := by
  refine spec_mk hm E.mul_less B.mul_less K.mul_less Q.mul_less (by rw [N.mul_less]; simp) ?_
  unfold C.mul_less R.mul_less
  refine xR ?_
  refine s_mk (n := a.length) (m := a.length) yS yS (Nat.le_refl _) (by omega) ?_
  refine xR ?_
  refine s_cpy (t := c) (n := a.length) (cap := some a.length) (l := List.replicate a.length 0) (a := a) (u := t) yS yS yS (by omega) (by simp) ?_
  have e0 : a ++ (List.replicate a.length 0).drop a.length = a := by simp
  rw [e0]
  refine xR ?_
  refine v_loop (fun S => ∃ w, w.length = a.length ∧ Lim 18446744073709551616 w ∧ val 18446744073709551616 w = val 18446744073709551616 a - val 18446744073709551616 b ∧ S.ρ 5 = .buf c 0 a.length (some a.length) 1 ∧ S.σ = supd noBlk c (nblk w) ∧ S.c = c + 1) ?_ ?_
  · refine vwp_loop (fun k S => ∃ i w bo, k = a.length - i ∧ i ≤ a.length ∧ w.length = i ∧ Lim 18446744073709551616 w ∧ bo ≤ 1 ∧ val 18446744073709551616 w + val 18446744073709551616 (b.take i) = val 18446744073709551616 (a.take i) + 18446744073709551616 ^ i * bo ∧ S.ρ 1 = nats u b ∧ S.ρ 5 = .buf c 0 a.length (some a.length) 1 ∧ S.ρ 6 = nv bo ∧ S.ρ 16 = iv a.length ∧ S.ρ 17 = iv i ∧ S.σ = supd noBlk c (nblk (w ++ a.drop i)) ∧ S.c = c + 1) a.length ?_ ?_
    · refine ⟨0, [], 0, by omega, by omega, ?_⟩
      refine xS ?_
      (repeat' apply And.intro) <;> first | rfl | omega | assumption | exact Lim.nil
    rintro k ⟨ρ2, σ, c4⟩ ⟨i, w, bo, hk, hi, hw, hlw, hbo, hinv, h1, h5, h6, h16, h17, hσ, hc4⟩
    dsimp only at h1 h5 h6 h16 h17 hσ hc4
    subst hσ hc4
    by_cases g : (i : Int) < a.length
    · have hi' : i < a.length := by omega
      have hxi := ha.getD (i := i) (by decide)
      have hyi := hb.getD (i := i) (by decide)
      have hx' := val_take' 18446744073709551616 a i
      have hy' := val_take' 18446744073709551616 b i
      have hlen : (w ++ a.drop i).length = a.length := by simp; omega
      have hget : (w ++ a.drop i).getD i 0 = a.getD i 0 := by
        rw [drop_cons hi', ← hw]; exact getD_at _ _ _
      have hset : ∀ v, (w ++ a.drop i).set i v = (w ++ [v]) ++ a.drop (i + 1) := fun v => by
        rw [drop_cons hi']
        conv => lhs; rw [← hw]
        rw [set_at, hw]; simp
      have key := sub_step (b := 18446744073709551616) (c' := if a.getD i 0 < b.getD i 0 + bo then 1 else 0) (x := a.getD i 0) (y := b.getD i 0) (d := (a.getD i 0 + 18446744073709551616 - b.getD i 0 - bo) % 18446744073709551616) hw hinv (by split <;> omega)
      have hb1 : (if a.getD i 0 < b.getD i 0 + bo then 1 else 0) ≤ 1 := by split <;> omega
      rw [← hx', ← hy'] at key
      by_cases g2 : (i : Int) < b.length
      · refine xRF (jn h1 (jn h5 (jn h6 (jn h16 (jn h17 (jn g (jn g2 (jn hlen (jn hget hset))))))))) ?_
        refine ⟨a.length - (i + 1), by omega, i + 1, w ++ [(a.getD i 0 + 18446744073709551616 - b.getD i 0 - bo) % 18446744073709551616], if a.getD i 0 < b.getD i 0 + bo then 1 else 0, ?_⟩
        (repeat' apply And.intro) <;> first | rfl | omega | assumption | (simp [hw]; done) | exact lim_snoc hlw (Nat.mod_lt _ (by decide)) | exact key
      · have hy0 : b.getD i 0 = 0 := getD_ge (by omega)
        rw [hy0] at key hb1
        refine xRF (jn h1 (jn h5 (jn h6 (jn h16 (jn h17 (jn g (jn g2 (jn hlen (jn hget hset))))))))) ?_
        refine ⟨a.length - (i + 1), by omega, i + 1, w ++ [(a.getD i 0 + 18446744073709551616 - 0 - bo) % 18446744073709551616], if a.getD i 0 < 0 + bo then 1 else 0, ?_⟩
        simp only [Nat.zero_add] at key hb1 ⊢
        (repeat' apply And.intro) <;> first | rfl | omega | assumption | (simp [hw]; done) | exact lim_snoc hlw (Nat.mod_lt _ (by decide)) | exact key
    · have hi' : i = a.length := by omega
      subst hi'
      refine xRF (jn h1 (jn h5 (jn h6 (jn h16 (jn h17 g))))) ?_
      have hwl := val_lt hlw
      rw [hw] at hwl
      have hbt : val 18446744073709551616 (b.take a.length) = val 18446744073709551616 b := by
        by_cases gl : a.length ≤ b.length
        · have p := val_take_drop 18446744073709551616 a.length b gl
          have p2 := val_lt ha
          have p3 : val 18446744073709551616 (b.drop a.length) = 0 := by
            rcases Nat.eq_zero_or_pos (val 18446744073709551616 (b.drop a.length)) with e | e
            · exact e
            · have := Nat.mul_le_mul_left (18446744073709551616 ^ a.length) e
              omega
          rw [p3] at p
          omega
        · rw [List.take_of_length_le (by omega)]
      rw [List.take_length, hbt] at hinv
      have hvz : val 18446744073709551616 w = val 18446744073709551616 a - val 18446744073709551616 b := by
        have hbb : bo = 0 ∨ bo = 1 := by omega
        rcases hbb with rfl | rfl <;> omega
      refine ⟨w, hw, hlw, hvz, ?_⟩
      rw [List.drop_length, List.append_nil]
  rintro ⟨ρ3, σ, c5⟩ ⟨w, hw, hlw, hvw, h5, hσ, hc5⟩
  dsimp only at h5 hσ hc5
  subst hσ hc5
  refine v_freeze 5 (t := c) (off := 0) (n := a.length) (cap := some a.length) (l := w) (ySF h5) yS (by omega) (by omega) ?_
  rw [List.drop_zero, show w.take a.length = w from List.take_of_length_le (by omega)]
  refine xR ?_
  exact ⟨w, c, rfl, by omega, by omega, hlw, hw, hvw⟩
end Go.Proofs.YtplofcianjnkmaaGreatDoor
set_option linter.unusedSimpArgs false
set_option linter.unusedVariables false
set_option maxRecDepth 100000
set_option maxHeartbeats 4000000
namespace Go.Proofs.YtplofcianjnkmaaGreatDoor
open Go.VM

theorem part_spec (t : Tok) (a : List Nat) (f e c : Nat) (ha : Lim 18446744073709551616 a) (hna : a.length ≤ 1099511627776) (hfe : f ≤ e) :
    VSpec Tryz.prog F.mul_part c [nats t a, iv f, iv e] (fun r c' => ∃ t' l, r = nats t' l ∧ Lim 18446744073709551616 l ∧ l.length ≤ e - f ∧ l.length ≤ a.length - f ∧ val 18446744073709551616 l = val 18446744073709551616 ((a.drop f).take (e - f))) := by
  refine spec_mk hm E.mul_part B.mul_part K.mul_part Q.mul_part (by rw [N.mul_part]; simp) ?_
  unfold C.mul_part R.mul_part
  have e1 : min (f : Int) (a.length : Int) = ((min f a.length : Nat) : Int) := by omega
  have e2 : min (e : Int) (a.length : Int) = ((min e a.length : Nat) : Int) := by omega
  have hval : (a.drop f).take (e - f) = (a.drop (min f a.length)).take (min e a.length - min f a.length) := by
    rcases Nat.lt_or_ge a.length f with g | g
    · rw [List.drop_of_length_le (by omega), show min f a.length = a.length by omega, List.drop_of_length_le (Nat.le_refl _)]; simp
    · rw [show min f a.length = f by omega]
      rcases Nat.lt_or_ge a.length e with g2 | g2
      · rw [show min e a.length = a.length by omega, List.take_of_length_le (by simp; omega), List.take_of_length_le (by simp)]
      · rw [show min e a.length = e by omega]
  rw [hval]
  have h1 : min f a.length ≤ min e a.length := by omega
  have h2 : min e a.length ≤ a.length := by omega
  have h3 : min e a.length - min f a.length ≤ e - f := by omega
  have h4 : min e a.length - min f a.length ≤ a.length - f := by omega
  refine xRF (jn e1 e2) ?_
  generalize min f a.length = f' at *
  generalize min e a.length = e' at *
  refine v_loop (fun S => ∃ k, f' ≤ k ∧ k ≤ e' ∧ val 18446744073709551616 ((a.drop f').take (k - f')) = val 18446744073709551616 ((a.drop f').take (e' - f')) ∧ S.ρ 0 = nats t a ∧ S.ρ 1 = iv f' ∧ S.ρ 2 = iv k ∧ S.σ = noBlk ∧ S.c = c) ?_ ?_
  · refine vwp_loop (fun m S => ∃ k, m = k ∧ f' ≤ k ∧ k ≤ e' ∧ val 18446744073709551616 ((a.drop f').take (k - f')) = val 18446744073709551616 ((a.drop f').take (e' - f')) ∧ S.ρ 0 = nats t a ∧ S.ρ 1 = iv f' ∧ S.ρ 2 = iv k ∧ S.σ = noBlk ∧ S.c = c) e' ?_ ?_
    · refine ⟨e', rfl, ?_⟩
      refine xS ?_
      (repeat' apply And.intro) <;> first | rfl | omega | assumption
    rintro m ⟨ρ2, σ, c4⟩ ⟨k, hm', hk1, hk2, hv, g0, g1, g2, hσ, hc4⟩
    dsimp only at g0 g1 g2 hσ hc4
    subst hσ hc4
    by_cases g : (f' : Int) < k
    · obtain ⟨i, rfl⟩ : ∃ i, k = i + 1 := ⟨k - 1, by omega⟩
      have ei : (((i + 1 : Nat) : Int) - 1).toNat = i := by omega
      by_cases gz : a.getD i 0 = 0
      · refine xRF (jn g0 (jn g1 (jn g2 (jn g (jn ei gz))))) ?_
        refine ⟨i, by omega, i, ?_⟩
        have hs := slice_snoc (a := a) (f := f') (k := i) (by omega) (by omega)
        rw [hs, gz, val_snoc0] at hv
        (repeat' apply And.intro) <;> first | rfl | omega | assumption | exact congrArg iv (by omega)
      · refine xRF (jn g0 (jn g1 (jn g2 (jn g (jn ei gz))))) ?_
        exact ⟨i + 1, hk1, hk2, hv, rfl⟩
    · refine xRF (jn g0 (jn g1 (jn g2 g))) ?_
      exact ⟨k, hk1, hk2, hv, rfl⟩
  rintro ⟨ρ3, σ, c5⟩ ⟨k, hk1, hk2, hv, g0, g1, g2, hσ, hc5⟩
  dsimp only at g0 g1 g2 hσ hc5
  subst hσ hc5
  refine xRF (jn g0 (jn g1 g2)) ?_
  refine ⟨_, _, rfl, ha.drop.take, ?_, ?_, hv⟩
  · simp; omega
  · simp; omega
end Go.Proofs.YtplofcianjnkmaaGreatDoor
